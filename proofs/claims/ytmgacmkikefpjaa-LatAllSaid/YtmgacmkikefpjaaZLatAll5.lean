/- Rules, plain words and walks that the claim leans on: Gi, Gj, Gk, Gm, Lzopen, Lzopen2, Tb. -/
import Derived.Test.YtmgacmkikefpjaaZLatAll4
set_option linter.unusedSimpArgs false
set_option linter.unusedVariables false
set_option linter.unusedSimpArgs false
set_option linter.unusedVariables false
set_option maxHeartbeats 1000000
set_option maxRecDepth 100000
namespace Go.Proofs.Ytmgacmkikefpjaa
open Go.RowKit
theorem c_ref10Join (w0 : World) (A : Option Addr) (c : Nat) (l : List (List Int)) (hr : Rd w0 A 21 l.length (arows l)) (hv : AOks l) (B : Option Addr) (d : Nat) (r : List (List Int)) (hr2 : Rd w0 B 21 r.length (arows r)) (hv2 : AOks r) (hn : l.length + r.length ≤ 1000000000)  :
    CallR Try.prog 34 #[.slice A l.length c, .slice B r.length d] w0 fun v w' => ∃ A c, v = .slice A (normP (l ++ r)).length c ∧ St NoB w0 w' [.vec A c 39 21 (normP (l ++ r)).length (arows (normP (l ++ r)))] := by
 have hS := St.rd2 (S := NoB) hr hr2
 refine c_enter (l := [.slice A l.length c, .slice B r.length d, undef, undef, undef, undef, undef, undef, undef, undef, undef, undef, undef, undef, undef, undef, undef, undef, undef, undef, undef, undef, undef, undef, undef, undef, undef, undef, undef, undef, undef, undef, undef, undef, undef, undef, undef, undef, undef, undef, undef, undef, undef, undef, undef, undef, undef, undef, undef, undef, undef, undef, undef, undef, undef, undef, undef, undef, undef, undef, undef, undef, undef, undef, undef, undef, undef, undef, undef, undef, undef, undef, undef, undef, undef, undef, undef, undef, undef, undef, undef, undef, undef, undef, undef, undef, undef, undef, undef, undef, undef, undef, undef, undef, undef, undef, undef, undef, undef, undef, undef, undef, undef, undef, undef, undef, undef]) Try.func34 rfl (by simp only [Try.ntmps34, List.size_toArray, List.length_cons, List.length_nil, Nat.reduceAdd, Nat.reduceSub, Array.replicate_succ, Array.replicate_zero, List.push_toArray, List.append_toArray, List.nil_append, List.cons_append]) ?_
 refine x_seq fun K1 hK1 => ?_
 refine x_region ?_
 refine s_go (s_assign) ?_
 try simp only [opv, n1, n2, n3, n4, Value.cells]
 refine x_nil ?_
 refine hK1 _ _ ?_
 refine x_seq fun K2 hK2 => ?_
 refine x_region ?_
 refine s_go (s_move) ?_
 try simp only [opv, n1, n2, n3, n4, Value.cells]
 refine s_call en32 ?_
 try simp only [opv, n1, n2, n3, n4, Value.cells, List.map_toArray, List.map_cons, List.map_nil, List.append_toArray, List.cons_append, List.nil_append, Array.append_empty]
 refine CallR.mono (c_ref10Norm _ A c l (hS.hasRd (by repeat (first | exact Has.head | apply Has.tail))) hv (by omega)) ?_
 rintro _ w1 ⟨B1, d1, rfl, hR1⟩
 replace hS := hS.back hR1
 try simp only [opv, n1, n2, n3, n4, Value.cells]
 refine s_go (s_move) ?_
 try simp only [opv, n1, n2, n3, n4, Value.cells]
 refine s_call en32 ?_
 try simp only [opv, n1, n2, n3, n4, Value.cells, List.map_toArray, List.map_cons, List.map_nil, List.append_toArray, List.cons_append, List.nil_append, Array.append_empty]
 refine CallR.mono (c_ref10Norm _ B d r (hS.hasRd (by repeat (first | exact Has.head | apply Has.tail))) hv2 (by omega)) ?_
 rintro _ w2 ⟨B2, d2, rfl, hR2⟩
 replace hS := hS.back hR2
 try simp only [opv, n1, n2, n3, n4, Value.cells]
 try simp only [hsl]
 obtain ⟨s, hsl⟩ : ∃ s, normP l = s := ⟨_, rfl⟩
 obtain ⟨t, htl⟩ : ∃ t, normP r = t := ⟨_, rfl⟩
 have hsn := norm_len l
 have htn := norm_len r
 have hss := norm_sta hv
 have hts := norm_sta hv2
 have hmg0 := merge_norm hv hv2
 rw [hsl] at hS hsn hss hmg0
 rw [htl] at hS htn hts hmg0
 have hso := hss.ok
 have hto := hts.ok
 have hsl2 := arows_len s
 have htl2 := arows_len t
 try simp only [hsl, htl]
 refine s_go (s_assign) ?_
 try simp only [opv, n1, n2, n3, n4, Value.cells]
 refine s_go (s_assign) ?_
 try simp only [opv, n1, n2, n3, n4, Value.cells]
 refine x_nil ?_
 refine hK2 _ _ ?_
 refine x_seq fun K3 hK3 => ?_
 refine x_region ?_
 replace hS := hS.nil_vec 39 21
 refine s_go (s_assign) ?_
 try simp only [opv, n1, n2, n3, n4, Value.cells]
 refine x_nil ?_
 refine hK3 _ _ ?_
 refine x_seq fun K4 hK4 => ?_
 refine x_region ?_
 refine s_go (s_assign) ?_
 try simp only [opv, n1, n2, n3, n4, Value.cells]
 refine s_go (s_assign) ?_
 try simp only [opv, n1, n2, n3, n4, Value.cells]
 refine x_nil ?_
 refine hK4 _ _ ?_
 refine x_seq fun K5 hK5 => ?_
 refine x_block ?_
 refine x_loop [5, 6, 7, 12, 13, 14, 15, 16, 17, 18, 19, 20, 21, 22, 23, 24, 25, 26, 27, 28, 29, 30, 31, 32, 33, 34, 35, 36, 37, 38, 39, 40, 41, 42, 43, 44, 45, 46, 47, 48, 49, 50, 51, 52, 53, 54, 55, 56, 57, 58, 59, 60, 61, 62, 63, 64, 65, 66, 67, 68, 69, 70, 71, 72, 73, 74, 75, 76, 77, 78, 79, 80, 81, 82, 83, 84, 85, 86, 87, 88, 89, 90, 91, 92, 93, 94, 95, 96, 97, 98, 99, 100, 101, 102, 103, 104, 105] (fun m f w => ∃ (i k : Nat) (C : Option Addr) (e : Nat) (o : List (List Int)), i ≤ s.length ∧ k ≤ t.length ∧ (s.length - i) + (t.length - k) ≤ m ∧ f 6 = .int .i64 (i : Int) ∧ f 7 = .int .i64 (k : Int) ∧ f 5 = .slice C o.length e ∧ o ++ mergeP (s.drop i) (t.drop k) = mergeP s t ∧ o.length ≤ i + k ∧ St NoB w0 w [.vec C e 39 21 (o).length (arows (o)), .rd B2 21 (t).length (arows (t)), .rd B1 21 (s).length (arows (s))]) (s.length + t.length) ?init1 (fun m1 f1 wl1 hI => ?_)
 case init1 =>
  try simp only [opv, n1, n2, n3, n4, Value.cells]
  exact ⟨0, 0, none, 0, [], by omega, by omega, by omega, rfl, rfl, rfl, rfl, by simp, hS.sel (by repeat (first | exact Sel.nil | (refine Sel.cons (by repeat (first | exact Del.head | apply Del.tail)) ?_)))⟩
 obtain ⟨i, k, C, e, o, hi, hk, hmm, h6, h7, h5, hmo, hol, hS⟩ := hI
 simp only [clob, List.foldl, n3, n4, h6, h7, h5]
 obtain ⟨x, hx⟩ : ∃ x, s.getD i [] = x := ⟨_, rfl⟩
 obtain ⟨y, hy⟩ : ∃ y, t.getD k [] = y := ⟨_, rfl⟩
 refine x_seq fun K6 hK6 => ?_
 refine x_seq fun K7 hK7 => ?_
 refine x_region ?_
 refine s_go (s_move) ?_
 try simp only [opv, n1, n2, n3, n4, Value.cells]
 refine s_go (s_move) ?_
 try simp only [opv, n1, n2, n3, n4, Value.cells]
 refine s_go (s_len_sl Try.underlying24) ?_
 try simp only [opv, n1, n2, n3, n4, Value.cells]
 refine s_go (s_lss) ?_
 try simp only [opv, n1, n2, n3, n4, Value.cells]
 refine s_go (s_move) ?_
 try simp only [opv, n1, n2, n3, n4, Value.cells]
 refine s_part 16 rfl (fun hp1 => ?_) (fun hp1 => ?_)
 ·
  try simp only [n3, n4]
  try simp only [decide_eq_true_eq, decide_eq_false_iff_not, Bool.not_eq_true', Bool.not_eq_false', Int.not_lt, Int.not_le, ne_eq, Decidable.not_not] at hp1
  first
  | (exfalso; omega)
  | skip
    refine g_off (yi (t := 16) rfl rfl) ?_
    try simp only [opv, n1, n2, n3, n4, Value.cells]
    refine g_off (yi (t := 16) rfl rfl) ?_
    try simp only [opv, n1, n2, n3, n4, Value.cells]
    refine g_off (yi (t := 16) rfl rfl) ?_
    try simp only [opv, n1, n2, n3, n4, Value.cells]
    refine g_off (yi (t := 16) rfl rfl) ?_
    try simp only [opv, n1, n2, n3, n4, Value.cells]
    first | refine s_go (s_pick_t) ?_ | refine s_go (s_pick_f) ?_
    try simp only [opv, n1, n2, n3, n4, Value.cells]
    refine x_nil ?_
    refine hK7 _ _ ?_
    refine x_cond_t (h := ?_)
    refine x_skip ?_
    refine hK6 _ _ ?_
    refine x_block ?_
    refine x_block ?_
    refine x_seq fun K8 hK8 => ?_
    refine x_quiet (by kernel_rfl) (by kernel_rfl) hS ?_
    refine q_go (fun w hS => s_move) ?_
    try simp only [opv, n1, n2, n3, n4, Value.cells]
    refine q_go (fun w hS => s_move) ?_
    try simp only [opv, n1, n2, n3, n4, Value.cells]
    refine q_go (fun w hS => s_len_sl Try.underlying24) ?_
    try simp only [opv, n1, n2, n3, n4, Value.cells]
    refine q_go (fun w hS => s_eql) ?_
    try simp only [opv, n1, n2, n3, n4, Value.cells]
    refine q_go (fun w hS => s_move) ?_
    try simp only [opv, n1, n2, n3, n4, Value.cells]
    refine q_part 51 rfl (fun hp2 => ?_) (fun hp2 => ?_)
    ·
     try simp only [n3, n4]
     try simp only [decide_eq_true_eq, decide_eq_false_iff_not, Bool.not_eq_true', Bool.not_eq_false', Int.not_lt, Int.not_le, ne_eq, Decidable.not_not] at hp2
     first
     | (exfalso; omega)
     | skip
       have hax : AtomOk x := by rw [← hx]; exact hso.get (by omega)
       have hxl := hax.len
       have hkx := hax.key
       have hvx := hax.val
       have hmg := mg_l (s := s) (t := t) (i := i) (k := k) (by omega) hx (.inl (by omega))
       have hnx : (o ++ [x]) ++ mergeP (s.drop (i + 1)) (t.drop k) = mergeP s t := by rw [← hmo, hmg, List.append_assoc]; rfl
       refine q_off (yi (t := 51) rfl rfl) ?_
       try simp only [opv, n1, n2, n3, n4, Value.cells]
       refine q_off (yi (t := 51) rfl rfl) ?_
       try simp only [opv, n1, n2, n3, n4, Value.cells]
       refine q_off (yi (t := 51) rfl rfl) ?_
       try simp only [opv, n1, n2, n3, n4, Value.cells]
       refine q_off (yi (t := 51) rfl rfl) ?_
       try simp only [opv, n1, n2, n3, n4, Value.cells]
       refine q_off (yi (t := 51) rfl rfl) ?_
       try simp only [opv, n1, n2, n3, n4, Value.cells]
       refine q_un (yn (t := 56) rfl rfl) ?_
       try simp only [opv, n1, n2, n3, n4, Value.cells]
       refine q_un (yn (t := 56) rfl rfl) ?_
       try simp only [opv, n1, n2, n3, n4, Value.cells]
       refine q_un (yn (t := 56) rfl rfl) ?_
       try simp only [opv, n1, n2, n3, n4, Value.cells]
       refine q_un (yn (t := 56) rfl rfl) ?_
       try simp only [opv, n1, n2, n3, n4, Value.cells]
       refine q_un (yn (t := 56) rfl rfl) ?_
       try simp only [opv, n1, n2, n3, n4, Value.cells]
       refine q_un (yn (t := 56) rfl rfl) ?_
       try simp only [opv, n1, n2, n3, n4, Value.cells]
       refine q_un (yn (t := 56) rfl rfl) ?_
       try simp only [opv, n1, n2, n3, n4, Value.cells]
       refine q_un (yn (t := 56) rfl rfl) ?_
       try simp only [opv, n1, n2, n3, n4, Value.cells]
       refine q_un (yn (t := 56) rfl rfl) ?_
       try simp only [opv, n1, n2, n3, n4, Value.cells]
       refine q_un (yn (t := 56) rfl rfl) ?_
       try simp only [opv, n1, n2, n3, n4, Value.cells]
       refine q_un (yn (t := 56) rfl rfl) ?_
       try simp only [opv, n1, n2, n3, n4, Value.cells]
       refine q_off (yi (t := 51) rfl rfl) ?_
       try simp only [opv, n1, n2, n3, n4, Value.cells]
       first | refine q_go (fun w hS => s_pick_t) ?_ | refine q_go (fun w hS => s_pick_f) ?_
       try simp only [opv, n1, n2, n3, n4, Value.cells]
       refine q_go (fun w hS => s_assign) ?_
       try simp only [opv, n1, n2, n3, n4, Value.cells]
       clear hS
       refine q_nil fun w3 hS => ?_
       refine hK8 _ _ ?_
       refine x_cond_t (h := ?_)
       try (have hmg := mg_l (s := s) (t := t) (i := i) (k := k) (by omega) hx (.inr ⟨by omega, by rw [hy]; exact @c⟩))
       have hnx : (o ++ [x]) ++ mergeP (s.drop (i + 1)) (t.drop k) = mergeP s t := by rw [← hmo, hmg, List.append_assoc]; rfl
       refine x_seq fun K9 hK9 => ?_
       refine x_region ?_
       refine s_go (s_move) ?_
       try simp only [opv, n1, n2, n3, n4, Value.cells]
       refine s_go (s_move) ?_
       try simp only [opv, n1, n2, n3, n4, Value.cells]
       refine s_go (s_move) ?_
       try simp only [opv, n1, n2, n3, n4, Value.cells]
       first | refine s_go (m_indexAddr_rd Try.underlying24 ti39 (hS := hS)) ?_ | refine s_go (m_indexAddr_vec Try.underlying24 ti39 (hS := hS)) ?_
       try simp only [opv, n1, n2, n3, n4, Value.cells, Nat.mul_one, Nat.zero_add, Int.toNat_natCast, Int.reduceToNat]
       first | refine s_go (m_load_row Try.underlying39 (hi := ti39) (hS := hS) (hfit := by rw [arows_len]; omega)) ?_ | refine s_go (m_loada_obj Try.underlying39 (hi := ti39) (hS := hS) (hfit := by rw [arows_len]; omega)) ?_ | refine s_go (m_loada_bx Try.underlying39 (hi := ti39) (hS := hS) (hfit := by rw [arows_len]; omega)) ?_ | refine s_go (m_loada_rd Try.underlying39 (hi := ti39) (hS := hS) (hfit := by rw [arows_len]; omega)) ?_ | refine s_go (m_loada_vec Try.underlying39 (hi := ti39) (hS := hS) (hfit := by rw [arows_len]; omega)) ?_
       try simp only [opv, n1, n2, n3, n4, Value.cells, List.getElem_toArray, List.getElem_cons_zero, List.getElem_cons_succ]
       rw [arow_get (by omega) hso, hx]
       refine m_buildRow (cells := (AA x)) Try.underlying24 ti39 (hc := by simp only [List.map_toArray, List.map_cons, List.map_nil, opv, n1, n2, n3, n4, Value.cells, List.toList_toArray]; exact fill_one (by rfl) (zi_size21 hxl) (by rfl)) (hS := hS) (h := fun w4 g4 hS => ?_)
       try simp only [opv, n1, n2, n3, n4, Value.cells, Array.toArray_toList] at hS ⊢
       replace hS := hS.obj_rd (sz := 21) (n := 1) (by exact zi_size21 hxl) .head
       rw [arow_one hxl] at hS
       refine m_append Try.underlying24 ti39 (hS := hS) (h1 := rowsZ_cells _ _) (h := fun w5 A5 C5 hS => ?_)
       try simp only [← List.map_append, ← List.map_drop, ← List.map_take, Nat.mul_one, Nat.zero_mul, Nat.sub_zero, List.drop_zero, List.nil_append, Nat.zero_add] at hS ⊢
       try simp only [opv, n1, n2, n3, n4, Value.cells, Array.toArray_toList] at hS ⊢
       rw [add_one] at hS
       refine s_go (s_assign) ?_
       try simp only [opv, n1, n2, n3, n4, Value.cells]
       refine x_nil ?_
       refine hK9 _ _ ?_
       refine x_region ?_
       refine s_go (s_move) ?_
       try simp only [opv, n1, n2, n3, n4, Value.cells]
       refine s_go (s_add (hc := by first | exact wr_i64 (by omega) (by omega) | rfl)) ?_
       try simp only [opv, n1, n2, n3, n4, Value.cells]
       refine s_go (s_assign) ?_
       try simp only [opv, n1, n2, n3, n4, Value.cells]
       refine x_nil ?_
       refine loop_back (m' := m1 - 1) (by simp only [clob, List.foldl, n1, n2, n3, n4]) ?_ ?_
       · try simp only [opv, n1, n2, n3, n4, Value.cells]
         exact ⟨_, _, _, _, _, by omega, by omega, by omega, by rfl, by rfl, by simp only [List.length_append, List.length_cons, List.length_nil, Nat.zero_add]; rfl, hnx, by simp only [List.length_append, List.length_cons, List.length_nil, Nat.zero_add]; omega, by simp only [List.length_append, List.length_cons, List.length_nil, Nat.zero_add]; exact hS.sel (by repeat (first | exact Sel.nil | (refine Sel.cons (by repeat (first | exact Del.head | apply Del.tail)) ?_)))⟩
       · omega
    ·
     try simp only [n3, n4]
     try simp only [decide_eq_true_eq, decide_eq_false_iff_not, Bool.not_eq_true', Bool.not_eq_false', Int.not_lt, Int.not_le, ne_eq, Decidable.not_not] at hp2
     first
     | (exfalso; omega)
     | skip
       have hay : AtomOk y := by rw [← hy]; exact hto.get (by omega)
       have hyl := hay.len
       have hky := hay.key
       have hvy := hay.val
       refine q_on (yi (t := 51) rfl rfl) ?_
       refine q_go (fun w hS => s_move) ?_
       try simp only [opv, n1, n2, n3, n4, Value.cells]
       refine q_on (yi (t := 51) rfl rfl) ?_
       refine q_go (fun w hS => s_move) ?_
       try simp only [opv, n1, n2, n3, n4, Value.cells]
       refine q_on (yi (t := 51) rfl rfl) ?_
       refine q_go (fun w hS => s_len_sl Try.underlying24) ?_
       try simp only [opv, n1, n2, n3, n4, Value.cells]
       refine q_on (yi (t := 51) rfl rfl) ?_
       refine q_go (fun w hS => s_lss) ?_
       try simp only [opv, n1, n2, n3, n4, Value.cells]
       refine q_on (yi (t := 51) rfl rfl) ?_
       refine q_go (fun w hS => s_move) ?_
       try simp only [opv, n1, n2, n3, n4, Value.cells]
       refine q_part 56 rfl (fun hp3 => ?_) (fun hp3 => ?_)
       ·
        try simp only [n3, n4]
        try simp only [decide_eq_true_eq, decide_eq_false_iff_not, Bool.not_eq_true', Bool.not_eq_false', Int.not_lt, Int.not_le, ne_eq, Decidable.not_not] at hp3
        first
        | (exfalso; omega)
        | skip
          have hax : AtomOk x := by rw [← hx]; exact hso.get (by omega)
          have hxl := hax.len
          have hkx := hax.key
          have hvx := hax.val
          refine q_on (yi (t := 56) rfl rfl) ?_
          refine q_go (fun w hS => s_move) ?_
          try simp only [opv, n1, n2, n3, n4, Value.cells]
          refine q_on (yi (t := 56) rfl rfl) ?_
          refine q_go (fun w hS => s_move) ?_
          try simp only [opv, n1, n2, n3, n4, Value.cells]
          refine q_on (yi (t := 56) rfl rfl) ?_
          first | refine q_go (fun w hS => m_indexAddr_rd Try.underlying24 ti39 (hS := hS)) ?_ | refine q_go (fun w hS => m_indexAddr_vec Try.underlying24 ti39 (hS := hS)) ?_
          try simp only [opv, n1, n2, n3, n4, Value.cells, Nat.mul_one, Nat.zero_add, Int.toNat_natCast, Int.reduceToNat]
          refine q_on (yi (t := 56) rfl rfl) ?_
          first | refine q_go (fun w hS => m_fieldAddr Try.underlying39 (hi := ti34)) ?_ | refine q_go (fun w hS => m_fieldAddr_rd Try.underlying39 (hi := ti34) (hS := hS)) ?_ | refine q_go (fun w hS => m_fieldAddr_vec Try.underlying39 (hi := ti34) (hS := hS)) ?_
          try simp only [opv, n1, n2, n3, n4, Value.cells, Nat.zero_add, Nat.add_zero, List.getElem_toArray, List.getElem_cons_zero, List.getElem_cons_succ]
          refine q_on (yi (t := 56) rfl rfl) ?_
          first | refine q_go (fun w hS => m_load_row Try.underlying34 (hi := ti34) (hS := hS) (hfit := by rw [arows_len]; omega)) ?_ | refine q_go (fun w hS => m_loada_obj Try.underlying34 (hi := ti34) (hS := hS) (hfit := by rw [arows_len]; omega)) ?_ | refine q_go (fun w hS => m_loada_bx Try.underlying34 (hi := ti34) (hS := hS) (hfit := by rw [arows_len]; omega)) ?_ | refine q_go (fun w hS => m_loada_rd Try.underlying34 (hi := ti34) (hS := hS) (hfit := by rw [arows_len]; omega)) ?_ | refine q_go (fun w hS => m_loada_vec Try.underlying34 (hi := ti34) (hS := hS) (hfit := by rw [arows_len]; omega)) ?_
          try simp only [opv, n1, n2, n3, n4, Value.cells, List.getElem_toArray, List.getElem_cons_zero, List.getElem_cons_succ]
          rw [arow_key (by omega) hso, hx]
          refine q_on (yi (t := 56) rfl rfl) ?_
          refine q_go (fun w hS => s_move) ?_
          try simp only [opv, n1, n2, n3, n4, Value.cells]
          refine q_on (yi (t := 56) rfl rfl) ?_
          refine q_go (fun w hS => s_move) ?_
          try simp only [opv, n1, n2, n3, n4, Value.cells]
          refine q_on (yi (t := 56) rfl rfl) ?_
          first | refine q_go (fun w hS => m_indexAddr_rd Try.underlying24 ti39 (hS := hS)) ?_ | refine q_go (fun w hS => m_indexAddr_vec Try.underlying24 ti39 (hS := hS)) ?_
          try simp only [opv, n1, n2, n3, n4, Value.cells, Nat.mul_one, Nat.zero_add, Int.toNat_natCast, Int.reduceToNat]
          refine q_on (yi (t := 56) rfl rfl) ?_
          first | refine q_go (fun w hS => m_fieldAddr Try.underlying39 (hi := ti34)) ?_ | refine q_go (fun w hS => m_fieldAddr_rd Try.underlying39 (hi := ti34) (hS := hS)) ?_ | refine q_go (fun w hS => m_fieldAddr_vec Try.underlying39 (hi := ti34) (hS := hS)) ?_
          try simp only [opv, n1, n2, n3, n4, Value.cells, Nat.zero_add, Nat.add_zero, List.getElem_toArray, List.getElem_cons_zero, List.getElem_cons_succ]
          refine q_on (yi (t := 56) rfl rfl) ?_
          first | refine q_go (fun w hS => m_load_row Try.underlying34 (hi := ti34) (hS := hS) (hfit := by rw [arows_len]; omega)) ?_ | refine q_go (fun w hS => m_loada_obj Try.underlying34 (hi := ti34) (hS := hS) (hfit := by rw [arows_len]; omega)) ?_ | refine q_go (fun w hS => m_loada_bx Try.underlying34 (hi := ti34) (hS := hS) (hfit := by rw [arows_len]; omega)) ?_ | refine q_go (fun w hS => m_loada_rd Try.underlying34 (hi := ti34) (hS := hS) (hfit := by rw [arows_len]; omega)) ?_ | refine q_go (fun w hS => m_loada_vec Try.underlying34 (hi := ti34) (hS := hS) (hfit := by rw [arows_len]; omega)) ?_
          try simp only [opv, n1, n2, n3, n4, Value.cells, List.getElem_toArray, List.getElem_cons_zero, List.getElem_cons_succ]
          rw [arow_key (by omega) hto, hy]
          refine q_on (yi (t := 56) rfl rfl) ?_
          apply q_call en116
          case H =>
            intro w hS
            try simp only [opv, n1, n2, n3, n4, List.map_toArray, List.map_cons, List.map_nil, List.append_toArray, List.cons_append, List.nil_append, Array.append_empty]
            refine CallR.mono (c_ref08Less (akey x) (akey y) hkx hky _) ?_
            rintro _ w1 ⟨rfl, hE⟩; exact ⟨rfl, hS.ext hE⟩
          try simp only [opv, n1, n2, n3, n4, Value.cells]
          refine q_on (yi (t := 51) rfl rfl) ?_
          first | refine q_go (fun w hS => s_pick_t) ?_ | refine q_go (fun w hS => s_pick_f) ?_
          try simp only [opv, n1, n2, n3, n4, Value.cells]
          first | refine q_go (fun w hS => s_pick_t) ?_ | refine q_go (fun w hS => s_pick_f) ?_
          try simp only [opv, n1, n2, n3, n4, Value.cells]
          refine q_go (fun w hS => s_assign) ?_
          try simp only [opv, n1, n2, n3, n4, Value.cells]
          clear hS
          refine q_nil fun w6 hS => ?_
          refine hK8 _ _ ?_
          refine x_cond (ht := fun hc3 => ?_) (hf := fun hc3 => ?_)
          ·
           try simp only [decide_eq_true_eq, decide_eq_false_iff_not, Bool.not_eq_true', Bool.not_eq_false', Int.not_lt, Int.not_le, ne_eq, Decidable.not_not, bne_iff_ne, beq_iff_eq, not_true_eq_false, not_false_eq_true] at hc3
           first
           | (exfalso; omega)
           | skip
             try (have hmg := mg_l (s := s) (t := t) (i := i) (k := k) (by omega) hx (.inr ⟨by omega, by rw [hy]; exact hc3⟩))
             have hnx : (o ++ [x]) ++ mergeP (s.drop (i + 1)) (t.drop k) = mergeP s t := by rw [← hmo, hmg, List.append_assoc]; rfl
             refine x_seq fun K10 hK10 => ?_
             refine x_region ?_
             refine s_go (s_move) ?_
             try simp only [opv, n1, n2, n3, n4, Value.cells]
             refine s_go (s_move) ?_
             try simp only [opv, n1, n2, n3, n4, Value.cells]
             refine s_go (s_move) ?_
             try simp only [opv, n1, n2, n3, n4, Value.cells]
             first | refine s_go (m_indexAddr_rd Try.underlying24 ti39 (hS := hS)) ?_ | refine s_go (m_indexAddr_vec Try.underlying24 ti39 (hS := hS)) ?_
             try simp only [opv, n1, n2, n3, n4, Value.cells, Nat.mul_one, Nat.zero_add, Int.toNat_natCast, Int.reduceToNat]
             first | refine s_go (m_load_row Try.underlying39 (hi := ti39) (hS := hS) (hfit := by rw [arows_len]; omega)) ?_ | refine s_go (m_loada_obj Try.underlying39 (hi := ti39) (hS := hS) (hfit := by rw [arows_len]; omega)) ?_ | refine s_go (m_loada_bx Try.underlying39 (hi := ti39) (hS := hS) (hfit := by rw [arows_len]; omega)) ?_ | refine s_go (m_loada_rd Try.underlying39 (hi := ti39) (hS := hS) (hfit := by rw [arows_len]; omega)) ?_ | refine s_go (m_loada_vec Try.underlying39 (hi := ti39) (hS := hS) (hfit := by rw [arows_len]; omega)) ?_
             try simp only [opv, n1, n2, n3, n4, Value.cells, List.getElem_toArray, List.getElem_cons_zero, List.getElem_cons_succ]
             rw [arow_get (by omega) hso, hx]
             refine m_buildRow (cells := (AA x)) Try.underlying24 ti39 (hc := by simp only [List.map_toArray, List.map_cons, List.map_nil, opv, n1, n2, n3, n4, Value.cells, List.toList_toArray]; exact fill_one (by rfl) (zi_size21 hxl) (by rfl)) (hS := hS) (h := fun w7 g7 hS => ?_)
             try simp only [opv, n1, n2, n3, n4, Value.cells, Array.toArray_toList] at hS ⊢
             replace hS := hS.obj_rd (sz := 21) (n := 1) (by exact zi_size21 hxl) .head
             rw [arow_one hxl] at hS
             refine m_append Try.underlying24 ti39 (hS := hS) (h1 := rowsZ_cells _ _) (h := fun w8 A8 C8 hS => ?_)
             try simp only [← List.map_append, ← List.map_drop, ← List.map_take, Nat.mul_one, Nat.zero_mul, Nat.sub_zero, List.drop_zero, List.nil_append, Nat.zero_add] at hS ⊢
             try simp only [opv, n1, n2, n3, n4, Value.cells, Array.toArray_toList] at hS ⊢
             rw [add_one] at hS
             refine s_go (s_assign) ?_
             try simp only [opv, n1, n2, n3, n4, Value.cells]
             refine x_nil ?_
             refine hK10 _ _ ?_
             refine x_region ?_
             refine s_go (s_move) ?_
             try simp only [opv, n1, n2, n3, n4, Value.cells]
             refine s_go (s_add (hc := by first | exact wr_i64 (by omega) (by omega) | rfl)) ?_
             try simp only [opv, n1, n2, n3, n4, Value.cells]
             refine s_go (s_assign) ?_
             try simp only [opv, n1, n2, n3, n4, Value.cells]
             refine x_nil ?_
             refine loop_back (m' := m1 - 1) (by simp only [clob, List.foldl, n1, n2, n3, n4]) ?_ ?_
             · try simp only [opv, n1, n2, n3, n4, Value.cells]
               exact ⟨_, _, _, _, _, by omega, by omega, by omega, by rfl, by rfl, by simp only [List.length_append, List.length_cons, List.length_nil, Nat.zero_add]; rfl, hnx, by simp only [List.length_append, List.length_cons, List.length_nil, Nat.zero_add]; omega, by simp only [List.length_append, List.length_cons, List.length_nil, Nat.zero_add]; exact hS.sel (by repeat (first | exact Sel.nil | (refine Sel.cons (by repeat (first | exact Del.head | apply Del.tail)) ?_)))⟩
             · omega
          ·
           try simp only [decide_eq_true_eq, decide_eq_false_iff_not, Bool.not_eq_true', Bool.not_eq_false', Int.not_lt, Int.not_le, ne_eq, Decidable.not_not, bne_iff_ne, beq_iff_eq, not_true_eq_false, not_false_eq_true] at hc3
           first
           | (exfalso; omega)
           | skip
             try have hl1 := hc3
             refine x_seq fun K11 hK11 => ?_
             refine x_quiet (by kernel_rfl) (by kernel_rfl) hS ?_
             refine q_go (fun w hS => s_move) ?_
             try simp only [opv, n1, n2, n3, n4, Value.cells]
             refine q_go (fun w hS => s_move) ?_
             try simp only [opv, n1, n2, n3, n4, Value.cells]
             refine q_go (fun w hS => s_len_sl Try.underlying24) ?_
             try simp only [opv, n1, n2, n3, n4, Value.cells]
             refine q_go (fun w hS => s_eql) ?_
             try simp only [opv, n1, n2, n3, n4, Value.cells]
             refine q_go (fun w hS => s_move) ?_
             try simp only [opv, n1, n2, n3, n4, Value.cells]
             refine q_part 84 rfl (fun hp4 => ?_) (fun hp4 => ?_)
             ·
              try simp only [n3, n4]
              try simp only [decide_eq_true_eq, decide_eq_false_iff_not, Bool.not_eq_true', Bool.not_eq_false', Int.not_lt, Int.not_le, ne_eq, Decidable.not_not] at hp4
              first
              | (exfalso; omega)
              | skip
                refine q_off (yi (t := 84) rfl rfl) ?_
                try simp only [opv, n1, n2, n3, n4, Value.cells]
                refine q_off (yi (t := 84) rfl rfl) ?_
                try simp only [opv, n1, n2, n3, n4, Value.cells]
                refine q_off (yi (t := 84) rfl rfl) ?_
                try simp only [opv, n1, n2, n3, n4, Value.cells]
                refine q_off (yi (t := 84) rfl rfl) ?_
                try simp only [opv, n1, n2, n3, n4, Value.cells]
                refine q_off (yi (t := 84) rfl rfl) ?_
                try simp only [opv, n1, n2, n3, n4, Value.cells]
                refine q_off (yi (t := 84) rfl rfl) ?_
                try simp only [opv, n1, n2, n3, n4, Value.cells]
                refine q_off (yi (t := 84) rfl rfl) ?_
                try simp only [opv, n1, n2, n3, n4, Value.cells]
                refine q_off (yi (t := 84) rfl rfl) ?_
                try simp only [opv, n1, n2, n3, n4, Value.cells]
                refine q_off (yi (t := 84) rfl rfl) ?_
                try simp only [opv, n1, n2, n3, n4, Value.cells]
                refine q_off (yi (t := 84) rfl rfl) ?_
                try simp only [opv, n1, n2, n3, n4, Value.cells]
                refine q_off (yi (t := 84) rfl rfl) ?_
                try simp only [opv, n1, n2, n3, n4, Value.cells]
                first | refine q_go (fun w hS => s_pick_t) ?_ | refine q_go (fun w hS => s_pick_f) ?_
                try simp only [opv, n1, n2, n3, n4, Value.cells]
                refine q_go (fun w hS => s_assign) ?_
                try simp only [opv, n1, n2, n3, n4, Value.cells]
                clear hS
                refine q_nil fun w9 hS => ?_
                refine hK11 _ _ ?_
                refine x_cond_t (h := ?_)
                try (have hmg := mg_r (s := s) (t := t) (i := i) (k := k) (by omega) hy (.inr ⟨by omega, by rw [hx]; exact hl1, by rw [hx]; exact @c⟩))
                have hnx : (o ++ [y]) ++ mergeP (s.drop i) (t.drop (k + 1)) = mergeP s t := by rw [← hmo, hmg, List.append_assoc]; rfl
                refine x_seq fun K12 hK12 => ?_
                refine x_region ?_
                refine s_go (s_move) ?_
                try simp only [opv, n1, n2, n3, n4, Value.cells]
                refine s_go (s_move) ?_
                try simp only [opv, n1, n2, n3, n4, Value.cells]
                refine s_go (s_move) ?_
                try simp only [opv, n1, n2, n3, n4, Value.cells]
                first | refine s_go (m_indexAddr_rd Try.underlying24 ti39 (hS := hS)) ?_ | refine s_go (m_indexAddr_vec Try.underlying24 ti39 (hS := hS)) ?_
                try simp only [opv, n1, n2, n3, n4, Value.cells, Nat.mul_one, Nat.zero_add, Int.toNat_natCast, Int.reduceToNat]
                first | refine s_go (m_load_row Try.underlying39 (hi := ti39) (hS := hS) (hfit := by rw [arows_len]; omega)) ?_ | refine s_go (m_loada_obj Try.underlying39 (hi := ti39) (hS := hS) (hfit := by rw [arows_len]; omega)) ?_ | refine s_go (m_loada_bx Try.underlying39 (hi := ti39) (hS := hS) (hfit := by rw [arows_len]; omega)) ?_ | refine s_go (m_loada_rd Try.underlying39 (hi := ti39) (hS := hS) (hfit := by rw [arows_len]; omega)) ?_ | refine s_go (m_loada_vec Try.underlying39 (hi := ti39) (hS := hS) (hfit := by rw [arows_len]; omega)) ?_
                try simp only [opv, n1, n2, n3, n4, Value.cells, List.getElem_toArray, List.getElem_cons_zero, List.getElem_cons_succ]
                rw [arow_get (by omega) hto, hy]
                refine m_buildRow (cells := (AA y)) Try.underlying24 ti39 (hc := by simp only [List.map_toArray, List.map_cons, List.map_nil, opv, n1, n2, n3, n4, Value.cells, List.toList_toArray]; exact fill_one (by rfl) (zi_size21 hyl) (by rfl)) (hS := hS) (h := fun w10 g10 hS => ?_)
                try simp only [opv, n1, n2, n3, n4, Value.cells, Array.toArray_toList] at hS ⊢
                replace hS := hS.obj_rd (sz := 21) (n := 1) (by exact zi_size21 hyl) .head
                rw [arow_one hyl] at hS
                refine m_append Try.underlying24 ti39 (hS := hS) (h1 := rowsZ_cells _ _) (h := fun w11 A11 C11 hS => ?_)
                try simp only [← List.map_append, ← List.map_drop, ← List.map_take, Nat.mul_one, Nat.zero_mul, Nat.sub_zero, List.drop_zero, List.nil_append, Nat.zero_add] at hS ⊢
                try simp only [opv, n1, n2, n3, n4, Value.cells, Array.toArray_toList] at hS ⊢
                rw [add_one] at hS
                refine s_go (s_assign) ?_
                try simp only [opv, n1, n2, n3, n4, Value.cells]
                refine x_nil ?_
                refine hK12 _ _ ?_
                refine x_region ?_
                refine s_go (s_move) ?_
                try simp only [opv, n1, n2, n3, n4, Value.cells]
                refine s_go (s_add (hc := by first | exact wr_i64 (by omega) (by omega) | rfl)) ?_
                try simp only [opv, n1, n2, n3, n4, Value.cells]
                refine s_go (s_assign) ?_
                try simp only [opv, n1, n2, n3, n4, Value.cells]
                refine x_nil ?_
                refine loop_back (m' := m1 - 1) (by simp only [clob, List.foldl, n1, n2, n3, n4]) ?_ ?_
                · try simp only [opv, n1, n2, n3, n4, Value.cells]
                  exact ⟨_, _, _, _, _, by omega, by omega, by omega, by rfl, by rfl, by simp only [List.length_append, List.length_cons, List.length_nil, Nat.zero_add]; rfl, hnx, by simp only [List.length_append, List.length_cons, List.length_nil, Nat.zero_add]; omega, by simp only [List.length_append, List.length_cons, List.length_nil, Nat.zero_add]; exact hS.sel (by repeat (first | exact Sel.nil | (refine Sel.cons (by repeat (first | exact Del.head | apply Del.tail)) ?_)))⟩
                · omega
             ·
              try simp only [n3, n4]
              try simp only [decide_eq_true_eq, decide_eq_false_iff_not, Bool.not_eq_true', Bool.not_eq_false', Int.not_lt, Int.not_le, ne_eq, Decidable.not_not] at hp4
              first
              | (exfalso; omega)
              | skip
                refine q_on (yi (t := 84) rfl rfl) ?_
                refine q_go (fun w hS => s_move) ?_
                try simp only [opv, n1, n2, n3, n4, Value.cells]
                refine q_on (yi (t := 84) rfl rfl) ?_
                refine q_go (fun w hS => s_move) ?_
                try simp only [opv, n1, n2, n3, n4, Value.cells]
                refine q_on (yi (t := 84) rfl rfl) ?_
                first | refine q_go (fun w hS => m_indexAddr_rd Try.underlying24 ti39 (hS := hS)) ?_ | refine q_go (fun w hS => m_indexAddr_vec Try.underlying24 ti39 (hS := hS)) ?_
                try simp only [opv, n1, n2, n3, n4, Value.cells, Nat.mul_one, Nat.zero_add, Int.toNat_natCast, Int.reduceToNat]
                refine q_on (yi (t := 84) rfl rfl) ?_
                first | refine q_go (fun w hS => m_fieldAddr Try.underlying39 (hi := ti34)) ?_ | refine q_go (fun w hS => m_fieldAddr_rd Try.underlying39 (hi := ti34) (hS := hS)) ?_ | refine q_go (fun w hS => m_fieldAddr_vec Try.underlying39 (hi := ti34) (hS := hS)) ?_
                try simp only [opv, n1, n2, n3, n4, Value.cells, Nat.zero_add, Nat.add_zero, List.getElem_toArray, List.getElem_cons_zero, List.getElem_cons_succ]
                refine q_on (yi (t := 84) rfl rfl) ?_
                first | refine q_go (fun w hS => m_load_row Try.underlying34 (hi := ti34) (hS := hS) (hfit := by rw [arows_len]; omega)) ?_ | refine q_go (fun w hS => m_loada_obj Try.underlying34 (hi := ti34) (hS := hS) (hfit := by rw [arows_len]; omega)) ?_ | refine q_go (fun w hS => m_loada_bx Try.underlying34 (hi := ti34) (hS := hS) (hfit := by rw [arows_len]; omega)) ?_ | refine q_go (fun w hS => m_loada_rd Try.underlying34 (hi := ti34) (hS := hS) (hfit := by rw [arows_len]; omega)) ?_ | refine q_go (fun w hS => m_loada_vec Try.underlying34 (hi := ti34) (hS := hS) (hfit := by rw [arows_len]; omega)) ?_
                try simp only [opv, n1, n2, n3, n4, Value.cells, List.getElem_toArray, List.getElem_cons_zero, List.getElem_cons_succ]
                rw [arow_key (by omega) hto, hy]
                refine q_on (yi (t := 84) rfl rfl) ?_
                refine q_go (fun w hS => s_move) ?_
                try simp only [opv, n1, n2, n3, n4, Value.cells]
                refine q_on (yi (t := 84) rfl rfl) ?_
                refine q_go (fun w hS => s_move) ?_
                try simp only [opv, n1, n2, n3, n4, Value.cells]
                refine q_on (yi (t := 84) rfl rfl) ?_
                first | refine q_go (fun w hS => m_indexAddr_rd Try.underlying24 ti39 (hS := hS)) ?_ | refine q_go (fun w hS => m_indexAddr_vec Try.underlying24 ti39 (hS := hS)) ?_
                try simp only [opv, n1, n2, n3, n4, Value.cells, Nat.mul_one, Nat.zero_add, Int.toNat_natCast, Int.reduceToNat]
                refine q_on (yi (t := 84) rfl rfl) ?_
                first | refine q_go (fun w hS => m_fieldAddr Try.underlying39 (hi := ti34)) ?_ | refine q_go (fun w hS => m_fieldAddr_rd Try.underlying39 (hi := ti34) (hS := hS)) ?_ | refine q_go (fun w hS => m_fieldAddr_vec Try.underlying39 (hi := ti34) (hS := hS)) ?_
                try simp only [opv, n1, n2, n3, n4, Value.cells, Nat.zero_add, Nat.add_zero, List.getElem_toArray, List.getElem_cons_zero, List.getElem_cons_succ]
                refine q_on (yi (t := 84) rfl rfl) ?_
                first | refine q_go (fun w hS => m_load_row Try.underlying34 (hi := ti34) (hS := hS) (hfit := by rw [arows_len]; omega)) ?_ | refine q_go (fun w hS => m_loada_obj Try.underlying34 (hi := ti34) (hS := hS) (hfit := by rw [arows_len]; omega)) ?_ | refine q_go (fun w hS => m_loada_bx Try.underlying34 (hi := ti34) (hS := hS) (hfit := by rw [arows_len]; omega)) ?_ | refine q_go (fun w hS => m_loada_rd Try.underlying34 (hi := ti34) (hS := hS) (hfit := by rw [arows_len]; omega)) ?_ | refine q_go (fun w hS => m_loada_vec Try.underlying34 (hi := ti34) (hS := hS) (hfit := by rw [arows_len]; omega)) ?_
                try simp only [opv, n1, n2, n3, n4, Value.cells, List.getElem_toArray, List.getElem_cons_zero, List.getElem_cons_succ]
                rw [arow_key (by omega) hso, hx]
                refine q_on (yi (t := 84) rfl rfl) ?_
                apply q_call en116
                case H =>
                  intro w hS
                  try simp only [opv, n1, n2, n3, n4, List.map_toArray, List.map_cons, List.map_nil, List.append_toArray, List.cons_append, List.nil_append, Array.append_empty]
                  refine CallR.mono (c_ref08Less (akey y) (akey x) hky hkx _) ?_
                  rintro _ w1 ⟨rfl, hE⟩; exact ⟨rfl, hS.ext hE⟩
                try simp only [opv, n1, n2, n3, n4, Value.cells]
                first | refine q_go (fun w hS => s_pick_t) ?_ | refine q_go (fun w hS => s_pick_f) ?_
                try simp only [opv, n1, n2, n3, n4, Value.cells]
                refine q_go (fun w hS => s_assign) ?_
                try simp only [opv, n1, n2, n3, n4, Value.cells]
                clear hS
                refine q_nil fun w12 hS => ?_
                refine hK11 _ _ ?_
                refine x_cond (ht := fun hc5 => ?_) (hf := fun hc5 => ?_)
                ·
                 try simp only [decide_eq_true_eq, decide_eq_false_iff_not, Bool.not_eq_true', Bool.not_eq_false', Int.not_lt, Int.not_le, ne_eq, Decidable.not_not, bne_iff_ne, beq_iff_eq, not_true_eq_false, not_false_eq_true] at hc5
                 first
                 | (exfalso; omega)
                 | skip
                   try (have hmg := mg_r (s := s) (t := t) (i := i) (k := k) (by omega) hy (.inr ⟨by omega, by rw [hx]; exact hl1, by rw [hx]; exact hc5⟩))
                   have hnx : (o ++ [y]) ++ mergeP (s.drop i) (t.drop (k + 1)) = mergeP s t := by rw [← hmo, hmg, List.append_assoc]; rfl
                   refine x_seq fun K13 hK13 => ?_
                   refine x_region ?_
                   refine s_go (s_move) ?_
                   try simp only [opv, n1, n2, n3, n4, Value.cells]
                   refine s_go (s_move) ?_
                   try simp only [opv, n1, n2, n3, n4, Value.cells]
                   refine s_go (s_move) ?_
                   try simp only [opv, n1, n2, n3, n4, Value.cells]
                   first | refine s_go (m_indexAddr_rd Try.underlying24 ti39 (hS := hS)) ?_ | refine s_go (m_indexAddr_vec Try.underlying24 ti39 (hS := hS)) ?_
                   try simp only [opv, n1, n2, n3, n4, Value.cells, Nat.mul_one, Nat.zero_add, Int.toNat_natCast, Int.reduceToNat]
                   first | refine s_go (m_load_row Try.underlying39 (hi := ti39) (hS := hS) (hfit := by rw [arows_len]; omega)) ?_ | refine s_go (m_loada_obj Try.underlying39 (hi := ti39) (hS := hS) (hfit := by rw [arows_len]; omega)) ?_ | refine s_go (m_loada_bx Try.underlying39 (hi := ti39) (hS := hS) (hfit := by rw [arows_len]; omega)) ?_ | refine s_go (m_loada_rd Try.underlying39 (hi := ti39) (hS := hS) (hfit := by rw [arows_len]; omega)) ?_ | refine s_go (m_loada_vec Try.underlying39 (hi := ti39) (hS := hS) (hfit := by rw [arows_len]; omega)) ?_
                   try simp only [opv, n1, n2, n3, n4, Value.cells, List.getElem_toArray, List.getElem_cons_zero, List.getElem_cons_succ]
                   rw [arow_get (by omega) hto, hy]
                   refine m_buildRow (cells := (AA y)) Try.underlying24 ti39 (hc := by simp only [List.map_toArray, List.map_cons, List.map_nil, opv, n1, n2, n3, n4, Value.cells, List.toList_toArray]; exact fill_one (by rfl) (zi_size21 hyl) (by rfl)) (hS := hS) (h := fun w13 g13 hS => ?_)
                   try simp only [opv, n1, n2, n3, n4, Value.cells, Array.toArray_toList] at hS ⊢
                   replace hS := hS.obj_rd (sz := 21) (n := 1) (by exact zi_size21 hyl) .head
                   rw [arow_one hyl] at hS
                   refine m_append Try.underlying24 ti39 (hS := hS) (h1 := rowsZ_cells _ _) (h := fun w14 A14 C14 hS => ?_)
                   try simp only [← List.map_append, ← List.map_drop, ← List.map_take, Nat.mul_one, Nat.zero_mul, Nat.sub_zero, List.drop_zero, List.nil_append, Nat.zero_add] at hS ⊢
                   try simp only [opv, n1, n2, n3, n4, Value.cells, Array.toArray_toList] at hS ⊢
                   rw [add_one] at hS
                   refine s_go (s_assign) ?_
                   try simp only [opv, n1, n2, n3, n4, Value.cells]
                   refine x_nil ?_
                   refine hK13 _ _ ?_
                   refine x_region ?_
                   refine s_go (s_move) ?_
                   try simp only [opv, n1, n2, n3, n4, Value.cells]
                   refine s_go (s_add (hc := by first | exact wr_i64 (by omega) (by omega) | rfl)) ?_
                   try simp only [opv, n1, n2, n3, n4, Value.cells]
                   refine s_go (s_assign) ?_
                   try simp only [opv, n1, n2, n3, n4, Value.cells]
                   refine x_nil ?_
                   refine loop_back (m' := m1 - 1) (by simp only [clob, List.foldl, n1, n2, n3, n4]) ?_ ?_
                   · try simp only [opv, n1, n2, n3, n4, Value.cells]
                     exact ⟨_, _, _, _, _, by omega, by omega, by omega, by rfl, by rfl, by simp only [List.length_append, List.length_cons, List.length_nil, Nat.zero_add]; rfl, hnx, by simp only [List.length_append, List.length_cons, List.length_nil, Nat.zero_add]; omega, by simp only [List.length_append, List.length_cons, List.length_nil, Nat.zero_add]; exact hS.sel (by repeat (first | exact Sel.nil | (refine Sel.cons (by repeat (first | exact Del.head | apply Del.tail)) ?_)))⟩
                   · omega
                ·
                 try simp only [decide_eq_true_eq, decide_eq_false_iff_not, Bool.not_eq_true', Bool.not_eq_false', Int.not_lt, Int.not_le, ne_eq, Decidable.not_not, bne_iff_ne, beq_iff_eq, not_true_eq_false, not_false_eq_true] at hc5
                 first
                 | (exfalso; omega)
                 | skip
                   have hmg := mg_e (s := s) (t := t) (i := i) (k := k) (by omega) hx (by omega) hy hl1 hc5
                   have hnx : (o ++ [(akey x ++ moreV (aval x) (aval y))]) ++ mergeP (s.drop (i + 1)) (t.drop (k + 1)) = mergeP s t := by rw [← hmo, hmg, List.append_assoc]; rfl
                   have hmo9 := more_ok hvx hvy
                   have hml := hmo9.len
                   have hk12 := hkx.len
                   have hzl : (akey x ++ moreV (aval x) (aval y)).length = 21 := (kv_ok hkx hmo9).len
                   refine x_seq fun K14 hK14 => ?_
                   refine x_mixed_c (Lc := [.rd B2 21 (t).length (arows (t)), .rd B1 21 (s).length (arows (s))]) [] 0 [5, 22, 23, 24, 25, 26, 27, 28, 29, 30, 31, 32, 33, 34, 35, 36, 37, 38, 39, 40, 41] (fun f w => ∃ (C2 : Option Addr) (e2 : Nat), f 5 = .slice C2 (o.length + 1) e2 ∧ St NoB w0 w [.vec C2 e2 39 21 (o.length + 1) (arows (o ++ [(akey x ++ moreV (aval x) (aval y))])), .rd B2 21 (t).length (arows (t)), .rd B1 21 (s).length (arows (s))]) (by kernel_rfl) (by kernel_rfl) (by kernel_rfl) (by decide) hS (fun w15 hS => ?mixpre501) ?mixrest501
                   case mixpre501 =>
                    refine p_nil ?_
                    simp only [List.length_cons, List.length_nil, Nat.reduceAdd, Nat.reduceSub]
                    refine any_go (i := 0) (by rfl) (by decide +kernel) (by decide +kernel) noLate_nil (go_yields w_none (fun w hS => s_move)) ?_
                    try simp only [opv, n1, n2, n3, n4, Value.cells]
                    refine any_go (i := 1) (by rfl) (by decide +kernel) (by decide +kernel) noLate_nil (go_yields w_none (fun w hS => s_move)) ?_
                    try simp only [opv, n1, n2, n3, n4, Value.cells]
                    refine any_go (i := 2) (by rfl) (by decide +kernel) (by decide +kernel) noLate_nil (go_yields w_none (fun w hS => s_move)) ?_
                    try simp only [opv, n1, n2, n3, n4, Value.cells]
                    first | refine any_go (i := 3) (by rfl) (by decide +kernel) (by decide +kernel) noLate_nil (go_yields w_none (fun w hS => m_indexAddr_rd Try.underlying24 ti39 (hS := hS))) ?_ | refine any_go (i := 3) (by rfl) (by decide +kernel) (by decide +kernel) noLate_nil (go_yields w_none (fun w hS => m_indexAddr_vec Try.underlying24 ti39 (hS := hS))) ?_
                    try simp only [opv, n1, n2, n3, n4, Value.cells, Nat.mul_one, Nat.zero_add, Int.toNat_natCast, Int.reduceToNat]
                    first | refine any_go (i := 4) (by rfl) (by decide +kernel) (by decide +kernel) noLate_nil (go_yields w_none (fun w hS => m_fieldAddr Try.underlying39 (hi := ti34))) ?_ | refine any_go (i := 4) (by rfl) (by decide +kernel) (by decide +kernel) noLate_nil (go_yields w_none (fun w hS => m_fieldAddr_rd Try.underlying39 (hi := ti34) (hS := hS))) ?_ | refine any_go (i := 4) (by rfl) (by decide +kernel) (by decide +kernel) noLate_nil (go_yields w_none (fun w hS => m_fieldAddr_vec Try.underlying39 (hi := ti34) (hS := hS))) ?_
                    try simp only [opv, n1, n2, n3, n4, Value.cells, Nat.zero_add, Nat.add_zero, List.getElem_toArray, List.getElem_cons_zero, List.getElem_cons_succ]
                    first | refine any_go (i := 5) (by rfl) (by decide +kernel) (by decide +kernel) noLate_nil (go_yields w_none (fun w hS => m_load_row Try.underlying34 (hi := ti34) (hS := hS) (hfit := by rw [arows_len]; omega))) ?_ | refine any_go (i := 5) (by rfl) (by decide +kernel) (by decide +kernel) noLate_nil (go_yields w_none (fun w hS => m_loada_obj Try.underlying34 (hi := ti34) (hS := hS) (hfit := by rw [arows_len]; omega))) ?_ | refine any_go (i := 5) (by rfl) (by decide +kernel) (by decide +kernel) noLate_nil (go_yields w_none (fun w hS => m_loada_bx Try.underlying34 (hi := ti34) (hS := hS) (hfit := by rw [arows_len]; omega))) ?_ | refine any_go (i := 5) (by rfl) (by decide +kernel) (by decide +kernel) noLate_nil (go_yields w_none (fun w hS => m_loada_rd Try.underlying34 (hi := ti34) (hS := hS) (hfit := by rw [arows_len]; omega))) ?_ | refine any_go (i := 5) (by rfl) (by decide +kernel) (by decide +kernel) noLate_nil (go_yields w_none (fun w hS => m_loada_vec Try.underlying34 (hi := ti34) (hS := hS) (hfit := by rw [arows_len]; omega))) ?_
                    try simp only [opv, n1, n2, n3, n4, Value.cells, List.getElem_toArray, List.getElem_cons_zero, List.getElem_cons_succ]
                    rw [arow_key (by omega) hso, hx]
                    refine any_go (i := 6) (by rfl) (by decide +kernel) (by decide +kernel) noLate_nil (go_yields w_none (fun w hS => s_move)) ?_
                    try simp only [opv, n1, n2, n3, n4, Value.cells]
                    refine any_go (i := 7) (by rfl) (by decide +kernel) (by decide +kernel) noLate_nil (go_yields w_none (fun w hS => s_move)) ?_
                    try simp only [opv, n1, n2, n3, n4, Value.cells]
                    first | refine any_go (i := 8) (by rfl) (by decide +kernel) (by decide +kernel) noLate_nil (go_yields w_none (fun w hS => m_indexAddr_rd Try.underlying24 ti39 (hS := hS))) ?_ | refine any_go (i := 8) (by rfl) (by decide +kernel) (by decide +kernel) noLate_nil (go_yields w_none (fun w hS => m_indexAddr_vec Try.underlying24 ti39 (hS := hS))) ?_
                    try simp only [opv, n1, n2, n3, n4, Value.cells, Nat.mul_one, Nat.zero_add, Int.toNat_natCast, Int.reduceToNat]
                    first | refine any_go (i := 9) (by rfl) (by decide +kernel) (by decide +kernel) noLate_nil (go_yields w_none (fun w hS => m_fieldAddr Try.underlying39 (hi := ti37))) ?_ | refine any_go (i := 9) (by rfl) (by decide +kernel) (by decide +kernel) noLate_nil (go_yields w_none (fun w hS => m_fieldAddr_rd Try.underlying39 (hi := ti37) (hS := hS))) ?_ | refine any_go (i := 9) (by rfl) (by decide +kernel) (by decide +kernel) noLate_nil (go_yields w_none (fun w hS => m_fieldAddr_vec Try.underlying39 (hi := ti37) (hS := hS))) ?_
                    try simp only [opv, n1, n2, n3, n4, Value.cells, Nat.zero_add, Nat.add_zero, List.getElem_toArray, List.getElem_cons_zero, List.getElem_cons_succ]
                    first | refine any_go (i := 10) (by rfl) (by decide +kernel) (by decide +kernel) noLate_nil (go_yields w_none (fun w hS => m_load_row Try.underlying37 (hi := ti37) (hS := hS) (hfit := by rw [arows_len]; omega))) ?_ | refine any_go (i := 10) (by rfl) (by decide +kernel) (by decide +kernel) noLate_nil (go_yields w_none (fun w hS => m_loada_obj Try.underlying37 (hi := ti37) (hS := hS) (hfit := by rw [arows_len]; omega))) ?_ | refine any_go (i := 10) (by rfl) (by decide +kernel) (by decide +kernel) noLate_nil (go_yields w_none (fun w hS => m_loada_bx Try.underlying37 (hi := ti37) (hS := hS) (hfit := by rw [arows_len]; omega))) ?_ | refine any_go (i := 10) (by rfl) (by decide +kernel) (by decide +kernel) noLate_nil (go_yields w_none (fun w hS => m_loada_rd Try.underlying37 (hi := ti37) (hS := hS) (hfit := by rw [arows_len]; omega))) ?_ | refine any_go (i := 10) (by rfl) (by decide +kernel) (by decide +kernel) noLate_nil (go_yields w_none (fun w hS => m_loada_vec Try.underlying37 (hi := ti37) (hS := hS) (hfit := by rw [arows_len]; omega))) ?_
                    try simp only [opv, n1, n2, n3, n4, Value.cells, List.getElem_toArray, List.getElem_cons_zero, List.getElem_cons_succ]
                    rw [arow_val (by omega) hso, hx]
                    refine any_go (i := 11) (by rfl) (by decide +kernel) (by decide +kernel) noLate_nil (go_yields w_none (fun w hS => s_move)) ?_
                    try simp only [opv, n1, n2, n3, n4, Value.cells]
                    refine any_go (i := 12) (by rfl) (by decide +kernel) (by decide +kernel) noLate_nil (go_yields w_none (fun w hS => s_move)) ?_
                    try simp only [opv, n1, n2, n3, n4, Value.cells]
                    first | refine any_go (i := 13) (by rfl) (by decide +kernel) (by decide +kernel) noLate_nil (go_yields w_none (fun w hS => m_indexAddr_rd Try.underlying24 ti39 (hS := hS))) ?_ | refine any_go (i := 13) (by rfl) (by decide +kernel) (by decide +kernel) noLate_nil (go_yields w_none (fun w hS => m_indexAddr_vec Try.underlying24 ti39 (hS := hS))) ?_
                    try simp only [opv, n1, n2, n3, n4, Value.cells, Nat.mul_one, Nat.zero_add, Int.toNat_natCast, Int.reduceToNat]
                    first | refine any_go (i := 14) (by rfl) (by decide +kernel) (by decide +kernel) noLate_nil (go_yields w_none (fun w hS => m_fieldAddr Try.underlying39 (hi := ti37))) ?_ | refine any_go (i := 14) (by rfl) (by decide +kernel) (by decide +kernel) noLate_nil (go_yields w_none (fun w hS => m_fieldAddr_rd Try.underlying39 (hi := ti37) (hS := hS))) ?_ | refine any_go (i := 14) (by rfl) (by decide +kernel) (by decide +kernel) noLate_nil (go_yields w_none (fun w hS => m_fieldAddr_vec Try.underlying39 (hi := ti37) (hS := hS))) ?_
                    try simp only [opv, n1, n2, n3, n4, Value.cells, Nat.zero_add, Nat.add_zero, List.getElem_toArray, List.getElem_cons_zero, List.getElem_cons_succ]
                    first | refine any_go (i := 15) (by rfl) (by decide +kernel) (by decide +kernel) noLate_nil (go_yields w_none (fun w hS => m_load_row Try.underlying37 (hi := ti37) (hS := hS) (hfit := by rw [arows_len]; omega))) ?_ | refine any_go (i := 15) (by rfl) (by decide +kernel) (by decide +kernel) noLate_nil (go_yields w_none (fun w hS => m_loada_obj Try.underlying37 (hi := ti37) (hS := hS) (hfit := by rw [arows_len]; omega))) ?_ | refine any_go (i := 15) (by rfl) (by decide +kernel) (by decide +kernel) noLate_nil (go_yields w_none (fun w hS => m_loada_bx Try.underlying37 (hi := ti37) (hS := hS) (hfit := by rw [arows_len]; omega))) ?_ | refine any_go (i := 15) (by rfl) (by decide +kernel) (by decide +kernel) noLate_nil (go_yields w_none (fun w hS => m_loada_rd Try.underlying37 (hi := ti37) (hS := hS) (hfit := by rw [arows_len]; omega))) ?_ | refine any_go (i := 15) (by rfl) (by decide +kernel) (by decide +kernel) noLate_nil (go_yields w_none (fun w hS => m_loada_vec Try.underlying37 (hi := ti37) (hS := hS) (hfit := by rw [arows_len]; omega))) ?_
                    try simp only [opv, n1, n2, n3, n4, Value.cells, List.getElem_toArray, List.getElem_cons_zero, List.getElem_cons_succ]
                    rw [arow_val (by omega) hto, hy]
                    apply any_go (i := 16) (by rfl) (by decide +kernel) (by decide +kernel) noLate_nil (call_yields w_none en118 ?H1) ?K1
                    case H1 =>
                      intro w hS
                      try simp only [opv, n1, n2, n3, n4, List.map_toArray, List.map_cons, List.map_nil, List.append_toArray, List.cons_append, List.nil_append, Array.append_empty]
                      refine CallR.mono (c_ref09More (aval x) (aval y) hvx hvy _) ?_
                      rintro _ w1 ⟨rfl, hE⟩; exact ⟨rfl, hE⟩
                    try simp only [opv, n1, n2, n3, n4, Value.cells]
                    refine any_go (i := 17) (by rfl) (by decide +kernel) (by decide +kernel) noLate_nil (go_yields w_none (fun w hS => s_build_struct (cells := (AA (akey x ++ moreV (aval x) (aval y)))) Try.underlying39 ti39 bp39 (hc := by simp only [List.map_toArray, List.map_cons, List.map_nil, opv, n1, n2, n3, n4, Value.cells, List.toList_toArray]; exact fill_atom (by rfl) (by rfl) (by rfl) hk12 hml))) ?_
                    try simp only [opv, n1, n2, n3, n4, Value.cells]
                    refine any_step [18] (by kernel_rfl) (by decide) (fun w16 hE => ⟨fun _ => (hS.ext hE).sel (by repeat (first | exact Sel.nil | (refine Sel.cons (by repeat (first | exact Del.head | apply Del.tail)) ?_))), ?_⟩)
                    replace hS := hS.ext hE
                    intro i hi
                    simp only [List.mem_cons, List.not_mem_nil, or_false] at hi
                    subst hi
                    ·
                     refine any_op (by rfl) ?_
                     refine m_buildRow (cells := (AA (akey x ++ moreV (aval x) (aval y)))) Try.underlying24 ti39 (hc := by simp only [List.map_toArray, List.map_cons, List.map_nil, opv, n1, n2, n3, n4, Value.cells, List.toList_toArray]; exact fill_one (by rfl) (zi_size21 hzl) (by rfl)) (hS := hS) (h := fun w17 g17 hS => ?_)
                     try simp only [opv, n1, n2, n3, n4, Value.cells, Array.toArray_toList] at hS ⊢
                     replace hS := hS.obj_rd (sz := 21) (n := 1) (by exact zi_size21 hzl) .head
                     rw [arow_one hzl] at hS
                     refine x_nil ?_
                     refine any_step [19] (by kernel_rfl) (by decide) (fun w18 hE => ⟨fun _ => (hS.ext hE).sel (by repeat (first | exact Sel.nil | (refine Sel.cons (by repeat (first | exact Del.head | apply Del.tail)) ?_))), ?_⟩)
                     replace hS := hS.ext hE
                     intro i hi
                     simp only [List.mem_cons, List.not_mem_nil, or_false] at hi
                     subst hi
                     ·
                      refine any_op (by rfl) ?_
                      refine m_append Try.underlying24 ti39 (hS := hS) (h1 := rowsZ_cells _ _) (h := fun w19 A19 C19 hS => ?_)
                      try simp only [← List.map_append, ← List.map_drop, ← List.map_take, Nat.mul_one, Nat.zero_mul, Nat.sub_zero, List.drop_zero, List.nil_append, Nat.zero_add] at hS ⊢
                      try simp only [opv, n1, n2, n3, n4, Value.cells, Array.toArray_toList] at hS ⊢
                      rw [add_one] at hS
                      refine x_nil ?_
                      refine any_go (i := 20) (by rfl) (by decide +kernel) (by decide +kernel) noLate_nil (go_yields w_none (fun w hS => s_assign)) ?_
                      try simp only [opv, n1, n2, n3, n4, Value.cells]
                      refine any_nil (by kernel_rfl) (fun w20 hE => ?_)
                      replace hS := hS.ext hE
                      refine ⟨fun _ => hS.sel (by repeat (first | exact Sel.nil | (refine Sel.cons (by repeat (first | exact Del.head | apply Del.tail)) ?_))), ?_⟩
                      refine mix_leaf (by simp only [clob, List.foldl, n1, n2, n3, n4]) ?_
                      try simp only [n1, n2]
                      exact ⟨_, _, by first | trivial | rfl, hS.sel (by repeat (first | exact Sel.nil | (refine Sel.cons (by repeat (first | exact Del.head | apply Del.tail)) ?_)))⟩
                   intro fm1 w21 hM
                   obtain ⟨C2, e2, h5, hS⟩ := hM
                   simp only [clob, List.foldl, n3, n4, h5]
                   refine hK14 _ _ ?_
                   refine x_seq fun K15 hK15 => ?_
                   refine x_region ?_
                   refine s_go (s_move) ?_
                   try simp only [opv, n1, n2, n3, n4, Value.cells]
                   refine s_go (s_add (hc := by first | exact wr_i64 (by omega) (by omega) | rfl)) ?_
                   try simp only [opv, n1, n2, n3, n4, Value.cells]
                   refine s_go (s_assign) ?_
                   try simp only [opv, n1, n2, n3, n4, Value.cells]
                   refine x_nil ?_
                   refine hK15 _ _ ?_
                   refine x_region ?_
                   refine s_go (s_move) ?_
                   try simp only [opv, n1, n2, n3, n4, Value.cells]
                   refine s_go (s_add (hc := by first | exact wr_i64 (by omega) (by omega) | rfl)) ?_
                   try simp only [opv, n1, n2, n3, n4, Value.cells]
                   refine s_go (s_assign) ?_
                   try simp only [opv, n1, n2, n3, n4, Value.cells]
                   refine x_nil ?_
                   refine loop_back (m' := m1 - 1) (by simp only [clob, List.foldl, n1, n2, n3, n4]) ?_ ?_
                   · try simp only [opv, n1, n2, n3, n4, Value.cells]
                     exact ⟨_, _, _, _, _, by omega, by omega, by omega, by rfl, by rfl, by simp only [List.length_append, List.length_cons, List.length_nil, Nat.zero_add]; rfl, hnx, by simp only [List.length_append, List.length_cons, List.length_nil, Nat.zero_add]; omega, by simp only [List.length_append, List.length_cons, List.length_nil, Nat.zero_add]; exact hS.sel (by repeat (first | exact Sel.nil | (refine Sel.cons (by repeat (first | exact Del.head | apply Del.tail)) ?_)))⟩
                   · omega
       ·
        try simp only [n3, n4]
        try simp only [decide_eq_true_eq, decide_eq_false_iff_not, Bool.not_eq_true', Bool.not_eq_false', Int.not_lt, Int.not_le, ne_eq, Decidable.not_not] at hp3
        first
        | (exfalso; omega)
        | skip
          have hmg := mg_r (s := s) (t := t) (i := i) (k := k) (by omega) hy (.inl (by omega))
          have hnx : (o ++ [y]) ++ mergeP (s.drop i) (t.drop (k + 1)) = mergeP s t := by rw [← hmo, hmg, List.append_assoc]; rfl
          refine q_off (yi (t := 56) rfl rfl) ?_
          try simp only [opv, n1, n2, n3, n4, Value.cells]
          refine q_off (yi (t := 56) rfl rfl) ?_
          try simp only [opv, n1, n2, n3, n4, Value.cells]
          refine q_off (yi (t := 56) rfl rfl) ?_
          try simp only [opv, n1, n2, n3, n4, Value.cells]
          refine q_off (yi (t := 56) rfl rfl) ?_
          try simp only [opv, n1, n2, n3, n4, Value.cells]
          refine q_off (yi (t := 56) rfl rfl) ?_
          try simp only [opv, n1, n2, n3, n4, Value.cells]
          refine q_off (yi (t := 56) rfl rfl) ?_
          try simp only [opv, n1, n2, n3, n4, Value.cells]
          refine q_off (yi (t := 56) rfl rfl) ?_
          try simp only [opv, n1, n2, n3, n4, Value.cells]
          refine q_off (yi (t := 56) rfl rfl) ?_
          try simp only [opv, n1, n2, n3, n4, Value.cells]
          refine q_off (yi (t := 56) rfl rfl) ?_
          try simp only [opv, n1, n2, n3, n4, Value.cells]
          refine q_off (yi (t := 56) rfl rfl) ?_
          try simp only [opv, n1, n2, n3, n4, Value.cells]
          refine q_off (yi (t := 56) rfl rfl) ?_
          try simp only [opv, n1, n2, n3, n4, Value.cells]
          refine q_on (yi (t := 51) rfl rfl) ?_
          first | refine q_go (fun w hS => s_pick_t) ?_ | refine q_go (fun w hS => s_pick_f) ?_
          try simp only [opv, n1, n2, n3, n4, Value.cells]
          first | refine q_go (fun w hS => s_pick_t) ?_ | refine q_go (fun w hS => s_pick_f) ?_
          try simp only [opv, n1, n2, n3, n4, Value.cells]
          refine q_go (fun w hS => s_assign) ?_
          try simp only [opv, n1, n2, n3, n4, Value.cells]
          clear hS
          refine q_nil fun w22 hS => ?_
          refine hK8 _ _ ?_
          refine x_cond_f (h := ?_)
          try have hl1 := @c
          refine x_seq fun K16 hK16 => ?_
          refine x_quiet (by kernel_rfl) (by kernel_rfl) hS ?_
          refine q_go (fun w hS => s_move) ?_
          try simp only [opv, n1, n2, n3, n4, Value.cells]
          refine q_go (fun w hS => s_move) ?_
          try simp only [opv, n1, n2, n3, n4, Value.cells]
          refine q_go (fun w hS => s_len_sl Try.underlying24) ?_
          try simp only [opv, n1, n2, n3, n4, Value.cells]
          refine q_go (fun w hS => s_eql) ?_
          try simp only [opv, n1, n2, n3, n4, Value.cells]
          refine q_go (fun w hS => s_move) ?_
          try simp only [opv, n1, n2, n3, n4, Value.cells]
          refine q_part 84 rfl (fun hp5 => ?_) (fun hp5 => ?_)
          ·
           try simp only [n3, n4]
           try simp only [decide_eq_true_eq, decide_eq_false_iff_not, Bool.not_eq_true', Bool.not_eq_false', Int.not_lt, Int.not_le, ne_eq, Decidable.not_not] at hp5
           first
           | (exfalso; omega)
           | skip
             refine q_off (yi (t := 84) rfl rfl) ?_
             try simp only [opv, n1, n2, n3, n4, Value.cells]
             refine q_off (yi (t := 84) rfl rfl) ?_
             try simp only [opv, n1, n2, n3, n4, Value.cells]
             refine q_off (yi (t := 84) rfl rfl) ?_
             try simp only [opv, n1, n2, n3, n4, Value.cells]
             refine q_off (yi (t := 84) rfl rfl) ?_
             try simp only [opv, n1, n2, n3, n4, Value.cells]
             refine q_off (yi (t := 84) rfl rfl) ?_
             try simp only [opv, n1, n2, n3, n4, Value.cells]
             refine q_off (yi (t := 84) rfl rfl) ?_
             try simp only [opv, n1, n2, n3, n4, Value.cells]
             refine q_off (yi (t := 84) rfl rfl) ?_
             try simp only [opv, n1, n2, n3, n4, Value.cells]
             refine q_off (yi (t := 84) rfl rfl) ?_
             try simp only [opv, n1, n2, n3, n4, Value.cells]
             refine q_off (yi (t := 84) rfl rfl) ?_
             try simp only [opv, n1, n2, n3, n4, Value.cells]
             refine q_off (yi (t := 84) rfl rfl) ?_
             try simp only [opv, n1, n2, n3, n4, Value.cells]
             refine q_off (yi (t := 84) rfl rfl) ?_
             try simp only [opv, n1, n2, n3, n4, Value.cells]
             first | refine q_go (fun w hS => s_pick_t) ?_ | refine q_go (fun w hS => s_pick_f) ?_
             try simp only [opv, n1, n2, n3, n4, Value.cells]
             refine q_go (fun w hS => s_assign) ?_
             try simp only [opv, n1, n2, n3, n4, Value.cells]
             clear hS
             refine q_nil fun w23 hS => ?_
             refine hK16 _ _ ?_
             refine x_cond_t (h := ?_)
             try (have hmg := mg_r (s := s) (t := t) (i := i) (k := k) (by omega) hy (.inr ⟨by omega, by rw [hx]; exact hl1, by rw [hx]; exact @c⟩))
             have hnx : (o ++ [y]) ++ mergeP (s.drop i) (t.drop (k + 1)) = mergeP s t := by rw [← hmo, hmg, List.append_assoc]; rfl
             refine x_seq fun K17 hK17 => ?_
             refine x_region ?_
             refine s_go (s_move) ?_
             try simp only [opv, n1, n2, n3, n4, Value.cells]
             refine s_go (s_move) ?_
             try simp only [opv, n1, n2, n3, n4, Value.cells]
             refine s_go (s_move) ?_
             try simp only [opv, n1, n2, n3, n4, Value.cells]
             first | refine s_go (m_indexAddr_rd Try.underlying24 ti39 (hS := hS)) ?_ | refine s_go (m_indexAddr_vec Try.underlying24 ti39 (hS := hS)) ?_
             try simp only [opv, n1, n2, n3, n4, Value.cells, Nat.mul_one, Nat.zero_add, Int.toNat_natCast, Int.reduceToNat]
             first | refine s_go (m_load_row Try.underlying39 (hi := ti39) (hS := hS) (hfit := by rw [arows_len]; omega)) ?_ | refine s_go (m_loada_obj Try.underlying39 (hi := ti39) (hS := hS) (hfit := by rw [arows_len]; omega)) ?_ | refine s_go (m_loada_bx Try.underlying39 (hi := ti39) (hS := hS) (hfit := by rw [arows_len]; omega)) ?_ | refine s_go (m_loada_rd Try.underlying39 (hi := ti39) (hS := hS) (hfit := by rw [arows_len]; omega)) ?_ | refine s_go (m_loada_vec Try.underlying39 (hi := ti39) (hS := hS) (hfit := by rw [arows_len]; omega)) ?_
             try simp only [opv, n1, n2, n3, n4, Value.cells, List.getElem_toArray, List.getElem_cons_zero, List.getElem_cons_succ]
             rw [arow_get (by omega) hto, hy]
             refine m_buildRow (cells := (AA y)) Try.underlying24 ti39 (hc := by simp only [List.map_toArray, List.map_cons, List.map_nil, opv, n1, n2, n3, n4, Value.cells, List.toList_toArray]; exact fill_one (by rfl) (zi_size21 hyl) (by rfl)) (hS := hS) (h := fun w24 g24 hS => ?_)
             try simp only [opv, n1, n2, n3, n4, Value.cells, Array.toArray_toList] at hS ⊢
             replace hS := hS.obj_rd (sz := 21) (n := 1) (by exact zi_size21 hyl) .head
             rw [arow_one hyl] at hS
             refine m_append Try.underlying24 ti39 (hS := hS) (h1 := rowsZ_cells _ _) (h := fun w25 A25 C25 hS => ?_)
             try simp only [← List.map_append, ← List.map_drop, ← List.map_take, Nat.mul_one, Nat.zero_mul, Nat.sub_zero, List.drop_zero, List.nil_append, Nat.zero_add] at hS ⊢
             try simp only [opv, n1, n2, n3, n4, Value.cells, Array.toArray_toList] at hS ⊢
             rw [add_one] at hS
             refine s_go (s_assign) ?_
             try simp only [opv, n1, n2, n3, n4, Value.cells]
             refine x_nil ?_
             refine hK17 _ _ ?_
             refine x_region ?_
             refine s_go (s_move) ?_
             try simp only [opv, n1, n2, n3, n4, Value.cells]
             refine s_go (s_add (hc := by first | exact wr_i64 (by omega) (by omega) | rfl)) ?_
             try simp only [opv, n1, n2, n3, n4, Value.cells]
             refine s_go (s_assign) ?_
             try simp only [opv, n1, n2, n3, n4, Value.cells]
             refine x_nil ?_
             refine loop_back (m' := m1 - 1) (by simp only [clob, List.foldl, n1, n2, n3, n4]) ?_ ?_
             · try simp only [opv, n1, n2, n3, n4, Value.cells]
               exact ⟨_, _, _, _, _, by omega, by omega, by omega, by rfl, by rfl, by simp only [List.length_append, List.length_cons, List.length_nil, Nat.zero_add]; rfl, hnx, by simp only [List.length_append, List.length_cons, List.length_nil, Nat.zero_add]; omega, by simp only [List.length_append, List.length_cons, List.length_nil, Nat.zero_add]; exact hS.sel (by repeat (first | exact Sel.nil | (refine Sel.cons (by repeat (first | exact Del.head | apply Del.tail)) ?_)))⟩
             · omega
          ·
           try simp only [n3, n4]
           try simp only [decide_eq_true_eq, decide_eq_false_iff_not, Bool.not_eq_true', Bool.not_eq_false', Int.not_lt, Int.not_le, ne_eq, Decidable.not_not] at hp5
           first
           | (exfalso; omega)
           | skip
             refine q_on (yi (t := 84) rfl rfl) ?_
             refine q_go (fun w hS => s_move) ?_
             try simp only [opv, n1, n2, n3, n4, Value.cells]
             refine q_on (yi (t := 84) rfl rfl) ?_
             refine q_go (fun w hS => s_move) ?_
             try simp only [opv, n1, n2, n3, n4, Value.cells]
             refine q_on (yi (t := 84) rfl rfl) ?_
             first | refine q_go (fun w hS => m_indexAddr_rd Try.underlying24 ti39 (hS := hS)) ?_ | refine q_go (fun w hS => m_indexAddr_vec Try.underlying24 ti39 (hS := hS)) ?_
             try simp only [opv, n1, n2, n3, n4, Value.cells, Nat.mul_one, Nat.zero_add, Int.toNat_natCast, Int.reduceToNat]
             refine q_on (yi (t := 84) rfl rfl) ?_
             first | refine q_go (fun w hS => m_fieldAddr Try.underlying39 (hi := ti34)) ?_ | refine q_go (fun w hS => m_fieldAddr_rd Try.underlying39 (hi := ti34) (hS := hS)) ?_ | refine q_go (fun w hS => m_fieldAddr_vec Try.underlying39 (hi := ti34) (hS := hS)) ?_
             try simp only [opv, n1, n2, n3, n4, Value.cells, Nat.zero_add, Nat.add_zero, List.getElem_toArray, List.getElem_cons_zero, List.getElem_cons_succ]
             refine q_on (yi (t := 84) rfl rfl) ?_
             first | refine q_go (fun w hS => m_load_row Try.underlying34 (hi := ti34) (hS := hS) (hfit := by rw [arows_len]; omega)) ?_ | refine q_go (fun w hS => m_loada_obj Try.underlying34 (hi := ti34) (hS := hS) (hfit := by rw [arows_len]; omega)) ?_ | refine q_go (fun w hS => m_loada_bx Try.underlying34 (hi := ti34) (hS := hS) (hfit := by rw [arows_len]; omega)) ?_ | refine q_go (fun w hS => m_loada_rd Try.underlying34 (hi := ti34) (hS := hS) (hfit := by rw [arows_len]; omega)) ?_ | refine q_go (fun w hS => m_loada_vec Try.underlying34 (hi := ti34) (hS := hS) (hfit := by rw [arows_len]; omega)) ?_
             try simp only [opv, n1, n2, n3, n4, Value.cells, List.getElem_toArray, List.getElem_cons_zero, List.getElem_cons_succ]
             rw [arow_key (by omega) hto, hy]
             refine q_on (yi (t := 84) rfl rfl) ?_
             refine q_go (fun w hS => s_move) ?_
             try simp only [opv, n1, n2, n3, n4, Value.cells]
             refine q_on (yi (t := 84) rfl rfl) ?_
             refine q_go (fun w hS => s_move) ?_
             try simp only [opv, n1, n2, n3, n4, Value.cells]
             refine q_on (yi (t := 84) rfl rfl) ?_
             first | refine q_go (fun w hS => m_indexAddr_rd Try.underlying24 ti39 (hS := hS)) ?_ | refine q_go (fun w hS => m_indexAddr_vec Try.underlying24 ti39 (hS := hS)) ?_
             try simp only [opv, n1, n2, n3, n4, Value.cells, Nat.mul_one, Nat.zero_add, Int.toNat_natCast, Int.reduceToNat]
             refine q_on (yi (t := 84) rfl rfl) ?_
             first | refine q_go (fun w hS => m_fieldAddr Try.underlying39 (hi := ti34)) ?_ | refine q_go (fun w hS => m_fieldAddr_rd Try.underlying39 (hi := ti34) (hS := hS)) ?_ | refine q_go (fun w hS => m_fieldAddr_vec Try.underlying39 (hi := ti34) (hS := hS)) ?_
             try simp only [opv, n1, n2, n3, n4, Value.cells, Nat.zero_add, Nat.add_zero, List.getElem_toArray, List.getElem_cons_zero, List.getElem_cons_succ]
             refine q_on (yi (t := 84) rfl rfl) ?_
             first | refine q_go (fun w hS => m_load_row Try.underlying34 (hi := ti34) (hS := hS) (hfit := by rw [arows_len]; omega)) ?_ | refine q_go (fun w hS => m_loada_obj Try.underlying34 (hi := ti34) (hS := hS) (hfit := by rw [arows_len]; omega)) ?_ | refine q_go (fun w hS => m_loada_bx Try.underlying34 (hi := ti34) (hS := hS) (hfit := by rw [arows_len]; omega)) ?_ | refine q_go (fun w hS => m_loada_rd Try.underlying34 (hi := ti34) (hS := hS) (hfit := by rw [arows_len]; omega)) ?_ | refine q_go (fun w hS => m_loada_vec Try.underlying34 (hi := ti34) (hS := hS) (hfit := by rw [arows_len]; omega)) ?_
             try simp only [opv, n1, n2, n3, n4, Value.cells, List.getElem_toArray, List.getElem_cons_zero, List.getElem_cons_succ]
             rw [arow_key (by omega) hso, hx]
             refine q_on (yi (t := 84) rfl rfl) ?_
             apply q_call en116
             case H =>
               intro w hS
               try simp only [opv, n1, n2, n3, n4, List.map_toArray, List.map_cons, List.map_nil, List.append_toArray, List.cons_append, List.nil_append, Array.append_empty]
               refine CallR.mono (c_ref08Less (akey y) (akey x) hky hkx _) ?_
               rintro _ w1 ⟨rfl, hE⟩; exact ⟨rfl, hS.ext hE⟩
             try simp only [opv, n1, n2, n3, n4, Value.cells]
             first | refine q_go (fun w hS => s_pick_t) ?_ | refine q_go (fun w hS => s_pick_f) ?_
             try simp only [opv, n1, n2, n3, n4, Value.cells]
             refine q_go (fun w hS => s_assign) ?_
             try simp only [opv, n1, n2, n3, n4, Value.cells]
             clear hS
             refine q_nil fun w26 hS => ?_
             refine hK16 _ _ ?_
             refine x_cond (ht := fun hc8 => ?_) (hf := fun hc8 => ?_)
             ·
              try simp only [decide_eq_true_eq, decide_eq_false_iff_not, Bool.not_eq_true', Bool.not_eq_false', Int.not_lt, Int.not_le, ne_eq, Decidable.not_not, bne_iff_ne, beq_iff_eq, not_true_eq_false, not_false_eq_true] at hc8
              first
              | (exfalso; omega)
              | skip
                try (have hmg := mg_r (s := s) (t := t) (i := i) (k := k) (by omega) hy (.inr ⟨by omega, by rw [hx]; exact hl1, by rw [hx]; exact hc8⟩))
                have hnx : (o ++ [y]) ++ mergeP (s.drop i) (t.drop (k + 1)) = mergeP s t := by rw [← hmo, hmg, List.append_assoc]; rfl
                refine x_seq fun K18 hK18 => ?_
                refine x_region ?_
                refine s_go (s_move) ?_
                try simp only [opv, n1, n2, n3, n4, Value.cells]
                refine s_go (s_move) ?_
                try simp only [opv, n1, n2, n3, n4, Value.cells]
                refine s_go (s_move) ?_
                try simp only [opv, n1, n2, n3, n4, Value.cells]
                first | refine s_go (m_indexAddr_rd Try.underlying24 ti39 (hS := hS)) ?_ | refine s_go (m_indexAddr_vec Try.underlying24 ti39 (hS := hS)) ?_
                try simp only [opv, n1, n2, n3, n4, Value.cells, Nat.mul_one, Nat.zero_add, Int.toNat_natCast, Int.reduceToNat]
                first | refine s_go (m_load_row Try.underlying39 (hi := ti39) (hS := hS) (hfit := by rw [arows_len]; omega)) ?_ | refine s_go (m_loada_obj Try.underlying39 (hi := ti39) (hS := hS) (hfit := by rw [arows_len]; omega)) ?_ | refine s_go (m_loada_bx Try.underlying39 (hi := ti39) (hS := hS) (hfit := by rw [arows_len]; omega)) ?_ | refine s_go (m_loada_rd Try.underlying39 (hi := ti39) (hS := hS) (hfit := by rw [arows_len]; omega)) ?_ | refine s_go (m_loada_vec Try.underlying39 (hi := ti39) (hS := hS) (hfit := by rw [arows_len]; omega)) ?_
                try simp only [opv, n1, n2, n3, n4, Value.cells, List.getElem_toArray, List.getElem_cons_zero, List.getElem_cons_succ]
                rw [arow_get (by omega) hto, hy]
                refine m_buildRow (cells := (AA y)) Try.underlying24 ti39 (hc := by simp only [List.map_toArray, List.map_cons, List.map_nil, opv, n1, n2, n3, n4, Value.cells, List.toList_toArray]; exact fill_one (by rfl) (zi_size21 hyl) (by rfl)) (hS := hS) (h := fun w27 g27 hS => ?_)
                try simp only [opv, n1, n2, n3, n4, Value.cells, Array.toArray_toList] at hS ⊢
                replace hS := hS.obj_rd (sz := 21) (n := 1) (by exact zi_size21 hyl) .head
                rw [arow_one hyl] at hS
                refine m_append Try.underlying24 ti39 (hS := hS) (h1 := rowsZ_cells _ _) (h := fun w28 A28 C28 hS => ?_)
                try simp only [← List.map_append, ← List.map_drop, ← List.map_take, Nat.mul_one, Nat.zero_mul, Nat.sub_zero, List.drop_zero, List.nil_append, Nat.zero_add] at hS ⊢
                try simp only [opv, n1, n2, n3, n4, Value.cells, Array.toArray_toList] at hS ⊢
                rw [add_one] at hS
                refine s_go (s_assign) ?_
                try simp only [opv, n1, n2, n3, n4, Value.cells]
                refine x_nil ?_
                refine hK18 _ _ ?_
                refine x_region ?_
                refine s_go (s_move) ?_
                try simp only [opv, n1, n2, n3, n4, Value.cells]
                refine s_go (s_add (hc := by first | exact wr_i64 (by omega) (by omega) | rfl)) ?_
                try simp only [opv, n1, n2, n3, n4, Value.cells]
                refine s_go (s_assign) ?_
                try simp only [opv, n1, n2, n3, n4, Value.cells]
                refine x_nil ?_
                refine loop_back (m' := m1 - 1) (by simp only [clob, List.foldl, n1, n2, n3, n4]) ?_ ?_
                · try simp only [opv, n1, n2, n3, n4, Value.cells]
                  exact ⟨_, _, _, _, _, by omega, by omega, by omega, by rfl, by rfl, by simp only [List.length_append, List.length_cons, List.length_nil, Nat.zero_add]; rfl, hnx, by simp only [List.length_append, List.length_cons, List.length_nil, Nat.zero_add]; omega, by simp only [List.length_append, List.length_cons, List.length_nil, Nat.zero_add]; exact hS.sel (by repeat (first | exact Sel.nil | (refine Sel.cons (by repeat (first | exact Del.head | apply Del.tail)) ?_)))⟩
                · omega
             ·
              try simp only [decide_eq_true_eq, decide_eq_false_iff_not, Bool.not_eq_true', Bool.not_eq_false', Int.not_lt, Int.not_le, ne_eq, Decidable.not_not, bne_iff_ne, beq_iff_eq, not_true_eq_false, not_false_eq_true] at hc8
              first
              | (exfalso; omega)
              | skip
                have hmg := mg_e (s := s) (t := t) (i := i) (k := k) (by omega) hx (by omega) hy hl1 hc8
                have hnx : (o ++ [(akey x ++ moreV (aval x) (aval y))]) ++ mergeP (s.drop (i + 1)) (t.drop (k + 1)) = mergeP s t := by rw [← hmo, hmg, List.append_assoc]; rfl
                have hmo9 := more_ok hvx hvy
                have hml := hmo9.len
                have hk12 := hkx.len
                have hzl : (akey x ++ moreV (aval x) (aval y)).length = 21 := (kv_ok hkx hmo9).len
                refine x_seq fun K19 hK19 => ?_
                refine x_mixed_c (Lc := [.rd B2 21 (t).length (arows (t)), .rd B1 21 (s).length (arows (s))]) [] 0 [5, 22, 23, 24, 25, 26, 27, 28, 29, 30, 31, 32, 33, 34, 35, 36, 37, 38, 39, 40, 41] (fun f w => ∃ (C2 : Option Addr) (e2 : Nat), f 5 = .slice C2 (o.length + 1) e2 ∧ St NoB w0 w [.vec C2 e2 39 21 (o.length + 1) (arows (o ++ [(akey x ++ moreV (aval x) (aval y))])), .rd B2 21 (t).length (arows (t)), .rd B1 21 (s).length (arows (s))]) (by kernel_rfl) (by kernel_rfl) (by kernel_rfl) (by decide) hS (fun w29 hS => ?mixpre502) ?mixrest502
                case mixpre502 =>
                 refine p_nil ?_
                 simp only [List.length_cons, List.length_nil, Nat.reduceAdd, Nat.reduceSub]
                 refine any_go (i := 0) (by rfl) (by decide +kernel) (by decide +kernel) noLate_nil (go_yields w_none (fun w hS => s_move)) ?_
                 try simp only [opv, n1, n2, n3, n4, Value.cells]
                 refine any_go (i := 1) (by rfl) (by decide +kernel) (by decide +kernel) noLate_nil (go_yields w_none (fun w hS => s_move)) ?_
                 try simp only [opv, n1, n2, n3, n4, Value.cells]
                 refine any_go (i := 2) (by rfl) (by decide +kernel) (by decide +kernel) noLate_nil (go_yields w_none (fun w hS => s_move)) ?_
                 try simp only [opv, n1, n2, n3, n4, Value.cells]
                 first | refine any_go (i := 3) (by rfl) (by decide +kernel) (by decide +kernel) noLate_nil (go_yields w_none (fun w hS => m_indexAddr_rd Try.underlying24 ti39 (hS := hS))) ?_ | refine any_go (i := 3) (by rfl) (by decide +kernel) (by decide +kernel) noLate_nil (go_yields w_none (fun w hS => m_indexAddr_vec Try.underlying24 ti39 (hS := hS))) ?_
                 try simp only [opv, n1, n2, n3, n4, Value.cells, Nat.mul_one, Nat.zero_add, Int.toNat_natCast, Int.reduceToNat]
                 first | refine any_go (i := 4) (by rfl) (by decide +kernel) (by decide +kernel) noLate_nil (go_yields w_none (fun w hS => m_fieldAddr Try.underlying39 (hi := ti34))) ?_ | refine any_go (i := 4) (by rfl) (by decide +kernel) (by decide +kernel) noLate_nil (go_yields w_none (fun w hS => m_fieldAddr_rd Try.underlying39 (hi := ti34) (hS := hS))) ?_ | refine any_go (i := 4) (by rfl) (by decide +kernel) (by decide +kernel) noLate_nil (go_yields w_none (fun w hS => m_fieldAddr_vec Try.underlying39 (hi := ti34) (hS := hS))) ?_
                 try simp only [opv, n1, n2, n3, n4, Value.cells, Nat.zero_add, Nat.add_zero, List.getElem_toArray, List.getElem_cons_zero, List.getElem_cons_succ]
                 first | refine any_go (i := 5) (by rfl) (by decide +kernel) (by decide +kernel) noLate_nil (go_yields w_none (fun w hS => m_load_row Try.underlying34 (hi := ti34) (hS := hS) (hfit := by rw [arows_len]; omega))) ?_ | refine any_go (i := 5) (by rfl) (by decide +kernel) (by decide +kernel) noLate_nil (go_yields w_none (fun w hS => m_loada_obj Try.underlying34 (hi := ti34) (hS := hS) (hfit := by rw [arows_len]; omega))) ?_ | refine any_go (i := 5) (by rfl) (by decide +kernel) (by decide +kernel) noLate_nil (go_yields w_none (fun w hS => m_loada_bx Try.underlying34 (hi := ti34) (hS := hS) (hfit := by rw [arows_len]; omega))) ?_ | refine any_go (i := 5) (by rfl) (by decide +kernel) (by decide +kernel) noLate_nil (go_yields w_none (fun w hS => m_loada_rd Try.underlying34 (hi := ti34) (hS := hS) (hfit := by rw [arows_len]; omega))) ?_ | refine any_go (i := 5) (by rfl) (by decide +kernel) (by decide +kernel) noLate_nil (go_yields w_none (fun w hS => m_loada_vec Try.underlying34 (hi := ti34) (hS := hS) (hfit := by rw [arows_len]; omega))) ?_
                 try simp only [opv, n1, n2, n3, n4, Value.cells, List.getElem_toArray, List.getElem_cons_zero, List.getElem_cons_succ]
                 rw [arow_key (by omega) hso, hx]
                 refine any_go (i := 6) (by rfl) (by decide +kernel) (by decide +kernel) noLate_nil (go_yields w_none (fun w hS => s_move)) ?_
                 try simp only [opv, n1, n2, n3, n4, Value.cells]
                 refine any_go (i := 7) (by rfl) (by decide +kernel) (by decide +kernel) noLate_nil (go_yields w_none (fun w hS => s_move)) ?_
                 try simp only [opv, n1, n2, n3, n4, Value.cells]
                 first | refine any_go (i := 8) (by rfl) (by decide +kernel) (by decide +kernel) noLate_nil (go_yields w_none (fun w hS => m_indexAddr_rd Try.underlying24 ti39 (hS := hS))) ?_ | refine any_go (i := 8) (by rfl) (by decide +kernel) (by decide +kernel) noLate_nil (go_yields w_none (fun w hS => m_indexAddr_vec Try.underlying24 ti39 (hS := hS))) ?_
                 try simp only [opv, n1, n2, n3, n4, Value.cells, Nat.mul_one, Nat.zero_add, Int.toNat_natCast, Int.reduceToNat]
                 first | refine any_go (i := 9) (by rfl) (by decide +kernel) (by decide +kernel) noLate_nil (go_yields w_none (fun w hS => m_fieldAddr Try.underlying39 (hi := ti37))) ?_ | refine any_go (i := 9) (by rfl) (by decide +kernel) (by decide +kernel) noLate_nil (go_yields w_none (fun w hS => m_fieldAddr_rd Try.underlying39 (hi := ti37) (hS := hS))) ?_ | refine any_go (i := 9) (by rfl) (by decide +kernel) (by decide +kernel) noLate_nil (go_yields w_none (fun w hS => m_fieldAddr_vec Try.underlying39 (hi := ti37) (hS := hS))) ?_
                 try simp only [opv, n1, n2, n3, n4, Value.cells, Nat.zero_add, Nat.add_zero, List.getElem_toArray, List.getElem_cons_zero, List.getElem_cons_succ]
                 first | refine any_go (i := 10) (by rfl) (by decide +kernel) (by decide +kernel) noLate_nil (go_yields w_none (fun w hS => m_load_row Try.underlying37 (hi := ti37) (hS := hS) (hfit := by rw [arows_len]; omega))) ?_ | refine any_go (i := 10) (by rfl) (by decide +kernel) (by decide +kernel) noLate_nil (go_yields w_none (fun w hS => m_loada_obj Try.underlying37 (hi := ti37) (hS := hS) (hfit := by rw [arows_len]; omega))) ?_ | refine any_go (i := 10) (by rfl) (by decide +kernel) (by decide +kernel) noLate_nil (go_yields w_none (fun w hS => m_loada_bx Try.underlying37 (hi := ti37) (hS := hS) (hfit := by rw [arows_len]; omega))) ?_ | refine any_go (i := 10) (by rfl) (by decide +kernel) (by decide +kernel) noLate_nil (go_yields w_none (fun w hS => m_loada_rd Try.underlying37 (hi := ti37) (hS := hS) (hfit := by rw [arows_len]; omega))) ?_ | refine any_go (i := 10) (by rfl) (by decide +kernel) (by decide +kernel) noLate_nil (go_yields w_none (fun w hS => m_loada_vec Try.underlying37 (hi := ti37) (hS := hS) (hfit := by rw [arows_len]; omega))) ?_
                 try simp only [opv, n1, n2, n3, n4, Value.cells, List.getElem_toArray, List.getElem_cons_zero, List.getElem_cons_succ]
                 rw [arow_val (by omega) hso, hx]
                 refine any_go (i := 11) (by rfl) (by decide +kernel) (by decide +kernel) noLate_nil (go_yields w_none (fun w hS => s_move)) ?_
                 try simp only [opv, n1, n2, n3, n4, Value.cells]
                 refine any_go (i := 12) (by rfl) (by decide +kernel) (by decide +kernel) noLate_nil (go_yields w_none (fun w hS => s_move)) ?_
                 try simp only [opv, n1, n2, n3, n4, Value.cells]
                 first | refine any_go (i := 13) (by rfl) (by decide +kernel) (by decide +kernel) noLate_nil (go_yields w_none (fun w hS => m_indexAddr_rd Try.underlying24 ti39 (hS := hS))) ?_ | refine any_go (i := 13) (by rfl) (by decide +kernel) (by decide +kernel) noLate_nil (go_yields w_none (fun w hS => m_indexAddr_vec Try.underlying24 ti39 (hS := hS))) ?_
                 try simp only [opv, n1, n2, n3, n4, Value.cells, Nat.mul_one, Nat.zero_add, Int.toNat_natCast, Int.reduceToNat]
                 first | refine any_go (i := 14) (by rfl) (by decide +kernel) (by decide +kernel) noLate_nil (go_yields w_none (fun w hS => m_fieldAddr Try.underlying39 (hi := ti37))) ?_ | refine any_go (i := 14) (by rfl) (by decide +kernel) (by decide +kernel) noLate_nil (go_yields w_none (fun w hS => m_fieldAddr_rd Try.underlying39 (hi := ti37) (hS := hS))) ?_ | refine any_go (i := 14) (by rfl) (by decide +kernel) (by decide +kernel) noLate_nil (go_yields w_none (fun w hS => m_fieldAddr_vec Try.underlying39 (hi := ti37) (hS := hS))) ?_
                 try simp only [opv, n1, n2, n3, n4, Value.cells, Nat.zero_add, Nat.add_zero, List.getElem_toArray, List.getElem_cons_zero, List.getElem_cons_succ]
                 first | refine any_go (i := 15) (by rfl) (by decide +kernel) (by decide +kernel) noLate_nil (go_yields w_none (fun w hS => m_load_row Try.underlying37 (hi := ti37) (hS := hS) (hfit := by rw [arows_len]; omega))) ?_ | refine any_go (i := 15) (by rfl) (by decide +kernel) (by decide +kernel) noLate_nil (go_yields w_none (fun w hS => m_loada_obj Try.underlying37 (hi := ti37) (hS := hS) (hfit := by rw [arows_len]; omega))) ?_ | refine any_go (i := 15) (by rfl) (by decide +kernel) (by decide +kernel) noLate_nil (go_yields w_none (fun w hS => m_loada_bx Try.underlying37 (hi := ti37) (hS := hS) (hfit := by rw [arows_len]; omega))) ?_ | refine any_go (i := 15) (by rfl) (by decide +kernel) (by decide +kernel) noLate_nil (go_yields w_none (fun w hS => m_loada_rd Try.underlying37 (hi := ti37) (hS := hS) (hfit := by rw [arows_len]; omega))) ?_ | refine any_go (i := 15) (by rfl) (by decide +kernel) (by decide +kernel) noLate_nil (go_yields w_none (fun w hS => m_loada_vec Try.underlying37 (hi := ti37) (hS := hS) (hfit := by rw [arows_len]; omega))) ?_
                 try simp only [opv, n1, n2, n3, n4, Value.cells, List.getElem_toArray, List.getElem_cons_zero, List.getElem_cons_succ]
                 rw [arow_val (by omega) hto, hy]
                 apply any_go (i := 16) (by rfl) (by decide +kernel) (by decide +kernel) noLate_nil (call_yields w_none en118 ?H2) ?K2
                 case H2 =>
                   intro w hS
                   try simp only [opv, n1, n2, n3, n4, List.map_toArray, List.map_cons, List.map_nil, List.append_toArray, List.cons_append, List.nil_append, Array.append_empty]
                   refine CallR.mono (c_ref09More (aval x) (aval y) hvx hvy _) ?_
                   rintro _ w1 ⟨rfl, hE⟩; exact ⟨rfl, hE⟩
                 try simp only [opv, n1, n2, n3, n4, Value.cells]
                 refine any_go (i := 17) (by rfl) (by decide +kernel) (by decide +kernel) noLate_nil (go_yields w_none (fun w hS => s_build_struct (cells := (AA (akey x ++ moreV (aval x) (aval y)))) Try.underlying39 ti39 bp39 (hc := by simp only [List.map_toArray, List.map_cons, List.map_nil, opv, n1, n2, n3, n4, Value.cells, List.toList_toArray]; exact fill_atom (by rfl) (by rfl) (by rfl) hk12 hml))) ?_
                 try simp only [opv, n1, n2, n3, n4, Value.cells]
                 refine any_step [18] (by kernel_rfl) (by decide) (fun w30 hE => ⟨fun _ => (hS.ext hE).sel (by repeat (first | exact Sel.nil | (refine Sel.cons (by repeat (first | exact Del.head | apply Del.tail)) ?_))), ?_⟩)
                 replace hS := hS.ext hE
                 intro i hi
                 simp only [List.mem_cons, List.not_mem_nil, or_false] at hi
                 subst hi
                 ·
                  refine any_op (by rfl) ?_
                  refine m_buildRow (cells := (AA (akey x ++ moreV (aval x) (aval y)))) Try.underlying24 ti39 (hc := by simp only [List.map_toArray, List.map_cons, List.map_nil, opv, n1, n2, n3, n4, Value.cells, List.toList_toArray]; exact fill_one (by rfl) (zi_size21 hzl) (by rfl)) (hS := hS) (h := fun w31 g31 hS => ?_)
                  try simp only [opv, n1, n2, n3, n4, Value.cells, Array.toArray_toList] at hS ⊢
                  replace hS := hS.obj_rd (sz := 21) (n := 1) (by exact zi_size21 hzl) .head
                  rw [arow_one hzl] at hS
                  refine x_nil ?_
                  refine any_step [19] (by kernel_rfl) (by decide) (fun w32 hE => ⟨fun _ => (hS.ext hE).sel (by repeat (first | exact Sel.nil | (refine Sel.cons (by repeat (first | exact Del.head | apply Del.tail)) ?_))), ?_⟩)
                  replace hS := hS.ext hE
                  intro i hi
                  simp only [List.mem_cons, List.not_mem_nil, or_false] at hi
                  subst hi
                  ·
                   refine any_op (by rfl) ?_
                   refine m_append Try.underlying24 ti39 (hS := hS) (h1 := rowsZ_cells _ _) (h := fun w33 A33 C33 hS => ?_)
                   try simp only [← List.map_append, ← List.map_drop, ← List.map_take, Nat.mul_one, Nat.zero_mul, Nat.sub_zero, List.drop_zero, List.nil_append, Nat.zero_add] at hS ⊢
                   try simp only [opv, n1, n2, n3, n4, Value.cells, Array.toArray_toList] at hS ⊢
                   rw [add_one] at hS
                   refine x_nil ?_
                   refine any_go (i := 20) (by rfl) (by decide +kernel) (by decide +kernel) noLate_nil (go_yields w_none (fun w hS => s_assign)) ?_
                   try simp only [opv, n1, n2, n3, n4, Value.cells]
                   refine any_nil (by kernel_rfl) (fun w34 hE => ?_)
                   replace hS := hS.ext hE
                   refine ⟨fun _ => hS.sel (by repeat (first | exact Sel.nil | (refine Sel.cons (by repeat (first | exact Del.head | apply Del.tail)) ?_))), ?_⟩
                   refine mix_leaf (by simp only [clob, List.foldl, n1, n2, n3, n4]) ?_
                   try simp only [n1, n2]
                   exact ⟨_, _, by first | trivial | rfl, hS.sel (by repeat (first | exact Sel.nil | (refine Sel.cons (by repeat (first | exact Del.head | apply Del.tail)) ?_)))⟩
                intro fm2 w35 hM
                obtain ⟨C2, e2, h5, hS⟩ := hM
                simp only [clob, List.foldl, n3, n4, h5]
                refine hK19 _ _ ?_
                refine x_seq fun K20 hK20 => ?_
                refine x_region ?_
                refine s_go (s_move) ?_
                try simp only [opv, n1, n2, n3, n4, Value.cells]
                refine s_go (s_add (hc := by first | exact wr_i64 (by omega) (by omega) | rfl)) ?_
                try simp only [opv, n1, n2, n3, n4, Value.cells]
                refine s_go (s_assign) ?_
                try simp only [opv, n1, n2, n3, n4, Value.cells]
                refine x_nil ?_
                refine hK20 _ _ ?_
                refine x_region ?_
                refine s_go (s_move) ?_
                try simp only [opv, n1, n2, n3, n4, Value.cells]
                refine s_go (s_add (hc := by first | exact wr_i64 (by omega) (by omega) | rfl)) ?_
                try simp only [opv, n1, n2, n3, n4, Value.cells]
                refine s_go (s_assign) ?_
                try simp only [opv, n1, n2, n3, n4, Value.cells]
                refine x_nil ?_
                refine loop_back (m' := m1 - 1) (by simp only [clob, List.foldl, n1, n2, n3, n4]) ?_ ?_
                · try simp only [opv, n1, n2, n3, n4, Value.cells]
                  exact ⟨_, _, _, _, _, by omega, by omega, by omega, by rfl, by rfl, by simp only [List.length_append, List.length_cons, List.length_nil, Nat.zero_add]; rfl, hnx, by simp only [List.length_append, List.length_cons, List.length_nil, Nat.zero_add]; omega, by simp only [List.length_append, List.length_cons, List.length_nil, Nat.zero_add]; exact hS.sel (by repeat (first | exact Sel.nil | (refine Sel.cons (by repeat (first | exact Del.head | apply Del.tail)) ?_)))⟩
                · omega
 ·
  try simp only [n3, n4]
  try simp only [decide_eq_true_eq, decide_eq_false_iff_not, Bool.not_eq_true', Bool.not_eq_false', Int.not_lt, Int.not_le, ne_eq, Decidable.not_not] at hp1
  first
  | (exfalso; omega)
  | skip
    refine g_on (yi (t := 16) rfl rfl) ?_
    refine s_go (s_move) ?_
    try simp only [opv, n1, n2, n3, n4, Value.cells]
    refine g_on (yi (t := 16) rfl rfl) ?_
    refine s_go (s_move) ?_
    try simp only [opv, n1, n2, n3, n4, Value.cells]
    refine g_on (yi (t := 16) rfl rfl) ?_
    refine s_go (s_len_sl Try.underlying24) ?_
    try simp only [opv, n1, n2, n3, n4, Value.cells]
    refine g_on (yi (t := 16) rfl rfl) ?_
    refine s_go (s_lss) ?_
    try simp only [opv, n1, n2, n3, n4, Value.cells]
    first | refine s_go (s_pick_t) ?_ | refine s_go (s_pick_f) ?_
    try simp only [opv, n1, n2, n3, n4, Value.cells]
    refine x_nil ?_
    refine hK7 _ _ ?_
    refine x_cond (ht := fun hc9 => ?_) (hf := fun hc9 => ?_)
    ·
     try simp only [decide_eq_true_eq, decide_eq_false_iff_not, Bool.not_eq_true', Bool.not_eq_false', Int.not_lt, Int.not_le, ne_eq, Decidable.not_not, bne_iff_ne, beq_iff_eq, not_true_eq_false, not_false_eq_true] at hc9
     first
     | (exfalso; omega)
     | skip
       refine x_skip ?_
       refine hK6 _ _ ?_
       refine x_block ?_
       refine x_block ?_
       refine x_seq fun K21 hK21 => ?_
       refine x_quiet (by kernel_rfl) (by kernel_rfl) hS ?_
       refine q_go (fun w hS => s_move) ?_
       try simp only [opv, n1, n2, n3, n4, Value.cells]
       refine q_go (fun w hS => s_move) ?_
       try simp only [opv, n1, n2, n3, n4, Value.cells]
       refine q_go (fun w hS => s_len_sl Try.underlying24) ?_
       try simp only [opv, n1, n2, n3, n4, Value.cells]
       refine q_go (fun w hS => s_eql) ?_
       try simp only [opv, n1, n2, n3, n4, Value.cells]
       refine q_go (fun w hS => s_move) ?_
       try simp only [opv, n1, n2, n3, n4, Value.cells]
       refine q_part 51 rfl (fun hp6 => ?_) (fun hp6 => ?_)
       ·
        try simp only [n3, n4]
        try simp only [decide_eq_true_eq, decide_eq_false_iff_not, Bool.not_eq_true', Bool.not_eq_false', Int.not_lt, Int.not_le, ne_eq, Decidable.not_not] at hp6
        first
        | (exfalso; omega)
        | skip
          have hax : AtomOk x := by rw [← hx]; exact hso.get (by omega)
          have hxl := hax.len
          have hkx := hax.key
          have hvx := hax.val
          have hmg := mg_l (s := s) (t := t) (i := i) (k := k) (by omega) hx (.inl (by omega))
          have hnx : (o ++ [x]) ++ mergeP (s.drop (i + 1)) (t.drop k) = mergeP s t := by rw [← hmo, hmg, List.append_assoc]; rfl
          refine q_off (yi (t := 51) rfl rfl) ?_
          try simp only [opv, n1, n2, n3, n4, Value.cells]
          refine q_off (yi (t := 51) rfl rfl) ?_
          try simp only [opv, n1, n2, n3, n4, Value.cells]
          refine q_off (yi (t := 51) rfl rfl) ?_
          try simp only [opv, n1, n2, n3, n4, Value.cells]
          refine q_off (yi (t := 51) rfl rfl) ?_
          try simp only [opv, n1, n2, n3, n4, Value.cells]
          refine q_off (yi (t := 51) rfl rfl) ?_
          try simp only [opv, n1, n2, n3, n4, Value.cells]
          refine q_un (yn (t := 56) rfl rfl) ?_
          try simp only [opv, n1, n2, n3, n4, Value.cells]
          refine q_un (yn (t := 56) rfl rfl) ?_
          try simp only [opv, n1, n2, n3, n4, Value.cells]
          refine q_un (yn (t := 56) rfl rfl) ?_
          try simp only [opv, n1, n2, n3, n4, Value.cells]
          refine q_un (yn (t := 56) rfl rfl) ?_
          try simp only [opv, n1, n2, n3, n4, Value.cells]
          refine q_un (yn (t := 56) rfl rfl) ?_
          try simp only [opv, n1, n2, n3, n4, Value.cells]
          refine q_un (yn (t := 56) rfl rfl) ?_
          try simp only [opv, n1, n2, n3, n4, Value.cells]
          refine q_un (yn (t := 56) rfl rfl) ?_
          try simp only [opv, n1, n2, n3, n4, Value.cells]
          refine q_un (yn (t := 56) rfl rfl) ?_
          try simp only [opv, n1, n2, n3, n4, Value.cells]
          refine q_un (yn (t := 56) rfl rfl) ?_
          try simp only [opv, n1, n2, n3, n4, Value.cells]
          refine q_un (yn (t := 56) rfl rfl) ?_
          try simp only [opv, n1, n2, n3, n4, Value.cells]
          refine q_un (yn (t := 56) rfl rfl) ?_
          try simp only [opv, n1, n2, n3, n4, Value.cells]
          refine q_off (yi (t := 51) rfl rfl) ?_
          try simp only [opv, n1, n2, n3, n4, Value.cells]
          first | refine q_go (fun w hS => s_pick_t) ?_ | refine q_go (fun w hS => s_pick_f) ?_
          try simp only [opv, n1, n2, n3, n4, Value.cells]
          refine q_go (fun w hS => s_assign) ?_
          try simp only [opv, n1, n2, n3, n4, Value.cells]
          clear hS
          refine q_nil fun w36 hS => ?_
          refine hK21 _ _ ?_
          refine x_cond_t (h := ?_)
          try (have hmg := mg_l (s := s) (t := t) (i := i) (k := k) (by omega) hx (.inr ⟨by omega, by rw [hy]; exact @c⟩))
          have hnx : (o ++ [x]) ++ mergeP (s.drop (i + 1)) (t.drop k) = mergeP s t := by rw [← hmo, hmg, List.append_assoc]; rfl
          refine x_seq fun K22 hK22 => ?_
          refine x_region ?_
          refine s_go (s_move) ?_
          try simp only [opv, n1, n2, n3, n4, Value.cells]
          refine s_go (s_move) ?_
          try simp only [opv, n1, n2, n3, n4, Value.cells]
          refine s_go (s_move) ?_
          try simp only [opv, n1, n2, n3, n4, Value.cells]
          first | refine s_go (m_indexAddr_rd Try.underlying24 ti39 (hS := hS)) ?_ | refine s_go (m_indexAddr_vec Try.underlying24 ti39 (hS := hS)) ?_
          try simp only [opv, n1, n2, n3, n4, Value.cells, Nat.mul_one, Nat.zero_add, Int.toNat_natCast, Int.reduceToNat]
          first | refine s_go (m_load_row Try.underlying39 (hi := ti39) (hS := hS) (hfit := by rw [arows_len]; omega)) ?_ | refine s_go (m_loada_obj Try.underlying39 (hi := ti39) (hS := hS) (hfit := by rw [arows_len]; omega)) ?_ | refine s_go (m_loada_bx Try.underlying39 (hi := ti39) (hS := hS) (hfit := by rw [arows_len]; omega)) ?_ | refine s_go (m_loada_rd Try.underlying39 (hi := ti39) (hS := hS) (hfit := by rw [arows_len]; omega)) ?_ | refine s_go (m_loada_vec Try.underlying39 (hi := ti39) (hS := hS) (hfit := by rw [arows_len]; omega)) ?_
          try simp only [opv, n1, n2, n3, n4, Value.cells, List.getElem_toArray, List.getElem_cons_zero, List.getElem_cons_succ]
          rw [arow_get (by omega) hso, hx]
          refine m_buildRow (cells := (AA x)) Try.underlying24 ti39 (hc := by simp only [List.map_toArray, List.map_cons, List.map_nil, opv, n1, n2, n3, n4, Value.cells, List.toList_toArray]; exact fill_one (by rfl) (zi_size21 hxl) (by rfl)) (hS := hS) (h := fun w37 g37 hS => ?_)
          try simp only [opv, n1, n2, n3, n4, Value.cells, Array.toArray_toList] at hS ⊢
          replace hS := hS.obj_rd (sz := 21) (n := 1) (by exact zi_size21 hxl) .head
          rw [arow_one hxl] at hS
          refine m_append Try.underlying24 ti39 (hS := hS) (h1 := rowsZ_cells _ _) (h := fun w38 A38 C38 hS => ?_)
          try simp only [← List.map_append, ← List.map_drop, ← List.map_take, Nat.mul_one, Nat.zero_mul, Nat.sub_zero, List.drop_zero, List.nil_append, Nat.zero_add] at hS ⊢
          try simp only [opv, n1, n2, n3, n4, Value.cells, Array.toArray_toList] at hS ⊢
          rw [add_one] at hS
          refine s_go (s_assign) ?_
          try simp only [opv, n1, n2, n3, n4, Value.cells]
          refine x_nil ?_
          refine hK22 _ _ ?_
          refine x_region ?_
          refine s_go (s_move) ?_
          try simp only [opv, n1, n2, n3, n4, Value.cells]
          refine s_go (s_add (hc := by first | exact wr_i64 (by omega) (by omega) | rfl)) ?_
          try simp only [opv, n1, n2, n3, n4, Value.cells]
          refine s_go (s_assign) ?_
          try simp only [opv, n1, n2, n3, n4, Value.cells]
          refine x_nil ?_
          refine loop_back (m' := m1 - 1) (by simp only [clob, List.foldl, n1, n2, n3, n4]) ?_ ?_
          · try simp only [opv, n1, n2, n3, n4, Value.cells]
            exact ⟨_, _, _, _, _, by omega, by omega, by omega, by rfl, by rfl, by simp only [List.length_append, List.length_cons, List.length_nil, Nat.zero_add]; rfl, hnx, by simp only [List.length_append, List.length_cons, List.length_nil, Nat.zero_add]; omega, by simp only [List.length_append, List.length_cons, List.length_nil, Nat.zero_add]; exact hS.sel (by repeat (first | exact Sel.nil | (refine Sel.cons (by repeat (first | exact Del.head | apply Del.tail)) ?_)))⟩
          · omega
       ·
        try simp only [n3, n4]
        try simp only [decide_eq_true_eq, decide_eq_false_iff_not, Bool.not_eq_true', Bool.not_eq_false', Int.not_lt, Int.not_le, ne_eq, Decidable.not_not] at hp6
        first
        | (exfalso; omega)
        | skip
          have hay : AtomOk y := by rw [← hy]; exact hto.get (by omega)
          have hyl := hay.len
          have hky := hay.key
          have hvy := hay.val
          refine q_on (yi (t := 51) rfl rfl) ?_
          refine q_go (fun w hS => s_move) ?_
          try simp only [opv, n1, n2, n3, n4, Value.cells]
          refine q_on (yi (t := 51) rfl rfl) ?_
          refine q_go (fun w hS => s_move) ?_
          try simp only [opv, n1, n2, n3, n4, Value.cells]
          refine q_on (yi (t := 51) rfl rfl) ?_
          refine q_go (fun w hS => s_len_sl Try.underlying24) ?_
          try simp only [opv, n1, n2, n3, n4, Value.cells]
          refine q_on (yi (t := 51) rfl rfl) ?_
          refine q_go (fun w hS => s_lss) ?_
          try simp only [opv, n1, n2, n3, n4, Value.cells]
          refine q_on (yi (t := 51) rfl rfl) ?_
          refine q_go (fun w hS => s_move) ?_
          try simp only [opv, n1, n2, n3, n4, Value.cells]
          refine q_part 56 rfl (fun hp7 => ?_) (fun hp7 => ?_)
          ·
           try simp only [n3, n4]
           try simp only [decide_eq_true_eq, decide_eq_false_iff_not, Bool.not_eq_true', Bool.not_eq_false', Int.not_lt, Int.not_le, ne_eq, Decidable.not_not] at hp7
           first
           | (exfalso; omega)
           | skip
             have hax : AtomOk x := by rw [← hx]; exact hso.get (by omega)
             have hxl := hax.len
             have hkx := hax.key
             have hvx := hax.val
             refine q_on (yi (t := 56) rfl rfl) ?_
             refine q_go (fun w hS => s_move) ?_
             try simp only [opv, n1, n2, n3, n4, Value.cells]
             refine q_on (yi (t := 56) rfl rfl) ?_
             refine q_go (fun w hS => s_move) ?_
             try simp only [opv, n1, n2, n3, n4, Value.cells]
             refine q_on (yi (t := 56) rfl rfl) ?_
             first | refine q_go (fun w hS => m_indexAddr_rd Try.underlying24 ti39 (hS := hS)) ?_ | refine q_go (fun w hS => m_indexAddr_vec Try.underlying24 ti39 (hS := hS)) ?_
             try simp only [opv, n1, n2, n3, n4, Value.cells, Nat.mul_one, Nat.zero_add, Int.toNat_natCast, Int.reduceToNat]
             refine q_on (yi (t := 56) rfl rfl) ?_
             first | refine q_go (fun w hS => m_fieldAddr Try.underlying39 (hi := ti34)) ?_ | refine q_go (fun w hS => m_fieldAddr_rd Try.underlying39 (hi := ti34) (hS := hS)) ?_ | refine q_go (fun w hS => m_fieldAddr_vec Try.underlying39 (hi := ti34) (hS := hS)) ?_
             try simp only [opv, n1, n2, n3, n4, Value.cells, Nat.zero_add, Nat.add_zero, List.getElem_toArray, List.getElem_cons_zero, List.getElem_cons_succ]
             refine q_on (yi (t := 56) rfl rfl) ?_
             first | refine q_go (fun w hS => m_load_row Try.underlying34 (hi := ti34) (hS := hS) (hfit := by rw [arows_len]; omega)) ?_ | refine q_go (fun w hS => m_loada_obj Try.underlying34 (hi := ti34) (hS := hS) (hfit := by rw [arows_len]; omega)) ?_ | refine q_go (fun w hS => m_loada_bx Try.underlying34 (hi := ti34) (hS := hS) (hfit := by rw [arows_len]; omega)) ?_ | refine q_go (fun w hS => m_loada_rd Try.underlying34 (hi := ti34) (hS := hS) (hfit := by rw [arows_len]; omega)) ?_ | refine q_go (fun w hS => m_loada_vec Try.underlying34 (hi := ti34) (hS := hS) (hfit := by rw [arows_len]; omega)) ?_
             try simp only [opv, n1, n2, n3, n4, Value.cells, List.getElem_toArray, List.getElem_cons_zero, List.getElem_cons_succ]
             rw [arow_key (by omega) hso, hx]
             refine q_on (yi (t := 56) rfl rfl) ?_
             refine q_go (fun w hS => s_move) ?_
             try simp only [opv, n1, n2, n3, n4, Value.cells]
             refine q_on (yi (t := 56) rfl rfl) ?_
             refine q_go (fun w hS => s_move) ?_
             try simp only [opv, n1, n2, n3, n4, Value.cells]
             refine q_on (yi (t := 56) rfl rfl) ?_
             first | refine q_go (fun w hS => m_indexAddr_rd Try.underlying24 ti39 (hS := hS)) ?_ | refine q_go (fun w hS => m_indexAddr_vec Try.underlying24 ti39 (hS := hS)) ?_
             try simp only [opv, n1, n2, n3, n4, Value.cells, Nat.mul_one, Nat.zero_add, Int.toNat_natCast, Int.reduceToNat]
             refine q_on (yi (t := 56) rfl rfl) ?_
             first | refine q_go (fun w hS => m_fieldAddr Try.underlying39 (hi := ti34)) ?_ | refine q_go (fun w hS => m_fieldAddr_rd Try.underlying39 (hi := ti34) (hS := hS)) ?_ | refine q_go (fun w hS => m_fieldAddr_vec Try.underlying39 (hi := ti34) (hS := hS)) ?_
             try simp only [opv, n1, n2, n3, n4, Value.cells, Nat.zero_add, Nat.add_zero, List.getElem_toArray, List.getElem_cons_zero, List.getElem_cons_succ]
             refine q_on (yi (t := 56) rfl rfl) ?_
             first | refine q_go (fun w hS => m_load_row Try.underlying34 (hi := ti34) (hS := hS) (hfit := by rw [arows_len]; omega)) ?_ | refine q_go (fun w hS => m_loada_obj Try.underlying34 (hi := ti34) (hS := hS) (hfit := by rw [arows_len]; omega)) ?_ | refine q_go (fun w hS => m_loada_bx Try.underlying34 (hi := ti34) (hS := hS) (hfit := by rw [arows_len]; omega)) ?_ | refine q_go (fun w hS => m_loada_rd Try.underlying34 (hi := ti34) (hS := hS) (hfit := by rw [arows_len]; omega)) ?_ | refine q_go (fun w hS => m_loada_vec Try.underlying34 (hi := ti34) (hS := hS) (hfit := by rw [arows_len]; omega)) ?_
             try simp only [opv, n1, n2, n3, n4, Value.cells, List.getElem_toArray, List.getElem_cons_zero, List.getElem_cons_succ]
             rw [arow_key (by omega) hto, hy]
             refine q_on (yi (t := 56) rfl rfl) ?_
             apply q_call en116
             case H =>
               intro w hS
               try simp only [opv, n1, n2, n3, n4, List.map_toArray, List.map_cons, List.map_nil, List.append_toArray, List.cons_append, List.nil_append, Array.append_empty]
               refine CallR.mono (c_ref08Less (akey x) (akey y) hkx hky _) ?_
               rintro _ w1 ⟨rfl, hE⟩; exact ⟨rfl, hS.ext hE⟩
             try simp only [opv, n1, n2, n3, n4, Value.cells]
             refine q_on (yi (t := 51) rfl rfl) ?_
             first | refine q_go (fun w hS => s_pick_t) ?_ | refine q_go (fun w hS => s_pick_f) ?_
             try simp only [opv, n1, n2, n3, n4, Value.cells]
             first | refine q_go (fun w hS => s_pick_t) ?_ | refine q_go (fun w hS => s_pick_f) ?_
             try simp only [opv, n1, n2, n3, n4, Value.cells]
             refine q_go (fun w hS => s_assign) ?_
             try simp only [opv, n1, n2, n3, n4, Value.cells]
             clear hS
             refine q_nil fun w39 hS => ?_
             refine hK21 _ _ ?_
             refine x_cond (ht := fun hc11 => ?_) (hf := fun hc11 => ?_)
             ·
              try simp only [decide_eq_true_eq, decide_eq_false_iff_not, Bool.not_eq_true', Bool.not_eq_false', Int.not_lt, Int.not_le, ne_eq, Decidable.not_not, bne_iff_ne, beq_iff_eq, not_true_eq_false, not_false_eq_true] at hc11
              first
              | (exfalso; omega)
              | skip
                try (have hmg := mg_l (s := s) (t := t) (i := i) (k := k) (by omega) hx (.inr ⟨by omega, by rw [hy]; exact hc11⟩))
                have hnx : (o ++ [x]) ++ mergeP (s.drop (i + 1)) (t.drop k) = mergeP s t := by rw [← hmo, hmg, List.append_assoc]; rfl
                refine x_seq fun K23 hK23 => ?_
                refine x_region ?_
                refine s_go (s_move) ?_
                try simp only [opv, n1, n2, n3, n4, Value.cells]
                refine s_go (s_move) ?_
                try simp only [opv, n1, n2, n3, n4, Value.cells]
                refine s_go (s_move) ?_
                try simp only [opv, n1, n2, n3, n4, Value.cells]
                first | refine s_go (m_indexAddr_rd Try.underlying24 ti39 (hS := hS)) ?_ | refine s_go (m_indexAddr_vec Try.underlying24 ti39 (hS := hS)) ?_
                try simp only [opv, n1, n2, n3, n4, Value.cells, Nat.mul_one, Nat.zero_add, Int.toNat_natCast, Int.reduceToNat]
                first | refine s_go (m_load_row Try.underlying39 (hi := ti39) (hS := hS) (hfit := by rw [arows_len]; omega)) ?_ | refine s_go (m_loada_obj Try.underlying39 (hi := ti39) (hS := hS) (hfit := by rw [arows_len]; omega)) ?_ | refine s_go (m_loada_bx Try.underlying39 (hi := ti39) (hS := hS) (hfit := by rw [arows_len]; omega)) ?_ | refine s_go (m_loada_rd Try.underlying39 (hi := ti39) (hS := hS) (hfit := by rw [arows_len]; omega)) ?_ | refine s_go (m_loada_vec Try.underlying39 (hi := ti39) (hS := hS) (hfit := by rw [arows_len]; omega)) ?_
                try simp only [opv, n1, n2, n3, n4, Value.cells, List.getElem_toArray, List.getElem_cons_zero, List.getElem_cons_succ]
                rw [arow_get (by omega) hso, hx]
                refine m_buildRow (cells := (AA x)) Try.underlying24 ti39 (hc := by simp only [List.map_toArray, List.map_cons, List.map_nil, opv, n1, n2, n3, n4, Value.cells, List.toList_toArray]; exact fill_one (by rfl) (zi_size21 hxl) (by rfl)) (hS := hS) (h := fun w40 g40 hS => ?_)
                try simp only [opv, n1, n2, n3, n4, Value.cells, Array.toArray_toList] at hS ⊢
                replace hS := hS.obj_rd (sz := 21) (n := 1) (by exact zi_size21 hxl) .head
                rw [arow_one hxl] at hS
                refine m_append Try.underlying24 ti39 (hS := hS) (h1 := rowsZ_cells _ _) (h := fun w41 A41 C41 hS => ?_)
                try simp only [← List.map_append, ← List.map_drop, ← List.map_take, Nat.mul_one, Nat.zero_mul, Nat.sub_zero, List.drop_zero, List.nil_append, Nat.zero_add] at hS ⊢
                try simp only [opv, n1, n2, n3, n4, Value.cells, Array.toArray_toList] at hS ⊢
                rw [add_one] at hS
                refine s_go (s_assign) ?_
                try simp only [opv, n1, n2, n3, n4, Value.cells]
                refine x_nil ?_
                refine hK23 _ _ ?_
                refine x_region ?_
                refine s_go (s_move) ?_
                try simp only [opv, n1, n2, n3, n4, Value.cells]
                refine s_go (s_add (hc := by first | exact wr_i64 (by omega) (by omega) | rfl)) ?_
                try simp only [opv, n1, n2, n3, n4, Value.cells]
                refine s_go (s_assign) ?_
                try simp only [opv, n1, n2, n3, n4, Value.cells]
                refine x_nil ?_
                refine loop_back (m' := m1 - 1) (by simp only [clob, List.foldl, n1, n2, n3, n4]) ?_ ?_
                · try simp only [opv, n1, n2, n3, n4, Value.cells]
                  exact ⟨_, _, _, _, _, by omega, by omega, by omega, by rfl, by rfl, by simp only [List.length_append, List.length_cons, List.length_nil, Nat.zero_add]; rfl, hnx, by simp only [List.length_append, List.length_cons, List.length_nil, Nat.zero_add]; omega, by simp only [List.length_append, List.length_cons, List.length_nil, Nat.zero_add]; exact hS.sel (by repeat (first | exact Sel.nil | (refine Sel.cons (by repeat (first | exact Del.head | apply Del.tail)) ?_)))⟩
                · omega
             ·
              try simp only [decide_eq_true_eq, decide_eq_false_iff_not, Bool.not_eq_true', Bool.not_eq_false', Int.not_lt, Int.not_le, ne_eq, Decidable.not_not, bne_iff_ne, beq_iff_eq, not_true_eq_false, not_false_eq_true] at hc11
              first
              | (exfalso; omega)
              | skip
                try have hl1 := hc11
                refine x_seq fun K24 hK24 => ?_
                refine x_quiet (by kernel_rfl) (by kernel_rfl) hS ?_
                refine q_go (fun w hS => s_move) ?_
                try simp only [opv, n1, n2, n3, n4, Value.cells]
                refine q_go (fun w hS => s_move) ?_
                try simp only [opv, n1, n2, n3, n4, Value.cells]
                refine q_go (fun w hS => s_len_sl Try.underlying24) ?_
                try simp only [opv, n1, n2, n3, n4, Value.cells]
                refine q_go (fun w hS => s_eql) ?_
                try simp only [opv, n1, n2, n3, n4, Value.cells]
                refine q_go (fun w hS => s_move) ?_
                try simp only [opv, n1, n2, n3, n4, Value.cells]
                refine q_part 84 rfl (fun hp8 => ?_) (fun hp8 => ?_)
                ·
                 try simp only [n3, n4]
                 try simp only [decide_eq_true_eq, decide_eq_false_iff_not, Bool.not_eq_true', Bool.not_eq_false', Int.not_lt, Int.not_le, ne_eq, Decidable.not_not] at hp8
                 first
                 | (exfalso; omega)
                 | skip
                   refine q_off (yi (t := 84) rfl rfl) ?_
                   try simp only [opv, n1, n2, n3, n4, Value.cells]
                   refine q_off (yi (t := 84) rfl rfl) ?_
                   try simp only [opv, n1, n2, n3, n4, Value.cells]
                   refine q_off (yi (t := 84) rfl rfl) ?_
                   try simp only [opv, n1, n2, n3, n4, Value.cells]
                   refine q_off (yi (t := 84) rfl rfl) ?_
                   try simp only [opv, n1, n2, n3, n4, Value.cells]
                   refine q_off (yi (t := 84) rfl rfl) ?_
                   try simp only [opv, n1, n2, n3, n4, Value.cells]
                   refine q_off (yi (t := 84) rfl rfl) ?_
                   try simp only [opv, n1, n2, n3, n4, Value.cells]
                   refine q_off (yi (t := 84) rfl rfl) ?_
                   try simp only [opv, n1, n2, n3, n4, Value.cells]
                   refine q_off (yi (t := 84) rfl rfl) ?_
                   try simp only [opv, n1, n2, n3, n4, Value.cells]
                   refine q_off (yi (t := 84) rfl rfl) ?_
                   try simp only [opv, n1, n2, n3, n4, Value.cells]
                   refine q_off (yi (t := 84) rfl rfl) ?_
                   try simp only [opv, n1, n2, n3, n4, Value.cells]
                   refine q_off (yi (t := 84) rfl rfl) ?_
                   try simp only [opv, n1, n2, n3, n4, Value.cells]
                   first | refine q_go (fun w hS => s_pick_t) ?_ | refine q_go (fun w hS => s_pick_f) ?_
                   try simp only [opv, n1, n2, n3, n4, Value.cells]
                   refine q_go (fun w hS => s_assign) ?_
                   try simp only [opv, n1, n2, n3, n4, Value.cells]
                   clear hS
                   refine q_nil fun w42 hS => ?_
                   refine hK24 _ _ ?_
                   refine x_cond_t (h := ?_)
                   try (have hmg := mg_r (s := s) (t := t) (i := i) (k := k) (by omega) hy (.inr ⟨by omega, by rw [hx]; exact hl1, by rw [hx]; exact @c⟩))
                   have hnx : (o ++ [y]) ++ mergeP (s.drop i) (t.drop (k + 1)) = mergeP s t := by rw [← hmo, hmg, List.append_assoc]; rfl
                   refine x_seq fun K25 hK25 => ?_
                   refine x_region ?_
                   refine s_go (s_move) ?_
                   try simp only [opv, n1, n2, n3, n4, Value.cells]
                   refine s_go (s_move) ?_
                   try simp only [opv, n1, n2, n3, n4, Value.cells]
                   refine s_go (s_move) ?_
                   try simp only [opv, n1, n2, n3, n4, Value.cells]
                   first | refine s_go (m_indexAddr_rd Try.underlying24 ti39 (hS := hS)) ?_ | refine s_go (m_indexAddr_vec Try.underlying24 ti39 (hS := hS)) ?_
                   try simp only [opv, n1, n2, n3, n4, Value.cells, Nat.mul_one, Nat.zero_add, Int.toNat_natCast, Int.reduceToNat]
                   first | refine s_go (m_load_row Try.underlying39 (hi := ti39) (hS := hS) (hfit := by rw [arows_len]; omega)) ?_ | refine s_go (m_loada_obj Try.underlying39 (hi := ti39) (hS := hS) (hfit := by rw [arows_len]; omega)) ?_ | refine s_go (m_loada_bx Try.underlying39 (hi := ti39) (hS := hS) (hfit := by rw [arows_len]; omega)) ?_ | refine s_go (m_loada_rd Try.underlying39 (hi := ti39) (hS := hS) (hfit := by rw [arows_len]; omega)) ?_ | refine s_go (m_loada_vec Try.underlying39 (hi := ti39) (hS := hS) (hfit := by rw [arows_len]; omega)) ?_
                   try simp only [opv, n1, n2, n3, n4, Value.cells, List.getElem_toArray, List.getElem_cons_zero, List.getElem_cons_succ]
                   rw [arow_get (by omega) hto, hy]
                   refine m_buildRow (cells := (AA y)) Try.underlying24 ti39 (hc := by simp only [List.map_toArray, List.map_cons, List.map_nil, opv, n1, n2, n3, n4, Value.cells, List.toList_toArray]; exact fill_one (by rfl) (zi_size21 hyl) (by rfl)) (hS := hS) (h := fun w43 g43 hS => ?_)
                   try simp only [opv, n1, n2, n3, n4, Value.cells, Array.toArray_toList] at hS ⊢
                   replace hS := hS.obj_rd (sz := 21) (n := 1) (by exact zi_size21 hyl) .head
                   rw [arow_one hyl] at hS
                   refine m_append Try.underlying24 ti39 (hS := hS) (h1 := rowsZ_cells _ _) (h := fun w44 A44 C44 hS => ?_)
                   try simp only [← List.map_append, ← List.map_drop, ← List.map_take, Nat.mul_one, Nat.zero_mul, Nat.sub_zero, List.drop_zero, List.nil_append, Nat.zero_add] at hS ⊢
                   try simp only [opv, n1, n2, n3, n4, Value.cells, Array.toArray_toList] at hS ⊢
                   rw [add_one] at hS
                   refine s_go (s_assign) ?_
                   try simp only [opv, n1, n2, n3, n4, Value.cells]
                   refine x_nil ?_
                   refine hK25 _ _ ?_
                   refine x_region ?_
                   refine s_go (s_move) ?_
                   try simp only [opv, n1, n2, n3, n4, Value.cells]
                   refine s_go (s_add (hc := by first | exact wr_i64 (by omega) (by omega) | rfl)) ?_
                   try simp only [opv, n1, n2, n3, n4, Value.cells]
                   refine s_go (s_assign) ?_
                   try simp only [opv, n1, n2, n3, n4, Value.cells]
                   refine x_nil ?_
                   refine loop_back (m' := m1 - 1) (by simp only [clob, List.foldl, n1, n2, n3, n4]) ?_ ?_
                   · try simp only [opv, n1, n2, n3, n4, Value.cells]
                     exact ⟨_, _, _, _, _, by omega, by omega, by omega, by rfl, by rfl, by simp only [List.length_append, List.length_cons, List.length_nil, Nat.zero_add]; rfl, hnx, by simp only [List.length_append, List.length_cons, List.length_nil, Nat.zero_add]; omega, by simp only [List.length_append, List.length_cons, List.length_nil, Nat.zero_add]; exact hS.sel (by repeat (first | exact Sel.nil | (refine Sel.cons (by repeat (first | exact Del.head | apply Del.tail)) ?_)))⟩
                   · omega
                ·
                 try simp only [n3, n4]
                 try simp only [decide_eq_true_eq, decide_eq_false_iff_not, Bool.not_eq_true', Bool.not_eq_false', Int.not_lt, Int.not_le, ne_eq, Decidable.not_not] at hp8
                 first
                 | (exfalso; omega)
                 | skip
                   refine q_on (yi (t := 84) rfl rfl) ?_
                   refine q_go (fun w hS => s_move) ?_
                   try simp only [opv, n1, n2, n3, n4, Value.cells]
                   refine q_on (yi (t := 84) rfl rfl) ?_
                   refine q_go (fun w hS => s_move) ?_
                   try simp only [opv, n1, n2, n3, n4, Value.cells]
                   refine q_on (yi (t := 84) rfl rfl) ?_
                   first | refine q_go (fun w hS => m_indexAddr_rd Try.underlying24 ti39 (hS := hS)) ?_ | refine q_go (fun w hS => m_indexAddr_vec Try.underlying24 ti39 (hS := hS)) ?_
                   try simp only [opv, n1, n2, n3, n4, Value.cells, Nat.mul_one, Nat.zero_add, Int.toNat_natCast, Int.reduceToNat]
                   refine q_on (yi (t := 84) rfl rfl) ?_
                   first | refine q_go (fun w hS => m_fieldAddr Try.underlying39 (hi := ti34)) ?_ | refine q_go (fun w hS => m_fieldAddr_rd Try.underlying39 (hi := ti34) (hS := hS)) ?_ | refine q_go (fun w hS => m_fieldAddr_vec Try.underlying39 (hi := ti34) (hS := hS)) ?_
                   try simp only [opv, n1, n2, n3, n4, Value.cells, Nat.zero_add, Nat.add_zero, List.getElem_toArray, List.getElem_cons_zero, List.getElem_cons_succ]
                   refine q_on (yi (t := 84) rfl rfl) ?_
                   first | refine q_go (fun w hS => m_load_row Try.underlying34 (hi := ti34) (hS := hS) (hfit := by rw [arows_len]; omega)) ?_ | refine q_go (fun w hS => m_loada_obj Try.underlying34 (hi := ti34) (hS := hS) (hfit := by rw [arows_len]; omega)) ?_ | refine q_go (fun w hS => m_loada_bx Try.underlying34 (hi := ti34) (hS := hS) (hfit := by rw [arows_len]; omega)) ?_ | refine q_go (fun w hS => m_loada_rd Try.underlying34 (hi := ti34) (hS := hS) (hfit := by rw [arows_len]; omega)) ?_ | refine q_go (fun w hS => m_loada_vec Try.underlying34 (hi := ti34) (hS := hS) (hfit := by rw [arows_len]; omega)) ?_
                   try simp only [opv, n1, n2, n3, n4, Value.cells, List.getElem_toArray, List.getElem_cons_zero, List.getElem_cons_succ]
                   rw [arow_key (by omega) hto, hy]
                   refine q_on (yi (t := 84) rfl rfl) ?_
                   refine q_go (fun w hS => s_move) ?_
                   try simp only [opv, n1, n2, n3, n4, Value.cells]
                   refine q_on (yi (t := 84) rfl rfl) ?_
                   refine q_go (fun w hS => s_move) ?_
                   try simp only [opv, n1, n2, n3, n4, Value.cells]
                   refine q_on (yi (t := 84) rfl rfl) ?_
                   first | refine q_go (fun w hS => m_indexAddr_rd Try.underlying24 ti39 (hS := hS)) ?_ | refine q_go (fun w hS => m_indexAddr_vec Try.underlying24 ti39 (hS := hS)) ?_
                   try simp only [opv, n1, n2, n3, n4, Value.cells, Nat.mul_one, Nat.zero_add, Int.toNat_natCast, Int.reduceToNat]
                   refine q_on (yi (t := 84) rfl rfl) ?_
                   first | refine q_go (fun w hS => m_fieldAddr Try.underlying39 (hi := ti34)) ?_ | refine q_go (fun w hS => m_fieldAddr_rd Try.underlying39 (hi := ti34) (hS := hS)) ?_ | refine q_go (fun w hS => m_fieldAddr_vec Try.underlying39 (hi := ti34) (hS := hS)) ?_
                   try simp only [opv, n1, n2, n3, n4, Value.cells, Nat.zero_add, Nat.add_zero, List.getElem_toArray, List.getElem_cons_zero, List.getElem_cons_succ]
                   refine q_on (yi (t := 84) rfl rfl) ?_
                   first | refine q_go (fun w hS => m_load_row Try.underlying34 (hi := ti34) (hS := hS) (hfit := by rw [arows_len]; omega)) ?_ | refine q_go (fun w hS => m_loada_obj Try.underlying34 (hi := ti34) (hS := hS) (hfit := by rw [arows_len]; omega)) ?_ | refine q_go (fun w hS => m_loada_bx Try.underlying34 (hi := ti34) (hS := hS) (hfit := by rw [arows_len]; omega)) ?_ | refine q_go (fun w hS => m_loada_rd Try.underlying34 (hi := ti34) (hS := hS) (hfit := by rw [arows_len]; omega)) ?_ | refine q_go (fun w hS => m_loada_vec Try.underlying34 (hi := ti34) (hS := hS) (hfit := by rw [arows_len]; omega)) ?_
                   try simp only [opv, n1, n2, n3, n4, Value.cells, List.getElem_toArray, List.getElem_cons_zero, List.getElem_cons_succ]
                   rw [arow_key (by omega) hso, hx]
                   refine q_on (yi (t := 84) rfl rfl) ?_
                   apply q_call en116
                   case H =>
                     intro w hS
                     try simp only [opv, n1, n2, n3, n4, List.map_toArray, List.map_cons, List.map_nil, List.append_toArray, List.cons_append, List.nil_append, Array.append_empty]
                     refine CallR.mono (c_ref08Less (akey y) (akey x) hky hkx _) ?_
                     rintro _ w1 ⟨rfl, hE⟩; exact ⟨rfl, hS.ext hE⟩
                   try simp only [opv, n1, n2, n3, n4, Value.cells]
                   first | refine q_go (fun w hS => s_pick_t) ?_ | refine q_go (fun w hS => s_pick_f) ?_
                   try simp only [opv, n1, n2, n3, n4, Value.cells]
                   refine q_go (fun w hS => s_assign) ?_
                   try simp only [opv, n1, n2, n3, n4, Value.cells]
                   clear hS
                   refine q_nil fun w45 hS => ?_
                   refine hK24 _ _ ?_
                   refine x_cond (ht := fun hc13 => ?_) (hf := fun hc13 => ?_)
                   ·
                    try simp only [decide_eq_true_eq, decide_eq_false_iff_not, Bool.not_eq_true', Bool.not_eq_false', Int.not_lt, Int.not_le, ne_eq, Decidable.not_not, bne_iff_ne, beq_iff_eq, not_true_eq_false, not_false_eq_true] at hc13
                    first
                    | (exfalso; omega)
                    | skip
                      try (have hmg := mg_r (s := s) (t := t) (i := i) (k := k) (by omega) hy (.inr ⟨by omega, by rw [hx]; exact hl1, by rw [hx]; exact hc13⟩))
                      have hnx : (o ++ [y]) ++ mergeP (s.drop i) (t.drop (k + 1)) = mergeP s t := by rw [← hmo, hmg, List.append_assoc]; rfl
                      refine x_seq fun K26 hK26 => ?_
                      refine x_region ?_
                      refine s_go (s_move) ?_
                      try simp only [opv, n1, n2, n3, n4, Value.cells]
                      refine s_go (s_move) ?_
                      try simp only [opv, n1, n2, n3, n4, Value.cells]
                      refine s_go (s_move) ?_
                      try simp only [opv, n1, n2, n3, n4, Value.cells]
                      first | refine s_go (m_indexAddr_rd Try.underlying24 ti39 (hS := hS)) ?_ | refine s_go (m_indexAddr_vec Try.underlying24 ti39 (hS := hS)) ?_
                      try simp only [opv, n1, n2, n3, n4, Value.cells, Nat.mul_one, Nat.zero_add, Int.toNat_natCast, Int.reduceToNat]
                      first | refine s_go (m_load_row Try.underlying39 (hi := ti39) (hS := hS) (hfit := by rw [arows_len]; omega)) ?_ | refine s_go (m_loada_obj Try.underlying39 (hi := ti39) (hS := hS) (hfit := by rw [arows_len]; omega)) ?_ | refine s_go (m_loada_bx Try.underlying39 (hi := ti39) (hS := hS) (hfit := by rw [arows_len]; omega)) ?_ | refine s_go (m_loada_rd Try.underlying39 (hi := ti39) (hS := hS) (hfit := by rw [arows_len]; omega)) ?_ | refine s_go (m_loada_vec Try.underlying39 (hi := ti39) (hS := hS) (hfit := by rw [arows_len]; omega)) ?_
                      try simp only [opv, n1, n2, n3, n4, Value.cells, List.getElem_toArray, List.getElem_cons_zero, List.getElem_cons_succ]
                      rw [arow_get (by omega) hto, hy]
                      refine m_buildRow (cells := (AA y)) Try.underlying24 ti39 (hc := by simp only [List.map_toArray, List.map_cons, List.map_nil, opv, n1, n2, n3, n4, Value.cells, List.toList_toArray]; exact fill_one (by rfl) (zi_size21 hyl) (by rfl)) (hS := hS) (h := fun w46 g46 hS => ?_)
                      try simp only [opv, n1, n2, n3, n4, Value.cells, Array.toArray_toList] at hS ⊢
                      replace hS := hS.obj_rd (sz := 21) (n := 1) (by exact zi_size21 hyl) .head
                      rw [arow_one hyl] at hS
                      refine m_append Try.underlying24 ti39 (hS := hS) (h1 := rowsZ_cells _ _) (h := fun w47 A47 C47 hS => ?_)
                      try simp only [← List.map_append, ← List.map_drop, ← List.map_take, Nat.mul_one, Nat.zero_mul, Nat.sub_zero, List.drop_zero, List.nil_append, Nat.zero_add] at hS ⊢
                      try simp only [opv, n1, n2, n3, n4, Value.cells, Array.toArray_toList] at hS ⊢
                      rw [add_one] at hS
                      refine s_go (s_assign) ?_
                      try simp only [opv, n1, n2, n3, n4, Value.cells]
                      refine x_nil ?_
                      refine hK26 _ _ ?_
                      refine x_region ?_
                      refine s_go (s_move) ?_
                      try simp only [opv, n1, n2, n3, n4, Value.cells]
                      refine s_go (s_add (hc := by first | exact wr_i64 (by omega) (by omega) | rfl)) ?_
                      try simp only [opv, n1, n2, n3, n4, Value.cells]
                      refine s_go (s_assign) ?_
                      try simp only [opv, n1, n2, n3, n4, Value.cells]
                      refine x_nil ?_
                      refine loop_back (m' := m1 - 1) (by simp only [clob, List.foldl, n1, n2, n3, n4]) ?_ ?_
                      · try simp only [opv, n1, n2, n3, n4, Value.cells]
                        exact ⟨_, _, _, _, _, by omega, by omega, by omega, by rfl, by rfl, by simp only [List.length_append, List.length_cons, List.length_nil, Nat.zero_add]; rfl, hnx, by simp only [List.length_append, List.length_cons, List.length_nil, Nat.zero_add]; omega, by simp only [List.length_append, List.length_cons, List.length_nil, Nat.zero_add]; exact hS.sel (by repeat (first | exact Sel.nil | (refine Sel.cons (by repeat (first | exact Del.head | apply Del.tail)) ?_)))⟩
                      · omega
                   ·
                    try simp only [decide_eq_true_eq, decide_eq_false_iff_not, Bool.not_eq_true', Bool.not_eq_false', Int.not_lt, Int.not_le, ne_eq, Decidable.not_not, bne_iff_ne, beq_iff_eq, not_true_eq_false, not_false_eq_true] at hc13
                    first
                    | (exfalso; omega)
                    | skip
                      have hmg := mg_e (s := s) (t := t) (i := i) (k := k) (by omega) hx (by omega) hy hl1 hc13
                      have hnx : (o ++ [(akey x ++ moreV (aval x) (aval y))]) ++ mergeP (s.drop (i + 1)) (t.drop (k + 1)) = mergeP s t := by rw [← hmo, hmg, List.append_assoc]; rfl
                      have hmo9 := more_ok hvx hvy
                      have hml := hmo9.len
                      have hk12 := hkx.len
                      have hzl : (akey x ++ moreV (aval x) (aval y)).length = 21 := (kv_ok hkx hmo9).len
                      refine x_seq fun K27 hK27 => ?_
                      refine x_mixed_c (Lc := [.rd B2 21 (t).length (arows (t)), .rd B1 21 (s).length (arows (s))]) [] 0 [5, 22, 23, 24, 25, 26, 27, 28, 29, 30, 31, 32, 33, 34, 35, 36, 37, 38, 39, 40, 41] (fun f w => ∃ (C2 : Option Addr) (e2 : Nat), f 5 = .slice C2 (o.length + 1) e2 ∧ St NoB w0 w [.vec C2 e2 39 21 (o.length + 1) (arows (o ++ [(akey x ++ moreV (aval x) (aval y))])), .rd B2 21 (t).length (arows (t)), .rd B1 21 (s).length (arows (s))]) (by kernel_rfl) (by kernel_rfl) (by kernel_rfl) (by decide) hS (fun w48 hS => ?mixpre503) ?mixrest503
                      case mixpre503 =>
                       refine p_nil ?_
                       simp only [List.length_cons, List.length_nil, Nat.reduceAdd, Nat.reduceSub]
                       refine any_go (i := 0) (by rfl) (by decide +kernel) (by decide +kernel) noLate_nil (go_yields w_none (fun w hS => s_move)) ?_
                       try simp only [opv, n1, n2, n3, n4, Value.cells]
                       refine any_go (i := 1) (by rfl) (by decide +kernel) (by decide +kernel) noLate_nil (go_yields w_none (fun w hS => s_move)) ?_
                       try simp only [opv, n1, n2, n3, n4, Value.cells]
                       refine any_go (i := 2) (by rfl) (by decide +kernel) (by decide +kernel) noLate_nil (go_yields w_none (fun w hS => s_move)) ?_
                       try simp only [opv, n1, n2, n3, n4, Value.cells]
                       first | refine any_go (i := 3) (by rfl) (by decide +kernel) (by decide +kernel) noLate_nil (go_yields w_none (fun w hS => m_indexAddr_rd Try.underlying24 ti39 (hS := hS))) ?_ | refine any_go (i := 3) (by rfl) (by decide +kernel) (by decide +kernel) noLate_nil (go_yields w_none (fun w hS => m_indexAddr_vec Try.underlying24 ti39 (hS := hS))) ?_
                       try simp only [opv, n1, n2, n3, n4, Value.cells, Nat.mul_one, Nat.zero_add, Int.toNat_natCast, Int.reduceToNat]
                       first | refine any_go (i := 4) (by rfl) (by decide +kernel) (by decide +kernel) noLate_nil (go_yields w_none (fun w hS => m_fieldAddr Try.underlying39 (hi := ti34))) ?_ | refine any_go (i := 4) (by rfl) (by decide +kernel) (by decide +kernel) noLate_nil (go_yields w_none (fun w hS => m_fieldAddr_rd Try.underlying39 (hi := ti34) (hS := hS))) ?_ | refine any_go (i := 4) (by rfl) (by decide +kernel) (by decide +kernel) noLate_nil (go_yields w_none (fun w hS => m_fieldAddr_vec Try.underlying39 (hi := ti34) (hS := hS))) ?_
                       try simp only [opv, n1, n2, n3, n4, Value.cells, Nat.zero_add, Nat.add_zero, List.getElem_toArray, List.getElem_cons_zero, List.getElem_cons_succ]
                       first | refine any_go (i := 5) (by rfl) (by decide +kernel) (by decide +kernel) noLate_nil (go_yields w_none (fun w hS => m_load_row Try.underlying34 (hi := ti34) (hS := hS) (hfit := by rw [arows_len]; omega))) ?_ | refine any_go (i := 5) (by rfl) (by decide +kernel) (by decide +kernel) noLate_nil (go_yields w_none (fun w hS => m_loada_obj Try.underlying34 (hi := ti34) (hS := hS) (hfit := by rw [arows_len]; omega))) ?_ | refine any_go (i := 5) (by rfl) (by decide +kernel) (by decide +kernel) noLate_nil (go_yields w_none (fun w hS => m_loada_bx Try.underlying34 (hi := ti34) (hS := hS) (hfit := by rw [arows_len]; omega))) ?_ | refine any_go (i := 5) (by rfl) (by decide +kernel) (by decide +kernel) noLate_nil (go_yields w_none (fun w hS => m_loada_rd Try.underlying34 (hi := ti34) (hS := hS) (hfit := by rw [arows_len]; omega))) ?_ | refine any_go (i := 5) (by rfl) (by decide +kernel) (by decide +kernel) noLate_nil (go_yields w_none (fun w hS => m_loada_vec Try.underlying34 (hi := ti34) (hS := hS) (hfit := by rw [arows_len]; omega))) ?_
                       try simp only [opv, n1, n2, n3, n4, Value.cells, List.getElem_toArray, List.getElem_cons_zero, List.getElem_cons_succ]
                       rw [arow_key (by omega) hso, hx]
                       refine any_go (i := 6) (by rfl) (by decide +kernel) (by decide +kernel) noLate_nil (go_yields w_none (fun w hS => s_move)) ?_
                       try simp only [opv, n1, n2, n3, n4, Value.cells]
                       refine any_go (i := 7) (by rfl) (by decide +kernel) (by decide +kernel) noLate_nil (go_yields w_none (fun w hS => s_move)) ?_
                       try simp only [opv, n1, n2, n3, n4, Value.cells]
                       first | refine any_go (i := 8) (by rfl) (by decide +kernel) (by decide +kernel) noLate_nil (go_yields w_none (fun w hS => m_indexAddr_rd Try.underlying24 ti39 (hS := hS))) ?_ | refine any_go (i := 8) (by rfl) (by decide +kernel) (by decide +kernel) noLate_nil (go_yields w_none (fun w hS => m_indexAddr_vec Try.underlying24 ti39 (hS := hS))) ?_
                       try simp only [opv, n1, n2, n3, n4, Value.cells, Nat.mul_one, Nat.zero_add, Int.toNat_natCast, Int.reduceToNat]
                       first | refine any_go (i := 9) (by rfl) (by decide +kernel) (by decide +kernel) noLate_nil (go_yields w_none (fun w hS => m_fieldAddr Try.underlying39 (hi := ti37))) ?_ | refine any_go (i := 9) (by rfl) (by decide +kernel) (by decide +kernel) noLate_nil (go_yields w_none (fun w hS => m_fieldAddr_rd Try.underlying39 (hi := ti37) (hS := hS))) ?_ | refine any_go (i := 9) (by rfl) (by decide +kernel) (by decide +kernel) noLate_nil (go_yields w_none (fun w hS => m_fieldAddr_vec Try.underlying39 (hi := ti37) (hS := hS))) ?_
                       try simp only [opv, n1, n2, n3, n4, Value.cells, Nat.zero_add, Nat.add_zero, List.getElem_toArray, List.getElem_cons_zero, List.getElem_cons_succ]
                       first | refine any_go (i := 10) (by rfl) (by decide +kernel) (by decide +kernel) noLate_nil (go_yields w_none (fun w hS => m_load_row Try.underlying37 (hi := ti37) (hS := hS) (hfit := by rw [arows_len]; omega))) ?_ | refine any_go (i := 10) (by rfl) (by decide +kernel) (by decide +kernel) noLate_nil (go_yields w_none (fun w hS => m_loada_obj Try.underlying37 (hi := ti37) (hS := hS) (hfit := by rw [arows_len]; omega))) ?_ | refine any_go (i := 10) (by rfl) (by decide +kernel) (by decide +kernel) noLate_nil (go_yields w_none (fun w hS => m_loada_bx Try.underlying37 (hi := ti37) (hS := hS) (hfit := by rw [arows_len]; omega))) ?_ | refine any_go (i := 10) (by rfl) (by decide +kernel) (by decide +kernel) noLate_nil (go_yields w_none (fun w hS => m_loada_rd Try.underlying37 (hi := ti37) (hS := hS) (hfit := by rw [arows_len]; omega))) ?_ | refine any_go (i := 10) (by rfl) (by decide +kernel) (by decide +kernel) noLate_nil (go_yields w_none (fun w hS => m_loada_vec Try.underlying37 (hi := ti37) (hS := hS) (hfit := by rw [arows_len]; omega))) ?_
                       try simp only [opv, n1, n2, n3, n4, Value.cells, List.getElem_toArray, List.getElem_cons_zero, List.getElem_cons_succ]
                       rw [arow_val (by omega) hso, hx]
                       refine any_go (i := 11) (by rfl) (by decide +kernel) (by decide +kernel) noLate_nil (go_yields w_none (fun w hS => s_move)) ?_
                       try simp only [opv, n1, n2, n3, n4, Value.cells]
                       refine any_go (i := 12) (by rfl) (by decide +kernel) (by decide +kernel) noLate_nil (go_yields w_none (fun w hS => s_move)) ?_
                       try simp only [opv, n1, n2, n3, n4, Value.cells]
                       first | refine any_go (i := 13) (by rfl) (by decide +kernel) (by decide +kernel) noLate_nil (go_yields w_none (fun w hS => m_indexAddr_rd Try.underlying24 ti39 (hS := hS))) ?_ | refine any_go (i := 13) (by rfl) (by decide +kernel) (by decide +kernel) noLate_nil (go_yields w_none (fun w hS => m_indexAddr_vec Try.underlying24 ti39 (hS := hS))) ?_
                       try simp only [opv, n1, n2, n3, n4, Value.cells, Nat.mul_one, Nat.zero_add, Int.toNat_natCast, Int.reduceToNat]
                       first | refine any_go (i := 14) (by rfl) (by decide +kernel) (by decide +kernel) noLate_nil (go_yields w_none (fun w hS => m_fieldAddr Try.underlying39 (hi := ti37))) ?_ | refine any_go (i := 14) (by rfl) (by decide +kernel) (by decide +kernel) noLate_nil (go_yields w_none (fun w hS => m_fieldAddr_rd Try.underlying39 (hi := ti37) (hS := hS))) ?_ | refine any_go (i := 14) (by rfl) (by decide +kernel) (by decide +kernel) noLate_nil (go_yields w_none (fun w hS => m_fieldAddr_vec Try.underlying39 (hi := ti37) (hS := hS))) ?_
                       try simp only [opv, n1, n2, n3, n4, Value.cells, Nat.zero_add, Nat.add_zero, List.getElem_toArray, List.getElem_cons_zero, List.getElem_cons_succ]
                       first | refine any_go (i := 15) (by rfl) (by decide +kernel) (by decide +kernel) noLate_nil (go_yields w_none (fun w hS => m_load_row Try.underlying37 (hi := ti37) (hS := hS) (hfit := by rw [arows_len]; omega))) ?_ | refine any_go (i := 15) (by rfl) (by decide +kernel) (by decide +kernel) noLate_nil (go_yields w_none (fun w hS => m_loada_obj Try.underlying37 (hi := ti37) (hS := hS) (hfit := by rw [arows_len]; omega))) ?_ | refine any_go (i := 15) (by rfl) (by decide +kernel) (by decide +kernel) noLate_nil (go_yields w_none (fun w hS => m_loada_bx Try.underlying37 (hi := ti37) (hS := hS) (hfit := by rw [arows_len]; omega))) ?_ | refine any_go (i := 15) (by rfl) (by decide +kernel) (by decide +kernel) noLate_nil (go_yields w_none (fun w hS => m_loada_rd Try.underlying37 (hi := ti37) (hS := hS) (hfit := by rw [arows_len]; omega))) ?_ | refine any_go (i := 15) (by rfl) (by decide +kernel) (by decide +kernel) noLate_nil (go_yields w_none (fun w hS => m_loada_vec Try.underlying37 (hi := ti37) (hS := hS) (hfit := by rw [arows_len]; omega))) ?_
                       try simp only [opv, n1, n2, n3, n4, Value.cells, List.getElem_toArray, List.getElem_cons_zero, List.getElem_cons_succ]
                       rw [arow_val (by omega) hto, hy]
                       apply any_go (i := 16) (by rfl) (by decide +kernel) (by decide +kernel) noLate_nil (call_yields w_none en118 ?H3) ?K3
                       case H3 =>
                         intro w hS
                         try simp only [opv, n1, n2, n3, n4, List.map_toArray, List.map_cons, List.map_nil, List.append_toArray, List.cons_append, List.nil_append, Array.append_empty]
                         refine CallR.mono (c_ref09More (aval x) (aval y) hvx hvy _) ?_
                         rintro _ w1 ⟨rfl, hE⟩; exact ⟨rfl, hE⟩
                       try simp only [opv, n1, n2, n3, n4, Value.cells]
                       refine any_go (i := 17) (by rfl) (by decide +kernel) (by decide +kernel) noLate_nil (go_yields w_none (fun w hS => s_build_struct (cells := (AA (akey x ++ moreV (aval x) (aval y)))) Try.underlying39 ti39 bp39 (hc := by simp only [List.map_toArray, List.map_cons, List.map_nil, opv, n1, n2, n3, n4, Value.cells, List.toList_toArray]; exact fill_atom (by rfl) (by rfl) (by rfl) hk12 hml))) ?_
                       try simp only [opv, n1, n2, n3, n4, Value.cells]
                       refine any_step [18] (by kernel_rfl) (by decide) (fun w49 hE => ⟨fun _ => (hS.ext hE).sel (by repeat (first | exact Sel.nil | (refine Sel.cons (by repeat (first | exact Del.head | apply Del.tail)) ?_))), ?_⟩)
                       replace hS := hS.ext hE
                       intro i hi
                       simp only [List.mem_cons, List.not_mem_nil, or_false] at hi
                       subst hi
                       ·
                        refine any_op (by rfl) ?_
                        refine m_buildRow (cells := (AA (akey x ++ moreV (aval x) (aval y)))) Try.underlying24 ti39 (hc := by simp only [List.map_toArray, List.map_cons, List.map_nil, opv, n1, n2, n3, n4, Value.cells, List.toList_toArray]; exact fill_one (by rfl) (zi_size21 hzl) (by rfl)) (hS := hS) (h := fun w50 g50 hS => ?_)
                        try simp only [opv, n1, n2, n3, n4, Value.cells, Array.toArray_toList] at hS ⊢
                        replace hS := hS.obj_rd (sz := 21) (n := 1) (by exact zi_size21 hzl) .head
                        rw [arow_one hzl] at hS
                        refine x_nil ?_
                        refine any_step [19] (by kernel_rfl) (by decide) (fun w51 hE => ⟨fun _ => (hS.ext hE).sel (by repeat (first | exact Sel.nil | (refine Sel.cons (by repeat (first | exact Del.head | apply Del.tail)) ?_))), ?_⟩)
                        replace hS := hS.ext hE
                        intro i hi
                        simp only [List.mem_cons, List.not_mem_nil, or_false] at hi
                        subst hi
                        ·
                         refine any_op (by rfl) ?_
                         refine m_append Try.underlying24 ti39 (hS := hS) (h1 := rowsZ_cells _ _) (h := fun w52 A52 C52 hS => ?_)
                         try simp only [← List.map_append, ← List.map_drop, ← List.map_take, Nat.mul_one, Nat.zero_mul, Nat.sub_zero, List.drop_zero, List.nil_append, Nat.zero_add] at hS ⊢
                         try simp only [opv, n1, n2, n3, n4, Value.cells, Array.toArray_toList] at hS ⊢
                         rw [add_one] at hS
                         refine x_nil ?_
                         refine any_go (i := 20) (by rfl) (by decide +kernel) (by decide +kernel) noLate_nil (go_yields w_none (fun w hS => s_assign)) ?_
                         try simp only [opv, n1, n2, n3, n4, Value.cells]
                         refine any_nil (by kernel_rfl) (fun w53 hE => ?_)
                         replace hS := hS.ext hE
                         refine ⟨fun _ => hS.sel (by repeat (first | exact Sel.nil | (refine Sel.cons (by repeat (first | exact Del.head | apply Del.tail)) ?_))), ?_⟩
                         refine mix_leaf (by simp only [clob, List.foldl, n1, n2, n3, n4]) ?_
                         try simp only [n1, n2]
                         exact ⟨_, _, by first | trivial | rfl, hS.sel (by repeat (first | exact Sel.nil | (refine Sel.cons (by repeat (first | exact Del.head | apply Del.tail)) ?_)))⟩
                      intro fm3 w54 hM
                      obtain ⟨C2, e2, h5, hS⟩ := hM
                      simp only [clob, List.foldl, n3, n4, h5]
                      refine hK27 _ _ ?_
                      refine x_seq fun K28 hK28 => ?_
                      refine x_region ?_
                      refine s_go (s_move) ?_
                      try simp only [opv, n1, n2, n3, n4, Value.cells]
                      refine s_go (s_add (hc := by first | exact wr_i64 (by omega) (by omega) | rfl)) ?_
                      try simp only [opv, n1, n2, n3, n4, Value.cells]
                      refine s_go (s_assign) ?_
                      try simp only [opv, n1, n2, n3, n4, Value.cells]
                      refine x_nil ?_
                      refine hK28 _ _ ?_
                      refine x_region ?_
                      refine s_go (s_move) ?_
                      try simp only [opv, n1, n2, n3, n4, Value.cells]
                      refine s_go (s_add (hc := by first | exact wr_i64 (by omega) (by omega) | rfl)) ?_
                      try simp only [opv, n1, n2, n3, n4, Value.cells]
                      refine s_go (s_assign) ?_
                      try simp only [opv, n1, n2, n3, n4, Value.cells]
                      refine x_nil ?_
                      refine loop_back (m' := m1 - 1) (by simp only [clob, List.foldl, n1, n2, n3, n4]) ?_ ?_
                      · try simp only [opv, n1, n2, n3, n4, Value.cells]
                        exact ⟨_, _, _, _, _, by omega, by omega, by omega, by rfl, by rfl, by simp only [List.length_append, List.length_cons, List.length_nil, Nat.zero_add]; rfl, hnx, by simp only [List.length_append, List.length_cons, List.length_nil, Nat.zero_add]; omega, by simp only [List.length_append, List.length_cons, List.length_nil, Nat.zero_add]; exact hS.sel (by repeat (first | exact Sel.nil | (refine Sel.cons (by repeat (first | exact Del.head | apply Del.tail)) ?_)))⟩
                      · omega
          ·
           try simp only [n3, n4]
           try simp only [decide_eq_true_eq, decide_eq_false_iff_not, Bool.not_eq_true', Bool.not_eq_false', Int.not_lt, Int.not_le, ne_eq, Decidable.not_not] at hp7
           first
           | (exfalso; omega)
           | skip
             have hmg := mg_r (s := s) (t := t) (i := i) (k := k) (by omega) hy (.inl (by omega))
             have hnx : (o ++ [y]) ++ mergeP (s.drop i) (t.drop (k + 1)) = mergeP s t := by rw [← hmo, hmg, List.append_assoc]; rfl
             refine q_off (yi (t := 56) rfl rfl) ?_
             try simp only [opv, n1, n2, n3, n4, Value.cells]
             refine q_off (yi (t := 56) rfl rfl) ?_
             try simp only [opv, n1, n2, n3, n4, Value.cells]
             refine q_off (yi (t := 56) rfl rfl) ?_
             try simp only [opv, n1, n2, n3, n4, Value.cells]
             refine q_off (yi (t := 56) rfl rfl) ?_
             try simp only [opv, n1, n2, n3, n4, Value.cells]
             refine q_off (yi (t := 56) rfl rfl) ?_
             try simp only [opv, n1, n2, n3, n4, Value.cells]
             refine q_off (yi (t := 56) rfl rfl) ?_
             try simp only [opv, n1, n2, n3, n4, Value.cells]
             refine q_off (yi (t := 56) rfl rfl) ?_
             try simp only [opv, n1, n2, n3, n4, Value.cells]
             refine q_off (yi (t := 56) rfl rfl) ?_
             try simp only [opv, n1, n2, n3, n4, Value.cells]
             refine q_off (yi (t := 56) rfl rfl) ?_
             try simp only [opv, n1, n2, n3, n4, Value.cells]
             refine q_off (yi (t := 56) rfl rfl) ?_
             try simp only [opv, n1, n2, n3, n4, Value.cells]
             refine q_off (yi (t := 56) rfl rfl) ?_
             try simp only [opv, n1, n2, n3, n4, Value.cells]
             refine q_on (yi (t := 51) rfl rfl) ?_
             first | refine q_go (fun w hS => s_pick_t) ?_ | refine q_go (fun w hS => s_pick_f) ?_
             try simp only [opv, n1, n2, n3, n4, Value.cells]
             first | refine q_go (fun w hS => s_pick_t) ?_ | refine q_go (fun w hS => s_pick_f) ?_
             try simp only [opv, n1, n2, n3, n4, Value.cells]
             refine q_go (fun w hS => s_assign) ?_
             try simp only [opv, n1, n2, n3, n4, Value.cells]
             clear hS
             refine q_nil fun w55 hS => ?_
             refine hK21 _ _ ?_
             refine x_cond_f (h := ?_)
             try have hl1 := @c
             refine x_seq fun K29 hK29 => ?_
             refine x_quiet (by kernel_rfl) (by kernel_rfl) hS ?_
             refine q_go (fun w hS => s_move) ?_
             try simp only [opv, n1, n2, n3, n4, Value.cells]
             refine q_go (fun w hS => s_move) ?_
             try simp only [opv, n1, n2, n3, n4, Value.cells]
             refine q_go (fun w hS => s_len_sl Try.underlying24) ?_
             try simp only [opv, n1, n2, n3, n4, Value.cells]
             refine q_go (fun w hS => s_eql) ?_
             try simp only [opv, n1, n2, n3, n4, Value.cells]
             refine q_go (fun w hS => s_move) ?_
             try simp only [opv, n1, n2, n3, n4, Value.cells]
             refine q_part 84 rfl (fun hp9 => ?_) (fun hp9 => ?_)
             ·
              try simp only [n3, n4]
              try simp only [decide_eq_true_eq, decide_eq_false_iff_not, Bool.not_eq_true', Bool.not_eq_false', Int.not_lt, Int.not_le, ne_eq, Decidable.not_not] at hp9
              first
              | (exfalso; omega)
              | skip
                refine q_off (yi (t := 84) rfl rfl) ?_
                try simp only [opv, n1, n2, n3, n4, Value.cells]
                refine q_off (yi (t := 84) rfl rfl) ?_
                try simp only [opv, n1, n2, n3, n4, Value.cells]
                refine q_off (yi (t := 84) rfl rfl) ?_
                try simp only [opv, n1, n2, n3, n4, Value.cells]
                refine q_off (yi (t := 84) rfl rfl) ?_
                try simp only [opv, n1, n2, n3, n4, Value.cells]
                refine q_off (yi (t := 84) rfl rfl) ?_
                try simp only [opv, n1, n2, n3, n4, Value.cells]
                refine q_off (yi (t := 84) rfl rfl) ?_
                try simp only [opv, n1, n2, n3, n4, Value.cells]
                refine q_off (yi (t := 84) rfl rfl) ?_
                try simp only [opv, n1, n2, n3, n4, Value.cells]
                refine q_off (yi (t := 84) rfl rfl) ?_
                try simp only [opv, n1, n2, n3, n4, Value.cells]
                refine q_off (yi (t := 84) rfl rfl) ?_
                try simp only [opv, n1, n2, n3, n4, Value.cells]
                refine q_off (yi (t := 84) rfl rfl) ?_
                try simp only [opv, n1, n2, n3, n4, Value.cells]
                refine q_off (yi (t := 84) rfl rfl) ?_
                try simp only [opv, n1, n2, n3, n4, Value.cells]
                first | refine q_go (fun w hS => s_pick_t) ?_ | refine q_go (fun w hS => s_pick_f) ?_
                try simp only [opv, n1, n2, n3, n4, Value.cells]
                refine q_go (fun w hS => s_assign) ?_
                try simp only [opv, n1, n2, n3, n4, Value.cells]
                clear hS
                refine q_nil fun w56 hS => ?_
                refine hK29 _ _ ?_
                refine x_cond_t (h := ?_)
                try (have hmg := mg_r (s := s) (t := t) (i := i) (k := k) (by omega) hy (.inr ⟨by omega, by rw [hx]; exact hl1, by rw [hx]; exact @c⟩))
                have hnx : (o ++ [y]) ++ mergeP (s.drop i) (t.drop (k + 1)) = mergeP s t := by rw [← hmo, hmg, List.append_assoc]; rfl
                refine x_seq fun K30 hK30 => ?_
                refine x_region ?_
                refine s_go (s_move) ?_
                try simp only [opv, n1, n2, n3, n4, Value.cells]
                refine s_go (s_move) ?_
                try simp only [opv, n1, n2, n3, n4, Value.cells]
                refine s_go (s_move) ?_
                try simp only [opv, n1, n2, n3, n4, Value.cells]
                first | refine s_go (m_indexAddr_rd Try.underlying24 ti39 (hS := hS)) ?_ | refine s_go (m_indexAddr_vec Try.underlying24 ti39 (hS := hS)) ?_
                try simp only [opv, n1, n2, n3, n4, Value.cells, Nat.mul_one, Nat.zero_add, Int.toNat_natCast, Int.reduceToNat]
                first | refine s_go (m_load_row Try.underlying39 (hi := ti39) (hS := hS) (hfit := by rw [arows_len]; omega)) ?_ | refine s_go (m_loada_obj Try.underlying39 (hi := ti39) (hS := hS) (hfit := by rw [arows_len]; omega)) ?_ | refine s_go (m_loada_bx Try.underlying39 (hi := ti39) (hS := hS) (hfit := by rw [arows_len]; omega)) ?_ | refine s_go (m_loada_rd Try.underlying39 (hi := ti39) (hS := hS) (hfit := by rw [arows_len]; omega)) ?_ | refine s_go (m_loada_vec Try.underlying39 (hi := ti39) (hS := hS) (hfit := by rw [arows_len]; omega)) ?_
                try simp only [opv, n1, n2, n3, n4, Value.cells, List.getElem_toArray, List.getElem_cons_zero, List.getElem_cons_succ]
                rw [arow_get (by omega) hto, hy]
                refine m_buildRow (cells := (AA y)) Try.underlying24 ti39 (hc := by simp only [List.map_toArray, List.map_cons, List.map_nil, opv, n1, n2, n3, n4, Value.cells, List.toList_toArray]; exact fill_one (by rfl) (zi_size21 hyl) (by rfl)) (hS := hS) (h := fun w57 g57 hS => ?_)
                try simp only [opv, n1, n2, n3, n4, Value.cells, Array.toArray_toList] at hS ⊢
                replace hS := hS.obj_rd (sz := 21) (n := 1) (by exact zi_size21 hyl) .head
                rw [arow_one hyl] at hS
                refine m_append Try.underlying24 ti39 (hS := hS) (h1 := rowsZ_cells _ _) (h := fun w58 A58 C58 hS => ?_)
                try simp only [← List.map_append, ← List.map_drop, ← List.map_take, Nat.mul_one, Nat.zero_mul, Nat.sub_zero, List.drop_zero, List.nil_append, Nat.zero_add] at hS ⊢
                try simp only [opv, n1, n2, n3, n4, Value.cells, Array.toArray_toList] at hS ⊢
                rw [add_one] at hS
                refine s_go (s_assign) ?_
                try simp only [opv, n1, n2, n3, n4, Value.cells]
                refine x_nil ?_
                refine hK30 _ _ ?_
                refine x_region ?_
                refine s_go (s_move) ?_
                try simp only [opv, n1, n2, n3, n4, Value.cells]
                refine s_go (s_add (hc := by first | exact wr_i64 (by omega) (by omega) | rfl)) ?_
                try simp only [opv, n1, n2, n3, n4, Value.cells]
                refine s_go (s_assign) ?_
                try simp only [opv, n1, n2, n3, n4, Value.cells]
                refine x_nil ?_
                refine loop_back (m' := m1 - 1) (by simp only [clob, List.foldl, n1, n2, n3, n4]) ?_ ?_
                · try simp only [opv, n1, n2, n3, n4, Value.cells]
                  exact ⟨_, _, _, _, _, by omega, by omega, by omega, by rfl, by rfl, by simp only [List.length_append, List.length_cons, List.length_nil, Nat.zero_add]; rfl, hnx, by simp only [List.length_append, List.length_cons, List.length_nil, Nat.zero_add]; omega, by simp only [List.length_append, List.length_cons, List.length_nil, Nat.zero_add]; exact hS.sel (by repeat (first | exact Sel.nil | (refine Sel.cons (by repeat (first | exact Del.head | apply Del.tail)) ?_)))⟩
                · omega
             ·
              try simp only [n3, n4]
              try simp only [decide_eq_true_eq, decide_eq_false_iff_not, Bool.not_eq_true', Bool.not_eq_false', Int.not_lt, Int.not_le, ne_eq, Decidable.not_not] at hp9
              first
              | (exfalso; omega)
              | skip
                refine q_on (yi (t := 84) rfl rfl) ?_
                refine q_go (fun w hS => s_move) ?_
                try simp only [opv, n1, n2, n3, n4, Value.cells]
                refine q_on (yi (t := 84) rfl rfl) ?_
                refine q_go (fun w hS => s_move) ?_
                try simp only [opv, n1, n2, n3, n4, Value.cells]
                refine q_on (yi (t := 84) rfl rfl) ?_
                first | refine q_go (fun w hS => m_indexAddr_rd Try.underlying24 ti39 (hS := hS)) ?_ | refine q_go (fun w hS => m_indexAddr_vec Try.underlying24 ti39 (hS := hS)) ?_
                try simp only [opv, n1, n2, n3, n4, Value.cells, Nat.mul_one, Nat.zero_add, Int.toNat_natCast, Int.reduceToNat]
                refine q_on (yi (t := 84) rfl rfl) ?_
                first | refine q_go (fun w hS => m_fieldAddr Try.underlying39 (hi := ti34)) ?_ | refine q_go (fun w hS => m_fieldAddr_rd Try.underlying39 (hi := ti34) (hS := hS)) ?_ | refine q_go (fun w hS => m_fieldAddr_vec Try.underlying39 (hi := ti34) (hS := hS)) ?_
                try simp only [opv, n1, n2, n3, n4, Value.cells, Nat.zero_add, Nat.add_zero, List.getElem_toArray, List.getElem_cons_zero, List.getElem_cons_succ]
                refine q_on (yi (t := 84) rfl rfl) ?_
                first | refine q_go (fun w hS => m_load_row Try.underlying34 (hi := ti34) (hS := hS) (hfit := by rw [arows_len]; omega)) ?_ | refine q_go (fun w hS => m_loada_obj Try.underlying34 (hi := ti34) (hS := hS) (hfit := by rw [arows_len]; omega)) ?_ | refine q_go (fun w hS => m_loada_bx Try.underlying34 (hi := ti34) (hS := hS) (hfit := by rw [arows_len]; omega)) ?_ | refine q_go (fun w hS => m_loada_rd Try.underlying34 (hi := ti34) (hS := hS) (hfit := by rw [arows_len]; omega)) ?_ | refine q_go (fun w hS => m_loada_vec Try.underlying34 (hi := ti34) (hS := hS) (hfit := by rw [arows_len]; omega)) ?_
                try simp only [opv, n1, n2, n3, n4, Value.cells, List.getElem_toArray, List.getElem_cons_zero, List.getElem_cons_succ]
                rw [arow_key (by omega) hto, hy]
                refine q_on (yi (t := 84) rfl rfl) ?_
                refine q_go (fun w hS => s_move) ?_
                try simp only [opv, n1, n2, n3, n4, Value.cells]
                refine q_on (yi (t := 84) rfl rfl) ?_
                refine q_go (fun w hS => s_move) ?_
                try simp only [opv, n1, n2, n3, n4, Value.cells]
                refine q_on (yi (t := 84) rfl rfl) ?_
                first | refine q_go (fun w hS => m_indexAddr_rd Try.underlying24 ti39 (hS := hS)) ?_ | refine q_go (fun w hS => m_indexAddr_vec Try.underlying24 ti39 (hS := hS)) ?_
                try simp only [opv, n1, n2, n3, n4, Value.cells, Nat.mul_one, Nat.zero_add, Int.toNat_natCast, Int.reduceToNat]
                refine q_on (yi (t := 84) rfl rfl) ?_
                first | refine q_go (fun w hS => m_fieldAddr Try.underlying39 (hi := ti34)) ?_ | refine q_go (fun w hS => m_fieldAddr_rd Try.underlying39 (hi := ti34) (hS := hS)) ?_ | refine q_go (fun w hS => m_fieldAddr_vec Try.underlying39 (hi := ti34) (hS := hS)) ?_
                try simp only [opv, n1, n2, n3, n4, Value.cells, Nat.zero_add, Nat.add_zero, List.getElem_toArray, List.getElem_cons_zero, List.getElem_cons_succ]
                refine q_on (yi (t := 84) rfl rfl) ?_
                first | refine q_go (fun w hS => m_load_row Try.underlying34 (hi := ti34) (hS := hS) (hfit := by rw [arows_len]; omega)) ?_ | refine q_go (fun w hS => m_loada_obj Try.underlying34 (hi := ti34) (hS := hS) (hfit := by rw [arows_len]; omega)) ?_ | refine q_go (fun w hS => m_loada_bx Try.underlying34 (hi := ti34) (hS := hS) (hfit := by rw [arows_len]; omega)) ?_ | refine q_go (fun w hS => m_loada_rd Try.underlying34 (hi := ti34) (hS := hS) (hfit := by rw [arows_len]; omega)) ?_ | refine q_go (fun w hS => m_loada_vec Try.underlying34 (hi := ti34) (hS := hS) (hfit := by rw [arows_len]; omega)) ?_
                try simp only [opv, n1, n2, n3, n4, Value.cells, List.getElem_toArray, List.getElem_cons_zero, List.getElem_cons_succ]
                rw [arow_key (by omega) hso, hx]
                refine q_on (yi (t := 84) rfl rfl) ?_
                apply q_call en116
                case H =>
                  intro w hS
                  try simp only [opv, n1, n2, n3, n4, List.map_toArray, List.map_cons, List.map_nil, List.append_toArray, List.cons_append, List.nil_append, Array.append_empty]
                  refine CallR.mono (c_ref08Less (akey y) (akey x) hky hkx _) ?_
                  rintro _ w1 ⟨rfl, hE⟩; exact ⟨rfl, hS.ext hE⟩
                try simp only [opv, n1, n2, n3, n4, Value.cells]
                first | refine q_go (fun w hS => s_pick_t) ?_ | refine q_go (fun w hS => s_pick_f) ?_
                try simp only [opv, n1, n2, n3, n4, Value.cells]
                refine q_go (fun w hS => s_assign) ?_
                try simp only [opv, n1, n2, n3, n4, Value.cells]
                clear hS
                refine q_nil fun w59 hS => ?_
                refine hK29 _ _ ?_
                refine x_cond (ht := fun hc16 => ?_) (hf := fun hc16 => ?_)
                ·
                 try simp only [decide_eq_true_eq, decide_eq_false_iff_not, Bool.not_eq_true', Bool.not_eq_false', Int.not_lt, Int.not_le, ne_eq, Decidable.not_not, bne_iff_ne, beq_iff_eq, not_true_eq_false, not_false_eq_true] at hc16
                 first
                 | (exfalso; omega)
                 | skip
                   try (have hmg := mg_r (s := s) (t := t) (i := i) (k := k) (by omega) hy (.inr ⟨by omega, by rw [hx]; exact hl1, by rw [hx]; exact hc16⟩))
                   have hnx : (o ++ [y]) ++ mergeP (s.drop i) (t.drop (k + 1)) = mergeP s t := by rw [← hmo, hmg, List.append_assoc]; rfl
                   refine x_seq fun K31 hK31 => ?_
                   refine x_region ?_
                   refine s_go (s_move) ?_
                   try simp only [opv, n1, n2, n3, n4, Value.cells]
                   refine s_go (s_move) ?_
                   try simp only [opv, n1, n2, n3, n4, Value.cells]
                   refine s_go (s_move) ?_
                   try simp only [opv, n1, n2, n3, n4, Value.cells]
                   first | refine s_go (m_indexAddr_rd Try.underlying24 ti39 (hS := hS)) ?_ | refine s_go (m_indexAddr_vec Try.underlying24 ti39 (hS := hS)) ?_
                   try simp only [opv, n1, n2, n3, n4, Value.cells, Nat.mul_one, Nat.zero_add, Int.toNat_natCast, Int.reduceToNat]
                   first | refine s_go (m_load_row Try.underlying39 (hi := ti39) (hS := hS) (hfit := by rw [arows_len]; omega)) ?_ | refine s_go (m_loada_obj Try.underlying39 (hi := ti39) (hS := hS) (hfit := by rw [arows_len]; omega)) ?_ | refine s_go (m_loada_bx Try.underlying39 (hi := ti39) (hS := hS) (hfit := by rw [arows_len]; omega)) ?_ | refine s_go (m_loada_rd Try.underlying39 (hi := ti39) (hS := hS) (hfit := by rw [arows_len]; omega)) ?_ | refine s_go (m_loada_vec Try.underlying39 (hi := ti39) (hS := hS) (hfit := by rw [arows_len]; omega)) ?_
                   try simp only [opv, n1, n2, n3, n4, Value.cells, List.getElem_toArray, List.getElem_cons_zero, List.getElem_cons_succ]
                   rw [arow_get (by omega) hto, hy]
                   refine m_buildRow (cells := (AA y)) Try.underlying24 ti39 (hc := by simp only [List.map_toArray, List.map_cons, List.map_nil, opv, n1, n2, n3, n4, Value.cells, List.toList_toArray]; exact fill_one (by rfl) (zi_size21 hyl) (by rfl)) (hS := hS) (h := fun w60 g60 hS => ?_)
                   try simp only [opv, n1, n2, n3, n4, Value.cells, Array.toArray_toList] at hS ⊢
                   replace hS := hS.obj_rd (sz := 21) (n := 1) (by exact zi_size21 hyl) .head
                   rw [arow_one hyl] at hS
                   refine m_append Try.underlying24 ti39 (hS := hS) (h1 := rowsZ_cells _ _) (h := fun w61 A61 C61 hS => ?_)
                   try simp only [← List.map_append, ← List.map_drop, ← List.map_take, Nat.mul_one, Nat.zero_mul, Nat.sub_zero, List.drop_zero, List.nil_append, Nat.zero_add] at hS ⊢
                   try simp only [opv, n1, n2, n3, n4, Value.cells, Array.toArray_toList] at hS ⊢
                   rw [add_one] at hS
                   refine s_go (s_assign) ?_
                   try simp only [opv, n1, n2, n3, n4, Value.cells]
                   refine x_nil ?_
                   refine hK31 _ _ ?_
                   refine x_region ?_
                   refine s_go (s_move) ?_
                   try simp only [opv, n1, n2, n3, n4, Value.cells]
                   refine s_go (s_add (hc := by first | exact wr_i64 (by omega) (by omega) | rfl)) ?_
                   try simp only [opv, n1, n2, n3, n4, Value.cells]
                   refine s_go (s_assign) ?_
                   try simp only [opv, n1, n2, n3, n4, Value.cells]
                   refine x_nil ?_
                   refine loop_back (m' := m1 - 1) (by simp only [clob, List.foldl, n1, n2, n3, n4]) ?_ ?_
                   · try simp only [opv, n1, n2, n3, n4, Value.cells]
                     exact ⟨_, _, _, _, _, by omega, by omega, by omega, by rfl, by rfl, by simp only [List.length_append, List.length_cons, List.length_nil, Nat.zero_add]; rfl, hnx, by simp only [List.length_append, List.length_cons, List.length_nil, Nat.zero_add]; omega, by simp only [List.length_append, List.length_cons, List.length_nil, Nat.zero_add]; exact hS.sel (by repeat (first | exact Sel.nil | (refine Sel.cons (by repeat (first | exact Del.head | apply Del.tail)) ?_)))⟩
                   · omega
                ·
                 try simp only [decide_eq_true_eq, decide_eq_false_iff_not, Bool.not_eq_true', Bool.not_eq_false', Int.not_lt, Int.not_le, ne_eq, Decidable.not_not, bne_iff_ne, beq_iff_eq, not_true_eq_false, not_false_eq_true] at hc16
                 first
                 | (exfalso; omega)
                 | skip
                   have hmg := mg_e (s := s) (t := t) (i := i) (k := k) (by omega) hx (by omega) hy hl1 hc16
                   have hnx : (o ++ [(akey x ++ moreV (aval x) (aval y))]) ++ mergeP (s.drop (i + 1)) (t.drop (k + 1)) = mergeP s t := by rw [← hmo, hmg, List.append_assoc]; rfl
                   have hmo9 := more_ok hvx hvy
                   have hml := hmo9.len
                   have hk12 := hkx.len
                   have hzl : (akey x ++ moreV (aval x) (aval y)).length = 21 := (kv_ok hkx hmo9).len
                   refine x_seq fun K32 hK32 => ?_
                   refine x_mixed_c (Lc := [.rd B2 21 (t).length (arows (t)), .rd B1 21 (s).length (arows (s))]) [] 0 [5, 22, 23, 24, 25, 26, 27, 28, 29, 30, 31, 32, 33, 34, 35, 36, 37, 38, 39, 40, 41] (fun f w => ∃ (C2 : Option Addr) (e2 : Nat), f 5 = .slice C2 (o.length + 1) e2 ∧ St NoB w0 w [.vec C2 e2 39 21 (o.length + 1) (arows (o ++ [(akey x ++ moreV (aval x) (aval y))])), .rd B2 21 (t).length (arows (t)), .rd B1 21 (s).length (arows (s))]) (by kernel_rfl) (by kernel_rfl) (by kernel_rfl) (by decide) hS (fun w62 hS => ?mixpre504) ?mixrest504
                   case mixpre504 =>
                    refine p_nil ?_
                    simp only [List.length_cons, List.length_nil, Nat.reduceAdd, Nat.reduceSub]
                    refine any_go (i := 0) (by rfl) (by decide +kernel) (by decide +kernel) noLate_nil (go_yields w_none (fun w hS => s_move)) ?_
                    try simp only [opv, n1, n2, n3, n4, Value.cells]
                    refine any_go (i := 1) (by rfl) (by decide +kernel) (by decide +kernel) noLate_nil (go_yields w_none (fun w hS => s_move)) ?_
                    try simp only [opv, n1, n2, n3, n4, Value.cells]
                    refine any_go (i := 2) (by rfl) (by decide +kernel) (by decide +kernel) noLate_nil (go_yields w_none (fun w hS => s_move)) ?_
                    try simp only [opv, n1, n2, n3, n4, Value.cells]
                    first | refine any_go (i := 3) (by rfl) (by decide +kernel) (by decide +kernel) noLate_nil (go_yields w_none (fun w hS => m_indexAddr_rd Try.underlying24 ti39 (hS := hS))) ?_ | refine any_go (i := 3) (by rfl) (by decide +kernel) (by decide +kernel) noLate_nil (go_yields w_none (fun w hS => m_indexAddr_vec Try.underlying24 ti39 (hS := hS))) ?_
                    try simp only [opv, n1, n2, n3, n4, Value.cells, Nat.mul_one, Nat.zero_add, Int.toNat_natCast, Int.reduceToNat]
                    first | refine any_go (i := 4) (by rfl) (by decide +kernel) (by decide +kernel) noLate_nil (go_yields w_none (fun w hS => m_fieldAddr Try.underlying39 (hi := ti34))) ?_ | refine any_go (i := 4) (by rfl) (by decide +kernel) (by decide +kernel) noLate_nil (go_yields w_none (fun w hS => m_fieldAddr_rd Try.underlying39 (hi := ti34) (hS := hS))) ?_ | refine any_go (i := 4) (by rfl) (by decide +kernel) (by decide +kernel) noLate_nil (go_yields w_none (fun w hS => m_fieldAddr_vec Try.underlying39 (hi := ti34) (hS := hS))) ?_
                    try simp only [opv, n1, n2, n3, n4, Value.cells, Nat.zero_add, Nat.add_zero, List.getElem_toArray, List.getElem_cons_zero, List.getElem_cons_succ]
                    first | refine any_go (i := 5) (by rfl) (by decide +kernel) (by decide +kernel) noLate_nil (go_yields w_none (fun w hS => m_load_row Try.underlying34 (hi := ti34) (hS := hS) (hfit := by rw [arows_len]; omega))) ?_ | refine any_go (i := 5) (by rfl) (by decide +kernel) (by decide +kernel) noLate_nil (go_yields w_none (fun w hS => m_loada_obj Try.underlying34 (hi := ti34) (hS := hS) (hfit := by rw [arows_len]; omega))) ?_ | refine any_go (i := 5) (by rfl) (by decide +kernel) (by decide +kernel) noLate_nil (go_yields w_none (fun w hS => m_loada_bx Try.underlying34 (hi := ti34) (hS := hS) (hfit := by rw [arows_len]; omega))) ?_ | refine any_go (i := 5) (by rfl) (by decide +kernel) (by decide +kernel) noLate_nil (go_yields w_none (fun w hS => m_loada_rd Try.underlying34 (hi := ti34) (hS := hS) (hfit := by rw [arows_len]; omega))) ?_ | refine any_go (i := 5) (by rfl) (by decide +kernel) (by decide +kernel) noLate_nil (go_yields w_none (fun w hS => m_loada_vec Try.underlying34 (hi := ti34) (hS := hS) (hfit := by rw [arows_len]; omega))) ?_
                    try simp only [opv, n1, n2, n3, n4, Value.cells, List.getElem_toArray, List.getElem_cons_zero, List.getElem_cons_succ]
                    rw [arow_key (by omega) hso, hx]
                    refine any_go (i := 6) (by rfl) (by decide +kernel) (by decide +kernel) noLate_nil (go_yields w_none (fun w hS => s_move)) ?_
                    try simp only [opv, n1, n2, n3, n4, Value.cells]
                    refine any_go (i := 7) (by rfl) (by decide +kernel) (by decide +kernel) noLate_nil (go_yields w_none (fun w hS => s_move)) ?_
                    try simp only [opv, n1, n2, n3, n4, Value.cells]
                    first | refine any_go (i := 8) (by rfl) (by decide +kernel) (by decide +kernel) noLate_nil (go_yields w_none (fun w hS => m_indexAddr_rd Try.underlying24 ti39 (hS := hS))) ?_ | refine any_go (i := 8) (by rfl) (by decide +kernel) (by decide +kernel) noLate_nil (go_yields w_none (fun w hS => m_indexAddr_vec Try.underlying24 ti39 (hS := hS))) ?_
                    try simp only [opv, n1, n2, n3, n4, Value.cells, Nat.mul_one, Nat.zero_add, Int.toNat_natCast, Int.reduceToNat]
                    first | refine any_go (i := 9) (by rfl) (by decide +kernel) (by decide +kernel) noLate_nil (go_yields w_none (fun w hS => m_fieldAddr Try.underlying39 (hi := ti37))) ?_ | refine any_go (i := 9) (by rfl) (by decide +kernel) (by decide +kernel) noLate_nil (go_yields w_none (fun w hS => m_fieldAddr_rd Try.underlying39 (hi := ti37) (hS := hS))) ?_ | refine any_go (i := 9) (by rfl) (by decide +kernel) (by decide +kernel) noLate_nil (go_yields w_none (fun w hS => m_fieldAddr_vec Try.underlying39 (hi := ti37) (hS := hS))) ?_
                    try simp only [opv, n1, n2, n3, n4, Value.cells, Nat.zero_add, Nat.add_zero, List.getElem_toArray, List.getElem_cons_zero, List.getElem_cons_succ]
                    first | refine any_go (i := 10) (by rfl) (by decide +kernel) (by decide +kernel) noLate_nil (go_yields w_none (fun w hS => m_load_row Try.underlying37 (hi := ti37) (hS := hS) (hfit := by rw [arows_len]; omega))) ?_ | refine any_go (i := 10) (by rfl) (by decide +kernel) (by decide +kernel) noLate_nil (go_yields w_none (fun w hS => m_loada_obj Try.underlying37 (hi := ti37) (hS := hS) (hfit := by rw [arows_len]; omega))) ?_ | refine any_go (i := 10) (by rfl) (by decide +kernel) (by decide +kernel) noLate_nil (go_yields w_none (fun w hS => m_loada_bx Try.underlying37 (hi := ti37) (hS := hS) (hfit := by rw [arows_len]; omega))) ?_ | refine any_go (i := 10) (by rfl) (by decide +kernel) (by decide +kernel) noLate_nil (go_yields w_none (fun w hS => m_loada_rd Try.underlying37 (hi := ti37) (hS := hS) (hfit := by rw [arows_len]; omega))) ?_ | refine any_go (i := 10) (by rfl) (by decide +kernel) (by decide +kernel) noLate_nil (go_yields w_none (fun w hS => m_loada_vec Try.underlying37 (hi := ti37) (hS := hS) (hfit := by rw [arows_len]; omega))) ?_
                    try simp only [opv, n1, n2, n3, n4, Value.cells, List.getElem_toArray, List.getElem_cons_zero, List.getElem_cons_succ]
                    rw [arow_val (by omega) hso, hx]
                    refine any_go (i := 11) (by rfl) (by decide +kernel) (by decide +kernel) noLate_nil (go_yields w_none (fun w hS => s_move)) ?_
                    try simp only [opv, n1, n2, n3, n4, Value.cells]
                    refine any_go (i := 12) (by rfl) (by decide +kernel) (by decide +kernel) noLate_nil (go_yields w_none (fun w hS => s_move)) ?_
                    try simp only [opv, n1, n2, n3, n4, Value.cells]
                    first | refine any_go (i := 13) (by rfl) (by decide +kernel) (by decide +kernel) noLate_nil (go_yields w_none (fun w hS => m_indexAddr_rd Try.underlying24 ti39 (hS := hS))) ?_ | refine any_go (i := 13) (by rfl) (by decide +kernel) (by decide +kernel) noLate_nil (go_yields w_none (fun w hS => m_indexAddr_vec Try.underlying24 ti39 (hS := hS))) ?_
                    try simp only [opv, n1, n2, n3, n4, Value.cells, Nat.mul_one, Nat.zero_add, Int.toNat_natCast, Int.reduceToNat]
                    first | refine any_go (i := 14) (by rfl) (by decide +kernel) (by decide +kernel) noLate_nil (go_yields w_none (fun w hS => m_fieldAddr Try.underlying39 (hi := ti37))) ?_ | refine any_go (i := 14) (by rfl) (by decide +kernel) (by decide +kernel) noLate_nil (go_yields w_none (fun w hS => m_fieldAddr_rd Try.underlying39 (hi := ti37) (hS := hS))) ?_ | refine any_go (i := 14) (by rfl) (by decide +kernel) (by decide +kernel) noLate_nil (go_yields w_none (fun w hS => m_fieldAddr_vec Try.underlying39 (hi := ti37) (hS := hS))) ?_
                    try simp only [opv, n1, n2, n3, n4, Value.cells, Nat.zero_add, Nat.add_zero, List.getElem_toArray, List.getElem_cons_zero, List.getElem_cons_succ]
                    first | refine any_go (i := 15) (by rfl) (by decide +kernel) (by decide +kernel) noLate_nil (go_yields w_none (fun w hS => m_load_row Try.underlying37 (hi := ti37) (hS := hS) (hfit := by rw [arows_len]; omega))) ?_ | refine any_go (i := 15) (by rfl) (by decide +kernel) (by decide +kernel) noLate_nil (go_yields w_none (fun w hS => m_loada_obj Try.underlying37 (hi := ti37) (hS := hS) (hfit := by rw [arows_len]; omega))) ?_ | refine any_go (i := 15) (by rfl) (by decide +kernel) (by decide +kernel) noLate_nil (go_yields w_none (fun w hS => m_loada_bx Try.underlying37 (hi := ti37) (hS := hS) (hfit := by rw [arows_len]; omega))) ?_ | refine any_go (i := 15) (by rfl) (by decide +kernel) (by decide +kernel) noLate_nil (go_yields w_none (fun w hS => m_loada_rd Try.underlying37 (hi := ti37) (hS := hS) (hfit := by rw [arows_len]; omega))) ?_ | refine any_go (i := 15) (by rfl) (by decide +kernel) (by decide +kernel) noLate_nil (go_yields w_none (fun w hS => m_loada_vec Try.underlying37 (hi := ti37) (hS := hS) (hfit := by rw [arows_len]; omega))) ?_
                    try simp only [opv, n1, n2, n3, n4, Value.cells, List.getElem_toArray, List.getElem_cons_zero, List.getElem_cons_succ]
                    rw [arow_val (by omega) hto, hy]
                    apply any_go (i := 16) (by rfl) (by decide +kernel) (by decide +kernel) noLate_nil (call_yields w_none en118 ?H4) ?K4
                    case H4 =>
                      intro w hS
                      try simp only [opv, n1, n2, n3, n4, List.map_toArray, List.map_cons, List.map_nil, List.append_toArray, List.cons_append, List.nil_append, Array.append_empty]
                      refine CallR.mono (c_ref09More (aval x) (aval y) hvx hvy _) ?_
                      rintro _ w1 ⟨rfl, hE⟩; exact ⟨rfl, hE⟩
                    try simp only [opv, n1, n2, n3, n4, Value.cells]
                    refine any_go (i := 17) (by rfl) (by decide +kernel) (by decide +kernel) noLate_nil (go_yields w_none (fun w hS => s_build_struct (cells := (AA (akey x ++ moreV (aval x) (aval y)))) Try.underlying39 ti39 bp39 (hc := by simp only [List.map_toArray, List.map_cons, List.map_nil, opv, n1, n2, n3, n4, Value.cells, List.toList_toArray]; exact fill_atom (by rfl) (by rfl) (by rfl) hk12 hml))) ?_
                    try simp only [opv, n1, n2, n3, n4, Value.cells]
                    refine any_step [18] (by kernel_rfl) (by decide) (fun w63 hE => ⟨fun _ => (hS.ext hE).sel (by repeat (first | exact Sel.nil | (refine Sel.cons (by repeat (first | exact Del.head | apply Del.tail)) ?_))), ?_⟩)
                    replace hS := hS.ext hE
                    intro i hi
                    simp only [List.mem_cons, List.not_mem_nil, or_false] at hi
                    subst hi
                    ·
                     refine any_op (by rfl) ?_
                     refine m_buildRow (cells := (AA (akey x ++ moreV (aval x) (aval y)))) Try.underlying24 ti39 (hc := by simp only [List.map_toArray, List.map_cons, List.map_nil, opv, n1, n2, n3, n4, Value.cells, List.toList_toArray]; exact fill_one (by rfl) (zi_size21 hzl) (by rfl)) (hS := hS) (h := fun w64 g64 hS => ?_)
                     try simp only [opv, n1, n2, n3, n4, Value.cells, Array.toArray_toList] at hS ⊢
                     replace hS := hS.obj_rd (sz := 21) (n := 1) (by exact zi_size21 hzl) .head
                     rw [arow_one hzl] at hS
                     refine x_nil ?_
                     refine any_step [19] (by kernel_rfl) (by decide) (fun w65 hE => ⟨fun _ => (hS.ext hE).sel (by repeat (first | exact Sel.nil | (refine Sel.cons (by repeat (first | exact Del.head | apply Del.tail)) ?_))), ?_⟩)
                     replace hS := hS.ext hE
                     intro i hi
                     simp only [List.mem_cons, List.not_mem_nil, or_false] at hi
                     subst hi
                     ·
                      refine any_op (by rfl) ?_
                      refine m_append Try.underlying24 ti39 (hS := hS) (h1 := rowsZ_cells _ _) (h := fun w66 A66 C66 hS => ?_)
                      try simp only [← List.map_append, ← List.map_drop, ← List.map_take, Nat.mul_one, Nat.zero_mul, Nat.sub_zero, List.drop_zero, List.nil_append, Nat.zero_add] at hS ⊢
                      try simp only [opv, n1, n2, n3, n4, Value.cells, Array.toArray_toList] at hS ⊢
                      rw [add_one] at hS
                      refine x_nil ?_
                      refine any_go (i := 20) (by rfl) (by decide +kernel) (by decide +kernel) noLate_nil (go_yields w_none (fun w hS => s_assign)) ?_
                      try simp only [opv, n1, n2, n3, n4, Value.cells]
                      refine any_nil (by kernel_rfl) (fun w67 hE => ?_)
                      replace hS := hS.ext hE
                      refine ⟨fun _ => hS.sel (by repeat (first | exact Sel.nil | (refine Sel.cons (by repeat (first | exact Del.head | apply Del.tail)) ?_))), ?_⟩
                      refine mix_leaf (by simp only [clob, List.foldl, n1, n2, n3, n4]) ?_
                      try simp only [n1, n2]
                      exact ⟨_, _, by first | trivial | rfl, hS.sel (by repeat (first | exact Sel.nil | (refine Sel.cons (by repeat (first | exact Del.head | apply Del.tail)) ?_)))⟩
                   intro fm4 w68 hM
                   obtain ⟨C2, e2, h5, hS⟩ := hM
                   simp only [clob, List.foldl, n3, n4, h5]
                   refine hK32 _ _ ?_
                   refine x_seq fun K33 hK33 => ?_
                   refine x_region ?_
                   refine s_go (s_move) ?_
                   try simp only [opv, n1, n2, n3, n4, Value.cells]
                   refine s_go (s_add (hc := by first | exact wr_i64 (by omega) (by omega) | rfl)) ?_
                   try simp only [opv, n1, n2, n3, n4, Value.cells]
                   refine s_go (s_assign) ?_
                   try simp only [opv, n1, n2, n3, n4, Value.cells]
                   refine x_nil ?_
                   refine hK33 _ _ ?_
                   refine x_region ?_
                   refine s_go (s_move) ?_
                   try simp only [opv, n1, n2, n3, n4, Value.cells]
                   refine s_go (s_add (hc := by first | exact wr_i64 (by omega) (by omega) | rfl)) ?_
                   try simp only [opv, n1, n2, n3, n4, Value.cells]
                   refine s_go (s_assign) ?_
                   try simp only [opv, n1, n2, n3, n4, Value.cells]
                   refine x_nil ?_
                   refine loop_back (m' := m1 - 1) (by simp only [clob, List.foldl, n1, n2, n3, n4]) ?_ ?_
                   · try simp only [opv, n1, n2, n3, n4, Value.cells]
                     exact ⟨_, _, _, _, _, by omega, by omega, by omega, by rfl, by rfl, by simp only [List.length_append, List.length_cons, List.length_nil, Nat.zero_add]; rfl, hnx, by simp only [List.length_append, List.length_cons, List.length_nil, Nat.zero_add]; omega, by simp only [List.length_append, List.length_cons, List.length_nil, Nat.zero_add]; exact hS.sel (by repeat (first | exact Sel.nil | (refine Sel.cons (by repeat (first | exact Del.head | apply Del.tail)) ?_)))⟩
                   · omega
    ·
     try simp only [decide_eq_true_eq, decide_eq_false_iff_not, Bool.not_eq_true', Bool.not_eq_false', Int.not_lt, Int.not_le, ne_eq, Decidable.not_not, bne_iff_ne, beq_iff_eq, not_true_eq_false, not_false_eq_true] at hc9
     first
     | (exfalso; omega)
     | skip
       obtain rfl : i = s.length := by omega
       obtain rfl : k = t.length := by omega
       rw [List.drop_of_length_le (Nat.le_refl _), List.drop_of_length_le (Nat.le_refl _), merge_nil, List.append_nil] at hmo
       rw [hmg0] at hmo
       refine x_exit (look_here ?_)
       refine hK5 _ _ ?_
       refine x_seq fun K34 hK34 => ?_
       refine x_region ?_
       refine s_go (s_move) ?_
       try simp only [opv, n1, n2, n3, n4, Value.cells]
       refine s_go (s_assign) ?_
       try simp only [opv, n1, n2, n3, n4, Value.cells]
       refine x_nil ?_
       refine hK34 _ _ ?_
       refine x_ret ?_
       refine r_tmp rfl ?_
       rw [← hmo]
       exact ⟨_, _, rfl, hS.sel (by repeat (first | exact Sel.nil | (refine Sel.cons (by repeat (first | exact Del.head | apply Del.tail)) ?_)))⟩
end Go.Proofs.Ytmgacmkikefpjaa
set_option linter.unusedSimpArgs false
set_option linter.unusedVariables false
set_option maxHeartbeats 1000000
set_option maxRecDepth 100000
namespace Go.Proofs.Ytmgacmkikefpjaa
open Go.RowKit

theorem c_ref10All (w0 : World) (B : Option Addr) (d : Nat) (rs : List Rw) (hB : Rd w0 B 1 rs.length (rs.map rwV)) (hrs : ∀ r ∈ rs, RwOk w0 r) (hm : rs.length ≤ 1000000000) (hn : (flatR rs).length ≤ 1000000000)  :
    CallR Try.prog 22 #[.slice B rs.length d] w0 fun v w' => ∃ A c, v = .slice A (normP (flatR rs)).length c ∧ St NoB w0 w' [.vec A c 39 21 (normP (flatR rs)).length (arows (normP (flatR rs)))] := by
 have hS := St.rd1 (S := NoB) hB
 have hfo := flat_ok hrs
 have hrl := rws_len rs
 refine c_enter (l := [.slice B rs.length d, undef, undef, undef, undef, undef, undef, undef, undef, undef, undef, undef, undef, undef, undef, undef, undef, undef]) Try.func22 rfl (by simp only [Try.ntmps22, List.size_toArray, List.length_cons, List.length_nil, Nat.reduceAdd, Nat.reduceSub, Array.replicate_succ, Array.replicate_zero, List.push_toArray, List.append_toArray, List.nil_append, List.cons_append]) ?_
 refine x_seq fun K1 hK1 => ?_
 refine x_region ?_
 refine s_go (s_assign) ?_
 try simp only [opv, n1, n2, n3, n4, Value.cells]
 refine x_nil ?_
 refine hK1 _ _ ?_
 refine x_seq fun K2 hK2 => ?_
 refine x_region ?_
 replace hS := hS.nil_vec 39 21
 refine s_go (s_assign) ?_
 try simp only [opv, n1, n2, n3, n4, Value.cells]
 refine x_nil ?_
 refine hK2 _ _ ?_
 refine x_seq fun K3 hK3 => ?_
 refine x_seq fun K4 hK4 => ?_
 refine x_region ?_
 refine s_go (s_assign) ?_
 try simp only [opv, n1, n2, n3, n4, Value.cells]
 refine x_nil ?_
 refine hK4 _ _ ?_
 refine x_block ?_
 refine x_loop [3, 4, 5, 6, 7, 8, 9, 10, 11, 12, 13, 14, 15, 16] (fun m f w => ∃ (i : Nat) (C : Option Addr) (e : Nat), i ≤ rs.length ∧ m = rs.length - i ∧ f 4 = .int .i64 (i : Int) ∧ f 3 = .slice C (normP (flatR (rs.take i))).length e ∧ St NoB w0 w [.vec C e 39 21 (normP (flatR (rs.take i))).length (arows (normP (flatR (rs.take i)))), .rd B 1 rs.length (rs.map rwV)]) (rs.length) ?init1 (fun m1 f1 wl1 hI => ?_)
 case init1 =>
  try simp only [opv, n1, n2, n3, n4, Value.cells]
  exact ⟨0, none, 0, by omega, rfl, rfl, rfl, hS.sel (by repeat (first | exact Sel.nil | (refine Sel.cons (by repeat (first | exact Del.head | apply Del.tail)) ?_)))⟩
 obtain ⟨i, C, e, hi, hmi, h4, h3, hS⟩ := hI
 simp only [clob, List.foldl, n3, n4, h4, h3]
 refine x_seq fun K5 hK5 => ?_
 refine x_seq fun K6 hK6 => ?_
 refine x_region ?_
 refine s_go (s_move) ?_
 try simp only [opv, n1, n2, n3, n4, Value.cells]
 refine s_go (s_move) ?_
 try simp only [opv, n1, n2, n3, n4, Value.cells]
 refine s_go (s_len_sl Try.underlying22) ?_
 try simp only [opv, n1, n2, n3, n4, Value.cells]
 refine s_go (s_lss) ?_
 try simp only [opv, n1, n2, n3, n4, Value.cells]
 refine x_nil ?_
 refine hK6 _ _ ?_
 refine x_cond (ht := fun hc1 => ?_) (hf := fun hc1 => ?_)
 ·
  try simp only [decide_eq_true_eq, decide_eq_false_iff_not, Bool.not_eq_true', Bool.not_eq_false', Int.not_lt, Int.not_le, ne_eq, Decidable.not_not, bne_iff_ne, beq_iff_eq, not_true_eq_false, not_false_eq_true] at hc1
  obtain ⟨r, hr⟩ : ∃ r, rs.getD i rw0 = r := ⟨_, rfl⟩
  have hrm := hrs r (rws_mem (by omega) hr)
  have hro := hrm.ok
  have hrd := hrm.rd
  have hft := flat_take (by omega) hr
  have hfl := flat_len_take rs (i + 1)
  rw [hft, List.length_append] at hfl
  obtain ⟨F, hF⟩ : ∃ F, flatR (rs.take i) = F := ⟨_, rfl⟩
  rw [hF] at hS hft hfl ⊢
  have hFo : AOks F := by rw [← hF]; exact flat_ok fun q hq => hrs q (List.mem_of_mem_take hq)
  have hFl := norm_len F
  refine x_skip ?_
  refine hK5 _ _ ?_
  refine x_seq fun K7 hK7 => ?_
  refine x_block ?_
  refine x_region ?_
  refine s_go (s_move) ?_
  try simp only [opv, n1, n2, n3, n4, Value.cells]
  refine s_go (s_move) ?_
  try simp only [opv, n1, n2, n3, n4, Value.cells]
  refine s_go (s_move) ?_
  try simp only [opv, n1, n2, n3, n4, Value.cells]
  first | refine s_go (m_indexAddr_rd Try.underlying22 ti24 (hS := hS)) ?_ | refine s_go (m_indexAddr_vec Try.underlying22 ti24 (hS := hS)) ?_
  try simp only [opv, n1, n2, n3, n4, Value.cells, Nat.mul_one, Nat.zero_add, Int.toNat_natCast, Int.reduceToNat]
  first | refine s_go (m_load_obj Try.underlying24 (hS := hS) (hv := rws_get (by omega) hr)) ?_ | refine s_go (m_load_bx Try.underlying24 (hS := hS) (hv := rws_get (by omega) hr)) ?_ | refine s_go (m_load_rd Try.underlying24 (hS := hS) (hv := rws_get (by omega) hr)) ?_ | refine s_go (m_load_vec Try.underlying24 (hS := hS) (hv := rws_get (by omega) hr)) ?_
  try simp only [opv, n1, n2, n3, n4, Value.cells, List.getElem_toArray, List.getElem_cons_zero, List.getElem_cons_succ]
  replace hS := hS.rd_old hrd
  refine s_call en34 ?_
  try simp only [opv, n1, n2, n3, n4, Value.cells, List.map_toArray, List.map_cons, List.map_nil, List.append_toArray, List.cons_append, List.nil_append, Array.append_empty]
  refine CallR.mono (c_ref10Join _ C e (normP F) (hS.vecRd (by repeat (first | exact Has.head | apply Has.tail))) (norm_sta hFo).ok r.A r.c r.l (hS.hasRd (by repeat (first | exact Has.head | apply Has.tail))) hro (by omega)) ?_
  rintro _ w1 ⟨A1, c1, rfl, hC1⟩
  replace hS := hS.call hC1
  simp only [List.cons_append, List.nil_append] at hS
  try simp only [opv, n1, n2, n3, n4, Value.cells]
  refine s_go (s_assign) ?_
  try simp only [opv, n1, n2, n3, n4, Value.cells]
  refine x_nil ?_
  refine hK7 _ _ ?_
  refine x_region ?_
  refine s_go (s_move) ?_
  try simp only [opv, n1, n2, n3, n4, Value.cells]
  refine s_go (s_add (hc := by first | exact wr_i64 (by omega) (by omega) | rfl)) ?_
  try simp only [opv, n1, n2, n3, n4, Value.cells]
  refine s_go (s_assign) ?_
  try simp only [opv, n1, n2, n3, n4, Value.cells]
  refine x_nil ?_
  refine loop_back (m' := rs.length - (i + 1)) (by simp only [clob, List.foldl, n1, n2, n3, n4]) ?_ ?_
  · try simp only [opv, n1, n2, n3, n4, Value.cells]
    rw [norm_app_l hFo hro, ← hft] at hS ⊢
    exact ⟨i + 1, _, _, by omega, by omega, by rfl, by rfl, hS.sel (by repeat (first | exact Sel.nil | (refine Sel.cons (by repeat (first | exact Del.head | apply Del.tail)) ?_)))⟩
  · omega
 ·
  try simp only [decide_eq_true_eq, decide_eq_false_iff_not, Bool.not_eq_true', Bool.not_eq_false', Int.not_lt, Int.not_le, ne_eq, Decidable.not_not, bne_iff_ne, beq_iff_eq, not_true_eq_false, not_false_eq_true] at hc1
  obtain rfl : i = rs.length := by omega
  rw [List.take_of_length_le (Nat.le_refl _)] at hS ⊢
  refine x_exit (look_here ?_)
  refine hK3 _ _ ?_
  refine x_seq fun K8 hK8 => ?_
  refine x_region ?_
  refine s_go (s_move) ?_
  try simp only [opv, n1, n2, n3, n4, Value.cells]
  refine s_go (s_assign) ?_
  try simp only [opv, n1, n2, n3, n4, Value.cells]
  refine x_nil ?_
  refine hK8 _ _ ?_
  refine x_ret ?_
  refine r_tmp rfl ?_
  exact ⟨_, _, rfl, hS.sel (by repeat (first | exact Sel.nil | (refine Sel.cons (by repeat (first | exact Del.head | apply Del.tail)) ?_)))⟩
end Go.Proofs.Ytmgacmkikefpjaa
set_option linter.unusedSimpArgs false
set_option linter.unusedVariables false
set_option maxHeartbeats 1000000
set_option maxRecDepth 100000
namespace Go.Proofs.Ytmgacmkikefpjaa
open Go.RowKit

def k10 : List Int := [1, 1, 97, 0, 0, 0, 0, 0, 0, 0, 2, 3]
def a10 : List Int := k10 ++ [1, 0, 0, 0, 0, 0, 0, 0, 0]
def b10 : List Int := k10 ++ [2, 0, 0, 0, 0, 0, 0, 0, 0]
theorem a10_ok : AOks [a10] := fun a h => by rw [List.mem_singleton] at h; rw [h]; exact ⟨rfl, ⟨rfl, rfl, by decide, rfl, by decide, by unfold Byt; decide, rfl, by decide, rfl, by decide⟩, ⟨rfl, rfl, by decide, by unfold Byt; decide⟩⟩
theorem b10_ok : AOks [b10] := fun a h => by rw [List.mem_singleton] at h; rw [h]; exact ⟨rfl, ⟨rfl, rfl, by decide, rfl, by decide, by unfold Byt; decide, rfl, by decide, rfl, by decide⟩, ⟨rfl, rfl, by decide, by unfold Byt; decide⟩⟩
theorem j10 : normP [a10, b10] = [b10] := by decide +kernel
theorem m10 : meetP (normP [a10]) (normP [b10]) = [a10] := by decide +kernel
theorem r10 : rightL [a10] = true := by decide +kernel

theorem c_law10alive  (w0 : World) :
    CallR Try.prog 21 #[] w0 fun v w' => v = .bool true ∧ Ext w0 w' := by
 have hS : St NoB w0 w0 [] := St.start w0
 refine c_enter (l := [undef, undef, undef, undef, undef, undef, undef, undef, undef, undef, undef, undef, undef, undef, undef, undef, undef, undef, undef, undef, undef, undef, undef, undef, undef, undef, undef, undef, undef, undef]) Try.func21 rfl (by simp only [Try.ntmps21, List.size_toArray, List.length_cons, List.length_nil, Nat.reduceAdd, Nat.reduceSub, Array.replicate_succ, Array.replicate_zero, List.push_toArray, List.append_toArray, List.nil_append, List.cons_append]) ?_
 refine x_seq fun K1 hK1 => ?_
 refine x_region ?_
 refine s_go (s_assign) ?_
 try simp only [opv, n1, n2, n3, n4, Value.cells]
 refine x_nil ?_
 refine hK1 _ _ ?_
 refine x_seq fun K2 hK2 => ?_
 refine x_region ?_
 refine s_go (s_build_arr (cells := #[_, .int .u8 0, .int .u8 0, .int .u8 0, .int .u8 0, .int .u8 0, .int .u8 0, .int .u8 0]) Try.underlying31 ti31 ti5 (hc := by simp only [List.map_toArray, List.map_cons, List.map_nil, opv, n1, n2, n3, n4, Value.cells, List.toList_toArray]; (repeat (refine fill_cons rfl rfl (Nat.le_of_ble_eq_true rfl) ?_)); rfl)) ?_
 try simp only [opv, n1, n2, n3, n4, Value.cells]
 refine s_go (s_build_struct (cells := #[_, _, _, _, _, _, _, _, _, _, _, _]) Try.underlying34 ti34 bp34 (hc := by simp only [List.map_toArray, List.map_cons, List.map_nil, opv, n1, n2, n3, n4, Value.cells, List.toList_toArray]; (repeat (refine fill_cons rfl rfl (Nat.le_of_ble_eq_true rfl) ?_)); rfl)) ?_
 try simp only [opv, n1, n2, n3, n4, Value.cells]
 refine m_alloc ti34 hS (fun w1 g1 hS => ?_)
 try simp only [opv, n1, n2, n3, n4, Value.cells, Array.toArray_toList] at hS ⊢
 first | refine m_store_obj ti34 (hS := hS) (h := fun w2 hS => ?_) | refine m_store_vec ti34 (hS := hS) (h := fun w2 hS => ?_)
 try simp only [opv, n1, n2, n3, n4, Value.cells, Array.toArray_toList] at hS ⊢
 refine x_nil ?_
 refine hK2 _ _ ?_
 refine x_seq fun K3 hK3 => ?_
 refine x_mixed_f [] 0 [2, 3, 6, 7, 8, 9, 10, 11, 12, 13] (fun f w => ∃ ga gb : Nat, f 2 = .slice (some ⟨ga, 0, none⟩) 1 1 ∧ f 3 = .slice (some ⟨gb, 0, none⟩) 1 1 ∧ St NoB w0 w [.rd (some ⟨ga, 0, none⟩) 21 1 (arows [a10]), .rd (some ⟨gb, 0, none⟩) 21 1 (arows [b10])]) (by kernel_rfl) (by kernel_rfl) (by kernel_rfl) (by decide) hS (fun w3 hS => ?mixpre201) ?mixrest201
 case mixpre201 =>
  refine p_nil ?_
  simp only [List.length_cons, List.length_nil, Nat.reduceAdd, Nat.reduceSub]
  first | refine any_go (i := 0) (by rfl) (by decide +kernel) (by decide +kernel) noLate_nil (go_yields w_none (fun w hS => m_load_row Try.underlying34 (hi := ti34) (hS := hS))) ?_ | refine any_go (i := 0) (by rfl) (by decide +kernel) (by decide +kernel) noLate_nil (go_yields w_none (fun w hS => m_loada_obj Try.underlying34 (hi := ti34) (hS := hS))) ?_ | refine any_go (i := 0) (by rfl) (by decide +kernel) (by decide +kernel) noLate_nil (go_yields w_none (fun w hS => m_loada_bx Try.underlying34 (hi := ti34) (hS := hS))) ?_ | refine any_go (i := 0) (by rfl) (by decide +kernel) (by decide +kernel) noLate_nil (go_yields w_none (fun w hS => m_loada_rd Try.underlying34 (hi := ti34) (hS := hS))) ?_ | refine any_go (i := 0) (by rfl) (by decide +kernel) (by decide +kernel) noLate_nil (go_yields w_none (fun w hS => m_loada_vec Try.underlying34 (hi := ti34) (hS := hS))) ?_
  try simp only [opv, n1, n2, n3, n4, Value.cells, List.getElem_toArray, List.getElem_cons_zero, List.getElem_cons_succ]
  refine any_go (i := 1) (by rfl) (by decide +kernel) (by decide +kernel) noLate_nil (go_yields w_none (fun w hS => s_build_struct (cells := #[_, .int .u8 0, .int .u8 0, .int .u8 0, .int .u8 0, .int .u8 0, .int .u8 0, .int .u8 0, .int .u8 0]) Try.underlying37 ti37 bp37 (hc := by simp only [List.map_toArray, List.map_cons, List.map_nil, opv, n1, n2, n3, n4, Value.cells, List.toList_toArray]; (repeat (refine fill_cons rfl rfl (Nat.le_of_ble_eq_true rfl) ?_)); rfl))) ?_
  try simp only [opv, n1, n2, n3, n4, Value.cells]
  refine any_go (i := 2) (by rfl) (by decide +kernel) (by decide +kernel) noLate_nil (go_yields w_none (fun w hS => s_build_struct (cells := #[_, _, _, _, _, _, _, _, _, _, _, _, _, _, _, _, _, _, _, _, _]) Try.underlying39 ti39 bp39 (hc := by simp only [List.map_toArray, List.map_cons, List.map_nil, opv, n1, n2, n3, n4, Value.cells, List.toList_toArray]; (repeat (refine fill_cons rfl rfl (Nat.le_of_ble_eq_true rfl) ?_)); rfl))) ?_
  try simp only [opv, n1, n2, n3, n4, Value.cells]
  first | refine any_go (i := 4) (by rfl) (by decide +kernel) (by decide +kernel) noLate_nil (go_yields w_none (fun w hS => m_load_row Try.underlying34 (hi := ti34) (hS := hS))) ?_ | refine any_go (i := 4) (by rfl) (by decide +kernel) (by decide +kernel) noLate_nil (go_yields w_none (fun w hS => m_loada_obj Try.underlying34 (hi := ti34) (hS := hS))) ?_ | refine any_go (i := 4) (by rfl) (by decide +kernel) (by decide +kernel) noLate_nil (go_yields w_none (fun w hS => m_loada_bx Try.underlying34 (hi := ti34) (hS := hS))) ?_ | refine any_go (i := 4) (by rfl) (by decide +kernel) (by decide +kernel) noLate_nil (go_yields w_none (fun w hS => m_loada_rd Try.underlying34 (hi := ti34) (hS := hS))) ?_ | refine any_go (i := 4) (by rfl) (by decide +kernel) (by decide +kernel) noLate_nil (go_yields w_none (fun w hS => m_loada_vec Try.underlying34 (hi := ti34) (hS := hS))) ?_
  try simp only [opv, n1, n2, n3, n4, Value.cells, List.getElem_toArray, List.getElem_cons_zero, List.getElem_cons_succ]
  refine any_go (i := 5) (by rfl) (by decide +kernel) (by decide +kernel) noLate_nil (go_yields w_none (fun w hS => s_build_struct (cells := #[_, .int .u8 0, .int .u8 0, .int .u8 0, .int .u8 0, .int .u8 0, .int .u8 0, .int .u8 0, .int .u8 0]) Try.underlying37 ti37 bp37 (hc := by simp only [List.map_toArray, List.map_cons, List.map_nil, opv, n1, n2, n3, n4, Value.cells, List.toList_toArray]; (repeat (refine fill_cons rfl rfl (Nat.le_of_ble_eq_true rfl) ?_)); rfl))) ?_
  try simp only [opv, n1, n2, n3, n4, Value.cells]
  refine any_go (i := 6) (by rfl) (by decide +kernel) (by decide +kernel) noLate_nil (go_yields w_none (fun w hS => s_build_struct (cells := #[_, _, _, _, _, _, _, _, _, _, _, _, _, _, _, _, _, _, _, _, _]) Try.underlying39 ti39 bp39 (hc := by simp only [List.map_toArray, List.map_cons, List.map_nil, opv, n1, n2, n3, n4, Value.cells, List.toList_toArray]; (repeat (refine fill_cons rfl rfl (Nat.le_of_ble_eq_true rfl) ?_)); rfl))) ?_
  try simp only [opv, n1, n2, n3, n4, Value.cells]
  refine any_step [3, 7] (by kernel_rfl) (by decide) (fun w4 hE => ⟨fun _ => (hS.ext hE).sel (by repeat (first | exact Sel.nil | (refine Sel.cons (by repeat (first | exact Del.head | apply Del.tail)) ?_))), ?_⟩)
  replace hS := hS.ext hE
  intro i hi
  simp only [List.mem_cons, List.not_mem_nil, or_false] at hi
  rcases hi with rfl | rfl
  ·
   refine any_op (by rfl) ?_
   refine m_buildRow (cells := #[_, _, _, _, _, _, _, _, _, _, _, _, _, _, _, _, _, _, _, _, _]) Try.underlying24 ti39 (hc := by simp only [List.map_toArray, List.map_cons, List.map_nil, opv, n1, n2, n3, n4, Value.cells, List.toList_toArray]; (repeat (refine fill_cons rfl rfl (Nat.le_of_ble_eq_true rfl) ?_)); rfl) (hS := hS) (h := fun w5 g5 hS => ?_)
   try simp only [opv, n1, n2, n3, n4, Value.cells, Array.toArray_toList] at hS ⊢
   replace hS := hS.obj_rd (sz := 21) (n := 1) rfl .head
   refine x_nil ?_
   refine any_go (i := 8) (by rfl) (by decide +kernel) (by decide +kernel) noLate_nil (go_yields w_none (fun w hS => s_assign)) ?_
   try simp only [opv, n1, n2, n3, n4, Value.cells]
   refine any_step [7] (by kernel_rfl) (by decide) (fun w6 hE => ⟨fun _ => (hS.ext hE).sel (by repeat (first | exact Sel.nil | (refine Sel.cons (by repeat (first | exact Del.head | apply Del.tail)) ?_))), ?_⟩)
   replace hS := hS.ext hE
   intro i hi
   simp only [List.mem_cons, List.not_mem_nil, or_false] at hi
   subst hi
   ·
    refine any_op (by rfl) ?_
    refine m_buildRow (cells := #[_, _, _, _, _, _, _, _, _, _, _, _, _, _, _, _, _, _, _, _, _]) Try.underlying24 ti39 (hc := by simp only [List.map_toArray, List.map_cons, List.map_nil, opv, n1, n2, n3, n4, Value.cells, List.toList_toArray]; (repeat (refine fill_cons rfl rfl (Nat.le_of_ble_eq_true rfl) ?_)); rfl) (hS := hS) (h := fun w7 g7 hS => ?_)
    try simp only [opv, n1, n2, n3, n4, Value.cells, Array.toArray_toList] at hS ⊢
    replace hS := hS.obj_rd (sz := 21) (n := 1) rfl .head
    refine x_nil ?_
    refine any_go (i := 9) (by rfl) (by decide +kernel) (by decide +kernel) noLate_nil (go_yields w_none (fun w hS => s_assign)) ?_
    try simp only [opv, n1, n2, n3, n4, Value.cells]
    refine any_nil (by kernel_rfl) (fun w8 hE => ?_)
    replace hS := hS.ext hE
    refine ⟨fun _ => hS.sel (by repeat (first | exact Sel.nil | (refine Sel.cons (by repeat (first | exact Del.head | apply Del.tail)) ?_))), ?_⟩
    refine mix_leaf (by simp only [clob, List.foldl, n1, n2, n3, n4]) ?_
    try simp only [n1, n2]
    exact ⟨_, _, by first | trivial | rfl, by first | trivial | rfl, hS.sel (by repeat (first | exact Sel.nil | (refine Sel.cons (by repeat (first | exact Del.head | apply Del.tail)) ?_)))⟩
  ·
   refine any_op (by rfl) ?_
   refine m_buildRow (cells := #[_, _, _, _, _, _, _, _, _, _, _, _, _, _, _, _, _, _, _, _, _]) Try.underlying24 ti39 (hc := by simp only [List.map_toArray, List.map_cons, List.map_nil, opv, n1, n2, n3, n4, Value.cells, List.toList_toArray]; (repeat (refine fill_cons rfl rfl (Nat.le_of_ble_eq_true rfl) ?_)); rfl) (hS := hS) (h := fun w9 g9 hS => ?_)
   try simp only [opv, n1, n2, n3, n4, Value.cells, Array.toArray_toList] at hS ⊢
   replace hS := hS.obj_rd (sz := 21) (n := 1) rfl .head
   refine x_nil ?_
   refine any_step [3] (by kernel_rfl) (by decide) (fun w10 hE => ⟨fun _ => (hS.ext hE).sel (by repeat (first | exact Sel.nil | (refine Sel.cons (by repeat (first | exact Del.head | apply Del.tail)) ?_))), ?_⟩)
   replace hS := hS.ext hE
   intro i hi
   simp only [List.mem_cons, List.not_mem_nil, or_false] at hi
   subst hi
   ·
    refine any_op (by rfl) ?_
    refine m_buildRow (cells := #[_, _, _, _, _, _, _, _, _, _, _, _, _, _, _, _, _, _, _, _, _]) Try.underlying24 ti39 (hc := by simp only [List.map_toArray, List.map_cons, List.map_nil, opv, n1, n2, n3, n4, Value.cells, List.toList_toArray]; (repeat (refine fill_cons rfl rfl (Nat.le_of_ble_eq_true rfl) ?_)); rfl) (hS := hS) (h := fun w11 g11 hS => ?_)
    try simp only [opv, n1, n2, n3, n4, Value.cells, Array.toArray_toList] at hS ⊢
    replace hS := hS.obj_rd (sz := 21) (n := 1) rfl .head
    refine x_nil ?_
    refine any_go (i := 8) (by rfl) (by decide +kernel) (by decide +kernel) noLate_nil (go_yields w_none (fun w hS => s_assign)) ?_
    try simp only [opv, n1, n2, n3, n4, Value.cells]
    refine any_go (i := 9) (by rfl) (by decide +kernel) (by decide +kernel) noLate_nil (go_yields w_none (fun w hS => s_assign)) ?_
    try simp only [opv, n1, n2, n3, n4, Value.cells]
    refine any_nil (by kernel_rfl) (fun w12 hE => ?_)
    replace hS := hS.ext hE
    refine ⟨fun _ => hS.sel (by repeat (first | exact Sel.nil | (refine Sel.cons (by repeat (first | exact Del.head | apply Del.tail)) ?_))), ?_⟩
    refine mix_leaf (by simp only [clob, List.foldl, n1, n2, n3, n4]) ?_
    try simp only [n1, n2]
    exact ⟨_, _, by first | trivial | rfl, by first | trivial | rfl, hS.sel (by repeat (first | exact Sel.nil | (refine Sel.cons (by repeat (first | exact Del.head | apply Del.tail)) ?_)))⟩
 intro fm1 w13 hM
 obtain ⟨ga, gb, h2, h3, hS⟩ := hM
 simp only [clob, List.foldl, n3, n4, h2, h3]
 refine hK3 _ _ ?_
 refine x_seq fun K4 hK4 => ?_
 refine x_region ?_
 refine s_go (s_move) ?_
 try simp only [opv, n1, n2, n3, n4, Value.cells]
 refine s_go (s_move) ?_
 try simp only [opv, n1, n2, n3, n4, Value.cells]
 refine s_call en33 ?_
 try simp only [opv, n1, n2, n3, n4, Value.cells, List.map_toArray, List.map_cons, List.map_nil, List.append_toArray, List.cons_append, List.nil_append, Array.append_empty]
 refine CallR.mono (c_latJoin _ (some ⟨ga, 0, none⟩) 1 [a10] (hS.hasRd (by repeat (first | exact Has.head | apply Has.tail))) a10_ok (some ⟨gb, 0, none⟩) 1 [b10] (hS.hasRd (by repeat (first | exact Has.head | apply Has.tail))) b10_ok (by decide)) ?_
 rintro _ w14 ⟨A14, c14, rfl, hC14⟩
 replace hS := hS.call hC14
 simp only [List.cons_append, List.nil_append] at hS
 rw [j10] at hS
 rw [show normP ([a10] ++ [b10]) = [b10] from j10]
 try simp only [opv, n1, n2, n3, n4, Value.cells]
 refine s_go (s_move) ?_
 try simp only [opv, n1, n2, n3, n4, Value.cells]
 refine s_call en25 ?_
 try simp only [opv, n1, n2, n3, n4, Value.cells, List.map_toArray, List.map_cons, List.map_nil, List.append_toArray, List.cons_append, List.nil_append, Array.append_empty]
 refine CallR.mono (c_ref10Rows _ _ _ [b10] (hS.vecRd (by repeat (first | exact Has.head | apply Has.tail))) b10_ok _ _ [b10] (hS.hasRd (by repeat (first | exact Has.head | apply Has.tail))) b10_ok (by decide)) ?_
 rintro _ w15 ⟨rfl, hE15⟩
 replace hS := hS.ext hE15
 try simp only [opv, n1, n2, n3, n4, Value.cells]
 try simp only [eq_self, decide_true, beq_self_eq_true, Bool.and_self]
 refine s_go (s_move) ?_
 try simp only [opv, n1, n2, n3, n4, Value.cells]
 refine g_on (yi (t := 19) rfl rfl) ?_
 refine s_go (s_move) ?_
 try simp only [opv, n1, n2, n3, n4, Value.cells]
 refine g_on (yi (t := 19) rfl rfl) ?_
 refine s_go (s_move) ?_
 try simp only [opv, n1, n2, n3, n4, Value.cells]
 refine g_on (yi (t := 19) rfl rfl) ?_
 refine s_call en35 ?_
 try simp only [opv, n1, n2, n3, n4, Value.cells, List.map_toArray, List.map_cons, List.map_nil, List.append_toArray, List.cons_append, List.nil_append, Array.append_empty]
 refine CallR.mono (c_latMeet _ (some ⟨ga, 0, none⟩) 1 [a10] (hS.hasRd (by repeat (first | exact Has.head | apply Has.tail))) a10_ok (some ⟨gb, 0, none⟩) 1 [b10] (hS.hasRd (by repeat (first | exact Has.head | apply Has.tail))) b10_ok (by decide)) ?_
 rintro _ w16 ⟨A16, c16, rfl, hC16⟩
 replace hS := hS.call hC16
 simp only [List.cons_append, List.nil_append] at hS
 rw [m10] at hS ⊢
 try simp only [opv, n1, n2, n3, n4, Value.cells]
 refine g_on (yi (t := 19) rfl rfl) ?_
 refine s_go (s_move) ?_
 try simp only [opv, n1, n2, n3, n4, Value.cells]
 refine g_on (yi (t := 19) rfl rfl) ?_
 refine s_call en25 ?_
 try simp only [opv, n1, n2, n3, n4, Value.cells, List.map_toArray, List.map_cons, List.map_nil, List.append_toArray, List.cons_append, List.nil_append, Array.append_empty]
 refine CallR.mono (c_ref10Rows _ _ _ [a10] (hS.vecRd (by repeat (first | exact Has.head | apply Has.tail))) a10_ok _ _ [a10] (hS.hasRd (by repeat (first | exact Has.head | apply Has.tail))) a10_ok (by decide)) ?_
 rintro _ w17 ⟨rfl, hE17⟩
 replace hS := hS.ext hE17
 try simp only [opv, n1, n2, n3, n4, Value.cells]
 try simp only [eq_self, decide_true, beq_self_eq_true, Bool.and_self]
 first | refine s_go (s_pick_t) ?_ | refine s_go (s_pick_f) ?_
 try simp only [opv, n1, n2, n3, n4, Value.cells]
 refine s_go (s_move) ?_
 try simp only [opv, n1, n2, n3, n4, Value.cells]
 refine g_on (yi (t := 26) rfl rfl) ?_
 refine s_go (s_move) ?_
 try simp only [opv, n1, n2, n3, n4, Value.cells]
 refine g_on (yi (t := 26) rfl rfl) ?_
 refine s_call en29 ?_
 try simp only [opv, n1, n2, n3, n4, Value.cells, List.map_toArray, List.map_cons, List.map_nil, List.append_toArray, List.cons_append, List.nil_append, Array.append_empty]
 refine CallR.mono (c_latRight _ _ _ [a10] (hS.hasRd (by repeat (first | exact Has.head | apply Has.tail))) a10_ok (by decide)) ?_
 rintro _ w18 ⟨rfl, hE18⟩
 replace hS := hS.ext hE18
 try simp only [opv, n1, n2, n3, n4, Value.cells]
 rw [r10]
 first | refine s_go (s_pick_t) ?_ | refine s_go (s_pick_f) ?_
 try simp only [opv, n1, n2, n3, n4, Value.cells]
 refine s_go (s_assign) ?_
 try simp only [opv, n1, n2, n3, n4, Value.cells]
 refine x_nil ?_
 refine hK4 _ _ ?_
 refine x_ret ?_
 refine r_tmp rfl ?_
 exact ⟨rfl, hS.ext_of⟩
end Go.Proofs.Ytmgacmkikefpjaa
set_option linter.unusedSimpArgs false
set_option linter.unusedVariables false
set_option maxHeartbeats 2000000
set_option maxRecDepth 100000
namespace Go.Proofs.Ytmgacmkikefpjaa
open Go.RowKit

theorem RwOk.to {w w' : World} {r : Rw} (h : RwOk w r) (hE : Ext w w') : RwOk w' r := ⟨Res.holds_ext (r := .rd r.A 21 r.l.length (arows r.l)) h.rd hE, h.ok⟩
theorem flat_bound : ∀ {rs : List Rw} {n : Nat}, (∀ r ∈ rs, r.l.length ≤ n) → (flatR rs).length ≤ n * rs.length
  | [], _, _ => by simp [flatR]
  | r :: rs, n, h => by
    have h1 := flat_bound fun q hq => h q (List.mem_cons_of_mem r hq)
    have h2 := h r (List.mem_cons_self ..)
    have e : flatR (r :: rs) = r.l ++ flatR rs := rfl
    rw [e, List.length_append, List.length_cons, Nat.mul_succ]; omega

theorem c_latGot (w0 : World) (q8 q7 mo : Nat) (B : Option Addr) (d : Nat) (got : List (List Int)) (hg : got.length ≤ 1000000000) (x y : List Int) (hx : x.length = 12) (hy : y.length = 9) (hM : St (OwnB [.obj q8 (.cells #[.slice B (got).length d] 24 (0, 0)), .vec B d 39 21 (got).length (arows (got)), .obj q7 (.cells #[.int .i64 (mo : Int)] 3 (0, 0))]) w0 w0 [.obj q8 (.cells #[.slice B (got).length d] 24 (0, 0)), .vec B d 39 21 (got).length (arows (got)), .obj q7 (.cells #[.int .i64 (mo : Int)] 3 (0, 0))])  :
    CallR Try.prog 24 #[.agg (KA x), .agg (VA y), .pointer (some ⟨q8, 0, none⟩), .pointer (some ⟨q7, 0, none⟩)] w0 fun v w' => v = .bool (decide (((got.length + 1 : Nat) : Int) < (mo : Int))) ∧ ∃ B' d', St (OwnB [.obj q8 (.cells #[.slice B (got).length d] 24 (0, 0)), .vec B d 39 21 (got).length (arows (got)), .obj q7 (.cells #[.int .i64 (mo : Int)] 3 (0, 0))]) w0 w' [.obj q8 (.cells #[.slice B' (got ++ [x ++ y]).length d'] 24 (0, 0)), .vec B' d' 39 21 (got ++ [x ++ y]).length (arows (got ++ [x ++ y])), .obj q7 (.cells #[.int .i64 (mo : Int)] 3 (0, 0))] := by
 have hS := hM
 have hxy : (x ++ y).length = 21 := by rw [List.length_append, hx, hy]
 refine c_enter (l := [.agg (KA x), .agg (VA y), .pointer (some ⟨q8, 0, none⟩), .pointer (some ⟨q7, 0, none⟩), undef, undef, undef, undef, undef, undef, undef, undef, undef, undef, undef, undef, undef]) Try.func24 rfl (by simp only [Try.ntmps24, List.size_toArray, List.length_cons, List.length_nil, Nat.reduceAdd, Nat.reduceSub, Array.replicate_succ, Array.replicate_zero, List.push_toArray, List.append_toArray, List.nil_append, List.cons_append]) ?_
 refine x_seq fun K1 hK1 => ?_
 refine x_region ?_
 refine m_box hS (fun w1 g1 hS => ?_)
 try simp only [opv, n1, n2, n3, n4, Value.cells, Array.toArray_toList] at hS ⊢
 refine m_box hS (fun w2 g2 hS => ?_)
 try simp only [opv, n1, n2, n3, n4, Value.cells, Array.toArray_toList] at hS ⊢
 refine s_go (s_assign) ?_
 try simp only [opv, n1, n2, n3, n4, Value.cells]
 refine x_nil ?_
 refine hK1 _ _ ?_
 refine x_seq fun K2 hK2 => ?_
 refine x_region ?_
 first | refine s_go (m_load_obj Try.underlying24 (hS := hS) (hv := by first | rfl | exact zi_get rfl (by omega) | exact ic_get (by omega) | exact il_get (by omega))) ?_ | refine s_go (m_load_bx Try.underlying24 (hS := hS) (hv := by first | rfl | exact zi_get rfl (by omega) | exact ic_get (by omega) | exact il_get (by omega))) ?_ | refine s_go (m_load_rd Try.underlying24 (hS := hS) (hv := by first | rfl | exact zi_get rfl (by omega) | exact ic_get (by omega) | exact il_get (by omega))) ?_ | refine s_go (m_load_vec Try.underlying24 (hS := hS) (hv := by first | rfl | exact zi_get rfl (by omega) | exact ic_get (by omega) | exact il_get (by omega))) ?_
 try simp only [opv, n1, n2, n3, n4, Value.cells, List.getElem_toArray, List.getElem_cons_zero, List.getElem_cons_succ]
 first | refine s_go (m_load_row Try.underlying34 (hi := ti34) (hS := hS) (hfit := by first | omega | (rw [zi_size (by omega)]; first | rfl | decide) | (simp only [ic_size, List.length_map, List.size_toArray]; first | omega | decide) | rfl | (simp [*]; done) | (simp [*]; omega))) ?_ | refine s_go (m_loada_obj Try.underlying34 (hi := ti34) (hS := hS) (hfit := by first | omega | (rw [zi_size (by omega)]; first | rfl | decide) | (simp only [ic_size, List.length_map, List.size_toArray]; first | omega | decide) | rfl | (simp [*]; done) | (simp [*]; omega))) ?_ | refine s_go (m_loada_bx Try.underlying34 (hi := ti34) (hS := hS) (hfit := by first | omega | (rw [zi_size (by omega)]; first | rfl | decide) | (simp only [ic_size, List.length_map, List.size_toArray]; first | omega | decide) | rfl | (simp [*]; done) | (simp [*]; omega))) ?_ | refine s_go (m_loada_rd Try.underlying34 (hi := ti34) (hS := hS) (hfit := by first | omega | (rw [zi_size (by omega)]; first | rfl | decide) | (simp only [ic_size, List.length_map, List.size_toArray]; first | omega | decide) | rfl | (simp [*]; done) | (simp [*]; omega))) ?_ | refine s_go (m_loada_vec Try.underlying34 (hi := ti34) (hS := hS) (hfit := by first | omega | (rw [zi_size (by omega)]; first | rfl | decide) | (simp only [ic_size, List.length_map, List.size_toArray]; first | omega | decide) | rfl | (simp [*]; done) | (simp [*]; omega))) ?_
 try simp only [opv, n1, n2, n3, n4, Value.cells, List.getElem_toArray, List.getElem_cons_zero, List.getElem_cons_succ]
 first | refine s_go (m_load_row Try.underlying37 (hi := ti37) (hS := hS) (hfit := by first | omega | (rw [zi_size (by omega)]; first | rfl | decide) | (simp only [ic_size, List.length_map, List.size_toArray]; first | omega | decide) | rfl | (simp [*]; done) | (simp [*]; omega))) ?_ | refine s_go (m_loada_obj Try.underlying37 (hi := ti37) (hS := hS) (hfit := by first | omega | (rw [zi_size (by omega)]; first | rfl | decide) | (simp only [ic_size, List.length_map, List.size_toArray]; first | omega | decide) | rfl | (simp [*]; done) | (simp [*]; omega))) ?_ | refine s_go (m_loada_bx Try.underlying37 (hi := ti37) (hS := hS) (hfit := by first | omega | (rw [zi_size (by omega)]; first | rfl | decide) | (simp only [ic_size, List.length_map, List.size_toArray]; first | omega | decide) | rfl | (simp [*]; done) | (simp [*]; omega))) ?_ | refine s_go (m_loada_rd Try.underlying37 (hi := ti37) (hS := hS) (hfit := by first | omega | (rw [zi_size (by omega)]; first | rfl | decide) | (simp only [ic_size, List.length_map, List.size_toArray]; first | omega | decide) | rfl | (simp [*]; done) | (simp [*]; omega))) ?_ | refine s_go (m_loada_vec Try.underlying37 (hi := ti37) (hS := hS) (hfit := by first | omega | (rw [zi_size (by omega)]; first | rfl | decide) | (simp only [ic_size, List.length_map, List.size_toArray]; first | omega | decide) | rfl | (simp [*]; done) | (simp [*]; omega))) ?_
 try simp only [opv, n1, n2, n3, n4, Value.cells, List.getElem_toArray, List.getElem_cons_zero, List.getElem_cons_succ]
 refine s_go (s_build_struct (cells := (AA (x ++ y))) Try.underlying39 ti39 bp39 (hc := by simp only [List.map_toArray, List.map_cons, List.map_nil, opv, n1, n2, n3, n4, Value.cells, List.toList_toArray]; exact fill_atom (by rfl) (by rfl) (by rfl) hx hy)) ?_
 try simp only [opv, n1, n2, n3, n4, Value.cells]
 refine m_buildRow (cells := (AA (x ++ y))) Try.underlying24 ti39 (hc := by simp only [List.map_toArray, List.map_cons, List.map_nil, opv, n1, n2, n3, n4, Value.cells, List.toList_toArray]; exact fill_one (by rfl) (zi_size21 hxy) (by rfl)) (hS := hS) (h := fun w3 g3 hS => ?_)
 try simp only [opv, n1, n2, n3, n4, Value.cells, Array.toArray_toList] at hS ⊢
 replace hS := hS.obj_rd (sz := 21) (n := 1) (by exact zi_size21 hxy) .head
 rw [arow_one hxy] at hS
 refine m_append Try.underlying24 ti39 (hS := hS) (h1 := rowsZ_cells _ _) (h := fun w4 A4 C4 hS => ?_)
 try simp only [← List.map_append, ← List.map_drop, ← List.map_take, Nat.mul_one, Nat.zero_mul, Nat.sub_zero, List.drop_zero, List.nil_append, Nat.zero_add] at hS ⊢
 try simp only [opv, n1, n2, n3, n4, Value.cells, Array.toArray_toList] at hS ⊢
 rw [add_one] at hS
 first | refine m_store_obj ti24 (hS := hS) (hc := by first | exact zi_set rfl (by omega) | exact zi_whole (by omega) (by omega) | (first | exact splice_ic (by first | omega | (simp [*]; done) | (simp [*]; omega)) | exact splice_il (by first | omega | (simp [*]; done) | (simp [*]; omega)) | exact splice_whole (by first | (simp [opv, Value.cells, *]; done) | rfl) | (simp only [opv, n1, n2, Value.cells, splice, List.take_succ_cons, List.take_zero, List.drop_succ_cons, List.drop_zero, List.length_cons, List.length_nil, Nat.zero_add, Nat.reduceAdd, List.append_assoc, List.cons_append, List.nil_append]; rfl))) (hv := by first | rfl | (show (zi _ _).toArray.size = _; rw [zi_size (by omega)]; rfl) | (simp [opv, Value.cells, *]; done)) (hfit := by first | omega | (rw [zi_size (by omega)]; first | rfl | decide) | (simp only [ic_size, List.length_map, List.size_toArray]; first | omega | decide) | rfl | (simp [*]; done) | (simp [*]; omega)) (h1 := by first | exact zi_one _ _ | exact ic_one _ _ | simp [opv, Value.cells, Value.oneCell']) (h := fun w5 hS => ?_) | refine m_store_vec ti24 (hS := hS) (hc := by first | exact zi_set rfl (by omega) | exact zi_whole (by omega) (by omega) | (first | exact splice_ic (by first | omega | (simp [*]; done) | (simp [*]; omega)) | exact splice_il (by first | omega | (simp [*]; done) | (simp [*]; omega)) | exact splice_whole (by first | (simp [opv, Value.cells, *]; done) | rfl) | (simp only [opv, n1, n2, Value.cells, splice, List.take_succ_cons, List.take_zero, List.drop_succ_cons, List.drop_zero, List.length_cons, List.length_nil, Nat.zero_add, Nat.reduceAdd, List.append_assoc, List.cons_append, List.nil_append]; rfl))) (hv := by first | rfl | (show (zi _ _).toArray.size = _; rw [zi_size (by omega)]; rfl) | (simp [opv, Value.cells, *]; done)) (hfit := by first | omega | (rw [zi_size (by omega)]; first | rfl | decide) | (simp only [ic_size, List.length_map, List.size_toArray]; first | omega | decide) | rfl | (simp [*]; done) | (simp [*]; omega)) (h1 := by first | exact zi_one _ _ | exact ic_one _ _ | simp [opv, Value.cells, Value.oneCell']) (h := fun w5 hS => ?_)
 try simp only [opv, n1, n2, n3, n4, Value.cells, Array.toArray_toList] at hS ⊢
 refine x_nil ?_
 refine hK2 _ _ ?_
 refine x_seq fun K3 hK3 => ?_
 refine x_region ?_
 first | refine s_go (m_load_obj Try.underlying24 (hS := hS) (hv := by first | rfl | exact zi_get rfl (by omega) | exact ic_get (by omega) | exact il_get (by omega))) ?_ | refine s_go (m_load_bx Try.underlying24 (hS := hS) (hv := by first | rfl | exact zi_get rfl (by omega) | exact ic_get (by omega) | exact il_get (by omega))) ?_ | refine s_go (m_load_rd Try.underlying24 (hS := hS) (hv := by first | rfl | exact zi_get rfl (by omega) | exact ic_get (by omega) | exact il_get (by omega))) ?_ | refine s_go (m_load_vec Try.underlying24 (hS := hS) (hv := by first | rfl | exact zi_get rfl (by omega) | exact ic_get (by omega) | exact il_get (by omega))) ?_
 try simp only [opv, n1, n2, n3, n4, Value.cells, List.getElem_toArray, List.getElem_cons_zero, List.getElem_cons_succ]
 refine s_go (s_len_sl Try.underlying24) ?_
 try simp only [opv, n1, n2, n3, n4, Value.cells]
 first | refine s_go (m_load_obj Try.underlying3 (hS := hS) (hv := by first | rfl | exact zi_get rfl (by omega) | exact ic_get (by omega) | exact il_get (by omega))) ?_ | refine s_go (m_load_bx Try.underlying3 (hS := hS) (hv := by first | rfl | exact zi_get rfl (by omega) | exact ic_get (by omega) | exact il_get (by omega))) ?_ | refine s_go (m_load_rd Try.underlying3 (hS := hS) (hv := by first | rfl | exact zi_get rfl (by omega) | exact ic_get (by omega) | exact il_get (by omega))) ?_ | refine s_go (m_load_vec Try.underlying3 (hS := hS) (hv := by first | rfl | exact zi_get rfl (by omega) | exact ic_get (by omega) | exact il_get (by omega))) ?_
 try simp only [opv, n1, n2, n3, n4, Value.cells, List.getElem_toArray, List.getElem_cons_zero, List.getElem_cons_succ]
 refine s_go (s_lss) ?_
 try simp only [opv, n1, n2, n3, n4, Value.cells]
 refine s_go (s_assign) ?_
 try simp only [opv, n1, n2, n3, n4, Value.cells]
 refine x_nil ?_
 refine hK3 _ _ ?_
 refine x_ret ?_
 refine r_tmp rfl ?_
 rw [show got.length + 1 = (got ++ [x ++ y]).length by rw [List.length_append]; rfl] at hS
 exact ⟨rfl, _, _, hS.sel (by repeat (first | exact Sel.nil | (refine Sel.cons (by repeat (first | exact Del.head | apply Del.tail)) ?_)))⟩
theorem c_latEachGot (w0 : World) (b : Nat) (A : Option Addr) (c : Nat) (l : List (List Int)) (hv : AOks l) (hn : l.length ≤ 1000000000) (q8 q7 mo : Nat) (hM : St (OwnB [.obj b (.cells #[.slice A l.length c] 24 (0, 0)), .rd A 21 (l).length (arows (l)), .obj q8 (.cells #[.slice none (([] : List (List Int))).length 0] 24 (0, 0)), .vec none 0 39 21 (([] : List (List Int))).length (arows (([] : List (List Int)))), .obj q7 (.cells #[.int .i64 (mo : Int)] 3 (0, 0))]) w0 w0 [.obj b (.cells #[.slice A l.length c] 24 (0, 0)), .rd A 21 (l).length (arows (l)), .obj q8 (.cells #[.slice none (([] : List (List Int))).length 0] 24 (0, 0)), .vec none 0 39 21 (([] : List (List Int))).length (arows (([] : List (List Int)))), .obj q7 (.cells #[.int .i64 (mo : Int)] 3 (0, 0))])  :
    CallR Try.prog 108 #[.func (.func 24) #[] #[.pointer (some ⟨q8, 0, none⟩), .pointer (some ⟨q7, 0, none⟩)], .pointer (some ⟨b, 0, none⟩)] w0 fun v w' => v = .tuple #[] ∧ ∃ B d, St (OwnB [.obj b (.cells #[.slice A l.length c] 24 (0, 0)), .rd A 21 (l).length (arows (l)), .obj q8 (.cells #[.slice none (([] : List (List Int))).length 0] 24 (0, 0)), .vec none 0 39 21 (([] : List (List Int))).length (arows (([] : List (List Int)))), .obj q7 (.cells #[.int .i64 (mo : Int)] 3 (0, 0))]) w0 w' [.obj q8 (.cells #[.slice B ((normP l).take (min (normP l).length (max mo 1))).length d] 24 (0, 0)), .vec B d 39 21 ((normP l).take (min (normP l).length (max mo 1))).length (arows ((normP l).take (min (normP l).length (max mo 1)))), .obj q7 (.cells #[.int .i64 (mo : Int)] 3 (0, 0))] := by
 have hS := hM
 have hno := (norm_sta hv).ok
 have hkn := (norm_sta hv).knd
 have hnl := arows_len (normP l)
 have hnb := norm_len l
 refine c_enter (l := [.func (.func 24) #[] #[.pointer (some ⟨q8, 0, none⟩), .pointer (some ⟨q7, 0, none⟩)], .pointer (some ⟨b, 0, none⟩), undef, undef, undef, undef, undef, undef, undef, undef, undef, undef, undef, undef, undef, undef, undef, undef, undef, undef]) Try.func108 rfl (by simp only [Try.ntmps108, List.size_toArray, List.length_cons, List.length_nil, Nat.reduceAdd, Nat.reduceSub, Array.replicate_succ, Array.replicate_zero, List.push_toArray, List.append_toArray, List.nil_append, List.cons_append]) ?_
 refine x_seq fun K1 hK1 => ?_
 refine x_region ?_
 first | refine s_go (m_load_obj Try.underlying24 (hS := hS) (hv := by first | rfl | exact zi_get rfl (by omega) | exact ic_get (by omega) | exact il_get (by omega))) ?_ | refine s_go (m_load_bx Try.underlying24 (hS := hS) (hv := by first | rfl | exact zi_get rfl (by omega) | exact ic_get (by omega) | exact il_get (by omega))) ?_ | refine s_go (m_load_rd Try.underlying24 (hS := hS) (hv := by first | rfl | exact zi_get rfl (by omega) | exact ic_get (by omega) | exact il_get (by omega))) ?_ | refine s_go (m_load_vec Try.underlying24 (hS := hS) (hv := by first | rfl | exact zi_get rfl (by omega) | exact ic_get (by omega) | exact il_get (by omega))) ?_
 try simp only [opv, n1, n2, n3, n4, Value.cells, List.getElem_toArray, List.getElem_cons_zero, List.getElem_cons_succ]
 refine s_call en31 ?_
 try simp only [opv, n1, n2, n3, n4, Value.cells, List.map_toArray, List.map_cons, List.map_nil, List.append_toArray, List.cons_append, List.nil_append, Array.append_empty]
 refine CallR.mono (c_latNorm _ A c l (hS.hasRd (by repeat (first | exact Has.head | apply Has.tail))) hv hn) ?_
 rintro _ w1 ⟨Bn, cn, rfl, hC1⟩
 replace hS := hS.call hC1
 simp only [List.cons_append, List.nil_append] at hS
 try simp only [opv, n1, n2, n3, n4, Value.cells]
 refine s_go (s_len_sl Try.underlying24) ?_
 try simp only [opv, n1, n2, n3, n4, Value.cells]
 refine s_go (s_move) ?_
 try simp only [opv, n1, n2, n3, n4, Value.cells]
 refine x_nil ?_
 refine hK1 _ _ ?_
 refine x_block ?_
 refine x_loop [4, 8, 9, 10, 11, 12, 13, 14, 15, 16, 17, 18, 19] (fun m f w => ∃ (k : Nat) (B : Option Addr) (d : Nat), k ≤ (normP l).length ∧ (k = 0 ∨ k < mo) ∧ m = (normP l).length - k ∧ f 8 = .int .i64 (k : Int) ∧ St (OwnB [.obj b (.cells #[.slice A l.length c] 24 (0, 0)), .rd A 21 (l).length (arows (l)), .obj q8 (.cells #[.slice none (([] : List (List Int))).length 0] 24 (0, 0)), .vec none 0 39 21 (([] : List (List Int))).length (arows (([] : List (List Int)))), .obj q7 (.cells #[.int .i64 (mo : Int)] 3 (0, 0))]) w0 w [.obj q8 (.cells #[.slice B ((normP l).take k).length d] 24 (0, 0)), .vec B d 39 21 ((normP l).take k).length (arows ((normP l).take k)), .obj q7 (.cells #[.int .i64 (mo : Int)] 3 (0, 0)), .vec Bn cn 39 21 (normP l).length (arows (normP l))]) ((normP l).length) ?init1 (fun m1 f1 wl1 hI => ?_)
 case init1 =>
  try simp only [opv, n1, n2, n3, n4, Value.cells]
  exact ⟨0, none, 0, by omega, by omega, rfl, rfl, hS.sel (by repeat (first | exact Sel.nil | (refine Sel.cons (by repeat (first | exact Del.head | apply Del.tail)) ?_)))⟩
 obtain ⟨k, B, d, hk0, hkm, hm, h8, hS⟩ := hI
 simp only [clob, List.foldl, n3, n4, h8]
 have htl : ((normP l).take k).length = k := by rw [List.length_take]; omega
 refine x_seq fun K2 hK2 => ?_
 refine x_region ?_
 refine s_go (s_lss) ?_
 try simp only [opv, n1, n2, n3, n4, Value.cells]
 refine x_nil ?_
 refine hK2 _ _ ?_
 refine x_seq fun K3 hK3 => ?_
 refine x_cond (ht := fun hc1 => ?_) (hf := fun hc1 => ?_)
 ·
  try simp only [decide_eq_true_eq, decide_eq_false_iff_not, Bool.not_eq_true', Bool.not_eq_false', Int.not_lt, Int.not_le, ne_eq, Decidable.not_not, bne_iff_ne, beq_iff_eq, not_true_eq_false, not_false_eq_true] at hc1
  obtain ⟨x, hx⟩ : ∃ x, (normP l).getD k [] = x := ⟨_, rfl⟩
  have ha : AtomOk x := by rw [← hx]; exact hno.get (by omega)
  have hal := ha.len
  have hk12 := ha.key.len
  have hx9 := ha.val.len
  refine x_skip ?_
  refine hK3 _ _ ?_
  refine x_seq fun K4 hK4 => ?_
  refine x_block ?_
  refine x_seq fun K5 hK5 => ?_
  refine x_region ?_
  first | refine s_go (m_indexAddr_rd Try.underlying24 ti39 (hS := hS)) ?_ | refine s_go (m_indexAddr_vec Try.underlying24 ti39 (hS := hS)) ?_
  try simp only [opv, n1, n2, n3, n4, Value.cells, Nat.mul_one, Nat.zero_add, Int.toNat_natCast, Int.reduceToNat]
  first | refine s_go (m_load_row Try.underlying39 (hi := ti39) (hS := hS) (hfit := by rw [arows_len]; omega)) ?_ | refine s_go (m_loada_obj Try.underlying39 (hi := ti39) (hS := hS) (hfit := by rw [arows_len]; omega)) ?_ | refine s_go (m_loada_bx Try.underlying39 (hi := ti39) (hS := hS) (hfit := by rw [arows_len]; omega)) ?_ | refine s_go (m_loada_rd Try.underlying39 (hi := ti39) (hS := hS) (hfit := by rw [arows_len]; omega)) ?_ | refine s_go (m_loada_vec Try.underlying39 (hi := ti39) (hS := hS) (hfit := by rw [arows_len]; omega)) ?_
  try simp only [opv, n1, n2, n3, n4, Value.cells, List.getElem_toArray, List.getElem_cons_zero, List.getElem_cons_succ]
  rw [arow_get (by omega) hno, hx]
  refine m_alloc ti39 hS (fun w2 g2 hS => ?_)
  try simp only [opv, n1, n2, n3, n4, Value.cells, Array.toArray_toList] at hS ⊢
  have h0l : (List.replicate 21 (0 : Int)).length = 21 := rfl
  replace hS : St _ _ w2 (.obj g2 (.cells (AA (List.replicate 21 0)) 39 (0, 0)) :: _) := hS
  first | refine m_store_obj ti39 (hS := hS) (hc := by first | exact zi_set rfl (by omega) | exact zi_whole (by omega) (by omega) | (first | exact splice_ic (by first | omega | (simp [*]; done) | (simp [*]; omega)) | exact splice_il (by first | omega | (simp [*]; done) | (simp [*]; omega)) | exact splice_whole (by first | (simp [opv, Value.cells, *]; done) | rfl) | (simp only [opv, n1, n2, Value.cells, splice, List.take_succ_cons, List.take_zero, List.drop_succ_cons, List.drop_zero, List.length_cons, List.length_nil, Nat.zero_add, Nat.reduceAdd, List.append_assoc, List.cons_append, List.nil_append]; rfl))) (hv := by first | rfl | (show (zi _ _).toArray.size = _; rw [zi_size (by omega)]; rfl) | (simp [opv, Value.cells, *]; done)) (hfit := by first | omega | (rw [zi_size (by omega)]; first | rfl | decide) | (simp only [ic_size, List.length_map, List.size_toArray]; first | omega | decide) | rfl | (simp [*]; done) | (simp [*]; omega)) (h1 := by first | exact zi_one _ _ | exact ic_one _ _ | simp [opv, Value.cells, Value.oneCell']) (h := fun w3 hS => ?_) | refine m_store_vec ti39 (hS := hS) (hc := by first | exact zi_set rfl (by omega) | exact zi_whole (by omega) (by omega) | (first | exact splice_ic (by first | omega | (simp [*]; done) | (simp [*]; omega)) | exact splice_il (by first | omega | (simp [*]; done) | (simp [*]; omega)) | exact splice_whole (by first | (simp [opv, Value.cells, *]; done) | rfl) | (simp only [opv, n1, n2, Value.cells, splice, List.take_succ_cons, List.take_zero, List.drop_succ_cons, List.drop_zero, List.length_cons, List.length_nil, Nat.zero_add, Nat.reduceAdd, List.append_assoc, List.cons_append, List.nil_append]; rfl))) (hv := by first | rfl | (show (zi _ _).toArray.size = _; rw [zi_size (by omega)]; rfl) | (simp [opv, Value.cells, *]; done)) (hfit := by first | omega | (rw [zi_size (by omega)]; first | rfl | decide) | (simp only [ic_size, List.length_map, List.size_toArray]; first | omega | decide) | rfl | (simp [*]; done) | (simp [*]; omega)) (h1 := by first | exact zi_one _ _ | exact ic_one _ _ | simp [opv, Value.cells, Value.oneCell']) (h := fun w3 hS => ?_)
  try simp only [opv, n1, n2, n3, n4, Value.cells, Array.toArray_toList] at hS ⊢
  refine x_nil ?_
  refine hK5 _ _ ?_
  refine x_seq fun K6 hK6 => ?_
  refine x_region ?_
  refine s_go (s_move) ?_
  try simp only [opv, n1, n2, n3, n4, Value.cells]
  first | refine s_go (m_fieldAddr Try.underlying39 (hi := ti34)) ?_ | refine s_go (m_fieldAddr_rd Try.underlying39 (hi := ti34) (hS := hS)) ?_ | refine s_go (m_fieldAddr_vec Try.underlying39 (hi := ti34) (hS := hS)) ?_
  try simp only [opv, n1, n2, n3, n4, Value.cells, Nat.zero_add, Nat.add_zero, List.getElem_toArray, List.getElem_cons_zero, List.getElem_cons_succ]
  first | refine s_go (m_load_row Try.underlying34 (hi := ti34) (hS := hS) (hfit := by first | omega | (rw [zi_size (by omega)]; first | rfl | decide) | (simp only [ic_size, List.length_map, List.size_toArray]; first | omega | decide) | rfl | (simp [*]; done) | (simp [*]; omega))) ?_ | refine s_go (m_loada_obj Try.underlying34 (hi := ti34) (hS := hS) (hfit := by first | omega | (rw [zi_size (by omega)]; first | rfl | decide) | (simp only [ic_size, List.length_map, List.size_toArray]; first | omega | decide) | rfl | (simp [*]; done) | (simp [*]; omega))) ?_ | refine s_go (m_loada_bx Try.underlying34 (hi := ti34) (hS := hS) (hfit := by first | omega | (rw [zi_size (by omega)]; first | rfl | decide) | (simp only [ic_size, List.length_map, List.size_toArray]; first | omega | decide) | rfl | (simp [*]; done) | (simp [*]; omega))) ?_ | refine s_go (m_loada_rd Try.underlying34 (hi := ti34) (hS := hS) (hfit := by first | omega | (rw [zi_size (by omega)]; first | rfl | decide) | (simp only [ic_size, List.length_map, List.size_toArray]; first | omega | decide) | rfl | (simp [*]; done) | (simp [*]; omega))) ?_ | refine s_go (m_loada_vec Try.underlying34 (hi := ti34) (hS := hS) (hfit := by first | omega | (rw [zi_size (by omega)]; first | rfl | decide) | (simp only [ic_size, List.length_map, List.size_toArray]; first | omega | decide) | rfl | (simp [*]; done) | (simp [*]; omega))) ?_
  try simp only [opv, n1, n2, n3, n4, Value.cells, List.getElem_toArray, List.getElem_cons_zero, List.getElem_cons_succ]
  rw [atom_key hal]
  first | refine s_go (m_fieldAddr Try.underlying39 (hi := ti37)) ?_ | refine s_go (m_fieldAddr_rd Try.underlying39 (hi := ti37) (hS := hS)) ?_ | refine s_go (m_fieldAddr_vec Try.underlying39 (hi := ti37) (hS := hS)) ?_
  try simp only [opv, n1, n2, n3, n4, Value.cells, Nat.zero_add, Nat.add_zero, List.getElem_toArray, List.getElem_cons_zero, List.getElem_cons_succ]
  first | refine s_go (m_load_row Try.underlying37 (hi := ti37) (hS := hS) (hfit := by first | omega | (rw [zi_size (by omega)]; first | rfl | decide) | (simp only [ic_size, List.length_map, List.size_toArray]; first | omega | decide) | rfl | (simp [*]; done) | (simp [*]; omega))) ?_ | refine s_go (m_loada_obj Try.underlying37 (hi := ti37) (hS := hS) (hfit := by first | omega | (rw [zi_size (by omega)]; first | rfl | decide) | (simp only [ic_size, List.length_map, List.size_toArray]; first | omega | decide) | rfl | (simp [*]; done) | (simp [*]; omega))) ?_ | refine s_go (m_loada_bx Try.underlying37 (hi := ti37) (hS := hS) (hfit := by first | omega | (rw [zi_size (by omega)]; first | rfl | decide) | (simp only [ic_size, List.length_map, List.size_toArray]; first | omega | decide) | rfl | (simp [*]; done) | (simp [*]; omega))) ?_ | refine s_go (m_loada_rd Try.underlying37 (hi := ti37) (hS := hS) (hfit := by first | omega | (rw [zi_size (by omega)]; first | rfl | decide) | (simp only [ic_size, List.length_map, List.size_toArray]; first | omega | decide) | rfl | (simp [*]; done) | (simp [*]; omega))) ?_ | refine s_go (m_loada_vec Try.underlying37 (hi := ti37) (hS := hS) (hfit := by first | omega | (rw [zi_size (by omega)]; first | rfl | decide) | (simp only [ic_size, List.length_map, List.size_toArray]; first | omega | decide) | rfl | (simp [*]; done) | (simp [*]; omega))) ?_
  try simp only [opv, n1, n2, n3, n4, Value.cells, List.getElem_toArray, List.getElem_cons_zero, List.getElem_cons_succ]
  rw [atom_val hal]
  refine s_callv (hv := rfl) en24 ?_
  try simp only [opv, n1, n2, n3, n4, Value.cells, List.map_toArray, List.map_cons, List.map_nil, List.append_toArray, List.cons_append, List.nil_append, Array.append_empty]
  refine CallR.mono (c_latGot _ q8 q7 mo B d ((normP l).take k) (by omega) (akey x) (aval x) hk12 hx9 (hS.owns (by repeat (first | exact Spl.nil | (apply Spl.cons (by repeat (first | exact Del.head | apply Del.tail))))))) ?_
  rintro _ w4 ⟨rfl, B4, d4, hC4⟩
  replace hS := hS.frame (by repeat (first | exact Spl.nil | (apply Spl.cons (by repeat (first | exact Del.head | apply Del.tail))))) hC4 (by intro r hr g hg; simp only [List.mem_cons, List.not_mem_nil, or_false] at hr; rcases hr with rfl | rfl | rfl <;> first | (simp [Res.reads] at hg; done) | exact .inr ⟨_, by simp, .inr hg⟩)
  simp only [List.cons_append, List.nil_append] at hS
  rw [kv_atom, ← hx, ← take_snoc (by omega)] at hS
  try simp only [opv, n1, n2, n3, n4, Value.cells]
  refine s_go (s_not) ?_
  try simp only [opv, n1, n2, n3, n4, Value.cells]
  refine x_nil ?_
  refine hK6 _ _ ?_
  refine x_cond (ht := fun hc2 => ?_) (hf := fun hc2 => ?_)
  ·
   try simp only [decide_eq_true_eq, decide_eq_false_iff_not, Bool.not_eq_true', Bool.not_eq_false', Int.not_lt, Int.not_le, ne_eq, Decidable.not_not, bne_iff_ne, beq_iff_eq, not_true_eq_false, not_false_eq_true] at hc2
   have hmo : ¬ k + 1 < mo := by rw [htl] at hc2; simp at hc2; omega
   refine x_ret ?_
   refine r_none rfl ?_
   rw [show (min (normP l).length (max mo 1)) = k + 1 by omega]
   exact ⟨rfl, _, _, hS.sel (by repeat (first | exact Sel.nil | (refine Sel.cons (by repeat (first | exact Del.head | apply Del.tail)) ?_)))⟩
  ·
   try simp only [decide_eq_true_eq, decide_eq_false_iff_not, Bool.not_eq_true', Bool.not_eq_false', Int.not_lt, Int.not_le, ne_eq, Decidable.not_not, bne_iff_ne, beq_iff_eq, not_true_eq_false, not_false_eq_true] at hc2
   have hmo : k + 1 < mo := by rw [htl] at hc2; simp at hc2; omega
   refine x_skip ?_
   refine hK4 _ _ ?_
   refine x_region ?_
   refine s_go (s_add (hc := by first | exact wr_i64 (by omega) (by omega) | rfl)) ?_
   try simp only [opv, n1, n2, n3, n4, Value.cells]
   refine s_go (s_move) ?_
   try simp only [opv, n1, n2, n3, n4, Value.cells]
   refine x_nil ?_
   refine loop_back (m' := (normP l).length - (k + 1)) (by simp only [clob, List.foldl, n1, n2, n3, n4]) ?_ ?_
   · try simp only [opv, n1, n2, n3, n4, Value.cells]
     exact ⟨k + 1, _, _, by omega, by omega, by omega, by rfl, hS.sel (by repeat (first | exact Sel.nil | (refine Sel.cons (by repeat (first | exact Del.head | apply Del.tail)) ?_)))⟩
   · omega
 ·
  try simp only [decide_eq_true_eq, decide_eq_false_iff_not, Bool.not_eq_true', Bool.not_eq_false', Int.not_lt, Int.not_le, ne_eq, Decidable.not_not, bne_iff_ne, beq_iff_eq, not_true_eq_false, not_false_eq_true] at hc1
  obtain rfl : k = (normP l).length := by omega
  refine x_exit (look_here ?_)
  refine r_none rfl ?_
  rw [show (min (normP l).length (max mo 1)) = (normP l).length by omega]
  exact ⟨rfl, _, _, hS.sel (by repeat (first | exact Sel.nil | (refine Sel.cons (by repeat (first | exact Del.head | apply Del.tail)) ?_)))⟩
theorem c_LatAll (w0 : World) (B : Option Addr) (d : Nat) (rs : List Rw) (hB : Rd w0 B 1 rs.length (rs.map rwV)) (hrs : ∀ r ∈ rs, RwOk w0 r) (hm : rs.length ≤ 900000000000000) (n : Nat) (h256 : n < 256)  :
    CallR Try.prog 3 #[.slice B rs.length d, .int .u8 (n : Int)] w0 fun v w' => v = .bool true ∧ Ext w0 w' := by
 have hS := St.rd1 (S := NoB) hB
 have hrl := rws_len rs
 have hfo := flat_ok hrs
 refine c_enter (l := [.slice B rs.length d, .int .u8 (n : Int), undef, undef, undef, undef, undef, undef, undef, undef, undef, undef, undef, undef, undef, undef, undef, undef, undef, undef, undef, undef, undef, undef, undef, undef, undef, undef, undef, undef, undef, undef, undef, undef, undef, undef, undef, undef, undef, undef, undef, undef, undef, undef, undef, undef, undef, undef, undef, undef, undef, undef, undef, undef, undef, undef, undef, undef, undef, undef, undef, undef, undef, undef, undef]) Try.func3 rfl (by simp only [Try.ntmps3, List.size_toArray, List.length_cons, List.length_nil, Nat.reduceAdd, Nat.reduceSub, Array.replicate_succ, Array.replicate_zero, List.push_toArray, List.append_toArray, List.nil_append, List.cons_append]) ?_
 refine x_seq fun K1 hK1 => ?_
 refine x_region ?_
 refine s_go (s_assign) ?_
 try simp only [opv, n1, n2, n3, n4, Value.cells]
 refine x_nil ?_
 refine hK1 _ _ ?_
 refine x_seq fun K2 hK2 => ?_
 refine x_seq fun K3 hK3 => ?_
 refine x_region ?_
 refine s_go (s_move) ?_
 try simp only [opv, n1, n2, n3, n4, Value.cells]
 refine s_go (s_len_sl Try.underlying22) ?_
 try simp only [opv, n1, n2, n3, n4, Value.cells]
 refine s_go (s_gtr) ?_
 try simp only [opv, n1, n2, n3, n4, Value.cells]
 refine x_nil ?_
 refine hK3 _ _ ?_
 refine x_cond (ht := fun hc1 => ?_) (hf := fun hc1 => ?_)
 ·
  try simp only [decide_eq_true_eq, decide_eq_false_iff_not, Bool.not_eq_true', Bool.not_eq_false', Int.not_lt, Int.not_le, ne_eq, Decidable.not_not, bne_iff_ne, beq_iff_eq, not_true_eq_false, not_false_eq_true] at hc1
  refine x_seq fun K4 hK4 => ?_
  refine x_region ?_
  refine s_call en21 ?_
  try simp only [opv, n1, n2, n3, n4, Value.cells, List.map_toArray, List.map_cons, List.map_nil, List.append_toArray, List.cons_append, List.nil_append, Array.append_empty]
  refine CallR.mono (c_law10alive _) ?_
  rintro _ w1 ⟨rfl, hE1⟩
  replace hS := hS.ext hE1
  try simp only [opv, n1, n2, n3, n4, Value.cells]
  refine s_go (s_assign) ?_
  try simp only [opv, n1, n2, n3, n4, Value.cells]
  refine x_nil ?_
  refine hK4 _ _ ?_
  refine x_ret ?_
  refine r_tmp rfl ?_
  exact ⟨rfl, hS.ext_of⟩
 ·
  try simp only [decide_eq_true_eq, decide_eq_false_iff_not, Bool.not_eq_true', Bool.not_eq_false', Int.not_lt, Int.not_le, ne_eq, Decidable.not_not, bne_iff_ne, beq_iff_eq, not_true_eq_false, not_false_eq_true] at hc1
  have hm8 : rs.length ≤ 8 := by omega
  refine x_skip ?_
  refine hK2 _ _ ?_
  refine x_seq fun K5 hK5 => ?_
  refine x_seq fun K6 hK6 => ?_
  refine x_region ?_
  refine s_go (s_assign) ?_
  try simp only [opv, n1, n2, n3, n4, Value.cells]
  refine x_nil ?_
  refine hK6 _ _ ?_
  refine x_block ?_
  refine x_loop [4, 5, 15, 16, 17, 18, 19, 20, 21, 22, 23, 24, 25, 26, 27] (fun m f w => ∃ k : Nat, k ≤ rs.length ∧ m = rs.length - k ∧ f 5 = .int .i64 (k : Int) ∧ (∀ r ∈ rs.take k, r.l.length ≤ 40) ∧ St NoB w0 w [.rd B 1 rs.length (rs.map rwV)]) (rs.length) ?init1 (fun m1 f1 wl1 hI => ?_)
  case init1 =>
   try simp only [opv, n1, n2, n3, n4, Value.cells]
   exact ⟨0, by omega, rfl, rfl, (fun r h => by cases h), hS⟩
  obtain ⟨k, hk0, hmk, h5, h40, hS⟩ := hI
  simp only [clob, List.foldl, n3, n4, h5]
  refine x_seq fun K7 hK7 => ?_
  refine x_seq fun K8 hK8 => ?_
  refine x_region ?_
  refine s_go (s_move) ?_
  try simp only [opv, n1, n2, n3, n4, Value.cells]
  refine s_go (s_move) ?_
  try simp only [opv, n1, n2, n3, n4, Value.cells]
  refine s_go (s_len_sl Try.underlying22) ?_
  try simp only [opv, n1, n2, n3, n4, Value.cells]
  refine s_go (s_lss) ?_
  try simp only [opv, n1, n2, n3, n4, Value.cells]
  refine x_nil ?_
  refine hK8 _ _ ?_
  refine x_cond (ht := fun hc2 => ?_) (hf := fun hc2 => ?_)
  ·
   try simp only [decide_eq_true_eq, decide_eq_false_iff_not, Bool.not_eq_true', Bool.not_eq_false', Int.not_lt, Int.not_le, ne_eq, Decidable.not_not, bne_iff_ne, beq_iff_eq, not_true_eq_false, not_false_eq_true] at hc2
   obtain ⟨r, hr⟩ : ∃ r, rs.getD k rw0 = r := ⟨_, rfl⟩
   have hrk : r = rs[k]'(by omega) := by rw [← hr, List.getD_eq_getElem?_getD, List.getElem?_eq_getElem (by omega)]; rfl
   refine x_skip ?_
   refine hK7 _ _ ?_
   refine x_seq fun K9 hK9 => ?_
   refine x_block ?_
   refine x_seq fun K10 hK10 => ?_
   refine x_region ?_
   refine s_go (s_move) ?_
   try simp only [opv, n1, n2, n3, n4, Value.cells]
   refine s_go (s_move) ?_
   try simp only [opv, n1, n2, n3, n4, Value.cells]
   first | refine s_go (m_indexAddr_rd Try.underlying22 ti24 (hS := hS)) ?_ | refine s_go (m_indexAddr_vec Try.underlying22 ti24 (hS := hS)) ?_
   try simp only [opv, n1, n2, n3, n4, Value.cells, Nat.mul_one, Nat.zero_add, Int.toNat_natCast, Int.reduceToNat]
   first | refine s_go (m_load_obj Try.underlying24 (hS := hS) (hv := rws_get (by omega) hr)) ?_ | refine s_go (m_load_bx Try.underlying24 (hS := hS) (hv := rws_get (by omega) hr)) ?_ | refine s_go (m_load_rd Try.underlying24 (hS := hS) (hv := rws_get (by omega) hr)) ?_ | refine s_go (m_load_vec Try.underlying24 (hS := hS) (hv := rws_get (by omega) hr)) ?_
   try simp only [opv, n1, n2, n3, n4, Value.cells, List.getElem_toArray, List.getElem_cons_zero, List.getElem_cons_succ]
   refine s_go (s_len_sl Try.underlying24) ?_
   try simp only [opv, n1, n2, n3, n4, Value.cells]
   refine s_go (s_gtr) ?_
   try simp only [opv, n1, n2, n3, n4, Value.cells]
   refine x_nil ?_
   refine hK10 _ _ ?_
   refine x_cond (ht := fun hc3 => ?_) (hf := fun hc3 => ?_)
   ·
    try simp only [decide_eq_true_eq, decide_eq_false_iff_not, Bool.not_eq_true', Bool.not_eq_false', Int.not_lt, Int.not_le, ne_eq, Decidable.not_not, bne_iff_ne, beq_iff_eq, not_true_eq_false, not_false_eq_true] at hc3
    refine x_seq fun K11 hK11 => ?_
    refine x_region ?_
    refine s_call en21 ?_
    try simp only [opv, n1, n2, n3, n4, Value.cells, List.map_toArray, List.map_cons, List.map_nil, List.append_toArray, List.cons_append, List.nil_append, Array.append_empty]
    refine CallR.mono (c_law10alive _) ?_
    rintro _ w2 ⟨rfl, hE2⟩
    replace hS := hS.ext hE2
    try simp only [opv, n1, n2, n3, n4, Value.cells]
    refine s_go (s_assign) ?_
    try simp only [opv, n1, n2, n3, n4, Value.cells]
    refine x_nil ?_
    refine hK11 _ _ ?_
    refine x_ret ?_
    refine r_tmp rfl ?_
    exact ⟨rfl, hS.ext_of⟩
   ·
    try simp only [decide_eq_true_eq, decide_eq_false_iff_not, Bool.not_eq_true', Bool.not_eq_false', Int.not_lt, Int.not_le, ne_eq, Decidable.not_not, bne_iff_ne, beq_iff_eq, not_true_eq_false, not_false_eq_true] at hc3
    refine x_skip ?_
    refine hK9 _ _ ?_
    refine x_region ?_
    refine s_go (s_move) ?_
    try simp only [opv, n1, n2, n3, n4, Value.cells]
    refine s_go (s_add (hc := by first | exact wr_i64 (by omega) (by omega) | rfl)) ?_
    try simp only [opv, n1, n2, n3, n4, Value.cells]
    refine s_go (s_assign) ?_
    try simp only [opv, n1, n2, n3, n4, Value.cells]
    refine x_nil ?_
    refine loop_back (m' := rs.length - (k + 1)) (by simp only [clob, List.foldl, n1, n2, n3, n4]) ?_ ?_
    · try simp only [opv, n1, n2, n3, n4, Value.cells]
      exact ⟨k + 1, by omega, by omega, by rfl, (fun q hq => by rw [List.take_succ_eq_append_getElem (by omega)] at hq; rcases List.mem_append.1 hq with hq | hq; exact h40 q hq; rw [List.mem_singleton] at hq; rw [hq, ← hrk]; omega), hS⟩
    · omega
  ·
   try simp only [decide_eq_true_eq, decide_eq_false_iff_not, Bool.not_eq_true', Bool.not_eq_false', Int.not_lt, Int.not_le, ne_eq, Decidable.not_not, bne_iff_ne, beq_iff_eq, not_true_eq_false, not_false_eq_true] at hc2
   obtain rfl : k = rs.length := by omega
   rw [List.take_of_length_le (Nat.le_refl _)] at h40
   have hfb := flat_bound h40
   have hfn : (flatR rs).length ≤ 320 := by omega
   have hs0 := norm_len (flatR rs)
   refine x_exit (look_here ?_)
   refine hK5 _ _ ?_
   refine x_seq fun K12 hK12 => ?_
   refine x_region ?_
   refine s_go (s_move) ?_
   try simp only [opv, n1, n2, n3, n4, Value.cells]
   refine s_call en22 ?_
   try simp only [opv, n1, n2, n3, n4, Value.cells, List.map_toArray, List.map_cons, List.map_nil, List.append_toArray, List.cons_append, List.nil_append, Array.append_empty]
   refine CallR.mono (c_ref10All _ B d rs (hS.hasRd (by repeat (first | exact Has.head | apply Has.tail))) (fun r h => (hrs r h).to hS.ext_of) (by omega) (by omega)) ?_
   rintro _ w3 ⟨Cs, cs, rfl, hC3⟩
   replace hS := hS.call hC3
   simp only [List.cons_append, List.nil_append] at hS
   have hcs := hS.vec_cap (by exact Has.head)
   obtain ⟨s, hsl⟩ : ∃ s, normP (flatR rs) = s := ⟨_, rfl⟩
   have hss := norm_sta hfo
   rw [hsl] at hS hs0 hss hcs
   have hso := hss.ok
   have hsid := norm_id hss
   simp only [hsl]
   replace hS := hS.vec_rd (by exact Upd.head)
   try simp only [opv, n1, n2, n3, n4, Value.cells]
   refine s_go (s_assign) ?_
   try simp only [opv, n1, n2, n3, n4, Value.cells]
   refine x_nil ?_
   refine hK12 _ _ ?_
   refine x_seq fun K13 hK13 => ?_
   refine x_region ?_
   refine s_go (s_move) ?_
   try simp only [opv, n1, n2, n3, n4, Value.cells]
   refine s_go (s_conv Try.underlying5 Try.underlying3 (hc := by first | exact wr_i64 (by omega) (by omega) | rfl)) ?_
   try simp only [opv, n1, n2, n3, n4, Value.cells]
   refine s_go (s_rem (hc := rem_nat (p := 12))) ?_
   try simp only [opv, n1, n2, n3, n4, Value.cells]
   refine m_alloc ti3 hS (fun w4 g4 hS => ?_)
   try simp only [opv, n1, n2, n3, n4, Value.cells, Array.toArray_toList] at hS ⊢
   obtain ⟨q7, hq7⟩ : ∃ z, z = g4 := ⟨_, rfl⟩
   rw [← hq7] at hS ⊢
   first | refine m_store_obj ti3 (hS := hS) (h := fun w5 hS => ?_) | refine m_store_vec ti3 (hS := hS) (h := fun w5 hS => ?_)
   try simp only [opv, n1, n2, n3, n4, Value.cells, Array.toArray_toList] at hS ⊢
   refine x_nil ?_
   refine hK13 _ _ ?_
   refine x_seq fun K14 hK14 => ?_
   refine x_region ?_
   refine m_alloc ti24 hS (fun w6 g6 hS => ?_)
   try simp only [opv, n1, n2, n3, n4, Value.cells, Array.toArray_toList] at hS ⊢
   obtain ⟨q8, hq8⟩ : ∃ z, z = g6 := ⟨_, rfl⟩
   rw [← hq8] at hS ⊢
   replace hS := hS.nil_vec 39 21
   refine x_nil ?_
   refine hK14 _ _ ?_
   refine x_seq fun K15 hK15 => ?_
   refine x_region ?_
   refine s_go (s_move) ?_
   try simp only [opv, n1, n2, n3, n4, Value.cells]
   refine s_call en23 ?_
   try simp only [opv, n1, n2, n3, n4, Value.cells, List.map_toArray, List.map_cons, List.map_nil, List.append_toArray, List.cons_append, List.nil_append, Array.append_empty]
   refine CallR.mono (c_latEach Cs cs s _) ?_
   rintro _ w7 ⟨b, rfl, hC7⟩
   replace hS := hS.call hC7
   simp only [List.cons_append, List.nil_append] at hS
   try simp only [opv, n1, n2, n3, n4, Value.cells]
   refine s_go (s_assign) ?_
   try simp only [opv, n1, n2, n3, n4, Value.cells]
   refine x_nil ?_
   refine hK15 _ _ ?_
   refine x_seq fun K16 hK16 => ?_
   refine x_seq fun K17 hK17 => ?_
   refine x_region ?_
   refine s_go (s_move) ?_
   try simp only [opv, n1, n2, n3, n4, Value.cells]
   refine s_go (s_eql_func Try.underlying27) ?_
   try simp only [opv, n1, n2, n3, n4, Value.cells]
   refine x_nil ?_
   refine hK17 _ _ ?_
   refine x_cond_f (h := ?_)
   refine x_skip ?_
   refine hK16 _ _ ?_
   refine x_seq fun K18 hK18 => ?_
   refine x_region ?_
   refine s_go (s_move) ?_
   try simp only [opv, n1, n2, n3, n4, Value.cells]
   refine s_go (s_makeFunc) ?_
   try simp only [opv, n1, n2, n3, n4, Value.cells, List.map_toArray, List.map_cons, List.map_nil]
   replace hS := hS.rd_dup (A := Cs) (by repeat (first | exact Has.head | apply Has.tail))
   refine s_callv (hv := rfl) en108 ?_
   try simp only [opv, n1, n2, n3, n4, Value.cells, List.map_toArray, List.map_cons, List.map_nil, List.append_toArray, List.cons_append, List.nil_append, Array.append_empty]
   refine CallR.mono (c_latEachGot _ b Cs cs s hso (by omega) q8 q7 (n % 12) (hS.owns (by repeat (first | exact Spl.nil | (apply Spl.cons (by repeat (first | exact Del.head | apply Del.tail))))))) ?_
   rintro _ w8 ⟨rfl, Bg, dg, hC8⟩
   replace hS := hS.frame (by repeat (first | exact Spl.nil | (apply Spl.cons (by repeat (first | exact Del.head | apply Del.tail))))) hC8 (by intro r hr g hg; simp only [List.mem_cons, List.not_mem_nil, or_false] at hr; rcases hr with rfl | rfl | rfl <;> first | (simp [Res.reads] at hg; done) | exact .inr ⟨_, by simp, .inr hg⟩)
   simp only [List.cons_append, List.nil_append, hsid] at hS
   obtain ⟨W, hW⟩ : ∃ W, min s.length (max (n % 12) 1) = W := ⟨_, rfl⟩
   rw [hW] at hS
   have hWl : (s.take W).length = W := by rw [List.length_take]; omega
   try simp only [opv, n1, n2, n3, n4, Value.cells]
   refine x_nil ?_
   refine hK18 _ _ ?_
   refine x_seq fun K19 hK19 => ?_
   refine x_region ?_
   refine s_go (s_move) ?_
   try simp only [opv, n1, n2, n3, n4, Value.cells]
   refine s_go (s_len_sl Try.underlying24) ?_
   try simp only [opv, n1, n2, n3, n4, Value.cells]
   first | refine s_go (m_load_obj Try.underlying3 (hS := hS)) ?_ | refine s_go (m_load_bx Try.underlying3 (hS := hS)) ?_ | refine s_go (m_load_rd Try.underlying3 (hS := hS)) ?_ | refine s_go (m_load_vec Try.underlying3 (hS := hS)) ?_
   try simp only [opv, n1, n2, n3, n4, Value.cells, List.getElem_toArray, List.getElem_cons_zero, List.getElem_cons_succ]
   refine s_go (s_max) ?_
   try simp only [opv, n1, n2, n3, n4, Value.cells]
   refine s_go (s_min) ?_
   try simp only [opv, n1, n2, n3, n4, Value.cells]
   rw [show min (s.length : Int) (max ((n % 12 : Nat) : Int) 1) = (((s.take W).length : Nat) : Int) by omega]
   refine s_go (s_assign) ?_
   try simp only [opv, n1, n2, n3, n4, Value.cells]
   refine x_nil ?_
   refine hK19 _ _ ?_
   refine x_seq fun K20 hK20 => ?_
   refine x_mixed_c (Lc := [.obj q8 (.cells #[.slice Bg (s.take W).length dg] 24 (0, 0)), .vec Bg dg 39 21 (s.take W).length (arows (s.take W)), .obj q7 (.cells #[.int .i64 ((n % 12 : Nat) : Int)] 3 (0, 0)), .rd Cs 21 s.length (arows s), .rd B 1 rs.length (rs.map rwV)]) [] 0 [4, 45, 46, 47, 48, 49, 50, 51, 52, 53, 54, 55, 56, 57, 58, 59, 60, 61, 62, 63, 64] (fun f w => f 4 = .bool true ∧ Ext w0 w) (by kernel_rfl) (by kernel_rfl) (by kernel_rfl) (by decide) hS (fun w9 hS => ?mixpre1601) ?mixrest1601
   case mixpre1601 =>
    refine p_nil ?_
    simp only [List.length_cons, List.length_nil, Nat.reduceAdd, Nat.reduceSub]
    refine any_go (i := 0) (by rfl) (by decide +kernel) (by decide +kernel) noLate_nil (go_yields w_none (fun w hS => s_move)) ?_
    try simp only [opv, n1, n2, n3, n4, Value.cells]
    refine any_go (i := 2) (by rfl) (by decide +kernel) (by decide +kernel) noLate_nil (go_yields w_none (fun w hS => s_move)) ?_
    try simp only [opv, n1, n2, n3, n4, Value.cells]
    refine any_step [1] (by kernel_rfl) (by decide) (fun w10 hE => ⟨fun _ => (hS.ext hE).sel (by repeat (first | exact Sel.nil | (refine Sel.cons (by repeat (first | exact Del.head | apply Del.tail)) ?_))), ?_⟩)
    replace hS := hS.ext hE
    intro i hi
    simp only [List.mem_cons, List.not_mem_nil, or_false] at hi
    subst hi
    ·
     refine any_op (by rfl) ?_
     refine s_call en26 ?_
     try simp only [opv, n1, n2, n3, n4, Value.cells, List.map_toArray, List.map_cons, List.map_nil, List.append_toArray, List.cons_append, List.nil_append, Array.append_empty]
     refine CallR.mono (c_latAll _ B d rs (hS.hasRd (by repeat (first | exact Has.head | apply Has.tail))) (fun r h => (hrs r h).to hS.ext_of) (by omega) (by omega)) ?_
     rintro _ w11 ⟨A11, c11, rfl, hC11⟩
     replace hS := hS.call hC11
     simp only [List.cons_append, List.nil_append] at hS
     simp only [hsl] at hS ⊢
     try simp only [opv, n1, n2, n3, n4, Value.cells]
     refine x_nil ?_
     refine any_step [3] (by kernel_rfl) (by decide) (fun w12 hE => ⟨fun _ => (hS.ext hE).sel (by repeat (first | exact Sel.nil | (refine Sel.cons (by repeat (first | exact Del.head | apply Del.tail)) ?_))), ?_⟩)
     replace hS := hS.ext hE
     intro i hi
     simp only [List.mem_cons, List.not_mem_nil, or_false] at hi
     subst hi
     ·
      refine any_op (by rfl) ?_
      refine s_call en25 ?_
      try simp only [opv, n1, n2, n3, n4, Value.cells, List.map_toArray, List.map_cons, List.map_nil, List.append_toArray, List.cons_append, List.nil_append, Array.append_empty]
      refine CallR.mono (c_ref10Rows _ _ _ _ (hS.vecRd (by repeat (first | exact Has.head | apply Has.tail))) hso _ _ _ (hS.hasRd (by repeat (first | exact Has.head | apply Has.tail))) hso (by omega)) ?_
      rintro _ w13 ⟨rfl, hE13⟩
      replace hS := hS.ext hE13
      try simp only [opv, n1, n2, n3, n4, Value.cells]
      try simp only [eq_self, decide_true, beq_self_eq_true, Bool.and_self]
      refine x_nil ?_
      refine any_go (i := 4) (by rfl) (by decide +kernel) (by decide +kernel) noLate_nil (go_yields w_none (fun w hS => s_move)) ?_
      try simp only [opv, n1, n2, n3, n4, Value.cells]
      first | refine any_go (i := 5) (by rfl) (by decide +kernel) (by decide +kernel) noLate_nil (go_yields (w_on (yi (t := 49) rfl rfl)) (fun w hS => m_load_obj Try.underlying24 (hS := hS))) ?_ | refine any_go (i := 5) (by rfl) (by decide +kernel) (by decide +kernel) noLate_nil (go_yields (w_on (yi (t := 49) rfl rfl)) (fun w hS => m_load_bx Try.underlying24 (hS := hS))) ?_ | refine any_go (i := 5) (by rfl) (by decide +kernel) (by decide +kernel) noLate_nil (go_yields (w_on (yi (t := 49) rfl rfl)) (fun w hS => m_load_rd Try.underlying24 (hS := hS))) ?_ | refine any_go (i := 5) (by rfl) (by decide +kernel) (by decide +kernel) noLate_nil (go_yields (w_on (yi (t := 49) rfl rfl)) (fun w hS => m_load_vec Try.underlying24 (hS := hS))) ?_
      try simp only [opv, n1, n2, n3, n4, Value.cells, List.getElem_toArray, List.getElem_cons_zero, List.getElem_cons_succ]
      refine any_go (i := 6) (by rfl) (by decide +kernel) (by decide +kernel) noLate_nil (go_yields (w_on (yi (t := 49) rfl rfl)) (fun w hS => s_len_sl Try.underlying24)) ?_
      try simp only [opv, n1, n2, n3, n4, Value.cells]
      refine any_go (i := 7) (by rfl) (by decide +kernel) (by decide +kernel) noLate_nil (go_yields (w_on (yi (t := 49) rfl rfl)) (fun w hS => s_move)) ?_
      try simp only [opv, n1, n2, n3, n4, Value.cells]
      refine any_go (i := 8) (by rfl) (by decide +kernel) (by decide +kernel) noLate_nil (go_yields (w_on (yi (t := 49) rfl rfl)) (fun w hS => s_eql)) ?_
      try simp only [opv, n1, n2, n3, n4, Value.cells]
      try simp only [eq_self, decide_true, beq_self_eq_true, Bool.and_self]
      first | refine any_go (i := 9) (by rfl) (by decide +kernel) (by decide +kernel) noLate_nil (go_yields w_none (fun w hS => s_pick_t)) ?_ | refine any_go (i := 9) (by rfl) (by decide +kernel) (by decide +kernel) noLate_nil (go_yields w_none (fun w hS => s_pick_f)) ?_
      try simp only [opv, n1, n2, n3, n4, Value.cells]
      refine any_go (i := 10) (by rfl) (by decide +kernel) (by decide +kernel) noLate_nil (go_yields w_none (fun w hS => s_move)) ?_
      try simp only [opv, n1, n2, n3, n4, Value.cells]
      first | refine any_go (i := 11) (by rfl) (by decide +kernel) (by decide +kernel) noLate_nil (go_yields (w_on (yi (t := 55) rfl rfl)) (fun w hS => m_load_obj Try.underlying24 (hS := hS))) ?_ | refine any_go (i := 11) (by rfl) (by decide +kernel) (by decide +kernel) noLate_nil (go_yields (w_on (yi (t := 55) rfl rfl)) (fun w hS => m_load_bx Try.underlying24 (hS := hS))) ?_ | refine any_go (i := 11) (by rfl) (by decide +kernel) (by decide +kernel) noLate_nil (go_yields (w_on (yi (t := 55) rfl rfl)) (fun w hS => m_load_rd Try.underlying24 (hS := hS))) ?_ | refine any_go (i := 11) (by rfl) (by decide +kernel) (by decide +kernel) noLate_nil (go_yields (w_on (yi (t := 55) rfl rfl)) (fun w hS => m_load_vec Try.underlying24 (hS := hS))) ?_
      try simp only [opv, n1, n2, n3, n4, Value.cells, List.getElem_toArray, List.getElem_cons_zero, List.getElem_cons_succ]
      refine any_go (i := 12) (by rfl) (by decide +kernel) (by decide +kernel) noLate_nil (go_yields (w_on (yi (t := 55) rfl rfl)) (fun w hS => s_move)) ?_
      try simp only [opv, n1, n2, n3, n4, Value.cells]
      refine any_go (i := 13) (by rfl) (by decide +kernel) (by decide +kernel) noLate_nil (go_yields (w_on (yi (t := 55) rfl rfl)) (fun w hS => s_move)) ?_
      try simp only [opv, n1, n2, n3, n4, Value.cells]
      refine any_step [14] (by kernel_rfl) (by decide) (fun w14 hE => ⟨fun _ => (hS.ext hE).sel (by repeat (first | exact Sel.nil | (refine Sel.cons (by repeat (first | exact Del.head | apply Del.tail)) ?_))), ?_⟩)
      replace hS := hS.ext hE
      intro i hi
      simp only [List.mem_cons, List.not_mem_nil, or_false] at hi
      subst hi
      ·
       refine any_op (by rfl) ?_
       refine g_on (yi (t := 55) rfl rfl) ?_
       refine m_slice_rd (lo := 0) (hi := (s.take W).length) (m := cs) Try.underlying24 ti39 (hlo := rfl) (hhi := ⟨_, rfl⟩) (hmx := rfl) (hS := hS) (h := fun A1 hA1 hS => ?_)
       try simp only [Nat.mul_one, Nat.zero_mul] at hA1
       try simp only [← List.map_append, ← List.map_drop, ← List.map_take, Nat.mul_one, Nat.zero_mul, Nat.sub_zero, List.drop_zero, List.nil_append, Nat.zero_add] at hS ⊢
       try simp only [opv, n1, n2, n3, n4, Value.cells, Array.toArray_toList] at hS ⊢
       rw [show List.take ((s.take W).length * 21) (arows s) = arows (s.take W) by rw [hWl]; exact arows_take s W] at hS
       refine x_nil ?_
       refine any_step [15] (by kernel_rfl) (by decide) (fun w15 hE => ⟨fun _ => (hS.ext hE).sel (by repeat (first | exact Sel.nil | (refine Sel.cons (by repeat (first | exact Del.head | apply Del.tail)) ?_))), ?_⟩)
       replace hS := hS.ext hE
       intro i hi
       simp only [List.mem_cons, List.not_mem_nil, or_false] at hi
       subst hi
       ·
        refine any_op (by rfl) ?_
        refine g_on (yi (t := 55) rfl rfl) ?_
        refine s_call en25 ?_
        try simp only [opv, n1, n2, n3, n4, Value.cells, List.map_toArray, List.map_cons, List.map_nil, List.append_toArray, List.cons_append, List.nil_append, Array.append_empty]
        refine CallR.mono (c_ref10Rows _ _ _ (s.take W) (hS.vecRd (by repeat (first | exact Has.head | apply Has.tail))) (hso.take W) _ _ (s.take W) (hS.hasRd (by repeat (first | exact Has.head | apply Has.tail))) (hso.take W) (by omega)) ?_
        rintro _ w16 ⟨rfl, hE16⟩
        replace hS := hS.ext hE16
        try simp only [opv, n1, n2, n3, n4, Value.cells]
        try simp only [eq_self, decide_true, beq_self_eq_true, Bool.and_self]
        refine x_nil ?_
        first | refine any_go (i := 16) (by rfl) (by decide +kernel) (by decide +kernel) noLate_nil (go_yields w_none (fun w hS => s_pick_t)) ?_ | refine any_go (i := 16) (by rfl) (by decide +kernel) (by decide +kernel) noLate_nil (go_yields w_none (fun w hS => s_pick_f)) ?_
        try simp only [opv, n1, n2, n3, n4, Value.cells]
        refine any_go (i := 17) (by rfl) (by decide +kernel) (by decide +kernel) noLate_nil (go_yields w_none (fun w hS => s_move)) ?_
        try simp only [opv, n1, n2, n3, n4, Value.cells]
        apply any_go (i := 18) (by rfl) (by decide +kernel) (by decide +kernel) noLate_nil (call_yields (w_on (yi (t := 62) rfl rfl)) en21 ?H1) ?K1
        case H1 =>
          intro w hS
          try simp only [opv, n1, n2, n3, n4, List.map_toArray, List.map_cons, List.map_nil, List.append_toArray, List.cons_append, List.nil_append, Array.append_empty]
          refine CallR.mono (c_law10alive _) ?_
          rintro _ w1 ⟨rfl, hE⟩; exact ⟨rfl, hE⟩
        try simp only [opv, n1, n2, n3, n4, Value.cells]
        first | refine any_go (i := 19) (by rfl) (by decide +kernel) (by decide +kernel) noLate_nil (go_yields w_none (fun w hS => s_pick_t)) ?_ | refine any_go (i := 19) (by rfl) (by decide +kernel) (by decide +kernel) noLate_nil (go_yields w_none (fun w hS => s_pick_f)) ?_
        try simp only [opv, n1, n2, n3, n4, Value.cells]
        refine any_go (i := 20) (by rfl) (by decide +kernel) (by decide +kernel) noLate_nil (go_yields w_none (fun w hS => s_assign)) ?_
        try simp only [opv, n1, n2, n3, n4, Value.cells]
        refine any_nil (by kernel_rfl) (fun w17 hE => ?_)
        replace hS := hS.ext hE
        refine ⟨fun _ => hS.sel (by repeat (first | exact Sel.nil | (refine Sel.cons (by repeat (first | exact Del.head | apply Del.tail)) ?_))), ?_⟩
        refine mix_leaf (by simp only [clob, List.foldl, n1, n2, n3, n4]) ?_
        try simp only [n1, n2]
        exact ⟨by first | trivial | rfl, hS.ext_of⟩
   intro fm1 w18 hM
   obtain ⟨h4, hEE⟩ := hM
   simp only [clob, List.foldl, n3, n4, h4]
   refine hK20 _ _ ?_
   refine x_ret ?_
   refine r_tmp rfl ?_
   first | exact ⟨rfl, hEE⟩ | exact ⟨rfl, hS.ext_of⟩
end Go.Proofs.Ytmgacmkikefpjaa
set_option linter.unusedSimpArgs false
set_option linter.unusedVariables false
set_option maxHeartbeats 800000
set_option maxRecDepth 100000
namespace Go.Proofs.Ytmgacmkikefpjaa
open Go.ChangeShapes Go.WideShapes Go.ChangeAt Go.RowKit

theorem rows_aok {l : List (List Int)} (h : ∀ x ∈ l, x.length = atomKs.length ∧ ∀ i k, atomKs[i]? = some k → (Lit.int k (x.getD i 0)).wf = true) : AOks l := fun x hx => by
  obtain ⟨h1, h2⟩ := h x hx
  have W : World := { heap := #[], tape := fun _ _ => 0, drawn := 0, os := default, output := #[] }
  obtain ⟨a, e, ha⟩ := atom_open (w := W) (allOk_of h1 h2)
  rw [zi_inj h1 (by simpa using ha.len) e]; exact ha
theorem open_rows {w : World} {n : Nat} {xs : List Value} {A : Option Addr} (hr : Rd w A 21 n xs) (h : ∀ i, i < n → AllOk w (atomKs.map LK.int) ((xs.drop (i * 21)).take 21)) : ∃ l : List (List Int), l.length = n ∧ xs = arows l ∧ AOks l := by
  obtain ⟨l, hl, e, hok⟩ := rowsZ_open (w := w) (ks := atomKs) (n := n) (xs := xs) hr.1 h
  exact ⟨l, hl, e, rows_aok hok⟩
end Go.Proofs.Ytmgacmkikefpjaa
set_option linter.unusedSimpArgs false
set_option linter.unusedVariables false
set_option maxHeartbeats 800000
set_option maxRecDepth 100000
namespace Go.Proofs.Ytmgacmkikefpjaa
open Go.ChangeShapes Go.WideShapes Go.ChangeAt Go.RowKit

theorem rows_single : ∀ l : List Rw, rowsOf (fun r => [rwV r]) l = l.map rwV
  | [] => rfl
  | r :: l => by rw [rowsOf_cons, rows_single l]; rfl
theorem open_rws {w : World} {n : Nat} {xs : List Value} {B : Option Addr} (hr : Rd w B 1 n xs) (h : ∀ i, i < n → AllOk w [LK.sl 21 (atomKs.map LK.int)] ((xs.drop (i * 1)).take 1)) : ∃ rs : List Rw, rs.length = n ∧ xs = rs.map rwV ∧ ∀ r ∈ rs, RwOk w r := by
  obtain ⟨rs, h1, h2, h3⟩ := rows_open (w := w) (cells := fun r => [rwV r]) (sz := 1) (ok := RwOk w) (fun cs hcs => by
    obtain ⟨v, vs, rfl, hv, hn⟩ := hcs.inv
    obtain rfl := hn.nil_inv
    obtain ⟨A, m, c, ys, rfl, h1, h2, h3, h4⟩ := hv
    obtain ⟨l, rfl, rfl, hl⟩ := open_rows h3 h4
    exact ⟨⟨A, c, l⟩, rfl, h3, hl⟩) n xs hr.1 h
  exact ⟨rs, h1, by rw [h2, rows_single], h3⟩
end Go.Proofs.Ytmgacmkikefpjaa
namespace Go.Proofs.Ytmgacmkikefpjaa
open Go.ChangeShapes Go.WideShapes Go.ChangeAt Go.RowKit
theorem own0 : ownKnob Try.prog.godebug = none := by kernel_rfl
theorem laidOut0 : laidOutB Try.prog = true := by kernel_rfl
theorem fl5 : Flat Try.prog 5 [LK.int .u8] := flat_int Try.underlying5
theorem fl29 : Flat Try.prog 29 [LK.int .u16] := flat_int Try.underlying29
theorem fl31 : Flat Try.prog 31 (List.replicate 8 [LK.int .u8]).flatten := flat_arr Try.underlying31 fl5 rfl (by kernel_rfl) (by kernel_rfl)
theorem fl32 : Flat Try.prog 32 [LK.int .u32] := flat_int Try.underlying32
theorem fl34 : Flat Try.prog 34 ([LK.int .u8] ++ ([LK.int .u16] ++ ((List.replicate 8 [LK.int .u8]).flatten ++ ([LK.int .u8] ++ ([LK.int .u32] ++ ([])))))) := flat_struct Try.underlying34 (.cons rfl fl5 rfl (by kernel_rfl) (.cons rfl fl29 rfl (by kernel_rfl) (.cons rfl fl31 rfl (by kernel_rfl) (.cons rfl fl5 rfl (by kernel_rfl) (.cons rfl fl32 rfl (by kernel_rfl) (.nil)))))) (by kernel_rfl)
theorem fl35 : Flat Try.prog 35 [LK.int .u64] := flat_int Try.underlying35
theorem fl37 : Flat Try.prog 37 ([LK.int .u64] ++ ((List.replicate 8 [LK.int .u8]).flatten ++ ([]))) := flat_struct Try.underlying37 (.cons rfl fl35 rfl (by kernel_rfl) (.cons rfl fl31 rfl (by kernel_rfl) (.nil))) (by kernel_rfl)
theorem fl39 : Flat Try.prog 39 (([LK.int .u8] ++ ([LK.int .u16] ++ ((List.replicate 8 [LK.int .u8]).flatten ++ ([LK.int .u8] ++ ([LK.int .u32] ++ ([])))))) ++ (([LK.int .u64] ++ ((List.replicate 8 [LK.int .u8]).flatten ++ ([]))) ++ ([]))) := flat_struct Try.underlying39 (.cons rfl fl34 rfl (by kernel_rfl) (.cons rfl fl37 rfl (by kernel_rfl) (.nil))) (by kernel_rfl)
theorem fl24 : Flat Try.prog 24 [LK.sl 21 (([LK.int .u8] ++ ([LK.int .u16] ++ ((List.replicate 8 [LK.int .u8]).flatten ++ ([LK.int .u8] ++ ([LK.int .u32] ++ ([])))))) ++ (([LK.int .u64] ++ ((List.replicate 8 [LK.int .u8]).flatten ++ ([]))) ++ ([])))] := flat_slice Try.underlying24 fl39 rfl (by kernel_rfl) (by decide)
end Go.Proofs.Ytmgacmkikefpjaa
