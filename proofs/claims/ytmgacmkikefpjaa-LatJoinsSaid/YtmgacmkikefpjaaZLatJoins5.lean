/- Rules, plain words and walks that the claim leans on: Gi, Gj, Gk. -/
import Derived.Test.YtmgacmkikefpjaaZLatJoins4
set_option linter.unusedSimpArgs false
set_option linter.unusedVariables false
set_option linter.unusedSimpArgs false
set_option linter.unusedVariables false
set_option maxHeartbeats 1000000
set_option maxRecDepth 100000
namespace Go.Proofs.Ytmgacmkikefpjaa
open Go.RowKit
theorem c_ref10Join (w0 : World) (A : Option Addr) (c : Nat) (l : List (List Int)) (hr : Rd w0 A 21 l.length (arows l)) (hv : AOks l) (B : Option Addr) (d : Nat) (r : List (List Int)) (hr2 : Rd w0 B 21 r.length (arows r)) (hv2 : AOks r) (hn : l.length + r.length ≤ 1000000000)  :
    CallR Try.prog 34 #[.slice A l.length c, .slice B r.length d] w0 fun v w' => ∃ A c, v = .slice A (normP (l ++ r)).length c ∧ St NoB w0 w' [.vec A c 39 21 (normP (l ++ r)).length (arows (normP (l ++ r)))] := by
 have hS := St.rd2 (S := NoB) hr hr2
 refine c_enter (l := [.slice A l.length c, .slice B r.length d, undef, undef, undef, undef, undef, undef, undef, undef, undef, undef, undef, undef, undef, undef, undef, undef, undef, undef, undef, undef, undef, undef, undef, undef, undef, undef, undef, undef, undef, undef, undef, undef, undef, undef, undef, undef, undef, undef, undef, undef, undef, undef, undef, undef, undef, undef, undef, undef, undef, undef, undef, undef, undef, undef, undef, undef, undef, undef, undef, undef, undef, undef, undef, undef, undef, undef, undef, undef, undef, undef, undef, undef, undef, undef, undef, undef, undef, undef, undef, undef, undef, undef, undef, undef, undef, undef, undef, undef, undef, undef, undef, undef, undef, undef, undef, undef, undef, undef, undef, undef, undef, undef, undef, undef, undef]) Try.func34 rfl (by simp only [Try.ntmps34, List.size_toArray, List.length_cons, List.length_nil, Nat.reduceAdd, Nat.reduceSub, Array.replicate_succ, Array.replicate_zero, List.push_toArray, List.append_toArray, List.nil_append, List.cons_append]) ?_
 refine x_seq fun K1 hK1 => ?_
 refine x_region ?_
 refine s_go (s_assign) ?_
 try simp only [opv, n1, n2, n3, n4, Value.cells]
 refine x_nil ?_
 refine hK1 _ _ ?_
 refine x_seq fun K2 hK2 => ?_
 refine x_region ?_
 refine s_go (s_move) ?_
 try simp only [opv, n1, n2, n3, n4, Value.cells]
 refine s_call en32 ?_
 try simp only [opv, n1, n2, n3, n4, Value.cells, List.map_toArray, List.map_cons, List.map_nil, List.append_toArray, List.cons_append, List.nil_append, Array.append_empty]
 refine CallR.mono (c_ref10Norm _ A c l (hS.hasRd (by repeat (first | exact Has.head | apply Has.tail))) hv (by omega)) ?_
 rintro _ w1 ⟨B1, d1, rfl, hR1⟩
 replace hS := hS.back hR1
 try simp only [opv, n1, n2, n3, n4, Value.cells]
 refine s_go (s_move) ?_
 try simp only [opv, n1, n2, n3, n4, Value.cells]
 refine s_call en32 ?_
 try simp only [opv, n1, n2, n3, n4, Value.cells, List.map_toArray, List.map_cons, List.map_nil, List.append_toArray, List.cons_append, List.nil_append, Array.append_empty]
 refine CallR.mono (c_ref10Norm _ B d r (hS.hasRd (by repeat (first | exact Has.head | apply Has.tail))) hv2 (by omega)) ?_
 rintro _ w2 ⟨B2, d2, rfl, hR2⟩
 replace hS := hS.back hR2
 try simp only [opv, n1, n2, n3, n4, Value.cells]
 try simp only [hsl]
 obtain ⟨s, hsl⟩ : ∃ s, normP l = s := ⟨_, rfl⟩
 obtain ⟨t, htl⟩ : ∃ t, normP r = t := ⟨_, rfl⟩
 have hsn := norm_len l
 have htn := norm_len r
 have hss := norm_sta hv
 have hts := norm_sta hv2
 have hmg0 := merge_norm hv hv2
 rw [hsl] at hS hsn hss hmg0
 rw [htl] at hS htn hts hmg0
 have hso := hss.ok
 have hto := hts.ok
 have hsl2 := arows_len s
 have htl2 := arows_len t
 try simp only [hsl, htl]
 refine s_go (s_assign) ?_
 try simp only [opv, n1, n2, n3, n4, Value.cells]
 refine s_go (s_assign) ?_
 try simp only [opv, n1, n2, n3, n4, Value.cells]
 refine x_nil ?_
 refine hK2 _ _ ?_
 refine x_seq fun K3 hK3 => ?_
 refine x_region ?_
 replace hS := hS.nil_vec 39 21
 refine s_go (s_assign) ?_
 try simp only [opv, n1, n2, n3, n4, Value.cells]
 refine x_nil ?_
 refine hK3 _ _ ?_
 refine x_seq fun K4 hK4 => ?_
 refine x_region ?_
 refine s_go (s_assign) ?_
 try simp only [opv, n1, n2, n3, n4, Value.cells]
 refine s_go (s_assign) ?_
 try simp only [opv, n1, n2, n3, n4, Value.cells]
 refine x_nil ?_
 refine hK4 _ _ ?_
 refine x_seq fun K5 hK5 => ?_
 refine x_block ?_
 refine x_loop [5, 6, 7, 12, 13, 14, 15, 16, 17, 18, 19, 20, 21, 22, 23, 24, 25, 26, 27, 28, 29, 30, 31, 32, 33, 34, 35, 36, 37, 38, 39, 40, 41, 42, 43, 44, 45, 46, 47, 48, 49, 50, 51, 52, 53, 54, 55, 56, 57, 58, 59, 60, 61, 62, 63, 64, 65, 66, 67, 68, 69, 70, 71, 72, 73, 74, 75, 76, 77, 78, 79, 80, 81, 82, 83, 84, 85, 86, 87, 88, 89, 90, 91, 92, 93, 94, 95, 96, 97, 98, 99, 100, 101, 102, 103, 104, 105] (fun m f w => ∃ (i k : Nat) (C : Option Addr) (e : Nat) (o : List (List Int)), i ≤ s.length ∧ k ≤ t.length ∧ (s.length - i) + (t.length - k) ≤ m ∧ f 6 = .int .i64 (i : Int) ∧ f 7 = .int .i64 (k : Int) ∧ f 5 = .slice C o.length e ∧ o ++ mergeP (s.drop i) (t.drop k) = mergeP s t ∧ o.length ≤ i + k ∧ St NoB w0 w [.vec C e 39 21 (o).length (arows (o)), .rd B2 21 (t).length (arows (t)), .rd B1 21 (s).length (arows (s))]) (s.length + t.length) ?init1 (fun m1 f1 wl1 hI => ?_)
 case init1 =>
  try simp only [opv, n1, n2, n3, n4, Value.cells]
  exact ⟨0, 0, none, 0, [], by omega, by omega, by omega, rfl, rfl, rfl, rfl, by simp, hS.sel (by repeat (first | exact Sel.nil | (refine Sel.cons (by repeat (first | exact Del.head | apply Del.tail)) ?_)))⟩
 obtain ⟨i, k, C, e, o, hi, hk, hmm, h6, h7, h5, hmo, hol, hS⟩ := hI
 simp only [clob, List.foldl, n3, n4, h6, h7, h5]
 obtain ⟨x, hx⟩ : ∃ x, s.getD i [] = x := ⟨_, rfl⟩
 obtain ⟨y, hy⟩ : ∃ y, t.getD k [] = y := ⟨_, rfl⟩
 refine x_seq fun K6 hK6 => ?_
 refine x_seq fun K7 hK7 => ?_
 refine x_region ?_
 refine s_go (s_move) ?_
 try simp only [opv, n1, n2, n3, n4, Value.cells]
 refine s_go (s_move) ?_
 try simp only [opv, n1, n2, n3, n4, Value.cells]
 refine s_go (s_len_sl Try.underlying24) ?_
 try simp only [opv, n1, n2, n3, n4, Value.cells]
 refine s_go (s_lss) ?_
 try simp only [opv, n1, n2, n3, n4, Value.cells]
 refine s_go (s_move) ?_
 try simp only [opv, n1, n2, n3, n4, Value.cells]
 refine s_part 16 rfl (fun hp1 => ?_) (fun hp1 => ?_)
 ·
  try simp only [n3, n4]
  try simp only [decide_eq_true_eq, decide_eq_false_iff_not, Bool.not_eq_true', Bool.not_eq_false', Int.not_lt, Int.not_le, ne_eq, Decidable.not_not] at hp1
  first
  | (exfalso; omega)
  | skip
    refine g_off (yi (t := 16) rfl rfl) ?_
    try simp only [opv, n1, n2, n3, n4, Value.cells]
    refine g_off (yi (t := 16) rfl rfl) ?_
    try simp only [opv, n1, n2, n3, n4, Value.cells]
    refine g_off (yi (t := 16) rfl rfl) ?_
    try simp only [opv, n1, n2, n3, n4, Value.cells]
    refine g_off (yi (t := 16) rfl rfl) ?_
    try simp only [opv, n1, n2, n3, n4, Value.cells]
    first | refine s_go (s_pick_t) ?_ | refine s_go (s_pick_f) ?_
    try simp only [opv, n1, n2, n3, n4, Value.cells]
    refine x_nil ?_
    refine hK7 _ _ ?_
    refine x_cond_t (h := ?_)
    refine x_skip ?_
    refine hK6 _ _ ?_
    refine x_block ?_
    refine x_block ?_
    refine x_seq fun K8 hK8 => ?_
    refine x_quiet (by kernel_rfl) (by kernel_rfl) hS ?_
    refine q_go (fun w hS => s_move) ?_
    try simp only [opv, n1, n2, n3, n4, Value.cells]
    refine q_go (fun w hS => s_move) ?_
    try simp only [opv, n1, n2, n3, n4, Value.cells]
    refine q_go (fun w hS => s_len_sl Try.underlying24) ?_
    try simp only [opv, n1, n2, n3, n4, Value.cells]
    refine q_go (fun w hS => s_eql) ?_
    try simp only [opv, n1, n2, n3, n4, Value.cells]
    refine q_go (fun w hS => s_move) ?_
    try simp only [opv, n1, n2, n3, n4, Value.cells]
    refine q_part 51 rfl (fun hp2 => ?_) (fun hp2 => ?_)
    ·
     try simp only [n3, n4]
     try simp only [decide_eq_true_eq, decide_eq_false_iff_not, Bool.not_eq_true', Bool.not_eq_false', Int.not_lt, Int.not_le, ne_eq, Decidable.not_not] at hp2
     first
     | (exfalso; omega)
     | skip
       have hax : AtomOk x := by rw [← hx]; exact hso.get (by omega)
       have hxl := hax.len
       have hkx := hax.key
       have hvx := hax.val
       have hmg := mg_l (s := s) (t := t) (i := i) (k := k) (by omega) hx (.inl (by omega))
       have hnx : (o ++ [x]) ++ mergeP (s.drop (i + 1)) (t.drop k) = mergeP s t := by rw [← hmo, hmg, List.append_assoc]; rfl
       refine q_off (yi (t := 51) rfl rfl) ?_
       try simp only [opv, n1, n2, n3, n4, Value.cells]
       refine q_off (yi (t := 51) rfl rfl) ?_
       try simp only [opv, n1, n2, n3, n4, Value.cells]
       refine q_off (yi (t := 51) rfl rfl) ?_
       try simp only [opv, n1, n2, n3, n4, Value.cells]
       refine q_off (yi (t := 51) rfl rfl) ?_
       try simp only [opv, n1, n2, n3, n4, Value.cells]
       refine q_off (yi (t := 51) rfl rfl) ?_
       try simp only [opv, n1, n2, n3, n4, Value.cells]
       refine q_un (yn (t := 56) rfl rfl) ?_
       try simp only [opv, n1, n2, n3, n4, Value.cells]
       refine q_un (yn (t := 56) rfl rfl) ?_
       try simp only [opv, n1, n2, n3, n4, Value.cells]
       refine q_un (yn (t := 56) rfl rfl) ?_
       try simp only [opv, n1, n2, n3, n4, Value.cells]
       refine q_un (yn (t := 56) rfl rfl) ?_
       try simp only [opv, n1, n2, n3, n4, Value.cells]
       refine q_un (yn (t := 56) rfl rfl) ?_
       try simp only [opv, n1, n2, n3, n4, Value.cells]
       refine q_un (yn (t := 56) rfl rfl) ?_
       try simp only [opv, n1, n2, n3, n4, Value.cells]
       refine q_un (yn (t := 56) rfl rfl) ?_
       try simp only [opv, n1, n2, n3, n4, Value.cells]
       refine q_un (yn (t := 56) rfl rfl) ?_
       try simp only [opv, n1, n2, n3, n4, Value.cells]
       refine q_un (yn (t := 56) rfl rfl) ?_
       try simp only [opv, n1, n2, n3, n4, Value.cells]
       refine q_un (yn (t := 56) rfl rfl) ?_
       try simp only [opv, n1, n2, n3, n4, Value.cells]
       refine q_un (yn (t := 56) rfl rfl) ?_
       try simp only [opv, n1, n2, n3, n4, Value.cells]
       refine q_off (yi (t := 51) rfl rfl) ?_
       try simp only [opv, n1, n2, n3, n4, Value.cells]
       first | refine q_go (fun w hS => s_pick_t) ?_ | refine q_go (fun w hS => s_pick_f) ?_
       try simp only [opv, n1, n2, n3, n4, Value.cells]
       refine q_go (fun w hS => s_assign) ?_
       try simp only [opv, n1, n2, n3, n4, Value.cells]
       clear hS
       refine q_nil fun w3 hS => ?_
       refine hK8 _ _ ?_
       refine x_cond_t (h := ?_)
       try (have hmg := mg_l (s := s) (t := t) (i := i) (k := k) (by omega) hx (.inr ⟨by omega, by rw [hy]; exact @c⟩))
       have hnx : (o ++ [x]) ++ mergeP (s.drop (i + 1)) (t.drop k) = mergeP s t := by rw [← hmo, hmg, List.append_assoc]; rfl
       refine x_seq fun K9 hK9 => ?_
       refine x_region ?_
       refine s_go (s_move) ?_
       try simp only [opv, n1, n2, n3, n4, Value.cells]
       refine s_go (s_move) ?_
       try simp only [opv, n1, n2, n3, n4, Value.cells]
       refine s_go (s_move) ?_
       try simp only [opv, n1, n2, n3, n4, Value.cells]
       first | refine s_go (m_indexAddr_rd Try.underlying24 ti39 (hS := hS)) ?_ | refine s_go (m_indexAddr_vec Try.underlying24 ti39 (hS := hS)) ?_
       try simp only [opv, n1, n2, n3, n4, Value.cells, Nat.mul_one, Nat.zero_add, Int.toNat_natCast, Int.reduceToNat]
       first | refine s_go (m_load_row Try.underlying39 (hi := ti39) (hS := hS) (hfit := by rw [arows_len]; omega)) ?_ | refine s_go (m_loada_obj Try.underlying39 (hi := ti39) (hS := hS) (hfit := by rw [arows_len]; omega)) ?_ | refine s_go (m_loada_bx Try.underlying39 (hi := ti39) (hS := hS) (hfit := by rw [arows_len]; omega)) ?_ | refine s_go (m_loada_rd Try.underlying39 (hi := ti39) (hS := hS) (hfit := by rw [arows_len]; omega)) ?_ | refine s_go (m_loada_vec Try.underlying39 (hi := ti39) (hS := hS) (hfit := by rw [arows_len]; omega)) ?_
       try simp only [opv, n1, n2, n3, n4, Value.cells, List.getElem_toArray, List.getElem_cons_zero, List.getElem_cons_succ]
       rw [arow_get (by omega) hso, hx]
       refine m_buildRow (cells := (AA x)) Try.underlying24 ti39 (hc := by simp only [List.map_toArray, List.map_cons, List.map_nil, opv, n1, n2, n3, n4, Value.cells, List.toList_toArray]; exact fill_one (by rfl) (zi_size21 hxl) (by rfl)) (hS := hS) (h := fun w4 g4 hS => ?_)
       try simp only [opv, n1, n2, n3, n4, Value.cells, Array.toArray_toList] at hS ⊢
       replace hS := hS.obj_rd (sz := 21) (n := 1) (by exact zi_size21 hxl) .head
       rw [arow_one hxl] at hS
       refine m_append Try.underlying24 ti39 (hS := hS) (h1 := rowsZ_cells _ _) (h := fun w5 A5 C5 hS => ?_)
       try simp only [← List.map_append, ← List.map_drop, ← List.map_take, Nat.mul_one, Nat.zero_mul, Nat.sub_zero, List.drop_zero, List.nil_append, Nat.zero_add] at hS ⊢
       try simp only [opv, n1, n2, n3, n4, Value.cells, Array.toArray_toList] at hS ⊢
       rw [add_one] at hS
       refine s_go (s_assign) ?_
       try simp only [opv, n1, n2, n3, n4, Value.cells]
       refine x_nil ?_
       refine hK9 _ _ ?_
       refine x_region ?_
       refine s_go (s_move) ?_
       try simp only [opv, n1, n2, n3, n4, Value.cells]
       refine s_go (s_add (hc := by first | exact wr_i64 (by omega) (by omega) | rfl)) ?_
       try simp only [opv, n1, n2, n3, n4, Value.cells]
       refine s_go (s_assign) ?_
       try simp only [opv, n1, n2, n3, n4, Value.cells]
       refine x_nil ?_
       refine loop_back (m' := m1 - 1) (by simp only [clob, List.foldl, n1, n2, n3, n4]) ?_ ?_
       · try simp only [opv, n1, n2, n3, n4, Value.cells]
         exact ⟨_, _, _, _, _, by omega, by omega, by omega, by rfl, by rfl, by simp only [List.length_append, List.length_cons, List.length_nil, Nat.zero_add]; rfl, hnx, by simp only [List.length_append, List.length_cons, List.length_nil, Nat.zero_add]; omega, by simp only [List.length_append, List.length_cons, List.length_nil, Nat.zero_add]; exact hS.sel (by repeat (first | exact Sel.nil | (refine Sel.cons (by repeat (first | exact Del.head | apply Del.tail)) ?_)))⟩
       · omega
    ·
     try simp only [n3, n4]
     try simp only [decide_eq_true_eq, decide_eq_false_iff_not, Bool.not_eq_true', Bool.not_eq_false', Int.not_lt, Int.not_le, ne_eq, Decidable.not_not] at hp2
     first
     | (exfalso; omega)
     | skip
       have hay : AtomOk y := by rw [← hy]; exact hto.get (by omega)
       have hyl := hay.len
       have hky := hay.key
       have hvy := hay.val
       refine q_on (yi (t := 51) rfl rfl) ?_
       refine q_go (fun w hS => s_move) ?_
       try simp only [opv, n1, n2, n3, n4, Value.cells]
       refine q_on (yi (t := 51) rfl rfl) ?_
       refine q_go (fun w hS => s_move) ?_
       try simp only [opv, n1, n2, n3, n4, Value.cells]
       refine q_on (yi (t := 51) rfl rfl) ?_
       refine q_go (fun w hS => s_len_sl Try.underlying24) ?_
       try simp only [opv, n1, n2, n3, n4, Value.cells]
       refine q_on (yi (t := 51) rfl rfl) ?_
       refine q_go (fun w hS => s_lss) ?_
       try simp only [opv, n1, n2, n3, n4, Value.cells]
       refine q_on (yi (t := 51) rfl rfl) ?_
       refine q_go (fun w hS => s_move) ?_
       try simp only [opv, n1, n2, n3, n4, Value.cells]
       refine q_part 56 rfl (fun hp3 => ?_) (fun hp3 => ?_)
       ·
        try simp only [n3, n4]
        try simp only [decide_eq_true_eq, decide_eq_false_iff_not, Bool.not_eq_true', Bool.not_eq_false', Int.not_lt, Int.not_le, ne_eq, Decidable.not_not] at hp3
        first
        | (exfalso; omega)
        | skip
          have hax : AtomOk x := by rw [← hx]; exact hso.get (by omega)
          have hxl := hax.len
          have hkx := hax.key
          have hvx := hax.val
          refine q_on (yi (t := 56) rfl rfl) ?_
          refine q_go (fun w hS => s_move) ?_
          try simp only [opv, n1, n2, n3, n4, Value.cells]
          refine q_on (yi (t := 56) rfl rfl) ?_
          refine q_go (fun w hS => s_move) ?_
          try simp only [opv, n1, n2, n3, n4, Value.cells]
          refine q_on (yi (t := 56) rfl rfl) ?_
          first | refine q_go (fun w hS => m_indexAddr_rd Try.underlying24 ti39 (hS := hS)) ?_ | refine q_go (fun w hS => m_indexAddr_vec Try.underlying24 ti39 (hS := hS)) ?_
          try simp only [opv, n1, n2, n3, n4, Value.cells, Nat.mul_one, Nat.zero_add, Int.toNat_natCast, Int.reduceToNat]
          refine q_on (yi (t := 56) rfl rfl) ?_
          first | refine q_go (fun w hS => m_fieldAddr Try.underlying39 (hi := ti34)) ?_ | refine q_go (fun w hS => m_fieldAddr_rd Try.underlying39 (hi := ti34) (hS := hS)) ?_ | refine q_go (fun w hS => m_fieldAddr_vec Try.underlying39 (hi := ti34) (hS := hS)) ?_
          try simp only [opv, n1, n2, n3, n4, Value.cells, Nat.zero_add, Nat.add_zero, List.getElem_toArray, List.getElem_cons_zero, List.getElem_cons_succ]
          refine q_on (yi (t := 56) rfl rfl) ?_
          first | refine q_go (fun w hS => m_load_row Try.underlying34 (hi := ti34) (hS := hS) (hfit := by rw [arows_len]; omega)) ?_ | refine q_go (fun w hS => m_loada_obj Try.underlying34 (hi := ti34) (hS := hS) (hfit := by rw [arows_len]; omega)) ?_ | refine q_go (fun w hS => m_loada_bx Try.underlying34 (hi := ti34) (hS := hS) (hfit := by rw [arows_len]; omega)) ?_ | refine q_go (fun w hS => m_loada_rd Try.underlying34 (hi := ti34) (hS := hS) (hfit := by rw [arows_len]; omega)) ?_ | refine q_go (fun w hS => m_loada_vec Try.underlying34 (hi := ti34) (hS := hS) (hfit := by rw [arows_len]; omega)) ?_
          try simp only [opv, n1, n2, n3, n4, Value.cells, List.getElem_toArray, List.getElem_cons_zero, List.getElem_cons_succ]
          rw [arow_key (by omega) hso, hx]
          refine q_on (yi (t := 56) rfl rfl) ?_
          refine q_go (fun w hS => s_move) ?_
          try simp only [opv, n1, n2, n3, n4, Value.cells]
          refine q_on (yi (t := 56) rfl rfl) ?_
          refine q_go (fun w hS => s_move) ?_
          try simp only [opv, n1, n2, n3, n4, Value.cells]
          refine q_on (yi (t := 56) rfl rfl) ?_
          first | refine q_go (fun w hS => m_indexAddr_rd Try.underlying24 ti39 (hS := hS)) ?_ | refine q_go (fun w hS => m_indexAddr_vec Try.underlying24 ti39 (hS := hS)) ?_
          try simp only [opv, n1, n2, n3, n4, Value.cells, Nat.mul_one, Nat.zero_add, Int.toNat_natCast, Int.reduceToNat]
          refine q_on (yi (t := 56) rfl rfl) ?_
          first | refine q_go (fun w hS => m_fieldAddr Try.underlying39 (hi := ti34)) ?_ | refine q_go (fun w hS => m_fieldAddr_rd Try.underlying39 (hi := ti34) (hS := hS)) ?_ | refine q_go (fun w hS => m_fieldAddr_vec Try.underlying39 (hi := ti34) (hS := hS)) ?_
          try simp only [opv, n1, n2, n3, n4, Value.cells, Nat.zero_add, Nat.add_zero, List.getElem_toArray, List.getElem_cons_zero, List.getElem_cons_succ]
          refine q_on (yi (t := 56) rfl rfl) ?_
          first | refine q_go (fun w hS => m_load_row Try.underlying34 (hi := ti34) (hS := hS) (hfit := by rw [arows_len]; omega)) ?_ | refine q_go (fun w hS => m_loada_obj Try.underlying34 (hi := ti34) (hS := hS) (hfit := by rw [arows_len]; omega)) ?_ | refine q_go (fun w hS => m_loada_bx Try.underlying34 (hi := ti34) (hS := hS) (hfit := by rw [arows_len]; omega)) ?_ | refine q_go (fun w hS => m_loada_rd Try.underlying34 (hi := ti34) (hS := hS) (hfit := by rw [arows_len]; omega)) ?_ | refine q_go (fun w hS => m_loada_vec Try.underlying34 (hi := ti34) (hS := hS) (hfit := by rw [arows_len]; omega)) ?_
          try simp only [opv, n1, n2, n3, n4, Value.cells, List.getElem_toArray, List.getElem_cons_zero, List.getElem_cons_succ]
          rw [arow_key (by omega) hto, hy]
          refine q_on (yi (t := 56) rfl rfl) ?_
          apply q_call en116
          case H =>
            intro w hS
            try simp only [opv, n1, n2, n3, n4, List.map_toArray, List.map_cons, List.map_nil, List.append_toArray, List.cons_append, List.nil_append, Array.append_empty]
            refine CallR.mono (c_ref08Less (akey x) (akey y) hkx hky _) ?_
            rintro _ w1 ⟨rfl, hE⟩; exact ⟨rfl, hS.ext hE⟩
          try simp only [opv, n1, n2, n3, n4, Value.cells]
          refine q_on (yi (t := 51) rfl rfl) ?_
          first | refine q_go (fun w hS => s_pick_t) ?_ | refine q_go (fun w hS => s_pick_f) ?_
          try simp only [opv, n1, n2, n3, n4, Value.cells]
          first | refine q_go (fun w hS => s_pick_t) ?_ | refine q_go (fun w hS => s_pick_f) ?_
          try simp only [opv, n1, n2, n3, n4, Value.cells]
          refine q_go (fun w hS => s_assign) ?_
          try simp only [opv, n1, n2, n3, n4, Value.cells]
          clear hS
          refine q_nil fun w6 hS => ?_
          refine hK8 _ _ ?_
          refine x_cond (ht := fun hc3 => ?_) (hf := fun hc3 => ?_)
          ·
           try simp only [decide_eq_true_eq, decide_eq_false_iff_not, Bool.not_eq_true', Bool.not_eq_false', Int.not_lt, Int.not_le, ne_eq, Decidable.not_not, bne_iff_ne, beq_iff_eq, not_true_eq_false, not_false_eq_true] at hc3
           first
           | (exfalso; omega)
           | skip
             try (have hmg := mg_l (s := s) (t := t) (i := i) (k := k) (by omega) hx (.inr ⟨by omega, by rw [hy]; exact hc3⟩))
             have hnx : (o ++ [x]) ++ mergeP (s.drop (i + 1)) (t.drop k) = mergeP s t := by rw [← hmo, hmg, List.append_assoc]; rfl
             refine x_seq fun K10 hK10 => ?_
             refine x_region ?_
             refine s_go (s_move) ?_
             try simp only [opv, n1, n2, n3, n4, Value.cells]
             refine s_go (s_move) ?_
             try simp only [opv, n1, n2, n3, n4, Value.cells]
             refine s_go (s_move) ?_
             try simp only [opv, n1, n2, n3, n4, Value.cells]
             first | refine s_go (m_indexAddr_rd Try.underlying24 ti39 (hS := hS)) ?_ | refine s_go (m_indexAddr_vec Try.underlying24 ti39 (hS := hS)) ?_
             try simp only [opv, n1, n2, n3, n4, Value.cells, Nat.mul_one, Nat.zero_add, Int.toNat_natCast, Int.reduceToNat]
             first | refine s_go (m_load_row Try.underlying39 (hi := ti39) (hS := hS) (hfit := by rw [arows_len]; omega)) ?_ | refine s_go (m_loada_obj Try.underlying39 (hi := ti39) (hS := hS) (hfit := by rw [arows_len]; omega)) ?_ | refine s_go (m_loada_bx Try.underlying39 (hi := ti39) (hS := hS) (hfit := by rw [arows_len]; omega)) ?_ | refine s_go (m_loada_rd Try.underlying39 (hi := ti39) (hS := hS) (hfit := by rw [arows_len]; omega)) ?_ | refine s_go (m_loada_vec Try.underlying39 (hi := ti39) (hS := hS) (hfit := by rw [arows_len]; omega)) ?_
             try simp only [opv, n1, n2, n3, n4, Value.cells, List.getElem_toArray, List.getElem_cons_zero, List.getElem_cons_succ]
             rw [arow_get (by omega) hso, hx]
             refine m_buildRow (cells := (AA x)) Try.underlying24 ti39 (hc := by simp only [List.map_toArray, List.map_cons, List.map_nil, opv, n1, n2, n3, n4, Value.cells, List.toList_toArray]; exact fill_one (by rfl) (zi_size21 hxl) (by rfl)) (hS := hS) (h := fun w7 g7 hS => ?_)
             try simp only [opv, n1, n2, n3, n4, Value.cells, Array.toArray_toList] at hS ⊢
             replace hS := hS.obj_rd (sz := 21) (n := 1) (by exact zi_size21 hxl) .head
             rw [arow_one hxl] at hS
             refine m_append Try.underlying24 ti39 (hS := hS) (h1 := rowsZ_cells _ _) (h := fun w8 A8 C8 hS => ?_)
             try simp only [← List.map_append, ← List.map_drop, ← List.map_take, Nat.mul_one, Nat.zero_mul, Nat.sub_zero, List.drop_zero, List.nil_append, Nat.zero_add] at hS ⊢
             try simp only [opv, n1, n2, n3, n4, Value.cells, Array.toArray_toList] at hS ⊢
             rw [add_one] at hS
             refine s_go (s_assign) ?_
             try simp only [opv, n1, n2, n3, n4, Value.cells]
             refine x_nil ?_
             refine hK10 _ _ ?_
             refine x_region ?_
             refine s_go (s_move) ?_
             try simp only [opv, n1, n2, n3, n4, Value.cells]
             refine s_go (s_add (hc := by first | exact wr_i64 (by omega) (by omega) | rfl)) ?_
             try simp only [opv, n1, n2, n3, n4, Value.cells]
             refine s_go (s_assign) ?_
             try simp only [opv, n1, n2, n3, n4, Value.cells]
             refine x_nil ?_
             refine loop_back (m' := m1 - 1) (by simp only [clob, List.foldl, n1, n2, n3, n4]) ?_ ?_
             · try simp only [opv, n1, n2, n3, n4, Value.cells]
               exact ⟨_, _, _, _, _, by omega, by omega, by omega, by rfl, by rfl, by simp only [List.length_append, List.length_cons, List.length_nil, Nat.zero_add]; rfl, hnx, by simp only [List.length_append, List.length_cons, List.length_nil, Nat.zero_add]; omega, by simp only [List.length_append, List.length_cons, List.length_nil, Nat.zero_add]; exact hS.sel (by repeat (first | exact Sel.nil | (refine Sel.cons (by repeat (first | exact Del.head | apply Del.tail)) ?_)))⟩
             · omega
          ·
           try simp only [decide_eq_true_eq, decide_eq_false_iff_not, Bool.not_eq_true', Bool.not_eq_false', Int.not_lt, Int.not_le, ne_eq, Decidable.not_not, bne_iff_ne, beq_iff_eq, not_true_eq_false, not_false_eq_true] at hc3
           first
           | (exfalso; omega)
           | skip
             try have hl1 := hc3
             refine x_seq fun K11 hK11 => ?_
             refine x_quiet (by kernel_rfl) (by kernel_rfl) hS ?_
             refine q_go (fun w hS => s_move) ?_
             try simp only [opv, n1, n2, n3, n4, Value.cells]
             refine q_go (fun w hS => s_move) ?_
             try simp only [opv, n1, n2, n3, n4, Value.cells]
             refine q_go (fun w hS => s_len_sl Try.underlying24) ?_
             try simp only [opv, n1, n2, n3, n4, Value.cells]
             refine q_go (fun w hS => s_eql) ?_
             try simp only [opv, n1, n2, n3, n4, Value.cells]
             refine q_go (fun w hS => s_move) ?_
             try simp only [opv, n1, n2, n3, n4, Value.cells]
             refine q_part 84 rfl (fun hp4 => ?_) (fun hp4 => ?_)
             ·
              try simp only [n3, n4]
              try simp only [decide_eq_true_eq, decide_eq_false_iff_not, Bool.not_eq_true', Bool.not_eq_false', Int.not_lt, Int.not_le, ne_eq, Decidable.not_not] at hp4
              first
              | (exfalso; omega)
              | skip
                refine q_off (yi (t := 84) rfl rfl) ?_
                try simp only [opv, n1, n2, n3, n4, Value.cells]
                refine q_off (yi (t := 84) rfl rfl) ?_
                try simp only [opv, n1, n2, n3, n4, Value.cells]
                refine q_off (yi (t := 84) rfl rfl) ?_
                try simp only [opv, n1, n2, n3, n4, Value.cells]
                refine q_off (yi (t := 84) rfl rfl) ?_
                try simp only [opv, n1, n2, n3, n4, Value.cells]
                refine q_off (yi (t := 84) rfl rfl) ?_
                try simp only [opv, n1, n2, n3, n4, Value.cells]
                refine q_off (yi (t := 84) rfl rfl) ?_
                try simp only [opv, n1, n2, n3, n4, Value.cells]
                refine q_off (yi (t := 84) rfl rfl) ?_
                try simp only [opv, n1, n2, n3, n4, Value.cells]
                refine q_off (yi (t := 84) rfl rfl) ?_
                try simp only [opv, n1, n2, n3, n4, Value.cells]
                refine q_off (yi (t := 84) rfl rfl) ?_
                try simp only [opv, n1, n2, n3, n4, Value.cells]
                refine q_off (yi (t := 84) rfl rfl) ?_
                try simp only [opv, n1, n2, n3, n4, Value.cells]
                refine q_off (yi (t := 84) rfl rfl) ?_
                try simp only [opv, n1, n2, n3, n4, Value.cells]
                first | refine q_go (fun w hS => s_pick_t) ?_ | refine q_go (fun w hS => s_pick_f) ?_
                try simp only [opv, n1, n2, n3, n4, Value.cells]
                refine q_go (fun w hS => s_assign) ?_
                try simp only [opv, n1, n2, n3, n4, Value.cells]
                clear hS
                refine q_nil fun w9 hS => ?_
                refine hK11 _ _ ?_
                refine x_cond_t (h := ?_)
                try (have hmg := mg_r (s := s) (t := t) (i := i) (k := k) (by omega) hy (.inr ⟨by omega, by rw [hx]; exact hl1, by rw [hx]; exact @c⟩))
                have hnx : (o ++ [y]) ++ mergeP (s.drop i) (t.drop (k + 1)) = mergeP s t := by rw [← hmo, hmg, List.append_assoc]; rfl
                refine x_seq fun K12 hK12 => ?_
                refine x_region ?_
                refine s_go (s_move) ?_
                try simp only [opv, n1, n2, n3, n4, Value.cells]
                refine s_go (s_move) ?_
                try simp only [opv, n1, n2, n3, n4, Value.cells]
                refine s_go (s_move) ?_
                try simp only [opv, n1, n2, n3, n4, Value.cells]
                first | refine s_go (m_indexAddr_rd Try.underlying24 ti39 (hS := hS)) ?_ | refine s_go (m_indexAddr_vec Try.underlying24 ti39 (hS := hS)) ?_
                try simp only [opv, n1, n2, n3, n4, Value.cells, Nat.mul_one, Nat.zero_add, Int.toNat_natCast, Int.reduceToNat]
                first | refine s_go (m_load_row Try.underlying39 (hi := ti39) (hS := hS) (hfit := by rw [arows_len]; omega)) ?_ | refine s_go (m_loada_obj Try.underlying39 (hi := ti39) (hS := hS) (hfit := by rw [arows_len]; omega)) ?_ | refine s_go (m_loada_bx Try.underlying39 (hi := ti39) (hS := hS) (hfit := by rw [arows_len]; omega)) ?_ | refine s_go (m_loada_rd Try.underlying39 (hi := ti39) (hS := hS) (hfit := by rw [arows_len]; omega)) ?_ | refine s_go (m_loada_vec Try.underlying39 (hi := ti39) (hS := hS) (hfit := by rw [arows_len]; omega)) ?_
                try simp only [opv, n1, n2, n3, n4, Value.cells, List.getElem_toArray, List.getElem_cons_zero, List.getElem_cons_succ]
                rw [arow_get (by omega) hto, hy]
                refine m_buildRow (cells := (AA y)) Try.underlying24 ti39 (hc := by simp only [List.map_toArray, List.map_cons, List.map_nil, opv, n1, n2, n3, n4, Value.cells, List.toList_toArray]; exact fill_one (by rfl) (zi_size21 hyl) (by rfl)) (hS := hS) (h := fun w10 g10 hS => ?_)
                try simp only [opv, n1, n2, n3, n4, Value.cells, Array.toArray_toList] at hS ⊢
                replace hS := hS.obj_rd (sz := 21) (n := 1) (by exact zi_size21 hyl) .head
                rw [arow_one hyl] at hS
                refine m_append Try.underlying24 ti39 (hS := hS) (h1 := rowsZ_cells _ _) (h := fun w11 A11 C11 hS => ?_)
                try simp only [← List.map_append, ← List.map_drop, ← List.map_take, Nat.mul_one, Nat.zero_mul, Nat.sub_zero, List.drop_zero, List.nil_append, Nat.zero_add] at hS ⊢
                try simp only [opv, n1, n2, n3, n4, Value.cells, Array.toArray_toList] at hS ⊢
                rw [add_one] at hS
                refine s_go (s_assign) ?_
                try simp only [opv, n1, n2, n3, n4, Value.cells]
                refine x_nil ?_
                refine hK12 _ _ ?_
                refine x_region ?_
                refine s_go (s_move) ?_
                try simp only [opv, n1, n2, n3, n4, Value.cells]
                refine s_go (s_add (hc := by first | exact wr_i64 (by omega) (by omega) | rfl)) ?_
                try simp only [opv, n1, n2, n3, n4, Value.cells]
                refine s_go (s_assign) ?_
                try simp only [opv, n1, n2, n3, n4, Value.cells]
                refine x_nil ?_
                refine loop_back (m' := m1 - 1) (by simp only [clob, List.foldl, n1, n2, n3, n4]) ?_ ?_
                · try simp only [opv, n1, n2, n3, n4, Value.cells]
                  exact ⟨_, _, _, _, _, by omega, by omega, by omega, by rfl, by rfl, by simp only [List.length_append, List.length_cons, List.length_nil, Nat.zero_add]; rfl, hnx, by simp only [List.length_append, List.length_cons, List.length_nil, Nat.zero_add]; omega, by simp only [List.length_append, List.length_cons, List.length_nil, Nat.zero_add]; exact hS.sel (by repeat (first | exact Sel.nil | (refine Sel.cons (by repeat (first | exact Del.head | apply Del.tail)) ?_)))⟩
                · omega
             ·
              try simp only [n3, n4]
              try simp only [decide_eq_true_eq, decide_eq_false_iff_not, Bool.not_eq_true', Bool.not_eq_false', Int.not_lt, Int.not_le, ne_eq, Decidable.not_not] at hp4
              first
              | (exfalso; omega)
              | skip
                refine q_on (yi (t := 84) rfl rfl) ?_
                refine q_go (fun w hS => s_move) ?_
                try simp only [opv, n1, n2, n3, n4, Value.cells]
                refine q_on (yi (t := 84) rfl rfl) ?_
                refine q_go (fun w hS => s_move) ?_
                try simp only [opv, n1, n2, n3, n4, Value.cells]
                refine q_on (yi (t := 84) rfl rfl) ?_
                first | refine q_go (fun w hS => m_indexAddr_rd Try.underlying24 ti39 (hS := hS)) ?_ | refine q_go (fun w hS => m_indexAddr_vec Try.underlying24 ti39 (hS := hS)) ?_
                try simp only [opv, n1, n2, n3, n4, Value.cells, Nat.mul_one, Nat.zero_add, Int.toNat_natCast, Int.reduceToNat]
                refine q_on (yi (t := 84) rfl rfl) ?_
                first | refine q_go (fun w hS => m_fieldAddr Try.underlying39 (hi := ti34)) ?_ | refine q_go (fun w hS => m_fieldAddr_rd Try.underlying39 (hi := ti34) (hS := hS)) ?_ | refine q_go (fun w hS => m_fieldAddr_vec Try.underlying39 (hi := ti34) (hS := hS)) ?_
                try simp only [opv, n1, n2, n3, n4, Value.cells, Nat.zero_add, Nat.add_zero, List.getElem_toArray, List.getElem_cons_zero, List.getElem_cons_succ]
                refine q_on (yi (t := 84) rfl rfl) ?_
                first | refine q_go (fun w hS => m_load_row Try.underlying34 (hi := ti34) (hS := hS) (hfit := by rw [arows_len]; omega)) ?_ | refine q_go (fun w hS => m_loada_obj Try.underlying34 (hi := ti34) (hS := hS) (hfit := by rw [arows_len]; omega)) ?_ | refine q_go (fun w hS => m_loada_bx Try.underlying34 (hi := ti34) (hS := hS) (hfit := by rw [arows_len]; omega)) ?_ | refine q_go (fun w hS => m_loada_rd Try.underlying34 (hi := ti34) (hS := hS) (hfit := by rw [arows_len]; omega)) ?_ | refine q_go (fun w hS => m_loada_vec Try.underlying34 (hi := ti34) (hS := hS) (hfit := by rw [arows_len]; omega)) ?_
                try simp only [opv, n1, n2, n3, n4, Value.cells, List.getElem_toArray, List.getElem_cons_zero, List.getElem_cons_succ]
                rw [arow_key (by omega) hto, hy]
                refine q_on (yi (t := 84) rfl rfl) ?_
                refine q_go (fun w hS => s_move) ?_
                try simp only [opv, n1, n2, n3, n4, Value.cells]
                refine q_on (yi (t := 84) rfl rfl) ?_
                refine q_go (fun w hS => s_move) ?_
                try simp only [opv, n1, n2, n3, n4, Value.cells]
                refine q_on (yi (t := 84) rfl rfl) ?_
                first | refine q_go (fun w hS => m_indexAddr_rd Try.underlying24 ti39 (hS := hS)) ?_ | refine q_go (fun w hS => m_indexAddr_vec Try.underlying24 ti39 (hS := hS)) ?_
                try simp only [opv, n1, n2, n3, n4, Value.cells, Nat.mul_one, Nat.zero_add, Int.toNat_natCast, Int.reduceToNat]
                refine q_on (yi (t := 84) rfl rfl) ?_
                first | refine q_go (fun w hS => m_fieldAddr Try.underlying39 (hi := ti34)) ?_ | refine q_go (fun w hS => m_fieldAddr_rd Try.underlying39 (hi := ti34) (hS := hS)) ?_ | refine q_go (fun w hS => m_fieldAddr_vec Try.underlying39 (hi := ti34) (hS := hS)) ?_
                try simp only [opv, n1, n2, n3, n4, Value.cells, Nat.zero_add, Nat.add_zero, List.getElem_toArray, List.getElem_cons_zero, List.getElem_cons_succ]
                refine q_on (yi (t := 84) rfl rfl) ?_
                first | refine q_go (fun w hS => m_load_row Try.underlying34 (hi := ti34) (hS := hS) (hfit := by rw [arows_len]; omega)) ?_ | refine q_go (fun w hS => m_loada_obj Try.underlying34 (hi := ti34) (hS := hS) (hfit := by rw [arows_len]; omega)) ?_ | refine q_go (fun w hS => m_loada_bx Try.underlying34 (hi := ti34) (hS := hS) (hfit := by rw [arows_len]; omega)) ?_ | refine q_go (fun w hS => m_loada_rd Try.underlying34 (hi := ti34) (hS := hS) (hfit := by rw [arows_len]; omega)) ?_ | refine q_go (fun w hS => m_loada_vec Try.underlying34 (hi := ti34) (hS := hS) (hfit := by rw [arows_len]; omega)) ?_
                try simp only [opv, n1, n2, n3, n4, Value.cells, List.getElem_toArray, List.getElem_cons_zero, List.getElem_cons_succ]
                rw [arow_key (by omega) hso, hx]
                refine q_on (yi (t := 84) rfl rfl) ?_
                apply q_call en116
                case H =>
                  intro w hS
                  try simp only [opv, n1, n2, n3, n4, List.map_toArray, List.map_cons, List.map_nil, List.append_toArray, List.cons_append, List.nil_append, Array.append_empty]
                  refine CallR.mono (c_ref08Less (akey y) (akey x) hky hkx _) ?_
                  rintro _ w1 ⟨rfl, hE⟩; exact ⟨rfl, hS.ext hE⟩
                try simp only [opv, n1, n2, n3, n4, Value.cells]
                first | refine q_go (fun w hS => s_pick_t) ?_ | refine q_go (fun w hS => s_pick_f) ?_
                try simp only [opv, n1, n2, n3, n4, Value.cells]
                refine q_go (fun w hS => s_assign) ?_
                try simp only [opv, n1, n2, n3, n4, Value.cells]
                clear hS
                refine q_nil fun w12 hS => ?_
                refine hK11 _ _ ?_
                refine x_cond (ht := fun hc5 => ?_) (hf := fun hc5 => ?_)
                ·
                 try simp only [decide_eq_true_eq, decide_eq_false_iff_not, Bool.not_eq_true', Bool.not_eq_false', Int.not_lt, Int.not_le, ne_eq, Decidable.not_not, bne_iff_ne, beq_iff_eq, not_true_eq_false, not_false_eq_true] at hc5
                 first
                 | (exfalso; omega)
                 | skip
                   try (have hmg := mg_r (s := s) (t := t) (i := i) (k := k) (by omega) hy (.inr ⟨by omega, by rw [hx]; exact hl1, by rw [hx]; exact hc5⟩))
                   have hnx : (o ++ [y]) ++ mergeP (s.drop i) (t.drop (k + 1)) = mergeP s t := by rw [← hmo, hmg, List.append_assoc]; rfl
                   refine x_seq fun K13 hK13 => ?_
                   refine x_region ?_
                   refine s_go (s_move) ?_
                   try simp only [opv, n1, n2, n3, n4, Value.cells]
                   refine s_go (s_move) ?_
                   try simp only [opv, n1, n2, n3, n4, Value.cells]
                   refine s_go (s_move) ?_
                   try simp only [opv, n1, n2, n3, n4, Value.cells]
                   first | refine s_go (m_indexAddr_rd Try.underlying24 ti39 (hS := hS)) ?_ | refine s_go (m_indexAddr_vec Try.underlying24 ti39 (hS := hS)) ?_
                   try simp only [opv, n1, n2, n3, n4, Value.cells, Nat.mul_one, Nat.zero_add, Int.toNat_natCast, Int.reduceToNat]
                   first | refine s_go (m_load_row Try.underlying39 (hi := ti39) (hS := hS) (hfit := by rw [arows_len]; omega)) ?_ | refine s_go (m_loada_obj Try.underlying39 (hi := ti39) (hS := hS) (hfit := by rw [arows_len]; omega)) ?_ | refine s_go (m_loada_bx Try.underlying39 (hi := ti39) (hS := hS) (hfit := by rw [arows_len]; omega)) ?_ | refine s_go (m_loada_rd Try.underlying39 (hi := ti39) (hS := hS) (hfit := by rw [arows_len]; omega)) ?_ | refine s_go (m_loada_vec Try.underlying39 (hi := ti39) (hS := hS) (hfit := by rw [arows_len]; omega)) ?_
                   try simp only [opv, n1, n2, n3, n4, Value.cells, List.getElem_toArray, List.getElem_cons_zero, List.getElem_cons_succ]
                   rw [arow_get (by omega) hto, hy]
                   refine m_buildRow (cells := (AA y)) Try.underlying24 ti39 (hc := by simp only [List.map_toArray, List.map_cons, List.map_nil, opv, n1, n2, n3, n4, Value.cells, List.toList_toArray]; exact fill_one (by rfl) (zi_size21 hyl) (by rfl)) (hS := hS) (h := fun w13 g13 hS => ?_)
                   try simp only [opv, n1, n2, n3, n4, Value.cells, Array.toArray_toList] at hS ⊢
                   replace hS := hS.obj_rd (sz := 21) (n := 1) (by exact zi_size21 hyl) .head
                   rw [arow_one hyl] at hS
                   refine m_append Try.underlying24 ti39 (hS := hS) (h1 := rowsZ_cells _ _) (h := fun w14 A14 C14 hS => ?_)
                   try simp only [← List.map_append, ← List.map_drop, ← List.map_take, Nat.mul_one, Nat.zero_mul, Nat.sub_zero, List.drop_zero, List.nil_append, Nat.zero_add] at hS ⊢
                   try simp only [opv, n1, n2, n3, n4, Value.cells, Array.toArray_toList] at hS ⊢
                   rw [add_one] at hS
                   refine s_go (s_assign) ?_
                   try simp only [opv, n1, n2, n3, n4, Value.cells]
                   refine x_nil ?_
                   refine hK13 _ _ ?_
                   refine x_region ?_
                   refine s_go (s_move) ?_
                   try simp only [opv, n1, n2, n3, n4, Value.cells]
                   refine s_go (s_add (hc := by first | exact wr_i64 (by omega) (by omega) | rfl)) ?_
                   try simp only [opv, n1, n2, n3, n4, Value.cells]
                   refine s_go (s_assign) ?_
                   try simp only [opv, n1, n2, n3, n4, Value.cells]
                   refine x_nil ?_
                   refine loop_back (m' := m1 - 1) (by simp only [clob, List.foldl, n1, n2, n3, n4]) ?_ ?_
                   · try simp only [opv, n1, n2, n3, n4, Value.cells]
                     exact ⟨_, _, _, _, _, by omega, by omega, by omega, by rfl, by rfl, by simp only [List.length_append, List.length_cons, List.length_nil, Nat.zero_add]; rfl, hnx, by simp only [List.length_append, List.length_cons, List.length_nil, Nat.zero_add]; omega, by simp only [List.length_append, List.length_cons, List.length_nil, Nat.zero_add]; exact hS.sel (by repeat (first | exact Sel.nil | (refine Sel.cons (by repeat (first | exact Del.head | apply Del.tail)) ?_)))⟩
                   · omega
                ·
                 try simp only [decide_eq_true_eq, decide_eq_false_iff_not, Bool.not_eq_true', Bool.not_eq_false', Int.not_lt, Int.not_le, ne_eq, Decidable.not_not, bne_iff_ne, beq_iff_eq, not_true_eq_false, not_false_eq_true] at hc5
                 first
                 | (exfalso; omega)
                 | skip
                   have hmg := mg_e (s := s) (t := t) (i := i) (k := k) (by omega) hx (by omega) hy hl1 hc5
                   have hnx : (o ++ [(akey x ++ moreV (aval x) (aval y))]) ++ mergeP (s.drop (i + 1)) (t.drop (k + 1)) = mergeP s t := by rw [← hmo, hmg, List.append_assoc]; rfl
                   have hmo9 := more_ok hvx hvy
                   have hml := hmo9.len
                   have hk12 := hkx.len
                   have hzl : (akey x ++ moreV (aval x) (aval y)).length = 21 := (kv_ok hkx hmo9).len
                   refine x_seq fun K14 hK14 => ?_
                   refine x_mixed_c (Lc := [.rd B2 21 (t).length (arows (t)), .rd B1 21 (s).length (arows (s))]) [] 0 [5, 22, 23, 24, 25, 26, 27, 28, 29, 30, 31, 32, 33, 34, 35, 36, 37, 38, 39, 40, 41] (fun f w => ∃ (C2 : Option Addr) (e2 : Nat), f 5 = .slice C2 (o.length + 1) e2 ∧ St NoB w0 w [.vec C2 e2 39 21 (o.length + 1) (arows (o ++ [(akey x ++ moreV (aval x) (aval y))])), .rd B2 21 (t).length (arows (t)), .rd B1 21 (s).length (arows (s))]) (by kernel_rfl) (by kernel_rfl) (by kernel_rfl) (by decide) hS (fun w15 hS => ?mixpre501) ?mixrest501
                   case mixpre501 =>
                    refine p_nil ?_
                    simp only [List.length_cons, List.length_nil, Nat.reduceAdd, Nat.reduceSub]
                    refine any_go (i := 0) (by rfl) (by decide +kernel) (by decide +kernel) noLate_nil (go_yields w_none (fun w hS => s_move)) ?_
                    try simp only [opv, n1, n2, n3, n4, Value.cells]
                    refine any_go (i := 1) (by rfl) (by decide +kernel) (by decide +kernel) noLate_nil (go_yields w_none (fun w hS => s_move)) ?_
                    try simp only [opv, n1, n2, n3, n4, Value.cells]
                    refine any_go (i := 2) (by rfl) (by decide +kernel) (by decide +kernel) noLate_nil (go_yields w_none (fun w hS => s_move)) ?_
                    try simp only [opv, n1, n2, n3, n4, Value.cells]
                    first | refine any_go (i := 3) (by rfl) (by decide +kernel) (by decide +kernel) noLate_nil (go_yields w_none (fun w hS => m_indexAddr_rd Try.underlying24 ti39 (hS := hS))) ?_ | refine any_go (i := 3) (by rfl) (by decide +kernel) (by decide +kernel) noLate_nil (go_yields w_none (fun w hS => m_indexAddr_vec Try.underlying24 ti39 (hS := hS))) ?_
                    try simp only [opv, n1, n2, n3, n4, Value.cells, Nat.mul_one, Nat.zero_add, Int.toNat_natCast, Int.reduceToNat]
                    first | refine any_go (i := 4) (by rfl) (by decide +kernel) (by decide +kernel) noLate_nil (go_yields w_none (fun w hS => m_fieldAddr Try.underlying39 (hi := ti34))) ?_ | refine any_go (i := 4) (by rfl) (by decide +kernel) (by decide +kernel) noLate_nil (go_yields w_none (fun w hS => m_fieldAddr_rd Try.underlying39 (hi := ti34) (hS := hS))) ?_ | refine any_go (i := 4) (by rfl) (by decide +kernel) (by decide +kernel) noLate_nil (go_yields w_none (fun w hS => m_fieldAddr_vec Try.underlying39 (hi := ti34) (hS := hS))) ?_
                    try simp only [opv, n1, n2, n3, n4, Value.cells, Nat.zero_add, Nat.add_zero, List.getElem_toArray, List.getElem_cons_zero, List.getElem_cons_succ]
                    first | refine any_go (i := 5) (by rfl) (by decide +kernel) (by decide +kernel) noLate_nil (go_yields w_none (fun w hS => m_load_row Try.underlying34 (hi := ti34) (hS := hS) (hfit := by rw [arows_len]; omega))) ?_ | refine any_go (i := 5) (by rfl) (by decide +kernel) (by decide +kernel) noLate_nil (go_yields w_none (fun w hS => m_loada_obj Try.underlying34 (hi := ti34) (hS := hS) (hfit := by rw [arows_len]; omega))) ?_ | refine any_go (i := 5) (by rfl) (by decide +kernel) (by decide +kernel) noLate_nil (go_yields w_none (fun w hS => m_loada_bx Try.underlying34 (hi := ti34) (hS := hS) (hfit := by rw [arows_len]; omega))) ?_ | refine any_go (i := 5) (by rfl) (by decide +kernel) (by decide +kernel) noLate_nil (go_yields w_none (fun w hS => m_loada_rd Try.underlying34 (hi := ti34) (hS := hS) (hfit := by rw [arows_len]; omega))) ?_ | refine any_go (i := 5) (by rfl) (by decide +kernel) (by decide +kernel) noLate_nil (go_yields w_none (fun w hS => m_loada_vec Try.underlying34 (hi := ti34) (hS := hS) (hfit := by rw [arows_len]; omega))) ?_
                    try simp only [opv, n1, n2, n3, n4, Value.cells, List.getElem_toArray, List.getElem_cons_zero, List.getElem_cons_succ]
                    rw [arow_key (by omega) hso, hx]
                    refine any_go (i := 6) (by rfl) (by decide +kernel) (by decide +kernel) noLate_nil (go_yields w_none (fun w hS => s_move)) ?_
                    try simp only [opv, n1, n2, n3, n4, Value.cells]
                    refine any_go (i := 7) (by rfl) (by decide +kernel) (by decide +kernel) noLate_nil (go_yields w_none (fun w hS => s_move)) ?_
                    try simp only [opv, n1, n2, n3, n4, Value.cells]
                    first | refine any_go (i := 8) (by rfl) (by decide +kernel) (by decide +kernel) noLate_nil (go_yields w_none (fun w hS => m_indexAddr_rd Try.underlying24 ti39 (hS := hS))) ?_ | refine any_go (i := 8) (by rfl) (by decide +kernel) (by decide +kernel) noLate_nil (go_yields w_none (fun w hS => m_indexAddr_vec Try.underlying24 ti39 (hS := hS))) ?_
                    try simp only [opv, n1, n2, n3, n4, Value.cells, Nat.mul_one, Nat.zero_add, Int.toNat_natCast, Int.reduceToNat]
                    first | refine any_go (i := 9) (by rfl) (by decide +kernel) (by decide +kernel) noLate_nil (go_yields w_none (fun w hS => m_fieldAddr Try.underlying39 (hi := ti37))) ?_ | refine any_go (i := 9) (by rfl) (by decide +kernel) (by decide +kernel) noLate_nil (go_yields w_none (fun w hS => m_fieldAddr_rd Try.underlying39 (hi := ti37) (hS := hS))) ?_ | refine any_go (i := 9) (by rfl) (by decide +kernel) (by decide +kernel) noLate_nil (go_yields w_none (fun w hS => m_fieldAddr_vec Try.underlying39 (hi := ti37) (hS := hS))) ?_
                    try simp only [opv, n1, n2, n3, n4, Value.cells, Nat.zero_add, Nat.add_zero, List.getElem_toArray, List.getElem_cons_zero, List.getElem_cons_succ]
                    first | refine any_go (i := 10) (by rfl) (by decide +kernel) (by decide +kernel) noLate_nil (go_yields w_none (fun w hS => m_load_row Try.underlying37 (hi := ti37) (hS := hS) (hfit := by rw [arows_len]; omega))) ?_ | refine any_go (i := 10) (by rfl) (by decide +kernel) (by decide +kernel) noLate_nil (go_yields w_none (fun w hS => m_loada_obj Try.underlying37 (hi := ti37) (hS := hS) (hfit := by rw [arows_len]; omega))) ?_ | refine any_go (i := 10) (by rfl) (by decide +kernel) (by decide +kernel) noLate_nil (go_yields w_none (fun w hS => m_loada_bx Try.underlying37 (hi := ti37) (hS := hS) (hfit := by rw [arows_len]; omega))) ?_ | refine any_go (i := 10) (by rfl) (by decide +kernel) (by decide +kernel) noLate_nil (go_yields w_none (fun w hS => m_loada_rd Try.underlying37 (hi := ti37) (hS := hS) (hfit := by rw [arows_len]; omega))) ?_ | refine any_go (i := 10) (by rfl) (by decide +kernel) (by decide +kernel) noLate_nil (go_yields w_none (fun w hS => m_loada_vec Try.underlying37 (hi := ti37) (hS := hS) (hfit := by rw [arows_len]; omega))) ?_
                    try simp only [opv, n1, n2, n3, n4, Value.cells, List.getElem_toArray, List.getElem_cons_zero, List.getElem_cons_succ]
                    rw [arow_val (by omega) hso, hx]
                    refine any_go (i := 11) (by rfl) (by decide +kernel) (by decide +kernel) noLate_nil (go_yields w_none (fun w hS => s_move)) ?_
                    try simp only [opv, n1, n2, n3, n4, Value.cells]
                    refine any_go (i := 12) (by rfl) (by decide +kernel) (by decide +kernel) noLate_nil (go_yields w_none (fun w hS => s_move)) ?_
                    try simp only [opv, n1, n2, n3, n4, Value.cells]
                    first | refine any_go (i := 13) (by rfl) (by decide +kernel) (by decide +kernel) noLate_nil (go_yields w_none (fun w hS => m_indexAddr_rd Try.underlying24 ti39 (hS := hS))) ?_ | refine any_go (i := 13) (by rfl) (by decide +kernel) (by decide +kernel) noLate_nil (go_yields w_none (fun w hS => m_indexAddr_vec Try.underlying24 ti39 (hS := hS))) ?_
                    try simp only [opv, n1, n2, n3, n4, Value.cells, Nat.mul_one, Nat.zero_add, Int.toNat_natCast, Int.reduceToNat]
                    first | refine any_go (i := 14) (by rfl) (by decide +kernel) (by decide +kernel) noLate_nil (go_yields w_none (fun w hS => m_fieldAddr Try.underlying39 (hi := ti37))) ?_ | refine any_go (i := 14) (by rfl) (by decide +kernel) (by decide +kernel) noLate_nil (go_yields w_none (fun w hS => m_fieldAddr_rd Try.underlying39 (hi := ti37) (hS := hS))) ?_ | refine any_go (i := 14) (by rfl) (by decide +kernel) (by decide +kernel) noLate_nil (go_yields w_none (fun w hS => m_fieldAddr_vec Try.underlying39 (hi := ti37) (hS := hS))) ?_
                    try simp only [opv, n1, n2, n3, n4, Value.cells, Nat.zero_add, Nat.add_zero, List.getElem_toArray, List.getElem_cons_zero, List.getElem_cons_succ]
                    first | refine any_go (i := 15) (by rfl) (by decide +kernel) (by decide +kernel) noLate_nil (go_yields w_none (fun w hS => m_load_row Try.underlying37 (hi := ti37) (hS := hS) (hfit := by rw [arows_len]; omega))) ?_ | refine any_go (i := 15) (by rfl) (by decide +kernel) (by decide +kernel) noLate_nil (go_yields w_none (fun w hS => m_loada_obj Try.underlying37 (hi := ti37) (hS := hS) (hfit := by rw [arows_len]; omega))) ?_ | refine any_go (i := 15) (by rfl) (by decide +kernel) (by decide +kernel) noLate_nil (go_yields w_none (fun w hS => m_loada_bx Try.underlying37 (hi := ti37) (hS := hS) (hfit := by rw [arows_len]; omega))) ?_ | refine any_go (i := 15) (by rfl) (by decide +kernel) (by decide +kernel) noLate_nil (go_yields w_none (fun w hS => m_loada_rd Try.underlying37 (hi := ti37) (hS := hS) (hfit := by rw [arows_len]; omega))) ?_ | refine any_go (i := 15) (by rfl) (by decide +kernel) (by decide +kernel) noLate_nil (go_yields w_none (fun w hS => m_loada_vec Try.underlying37 (hi := ti37) (hS := hS) (hfit := by rw [arows_len]; omega))) ?_
                    try simp only [opv, n1, n2, n3, n4, Value.cells, List.getElem_toArray, List.getElem_cons_zero, List.getElem_cons_succ]
                    rw [arow_val (by omega) hto, hy]
                    apply any_go (i := 16) (by rfl) (by decide +kernel) (by decide +kernel) noLate_nil (call_yields w_none en118 ?H1) ?K1
                    case H1 =>
                      intro w hS
                      try simp only [opv, n1, n2, n3, n4, List.map_toArray, List.map_cons, List.map_nil, List.append_toArray, List.cons_append, List.nil_append, Array.append_empty]
                      refine CallR.mono (c_ref09More (aval x) (aval y) hvx hvy _) ?_
                      rintro _ w1 ⟨rfl, hE⟩; exact ⟨rfl, hE⟩
                    try simp only [opv, n1, n2, n3, n4, Value.cells]
                    refine any_go (i := 17) (by rfl) (by decide +kernel) (by decide +kernel) noLate_nil (go_yields w_none (fun w hS => s_build_struct (cells := (AA (akey x ++ moreV (aval x) (aval y)))) Try.underlying39 ti39 bp39 (hc := by simp only [List.map_toArray, List.map_cons, List.map_nil, opv, n1, n2, n3, n4, Value.cells, List.toList_toArray]; exact fill_atom (by rfl) (by rfl) (by rfl) hk12 hml))) ?_
                    try simp only [opv, n1, n2, n3, n4, Value.cells]
                    refine any_step [18] (by kernel_rfl) (by decide) (fun w16 hE => ⟨fun _ => (hS.ext hE).sel (by repeat (first | exact Sel.nil | (refine Sel.cons (by repeat (first | exact Del.head | apply Del.tail)) ?_))), ?_⟩)
                    replace hS := hS.ext hE
                    intro i hi
                    simp only [List.mem_cons, List.not_mem_nil, or_false] at hi
                    subst hi
                    ·
                     refine any_op (by rfl) ?_
                     refine m_buildRow (cells := (AA (akey x ++ moreV (aval x) (aval y)))) Try.underlying24 ti39 (hc := by simp only [List.map_toArray, List.map_cons, List.map_nil, opv, n1, n2, n3, n4, Value.cells, List.toList_toArray]; exact fill_one (by rfl) (zi_size21 hzl) (by rfl)) (hS := hS) (h := fun w17 g17 hS => ?_)
                     try simp only [opv, n1, n2, n3, n4, Value.cells, Array.toArray_toList] at hS ⊢
                     replace hS := hS.obj_rd (sz := 21) (n := 1) (by exact zi_size21 hzl) .head
                     rw [arow_one hzl] at hS
                     refine x_nil ?_
                     refine any_step [19] (by kernel_rfl) (by decide) (fun w18 hE => ⟨fun _ => (hS.ext hE).sel (by repeat (first | exact Sel.nil | (refine Sel.cons (by repeat (first | exact Del.head | apply Del.tail)) ?_))), ?_⟩)
                     replace hS := hS.ext hE
                     intro i hi
                     simp only [List.mem_cons, List.not_mem_nil, or_false] at hi
                     subst hi
                     ·
                      refine any_op (by rfl) ?_
                      refine m_append Try.underlying24 ti39 (hS := hS) (h1 := rowsZ_cells _ _) (h := fun w19 A19 C19 hS => ?_)
                      try simp only [← List.map_append, ← List.map_drop, ← List.map_take, Nat.mul_one, Nat.zero_mul, Nat.sub_zero, List.drop_zero, List.nil_append, Nat.zero_add] at hS ⊢
                      try simp only [opv, n1, n2, n3, n4, Value.cells, Array.toArray_toList] at hS ⊢
                      rw [add_one] at hS
                      refine x_nil ?_
                      refine any_go (i := 20) (by rfl) (by decide +kernel) (by decide +kernel) noLate_nil (go_yields w_none (fun w hS => s_assign)) ?_
                      try simp only [opv, n1, n2, n3, n4, Value.cells]
                      refine any_nil (by kernel_rfl) (fun w20 hE => ?_)
                      replace hS := hS.ext hE
                      refine ⟨fun _ => hS.sel (by repeat (first | exact Sel.nil | (refine Sel.cons (by repeat (first | exact Del.head | apply Del.tail)) ?_))), ?_⟩
                      refine mix_leaf (by simp only [clob, List.foldl, n1, n2, n3, n4]) ?_
                      try simp only [n1, n2]
                      exact ⟨_, _, by first | trivial | rfl, hS.sel (by repeat (first | exact Sel.nil | (refine Sel.cons (by repeat (first | exact Del.head | apply Del.tail)) ?_)))⟩
                   intro fm1 w21 hM
                   obtain ⟨C2, e2, h5, hS⟩ := hM
                   simp only [clob, List.foldl, n3, n4, h5]
                   refine hK14 _ _ ?_
                   refine x_seq fun K15 hK15 => ?_
                   refine x_region ?_
                   refine s_go (s_move) ?_
                   try simp only [opv, n1, n2, n3, n4, Value.cells]
                   refine s_go (s_add (hc := by first | exact wr_i64 (by omega) (by omega) | rfl)) ?_
                   try simp only [opv, n1, n2, n3, n4, Value.cells]
                   refine s_go (s_assign) ?_
                   try simp only [opv, n1, n2, n3, n4, Value.cells]
                   refine x_nil ?_
                   refine hK15 _ _ ?_
                   refine x_region ?_
                   refine s_go (s_move) ?_
                   try simp only [opv, n1, n2, n3, n4, Value.cells]
                   refine s_go (s_add (hc := by first | exact wr_i64 (by omega) (by omega) | rfl)) ?_
                   try simp only [opv, n1, n2, n3, n4, Value.cells]
                   refine s_go (s_assign) ?_
                   try simp only [opv, n1, n2, n3, n4, Value.cells]
                   refine x_nil ?_
                   refine loop_back (m' := m1 - 1) (by simp only [clob, List.foldl, n1, n2, n3, n4]) ?_ ?_
                   · try simp only [opv, n1, n2, n3, n4, Value.cells]
                     exact ⟨_, _, _, _, _, by omega, by omega, by omega, by rfl, by rfl, by simp only [List.length_append, List.length_cons, List.length_nil, Nat.zero_add]; rfl, hnx, by simp only [List.length_append, List.length_cons, List.length_nil, Nat.zero_add]; omega, by simp only [List.length_append, List.length_cons, List.length_nil, Nat.zero_add]; exact hS.sel (by repeat (first | exact Sel.nil | (refine Sel.cons (by repeat (first | exact Del.head | apply Del.tail)) ?_)))⟩
                   · omega
       ·
        try simp only [n3, n4]
        try simp only [decide_eq_true_eq, decide_eq_false_iff_not, Bool.not_eq_true', Bool.not_eq_false', Int.not_lt, Int.not_le, ne_eq, Decidable.not_not] at hp3
        first
        | (exfalso; omega)
        | skip
          have hmg := mg_r (s := s) (t := t) (i := i) (k := k) (by omega) hy (.inl (by omega))
          have hnx : (o ++ [y]) ++ mergeP (s.drop i) (t.drop (k + 1)) = mergeP s t := by rw [← hmo, hmg, List.append_assoc]; rfl
          refine q_off (yi (t := 56) rfl rfl) ?_
          try simp only [opv, n1, n2, n3, n4, Value.cells]
          refine q_off (yi (t := 56) rfl rfl) ?_
          try simp only [opv, n1, n2, n3, n4, Value.cells]
          refine q_off (yi (t := 56) rfl rfl) ?_
          try simp only [opv, n1, n2, n3, n4, Value.cells]
          refine q_off (yi (t := 56) rfl rfl) ?_
          try simp only [opv, n1, n2, n3, n4, Value.cells]
          refine q_off (yi (t := 56) rfl rfl) ?_
          try simp only [opv, n1, n2, n3, n4, Value.cells]
          refine q_off (yi (t := 56) rfl rfl) ?_
          try simp only [opv, n1, n2, n3, n4, Value.cells]
          refine q_off (yi (t := 56) rfl rfl) ?_
          try simp only [opv, n1, n2, n3, n4, Value.cells]
          refine q_off (yi (t := 56) rfl rfl) ?_
          try simp only [opv, n1, n2, n3, n4, Value.cells]
          refine q_off (yi (t := 56) rfl rfl) ?_
          try simp only [opv, n1, n2, n3, n4, Value.cells]
          refine q_off (yi (t := 56) rfl rfl) ?_
          try simp only [opv, n1, n2, n3, n4, Value.cells]
          refine q_off (yi (t := 56) rfl rfl) ?_
          try simp only [opv, n1, n2, n3, n4, Value.cells]
          refine q_on (yi (t := 51) rfl rfl) ?_
          first | refine q_go (fun w hS => s_pick_t) ?_ | refine q_go (fun w hS => s_pick_f) ?_
          try simp only [opv, n1, n2, n3, n4, Value.cells]
          first | refine q_go (fun w hS => s_pick_t) ?_ | refine q_go (fun w hS => s_pick_f) ?_
          try simp only [opv, n1, n2, n3, n4, Value.cells]
          refine q_go (fun w hS => s_assign) ?_
          try simp only [opv, n1, n2, n3, n4, Value.cells]
          clear hS
          refine q_nil fun w22 hS => ?_
          refine hK8 _ _ ?_
          refine x_cond_f (h := ?_)
          try have hl1 := @c
          refine x_seq fun K16 hK16 => ?_
          refine x_quiet (by kernel_rfl) (by kernel_rfl) hS ?_
          refine q_go (fun w hS => s_move) ?_
          try simp only [opv, n1, n2, n3, n4, Value.cells]
          refine q_go (fun w hS => s_move) ?_
          try simp only [opv, n1, n2, n3, n4, Value.cells]
          refine q_go (fun w hS => s_len_sl Try.underlying24) ?_
          try simp only [opv, n1, n2, n3, n4, Value.cells]
          refine q_go (fun w hS => s_eql) ?_
          try simp only [opv, n1, n2, n3, n4, Value.cells]
          refine q_go (fun w hS => s_move) ?_
          try simp only [opv, n1, n2, n3, n4, Value.cells]
          refine q_part 84 rfl (fun hp5 => ?_) (fun hp5 => ?_)
          ·
           try simp only [n3, n4]
           try simp only [decide_eq_true_eq, decide_eq_false_iff_not, Bool.not_eq_true', Bool.not_eq_false', Int.not_lt, Int.not_le, ne_eq, Decidable.not_not] at hp5
           first
           | (exfalso; omega)
           | skip
             refine q_off (yi (t := 84) rfl rfl) ?_
             try simp only [opv, n1, n2, n3, n4, Value.cells]
             refine q_off (yi (t := 84) rfl rfl) ?_
             try simp only [opv, n1, n2, n3, n4, Value.cells]
             refine q_off (yi (t := 84) rfl rfl) ?_
             try simp only [opv, n1, n2, n3, n4, Value.cells]
             refine q_off (yi (t := 84) rfl rfl) ?_
             try simp only [opv, n1, n2, n3, n4, Value.cells]
             refine q_off (yi (t := 84) rfl rfl) ?_
             try simp only [opv, n1, n2, n3, n4, Value.cells]
             refine q_off (yi (t := 84) rfl rfl) ?_
             try simp only [opv, n1, n2, n3, n4, Value.cells]
             refine q_off (yi (t := 84) rfl rfl) ?_
             try simp only [opv, n1, n2, n3, n4, Value.cells]
             refine q_off (yi (t := 84) rfl rfl) ?_
             try simp only [opv, n1, n2, n3, n4, Value.cells]
             refine q_off (yi (t := 84) rfl rfl) ?_
             try simp only [opv, n1, n2, n3, n4, Value.cells]
             refine q_off (yi (t := 84) rfl rfl) ?_
             try simp only [opv, n1, n2, n3, n4, Value.cells]
             refine q_off (yi (t := 84) rfl rfl) ?_
             try simp only [opv, n1, n2, n3, n4, Value.cells]
             first | refine q_go (fun w hS => s_pick_t) ?_ | refine q_go (fun w hS => s_pick_f) ?_
             try simp only [opv, n1, n2, n3, n4, Value.cells]
             refine q_go (fun w hS => s_assign) ?_
             try simp only [opv, n1, n2, n3, n4, Value.cells]
             clear hS
             refine q_nil fun w23 hS => ?_
             refine hK16 _ _ ?_
             refine x_cond_t (h := ?_)
             try (have hmg := mg_r (s := s) (t := t) (i := i) (k := k) (by omega) hy (.inr ⟨by omega, by rw [hx]; exact hl1, by rw [hx]; exact @c⟩))
             have hnx : (o ++ [y]) ++ mergeP (s.drop i) (t.drop (k + 1)) = mergeP s t := by rw [← hmo, hmg, List.append_assoc]; rfl
             refine x_seq fun K17 hK17 => ?_
             refine x_region ?_
             refine s_go (s_move) ?_
             try simp only [opv, n1, n2, n3, n4, Value.cells]
             refine s_go (s_move) ?_
             try simp only [opv, n1, n2, n3, n4, Value.cells]
             refine s_go (s_move) ?_
             try simp only [opv, n1, n2, n3, n4, Value.cells]
             first | refine s_go (m_indexAddr_rd Try.underlying24 ti39 (hS := hS)) ?_ | refine s_go (m_indexAddr_vec Try.underlying24 ti39 (hS := hS)) ?_
             try simp only [opv, n1, n2, n3, n4, Value.cells, Nat.mul_one, Nat.zero_add, Int.toNat_natCast, Int.reduceToNat]
             first | refine s_go (m_load_row Try.underlying39 (hi := ti39) (hS := hS) (hfit := by rw [arows_len]; omega)) ?_ | refine s_go (m_loada_obj Try.underlying39 (hi := ti39) (hS := hS) (hfit := by rw [arows_len]; omega)) ?_ | refine s_go (m_loada_bx Try.underlying39 (hi := ti39) (hS := hS) (hfit := by rw [arows_len]; omega)) ?_ | refine s_go (m_loada_rd Try.underlying39 (hi := ti39) (hS := hS) (hfit := by rw [arows_len]; omega)) ?_ | refine s_go (m_loada_vec Try.underlying39 (hi := ti39) (hS := hS) (hfit := by rw [arows_len]; omega)) ?_
             try simp only [opv, n1, n2, n3, n4, Value.cells, List.getElem_toArray, List.getElem_cons_zero, List.getElem_cons_succ]
             rw [arow_get (by omega) hto, hy]
             refine m_buildRow (cells := (AA y)) Try.underlying24 ti39 (hc := by simp only [List.map_toArray, List.map_cons, List.map_nil, opv, n1, n2, n3, n4, Value.cells, List.toList_toArray]; exact fill_one (by rfl) (zi_size21 hyl) (by rfl)) (hS := hS) (h := fun w24 g24 hS => ?_)
             try simp only [opv, n1, n2, n3, n4, Value.cells, Array.toArray_toList] at hS ⊢
             replace hS := hS.obj_rd (sz := 21) (n := 1) (by exact zi_size21 hyl) .head
             rw [arow_one hyl] at hS
             refine m_append Try.underlying24 ti39 (hS := hS) (h1 := rowsZ_cells _ _) (h := fun w25 A25 C25 hS => ?_)
             try simp only [← List.map_append, ← List.map_drop, ← List.map_take, Nat.mul_one, Nat.zero_mul, Nat.sub_zero, List.drop_zero, List.nil_append, Nat.zero_add] at hS ⊢
             try simp only [opv, n1, n2, n3, n4, Value.cells, Array.toArray_toList] at hS ⊢
             rw [add_one] at hS
             refine s_go (s_assign) ?_
             try simp only [opv, n1, n2, n3, n4, Value.cells]
             refine x_nil ?_
             refine hK17 _ _ ?_
             refine x_region ?_
             refine s_go (s_move) ?_
             try simp only [opv, n1, n2, n3, n4, Value.cells]
             refine s_go (s_add (hc := by first | exact wr_i64 (by omega) (by omega) | rfl)) ?_
             try simp only [opv, n1, n2, n3, n4, Value.cells]
             refine s_go (s_assign) ?_
             try simp only [opv, n1, n2, n3, n4, Value.cells]
             refine x_nil ?_
             refine loop_back (m' := m1 - 1) (by simp only [clob, List.foldl, n1, n2, n3, n4]) ?_ ?_
             · try simp only [opv, n1, n2, n3, n4, Value.cells]
               exact ⟨_, _, _, _, _, by omega, by omega, by omega, by rfl, by rfl, by simp only [List.length_append, List.length_cons, List.length_nil, Nat.zero_add]; rfl, hnx, by simp only [List.length_append, List.length_cons, List.length_nil, Nat.zero_add]; omega, by simp only [List.length_append, List.length_cons, List.length_nil, Nat.zero_add]; exact hS.sel (by repeat (first | exact Sel.nil | (refine Sel.cons (by repeat (first | exact Del.head | apply Del.tail)) ?_)))⟩
             · omega
          ·
           try simp only [n3, n4]
           try simp only [decide_eq_true_eq, decide_eq_false_iff_not, Bool.not_eq_true', Bool.not_eq_false', Int.not_lt, Int.not_le, ne_eq, Decidable.not_not] at hp5
           first
           | (exfalso; omega)
           | skip
             refine q_on (yi (t := 84) rfl rfl) ?_
             refine q_go (fun w hS => s_move) ?_
             try simp only [opv, n1, n2, n3, n4, Value.cells]
             refine q_on (yi (t := 84) rfl rfl) ?_
             refine q_go (fun w hS => s_move) ?_
             try simp only [opv, n1, n2, n3, n4, Value.cells]
             refine q_on (yi (t := 84) rfl rfl) ?_
             first | refine q_go (fun w hS => m_indexAddr_rd Try.underlying24 ti39 (hS := hS)) ?_ | refine q_go (fun w hS => m_indexAddr_vec Try.underlying24 ti39 (hS := hS)) ?_
             try simp only [opv, n1, n2, n3, n4, Value.cells, Nat.mul_one, Nat.zero_add, Int.toNat_natCast, Int.reduceToNat]
             refine q_on (yi (t := 84) rfl rfl) ?_
             first | refine q_go (fun w hS => m_fieldAddr Try.underlying39 (hi := ti34)) ?_ | refine q_go (fun w hS => m_fieldAddr_rd Try.underlying39 (hi := ti34) (hS := hS)) ?_ | refine q_go (fun w hS => m_fieldAddr_vec Try.underlying39 (hi := ti34) (hS := hS)) ?_
             try simp only [opv, n1, n2, n3, n4, Value.cells, Nat.zero_add, Nat.add_zero, List.getElem_toArray, List.getElem_cons_zero, List.getElem_cons_succ]
             refine q_on (yi (t := 84) rfl rfl) ?_
             first | refine q_go (fun w hS => m_load_row Try.underlying34 (hi := ti34) (hS := hS) (hfit := by rw [arows_len]; omega)) ?_ | refine q_go (fun w hS => m_loada_obj Try.underlying34 (hi := ti34) (hS := hS) (hfit := by rw [arows_len]; omega)) ?_ | refine q_go (fun w hS => m_loada_bx Try.underlying34 (hi := ti34) (hS := hS) (hfit := by rw [arows_len]; omega)) ?_ | refine q_go (fun w hS => m_loada_rd Try.underlying34 (hi := ti34) (hS := hS) (hfit := by rw [arows_len]; omega)) ?_ | refine q_go (fun w hS => m_loada_vec Try.underlying34 (hi := ti34) (hS := hS) (hfit := by rw [arows_len]; omega)) ?_
             try simp only [opv, n1, n2, n3, n4, Value.cells, List.getElem_toArray, List.getElem_cons_zero, List.getElem_cons_succ]
             rw [arow_key (by omega) hto, hy]
             refine q_on (yi (t := 84) rfl rfl) ?_
             refine q_go (fun w hS => s_move) ?_
             try simp only [opv, n1, n2, n3, n4, Value.cells]
             refine q_on (yi (t := 84) rfl rfl) ?_
             refine q_go (fun w hS => s_move) ?_
             try simp only [opv, n1, n2, n3, n4, Value.cells]
             refine q_on (yi (t := 84) rfl rfl) ?_
             first | refine q_go (fun w hS => m_indexAddr_rd Try.underlying24 ti39 (hS := hS)) ?_ | refine q_go (fun w hS => m_indexAddr_vec Try.underlying24 ti39 (hS := hS)) ?_
             try simp only [opv, n1, n2, n3, n4, Value.cells, Nat.mul_one, Nat.zero_add, Int.toNat_natCast, Int.reduceToNat]
             refine q_on (yi (t := 84) rfl rfl) ?_
             first | refine q_go (fun w hS => m_fieldAddr Try.underlying39 (hi := ti34)) ?_ | refine q_go (fun w hS => m_fieldAddr_rd Try.underlying39 (hi := ti34) (hS := hS)) ?_ | refine q_go (fun w hS => m_fieldAddr_vec Try.underlying39 (hi := ti34) (hS := hS)) ?_
             try simp only [opv, n1, n2, n3, n4, Value.cells, Nat.zero_add, Nat.add_zero, List.getElem_toArray, List.getElem_cons_zero, List.getElem_cons_succ]
             refine q_on (yi (t := 84) rfl rfl) ?_
             first | refine q_go (fun w hS => m_load_row Try.underlying34 (hi := ti34) (hS := hS) (hfit := by rw [arows_len]; omega)) ?_ | refine q_go (fun w hS => m_loada_obj Try.underlying34 (hi := ti34) (hS := hS) (hfit := by rw [arows_len]; omega)) ?_ | refine q_go (fun w hS => m_loada_bx Try.underlying34 (hi := ti34) (hS := hS) (hfit := by rw [arows_len]; omega)) ?_ | refine q_go (fun w hS => m_loada_rd Try.underlying34 (hi := ti34) (hS := hS) (hfit := by rw [arows_len]; omega)) ?_ | refine q_go (fun w hS => m_loada_vec Try.underlying34 (hi := ti34) (hS := hS) (hfit := by rw [arows_len]; omega)) ?_
             try simp only [opv, n1, n2, n3, n4, Value.cells, List.getElem_toArray, List.getElem_cons_zero, List.getElem_cons_succ]
             rw [arow_key (by omega) hso, hx]
             refine q_on (yi (t := 84) rfl rfl) ?_
             apply q_call en116
             case H =>
               intro w hS
               try simp only [opv, n1, n2, n3, n4, List.map_toArray, List.map_cons, List.map_nil, List.append_toArray, List.cons_append, List.nil_append, Array.append_empty]
               refine CallR.mono (c_ref08Less (akey y) (akey x) hky hkx _) ?_
               rintro _ w1 ⟨rfl, hE⟩; exact ⟨rfl, hS.ext hE⟩
             try simp only [opv, n1, n2, n3, n4, Value.cells]
             first | refine q_go (fun w hS => s_pick_t) ?_ | refine q_go (fun w hS => s_pick_f) ?_
             try simp only [opv, n1, n2, n3, n4, Value.cells]
             refine q_go (fun w hS => s_assign) ?_
             try simp only [opv, n1, n2, n3, n4, Value.cells]
             clear hS
             refine q_nil fun w26 hS => ?_
             refine hK16 _ _ ?_
             refine x_cond (ht := fun hc8 => ?_) (hf := fun hc8 => ?_)
             ·
              try simp only [decide_eq_true_eq, decide_eq_false_iff_not, Bool.not_eq_true', Bool.not_eq_false', Int.not_lt, Int.not_le, ne_eq, Decidable.not_not, bne_iff_ne, beq_iff_eq, not_true_eq_false, not_false_eq_true] at hc8
              first
              | (exfalso; omega)
              | skip
                try (have hmg := mg_r (s := s) (t := t) (i := i) (k := k) (by omega) hy (.inr ⟨by omega, by rw [hx]; exact hl1, by rw [hx]; exact hc8⟩))
                have hnx : (o ++ [y]) ++ mergeP (s.drop i) (t.drop (k + 1)) = mergeP s t := by rw [← hmo, hmg, List.append_assoc]; rfl
                refine x_seq fun K18 hK18 => ?_
                refine x_region ?_
                refine s_go (s_move) ?_
                try simp only [opv, n1, n2, n3, n4, Value.cells]
                refine s_go (s_move) ?_
                try simp only [opv, n1, n2, n3, n4, Value.cells]
                refine s_go (s_move) ?_
                try simp only [opv, n1, n2, n3, n4, Value.cells]
                first | refine s_go (m_indexAddr_rd Try.underlying24 ti39 (hS := hS)) ?_ | refine s_go (m_indexAddr_vec Try.underlying24 ti39 (hS := hS)) ?_
                try simp only [opv, n1, n2, n3, n4, Value.cells, Nat.mul_one, Nat.zero_add, Int.toNat_natCast, Int.reduceToNat]
                first | refine s_go (m_load_row Try.underlying39 (hi := ti39) (hS := hS) (hfit := by rw [arows_len]; omega)) ?_ | refine s_go (m_loada_obj Try.underlying39 (hi := ti39) (hS := hS) (hfit := by rw [arows_len]; omega)) ?_ | refine s_go (m_loada_bx Try.underlying39 (hi := ti39) (hS := hS) (hfit := by rw [arows_len]; omega)) ?_ | refine s_go (m_loada_rd Try.underlying39 (hi := ti39) (hS := hS) (hfit := by rw [arows_len]; omega)) ?_ | refine s_go (m_loada_vec Try.underlying39 (hi := ti39) (hS := hS) (hfit := by rw [arows_len]; omega)) ?_
                try simp only [opv, n1, n2, n3, n4, Value.cells, List.getElem_toArray, List.getElem_cons_zero, List.getElem_cons_succ]
                rw [arow_get (by omega) hto, hy]
                refine m_buildRow (cells := (AA y)) Try.underlying24 ti39 (hc := by simp only [List.map_toArray, List.map_cons, List.map_nil, opv, n1, n2, n3, n4, Value.cells, List.toList_toArray]; exact fill_one (by rfl) (zi_size21 hyl) (by rfl)) (hS := hS) (h := fun w27 g27 hS => ?_)
                try simp only [opv, n1, n2, n3, n4, Value.cells, Array.toArray_toList] at hS ⊢
                replace hS := hS.obj_rd (sz := 21) (n := 1) (by exact zi_size21 hyl) .head
                rw [arow_one hyl] at hS
                refine m_append Try.underlying24 ti39 (hS := hS) (h1 := rowsZ_cells _ _) (h := fun w28 A28 C28 hS => ?_)
                try simp only [← List.map_append, ← List.map_drop, ← List.map_take, Nat.mul_one, Nat.zero_mul, Nat.sub_zero, List.drop_zero, List.nil_append, Nat.zero_add] at hS ⊢
                try simp only [opv, n1, n2, n3, n4, Value.cells, Array.toArray_toList] at hS ⊢
                rw [add_one] at hS
                refine s_go (s_assign) ?_
                try simp only [opv, n1, n2, n3, n4, Value.cells]
                refine x_nil ?_
                refine hK18 _ _ ?_
                refine x_region ?_
                refine s_go (s_move) ?_
                try simp only [opv, n1, n2, n3, n4, Value.cells]
                refine s_go (s_add (hc := by first | exact wr_i64 (by omega) (by omega) | rfl)) ?_
                try simp only [opv, n1, n2, n3, n4, Value.cells]
                refine s_go (s_assign) ?_
                try simp only [opv, n1, n2, n3, n4, Value.cells]
                refine x_nil ?_
                refine loop_back (m' := m1 - 1) (by simp only [clob, List.foldl, n1, n2, n3, n4]) ?_ ?_
                · try simp only [opv, n1, n2, n3, n4, Value.cells]
                  exact ⟨_, _, _, _, _, by omega, by omega, by omega, by rfl, by rfl, by simp only [List.length_append, List.length_cons, List.length_nil, Nat.zero_add]; rfl, hnx, by simp only [List.length_append, List.length_cons, List.length_nil, Nat.zero_add]; omega, by simp only [List.length_append, List.length_cons, List.length_nil, Nat.zero_add]; exact hS.sel (by repeat (first | exact Sel.nil | (refine Sel.cons (by repeat (first | exact Del.head | apply Del.tail)) ?_)))⟩
                · omega
             ·
              try simp only [decide_eq_true_eq, decide_eq_false_iff_not, Bool.not_eq_true', Bool.not_eq_false', Int.not_lt, Int.not_le, ne_eq, Decidable.not_not, bne_iff_ne, beq_iff_eq, not_true_eq_false, not_false_eq_true] at hc8
              first
              | (exfalso; omega)
              | skip
                have hmg := mg_e (s := s) (t := t) (i := i) (k := k) (by omega) hx (by omega) hy hl1 hc8
                have hnx : (o ++ [(akey x ++ moreV (aval x) (aval y))]) ++ mergeP (s.drop (i + 1)) (t.drop (k + 1)) = mergeP s t := by rw [← hmo, hmg, List.append_assoc]; rfl
                have hmo9 := more_ok hvx hvy
                have hml := hmo9.len
                have hk12 := hkx.len
                have hzl : (akey x ++ moreV (aval x) (aval y)).length = 21 := (kv_ok hkx hmo9).len
                refine x_seq fun K19 hK19 => ?_
                refine x_mixed_c (Lc := [.rd B2 21 (t).length (arows (t)), .rd B1 21 (s).length (arows (s))]) [] 0 [5, 22, 23, 24, 25, 26, 27, 28, 29, 30, 31, 32, 33, 34, 35, 36, 37, 38, 39, 40, 41] (fun f w => ∃ (C2 : Option Addr) (e2 : Nat), f 5 = .slice C2 (o.length + 1) e2 ∧ St NoB w0 w [.vec C2 e2 39 21 (o.length + 1) (arows (o ++ [(akey x ++ moreV (aval x) (aval y))])), .rd B2 21 (t).length (arows (t)), .rd B1 21 (s).length (arows (s))]) (by kernel_rfl) (by kernel_rfl) (by kernel_rfl) (by decide) hS (fun w29 hS => ?mixpre502) ?mixrest502
                case mixpre502 =>
                 refine p_nil ?_
                 simp only [List.length_cons, List.length_nil, Nat.reduceAdd, Nat.reduceSub]
                 refine any_go (i := 0) (by rfl) (by decide +kernel) (by decide +kernel) noLate_nil (go_yields w_none (fun w hS => s_move)) ?_
                 try simp only [opv, n1, n2, n3, n4, Value.cells]
                 refine any_go (i := 1) (by rfl) (by decide +kernel) (by decide +kernel) noLate_nil (go_yields w_none (fun w hS => s_move)) ?_
                 try simp only [opv, n1, n2, n3, n4, Value.cells]
                 refine any_go (i := 2) (by rfl) (by decide +kernel) (by decide +kernel) noLate_nil (go_yields w_none (fun w hS => s_move)) ?_
                 try simp only [opv, n1, n2, n3, n4, Value.cells]
                 first | refine any_go (i := 3) (by rfl) (by decide +kernel) (by decide +kernel) noLate_nil (go_yields w_none (fun w hS => m_indexAddr_rd Try.underlying24 ti39 (hS := hS))) ?_ | refine any_go (i := 3) (by rfl) (by decide +kernel) (by decide +kernel) noLate_nil (go_yields w_none (fun w hS => m_indexAddr_vec Try.underlying24 ti39 (hS := hS))) ?_
                 try simp only [opv, n1, n2, n3, n4, Value.cells, Nat.mul_one, Nat.zero_add, Int.toNat_natCast, Int.reduceToNat]
                 first | refine any_go (i := 4) (by rfl) (by decide +kernel) (by decide +kernel) noLate_nil (go_yields w_none (fun w hS => m_fieldAddr Try.underlying39 (hi := ti34))) ?_ | refine any_go (i := 4) (by rfl) (by decide +kernel) (by decide +kernel) noLate_nil (go_yields w_none (fun w hS => m_fieldAddr_rd Try.underlying39 (hi := ti34) (hS := hS))) ?_ | refine any_go (i := 4) (by rfl) (by decide +kernel) (by decide +kernel) noLate_nil (go_yields w_none (fun w hS => m_fieldAddr_vec Try.underlying39 (hi := ti34) (hS := hS))) ?_
                 try simp only [opv, n1, n2, n3, n4, Value.cells, Nat.zero_add, Nat.add_zero, List.getElem_toArray, List.getElem_cons_zero, List.getElem_cons_succ]
                 first | refine any_go (i := 5) (by rfl) (by decide +kernel) (by decide +kernel) noLate_nil (go_yields w_none (fun w hS => m_load_row Try.underlying34 (hi := ti34) (hS := hS) (hfit := by rw [arows_len]; omega))) ?_ | refine any_go (i := 5) (by rfl) (by decide +kernel) (by decide +kernel) noLate_nil (go_yields w_none (fun w hS => m_loada_obj Try.underlying34 (hi := ti34) (hS := hS) (hfit := by rw [arows_len]; omega))) ?_ | refine any_go (i := 5) (by rfl) (by decide +kernel) (by decide +kernel) noLate_nil (go_yields w_none (fun w hS => m_loada_bx Try.underlying34 (hi := ti34) (hS := hS) (hfit := by rw [arows_len]; omega))) ?_ | refine any_go (i := 5) (by rfl) (by decide +kernel) (by decide +kernel) noLate_nil (go_yields w_none (fun w hS => m_loada_rd Try.underlying34 (hi := ti34) (hS := hS) (hfit := by rw [arows_len]; omega))) ?_ | refine any_go (i := 5) (by rfl) (by decide +kernel) (by decide +kernel) noLate_nil (go_yields w_none (fun w hS => m_loada_vec Try.underlying34 (hi := ti34) (hS := hS) (hfit := by rw [arows_len]; omega))) ?_
                 try simp only [opv, n1, n2, n3, n4, Value.cells, List.getElem_toArray, List.getElem_cons_zero, List.getElem_cons_succ]
                 rw [arow_key (by omega) hso, hx]
                 refine any_go (i := 6) (by rfl) (by decide +kernel) (by decide +kernel) noLate_nil (go_yields w_none (fun w hS => s_move)) ?_
                 try simp only [opv, n1, n2, n3, n4, Value.cells]
                 refine any_go (i := 7) (by rfl) (by decide +kernel) (by decide +kernel) noLate_nil (go_yields w_none (fun w hS => s_move)) ?_
                 try simp only [opv, n1, n2, n3, n4, Value.cells]
                 first | refine any_go (i := 8) (by rfl) (by decide +kernel) (by decide +kernel) noLate_nil (go_yields w_none (fun w hS => m_indexAddr_rd Try.underlying24 ti39 (hS := hS))) ?_ | refine any_go (i := 8) (by rfl) (by decide +kernel) (by decide +kernel) noLate_nil (go_yields w_none (fun w hS => m_indexAddr_vec Try.underlying24 ti39 (hS := hS))) ?_
                 try simp only [opv, n1, n2, n3, n4, Value.cells, Nat.mul_one, Nat.zero_add, Int.toNat_natCast, Int.reduceToNat]
                 first | refine any_go (i := 9) (by rfl) (by decide +kernel) (by decide +kernel) noLate_nil (go_yields w_none (fun w hS => m_fieldAddr Try.underlying39 (hi := ti37))) ?_ | refine any_go (i := 9) (by rfl) (by decide +kernel) (by decide +kernel) noLate_nil (go_yields w_none (fun w hS => m_fieldAddr_rd Try.underlying39 (hi := ti37) (hS := hS))) ?_ | refine any_go (i := 9) (by rfl) (by decide +kernel) (by decide +kernel) noLate_nil (go_yields w_none (fun w hS => m_fieldAddr_vec Try.underlying39 (hi := ti37) (hS := hS))) ?_
                 try simp only [opv, n1, n2, n3, n4, Value.cells, Nat.zero_add, Nat.add_zero, List.getElem_toArray, List.getElem_cons_zero, List.getElem_cons_succ]
                 first | refine any_go (i := 10) (by rfl) (by decide +kernel) (by decide +kernel) noLate_nil (go_yields w_none (fun w hS => m_load_row Try.underlying37 (hi := ti37) (hS := hS) (hfit := by rw [arows_len]; omega))) ?_ | refine any_go (i := 10) (by rfl) (by decide +kernel) (by decide +kernel) noLate_nil (go_yields w_none (fun w hS => m_loada_obj Try.underlying37 (hi := ti37) (hS := hS) (hfit := by rw [arows_len]; omega))) ?_ | refine any_go (i := 10) (by rfl) (by decide +kernel) (by decide +kernel) noLate_nil (go_yields w_none (fun w hS => m_loada_bx Try.underlying37 (hi := ti37) (hS := hS) (hfit := by rw [arows_len]; omega))) ?_ | refine any_go (i := 10) (by rfl) (by decide +kernel) (by decide +kernel) noLate_nil (go_yields w_none (fun w hS => m_loada_rd Try.underlying37 (hi := ti37) (hS := hS) (hfit := by rw [arows_len]; omega))) ?_ | refine any_go (i := 10) (by rfl) (by decide +kernel) (by decide +kernel) noLate_nil (go_yields w_none (fun w hS => m_loada_vec Try.underlying37 (hi := ti37) (hS := hS) (hfit := by rw [arows_len]; omega))) ?_
                 try simp only [opv, n1, n2, n3, n4, Value.cells, List.getElem_toArray, List.getElem_cons_zero, List.getElem_cons_succ]
                 rw [arow_val (by omega) hso, hx]
                 refine any_go (i := 11) (by rfl) (by decide +kernel) (by decide +kernel) noLate_nil (go_yields w_none (fun w hS => s_move)) ?_
                 try simp only [opv, n1, n2, n3, n4, Value.cells]
                 refine any_go (i := 12) (by rfl) (by decide +kernel) (by decide +kernel) noLate_nil (go_yields w_none (fun w hS => s_move)) ?_
                 try simp only [opv, n1, n2, n3, n4, Value.cells]
                 first | refine any_go (i := 13) (by rfl) (by decide +kernel) (by decide +kernel) noLate_nil (go_yields w_none (fun w hS => m_indexAddr_rd Try.underlying24 ti39 (hS := hS))) ?_ | refine any_go (i := 13) (by rfl) (by decide +kernel) (by decide +kernel) noLate_nil (go_yields w_none (fun w hS => m_indexAddr_vec Try.underlying24 ti39 (hS := hS))) ?_
                 try simp only [opv, n1, n2, n3, n4, Value.cells, Nat.mul_one, Nat.zero_add, Int.toNat_natCast, Int.reduceToNat]
                 first | refine any_go (i := 14) (by rfl) (by decide +kernel) (by decide +kernel) noLate_nil (go_yields w_none (fun w hS => m_fieldAddr Try.underlying39 (hi := ti37))) ?_ | refine any_go (i := 14) (by rfl) (by decide +kernel) (by decide +kernel) noLate_nil (go_yields w_none (fun w hS => m_fieldAddr_rd Try.underlying39 (hi := ti37) (hS := hS))) ?_ | refine any_go (i := 14) (by rfl) (by decide +kernel) (by decide +kernel) noLate_nil (go_yields w_none (fun w hS => m_fieldAddr_vec Try.underlying39 (hi := ti37) (hS := hS))) ?_
                 try simp only [opv, n1, n2, n3, n4, Value.cells, Nat.zero_add, Nat.add_zero, List.getElem_toArray, List.getElem_cons_zero, List.getElem_cons_succ]
                 first | refine any_go (i := 15) (by rfl) (by decide +kernel) (by decide +kernel) noLate_nil (go_yields w_none (fun w hS => m_load_row Try.underlying37 (hi := ti37) (hS := hS) (hfit := by rw [arows_len]; omega))) ?_ | refine any_go (i := 15) (by rfl) (by decide +kernel) (by decide +kernel) noLate_nil (go_yields w_none (fun w hS => m_loada_obj Try.underlying37 (hi := ti37) (hS := hS) (hfit := by rw [arows_len]; omega))) ?_ | refine any_go (i := 15) (by rfl) (by decide +kernel) (by decide +kernel) noLate_nil (go_yields w_none (fun w hS => m_loada_bx Try.underlying37 (hi := ti37) (hS := hS) (hfit := by rw [arows_len]; omega))) ?_ | refine any_go (i := 15) (by rfl) (by decide +kernel) (by decide +kernel) noLate_nil (go_yields w_none (fun w hS => m_loada_rd Try.underlying37 (hi := ti37) (hS := hS) (hfit := by rw [arows_len]; omega))) ?_ | refine any_go (i := 15) (by rfl) (by decide +kernel) (by decide +kernel) noLate_nil (go_yields w_none (fun w hS => m_loada_vec Try.underlying37 (hi := ti37) (hS := hS) (hfit := by rw [arows_len]; omega))) ?_
                 try simp only [opv, n1, n2, n3, n4, Value.cells, List.getElem_toArray, List.getElem_cons_zero, List.getElem_cons_succ]
                 rw [arow_val (by omega) hto, hy]
                 apply any_go (i := 16) (by rfl) (by decide +kernel) (by decide +kernel) noLate_nil (call_yields w_none en118 ?H2) ?K2
                 case H2 =>
                   intro w hS
                   try simp only [opv, n1, n2, n3, n4, List.map_toArray, List.map_cons, List.map_nil, List.append_toArray, List.cons_append, List.nil_append, Array.append_empty]
                   refine CallR.mono (c_ref09More (aval x) (aval y) hvx hvy _) ?_
                   rintro _ w1 ⟨rfl, hE⟩; exact ⟨rfl, hE⟩
                 try simp only [opv, n1, n2, n3, n4, Value.cells]
                 refine any_go (i := 17) (by rfl) (by decide +kernel) (by decide +kernel) noLate_nil (go_yields w_none (fun w hS => s_build_struct (cells := (AA (akey x ++ moreV (aval x) (aval y)))) Try.underlying39 ti39 bp39 (hc := by simp only [List.map_toArray, List.map_cons, List.map_nil, opv, n1, n2, n3, n4, Value.cells, List.toList_toArray]; exact fill_atom (by rfl) (by rfl) (by rfl) hk12 hml))) ?_
                 try simp only [opv, n1, n2, n3, n4, Value.cells]
                 refine any_step [18] (by kernel_rfl) (by decide) (fun w30 hE => ⟨fun _ => (hS.ext hE).sel (by repeat (first | exact Sel.nil | (refine Sel.cons (by repeat (first | exact Del.head | apply Del.tail)) ?_))), ?_⟩)
                 replace hS := hS.ext hE
                 intro i hi
                 simp only [List.mem_cons, List.not_mem_nil, or_false] at hi
                 subst hi
                 ·
                  refine any_op (by rfl) ?_
                  refine m_buildRow (cells := (AA (akey x ++ moreV (aval x) (aval y)))) Try.underlying24 ti39 (hc := by simp only [List.map_toArray, List.map_cons, List.map_nil, opv, n1, n2, n3, n4, Value.cells, List.toList_toArray]; exact fill_one (by rfl) (zi_size21 hzl) (by rfl)) (hS := hS) (h := fun w31 g31 hS => ?_)
                  try simp only [opv, n1, n2, n3, n4, Value.cells, Array.toArray_toList] at hS ⊢
                  replace hS := hS.obj_rd (sz := 21) (n := 1) (by exact zi_size21 hzl) .head
                  rw [arow_one hzl] at hS
                  refine x_nil ?_
                  refine any_step [19] (by kernel_rfl) (by decide) (fun w32 hE => ⟨fun _ => (hS.ext hE).sel (by repeat (first | exact Sel.nil | (refine Sel.cons (by repeat (first | exact Del.head | apply Del.tail)) ?_))), ?_⟩)
                  replace hS := hS.ext hE
                  intro i hi
                  simp only [List.mem_cons, List.not_mem_nil, or_false] at hi
                  subst hi
                  ·
                   refine any_op (by rfl) ?_
                   refine m_append Try.underlying24 ti39 (hS := hS) (h1 := rowsZ_cells _ _) (h := fun w33 A33 C33 hS => ?_)
                   try simp only [← List.map_append, ← List.map_drop, ← List.map_take, Nat.mul_one, Nat.zero_mul, Nat.sub_zero, List.drop_zero, List.nil_append, Nat.zero_add] at hS ⊢
                   try simp only [opv, n1, n2, n3, n4, Value.cells, Array.toArray_toList] at hS ⊢
                   rw [add_one] at hS
                   refine x_nil ?_
                   refine any_go (i := 20) (by rfl) (by decide +kernel) (by decide +kernel) noLate_nil (go_yields w_none (fun w hS => s_assign)) ?_
                   try simp only [opv, n1, n2, n3, n4, Value.cells]
                   refine any_nil (by kernel_rfl) (fun w34 hE => ?_)
                   replace hS := hS.ext hE
                   refine ⟨fun _ => hS.sel (by repeat (first | exact Sel.nil | (refine Sel.cons (by repeat (first | exact Del.head | apply Del.tail)) ?_))), ?_⟩
                   refine mix_leaf (by simp only [clob, List.foldl, n1, n2, n3, n4]) ?_
                   try simp only [n1, n2]
                   exact ⟨_, _, by first | trivial | rfl, hS.sel (by repeat (first | exact Sel.nil | (refine Sel.cons (by repeat (first | exact Del.head | apply Del.tail)) ?_)))⟩
                intro fm2 w35 hM
                obtain ⟨C2, e2, h5, hS⟩ := hM
                simp only [clob, List.foldl, n3, n4, h5]
                refine hK19 _ _ ?_
                refine x_seq fun K20 hK20 => ?_
                refine x_region ?_
                refine s_go (s_move) ?_
                try simp only [opv, n1, n2, n3, n4, Value.cells]
                refine s_go (s_add (hc := by first | exact wr_i64 (by omega) (by omega) | rfl)) ?_
                try simp only [opv, n1, n2, n3, n4, Value.cells]
                refine s_go (s_assign) ?_
                try simp only [opv, n1, n2, n3, n4, Value.cells]
                refine x_nil ?_
                refine hK20 _ _ ?_
                refine x_region ?_
                refine s_go (s_move) ?_
                try simp only [opv, n1, n2, n3, n4, Value.cells]
                refine s_go (s_add (hc := by first | exact wr_i64 (by omega) (by omega) | rfl)) ?_
                try simp only [opv, n1, n2, n3, n4, Value.cells]
                refine s_go (s_assign) ?_
                try simp only [opv, n1, n2, n3, n4, Value.cells]
                refine x_nil ?_
                refine loop_back (m' := m1 - 1) (by simp only [clob, List.foldl, n1, n2, n3, n4]) ?_ ?_
                · try simp only [opv, n1, n2, n3, n4, Value.cells]
                  exact ⟨_, _, _, _, _, by omega, by omega, by omega, by rfl, by rfl, by simp only [List.length_append, List.length_cons, List.length_nil, Nat.zero_add]; rfl, hnx, by simp only [List.length_append, List.length_cons, List.length_nil, Nat.zero_add]; omega, by simp only [List.length_append, List.length_cons, List.length_nil, Nat.zero_add]; exact hS.sel (by repeat (first | exact Sel.nil | (refine Sel.cons (by repeat (first | exact Del.head | apply Del.tail)) ?_)))⟩
                · omega
 ·
  try simp only [n3, n4]
  try simp only [decide_eq_true_eq, decide_eq_false_iff_not, Bool.not_eq_true', Bool.not_eq_false', Int.not_lt, Int.not_le, ne_eq, Decidable.not_not] at hp1
  first
  | (exfalso; omega)
  | skip
    refine g_on (yi (t := 16) rfl rfl) ?_
    refine s_go (s_move) ?_
    try simp only [opv, n1, n2, n3, n4, Value.cells]
    refine g_on (yi (t := 16) rfl rfl) ?_
    refine s_go (s_move) ?_
    try simp only [opv, n1, n2, n3, n4, Value.cells]
    refine g_on (yi (t := 16) rfl rfl) ?_
    refine s_go (s_len_sl Try.underlying24) ?_
    try simp only [opv, n1, n2, n3, n4, Value.cells]
    refine g_on (yi (t := 16) rfl rfl) ?_
    refine s_go (s_lss) ?_
    try simp only [opv, n1, n2, n3, n4, Value.cells]
    first | refine s_go (s_pick_t) ?_ | refine s_go (s_pick_f) ?_
    try simp only [opv, n1, n2, n3, n4, Value.cells]
    refine x_nil ?_
    refine hK7 _ _ ?_
    refine x_cond (ht := fun hc9 => ?_) (hf := fun hc9 => ?_)
    ·
     try simp only [decide_eq_true_eq, decide_eq_false_iff_not, Bool.not_eq_true', Bool.not_eq_false', Int.not_lt, Int.not_le, ne_eq, Decidable.not_not, bne_iff_ne, beq_iff_eq, not_true_eq_false, not_false_eq_true] at hc9
     first
     | (exfalso; omega)
     | skip
       refine x_skip ?_
       refine hK6 _ _ ?_
       refine x_block ?_
       refine x_block ?_
       refine x_seq fun K21 hK21 => ?_
       refine x_quiet (by kernel_rfl) (by kernel_rfl) hS ?_
       refine q_go (fun w hS => s_move) ?_
       try simp only [opv, n1, n2, n3, n4, Value.cells]
       refine q_go (fun w hS => s_move) ?_
       try simp only [opv, n1, n2, n3, n4, Value.cells]
       refine q_go (fun w hS => s_len_sl Try.underlying24) ?_
       try simp only [opv, n1, n2, n3, n4, Value.cells]
       refine q_go (fun w hS => s_eql) ?_
       try simp only [opv, n1, n2, n3, n4, Value.cells]
       refine q_go (fun w hS => s_move) ?_
       try simp only [opv, n1, n2, n3, n4, Value.cells]
       refine q_part 51 rfl (fun hp6 => ?_) (fun hp6 => ?_)
       ·
        try simp only [n3, n4]
        try simp only [decide_eq_true_eq, decide_eq_false_iff_not, Bool.not_eq_true', Bool.not_eq_false', Int.not_lt, Int.not_le, ne_eq, Decidable.not_not] at hp6
        first
        | (exfalso; omega)
        | skip
          have hax : AtomOk x := by rw [← hx]; exact hso.get (by omega)
          have hxl := hax.len
          have hkx := hax.key
          have hvx := hax.val
          have hmg := mg_l (s := s) (t := t) (i := i) (k := k) (by omega) hx (.inl (by omega))
          have hnx : (o ++ [x]) ++ mergeP (s.drop (i + 1)) (t.drop k) = mergeP s t := by rw [← hmo, hmg, List.append_assoc]; rfl
          refine q_off (yi (t := 51) rfl rfl) ?_
          try simp only [opv, n1, n2, n3, n4, Value.cells]
          refine q_off (yi (t := 51) rfl rfl) ?_
          try simp only [opv, n1, n2, n3, n4, Value.cells]
          refine q_off (yi (t := 51) rfl rfl) ?_
          try simp only [opv, n1, n2, n3, n4, Value.cells]
          refine q_off (yi (t := 51) rfl rfl) ?_
          try simp only [opv, n1, n2, n3, n4, Value.cells]
          refine q_off (yi (t := 51) rfl rfl) ?_
          try simp only [opv, n1, n2, n3, n4, Value.cells]
          refine q_un (yn (t := 56) rfl rfl) ?_
          try simp only [opv, n1, n2, n3, n4, Value.cells]
          refine q_un (yn (t := 56) rfl rfl) ?_
          try simp only [opv, n1, n2, n3, n4, Value.cells]
          refine q_un (yn (t := 56) rfl rfl) ?_
          try simp only [opv, n1, n2, n3, n4, Value.cells]
          refine q_un (yn (t := 56) rfl rfl) ?_
          try simp only [opv, n1, n2, n3, n4, Value.cells]
          refine q_un (yn (t := 56) rfl rfl) ?_
          try simp only [opv, n1, n2, n3, n4, Value.cells]
          refine q_un (yn (t := 56) rfl rfl) ?_
          try simp only [opv, n1, n2, n3, n4, Value.cells]
          refine q_un (yn (t := 56) rfl rfl) ?_
          try simp only [opv, n1, n2, n3, n4, Value.cells]
          refine q_un (yn (t := 56) rfl rfl) ?_
          try simp only [opv, n1, n2, n3, n4, Value.cells]
          refine q_un (yn (t := 56) rfl rfl) ?_
          try simp only [opv, n1, n2, n3, n4, Value.cells]
          refine q_un (yn (t := 56) rfl rfl) ?_
          try simp only [opv, n1, n2, n3, n4, Value.cells]
          refine q_un (yn (t := 56) rfl rfl) ?_
          try simp only [opv, n1, n2, n3, n4, Value.cells]
          refine q_off (yi (t := 51) rfl rfl) ?_
          try simp only [opv, n1, n2, n3, n4, Value.cells]
          first | refine q_go (fun w hS => s_pick_t) ?_ | refine q_go (fun w hS => s_pick_f) ?_
          try simp only [opv, n1, n2, n3, n4, Value.cells]
          refine q_go (fun w hS => s_assign) ?_
          try simp only [opv, n1, n2, n3, n4, Value.cells]
          clear hS
          refine q_nil fun w36 hS => ?_
          refine hK21 _ _ ?_
          refine x_cond_t (h := ?_)
          try (have hmg := mg_l (s := s) (t := t) (i := i) (k := k) (by omega) hx (.inr ⟨by omega, by rw [hy]; exact @c⟩))
          have hnx : (o ++ [x]) ++ mergeP (s.drop (i + 1)) (t.drop k) = mergeP s t := by rw [← hmo, hmg, List.append_assoc]; rfl
          refine x_seq fun K22 hK22 => ?_
          refine x_region ?_
          refine s_go (s_move) ?_
          try simp only [opv, n1, n2, n3, n4, Value.cells]
          refine s_go (s_move) ?_
          try simp only [opv, n1, n2, n3, n4, Value.cells]
          refine s_go (s_move) ?_
          try simp only [opv, n1, n2, n3, n4, Value.cells]
          first | refine s_go (m_indexAddr_rd Try.underlying24 ti39 (hS := hS)) ?_ | refine s_go (m_indexAddr_vec Try.underlying24 ti39 (hS := hS)) ?_
          try simp only [opv, n1, n2, n3, n4, Value.cells, Nat.mul_one, Nat.zero_add, Int.toNat_natCast, Int.reduceToNat]
          first | refine s_go (m_load_row Try.underlying39 (hi := ti39) (hS := hS) (hfit := by rw [arows_len]; omega)) ?_ | refine s_go (m_loada_obj Try.underlying39 (hi := ti39) (hS := hS) (hfit := by rw [arows_len]; omega)) ?_ | refine s_go (m_loada_bx Try.underlying39 (hi := ti39) (hS := hS) (hfit := by rw [arows_len]; omega)) ?_ | refine s_go (m_loada_rd Try.underlying39 (hi := ti39) (hS := hS) (hfit := by rw [arows_len]; omega)) ?_ | refine s_go (m_loada_vec Try.underlying39 (hi := ti39) (hS := hS) (hfit := by rw [arows_len]; omega)) ?_
          try simp only [opv, n1, n2, n3, n4, Value.cells, List.getElem_toArray, List.getElem_cons_zero, List.getElem_cons_succ]
          rw [arow_get (by omega) hso, hx]
          refine m_buildRow (cells := (AA x)) Try.underlying24 ti39 (hc := by simp only [List.map_toArray, List.map_cons, List.map_nil, opv, n1, n2, n3, n4, Value.cells, List.toList_toArray]; exact fill_one (by rfl) (zi_size21 hxl) (by rfl)) (hS := hS) (h := fun w37 g37 hS => ?_)
          try simp only [opv, n1, n2, n3, n4, Value.cells, Array.toArray_toList] at hS ⊢
          replace hS := hS.obj_rd (sz := 21) (n := 1) (by exact zi_size21 hxl) .head
          rw [arow_one hxl] at hS
          refine m_append Try.underlying24 ti39 (hS := hS) (h1 := rowsZ_cells _ _) (h := fun w38 A38 C38 hS => ?_)
          try simp only [← List.map_append, ← List.map_drop, ← List.map_take, Nat.mul_one, Nat.zero_mul, Nat.sub_zero, List.drop_zero, List.nil_append, Nat.zero_add] at hS ⊢
          try simp only [opv, n1, n2, n3, n4, Value.cells, Array.toArray_toList] at hS ⊢
          rw [add_one] at hS
          refine s_go (s_assign) ?_
          try simp only [opv, n1, n2, n3, n4, Value.cells]
          refine x_nil ?_
          refine hK22 _ _ ?_
          refine x_region ?_
          refine s_go (s_move) ?_
          try simp only [opv, n1, n2, n3, n4, Value.cells]
          refine s_go (s_add (hc := by first | exact wr_i64 (by omega) (by omega) | rfl)) ?_
          try simp only [opv, n1, n2, n3, n4, Value.cells]
          refine s_go (s_assign) ?_
          try simp only [opv, n1, n2, n3, n4, Value.cells]
          refine x_nil ?_
          refine loop_back (m' := m1 - 1) (by simp only [clob, List.foldl, n1, n2, n3, n4]) ?_ ?_
          · try simp only [opv, n1, n2, n3, n4, Value.cells]
            exact ⟨_, _, _, _, _, by omega, by omega, by omega, by rfl, by rfl, by simp only [List.length_append, List.length_cons, List.length_nil, Nat.zero_add]; rfl, hnx, by simp only [List.length_append, List.length_cons, List.length_nil, Nat.zero_add]; omega, by simp only [List.length_append, List.length_cons, List.length_nil, Nat.zero_add]; exact hS.sel (by repeat (first | exact Sel.nil | (refine Sel.cons (by repeat (first | exact Del.head | apply Del.tail)) ?_)))⟩
          · omega
       ·
        try simp only [n3, n4]
        try simp only [decide_eq_true_eq, decide_eq_false_iff_not, Bool.not_eq_true', Bool.not_eq_false', Int.not_lt, Int.not_le, ne_eq, Decidable.not_not] at hp6
        first
        | (exfalso; omega)
        | skip
          have hay : AtomOk y := by rw [← hy]; exact hto.get (by omega)
          have hyl := hay.len
          have hky := hay.key
          have hvy := hay.val
          refine q_on (yi (t := 51) rfl rfl) ?_
          refine q_go (fun w hS => s_move) ?_
          try simp only [opv, n1, n2, n3, n4, Value.cells]
          refine q_on (yi (t := 51) rfl rfl) ?_
          refine q_go (fun w hS => s_move) ?_
          try simp only [opv, n1, n2, n3, n4, Value.cells]
          refine q_on (yi (t := 51) rfl rfl) ?_
          refine q_go (fun w hS => s_len_sl Try.underlying24) ?_
          try simp only [opv, n1, n2, n3, n4, Value.cells]
          refine q_on (yi (t := 51) rfl rfl) ?_
          refine q_go (fun w hS => s_lss) ?_
          try simp only [opv, n1, n2, n3, n4, Value.cells]
          refine q_on (yi (t := 51) rfl rfl) ?_
          refine q_go (fun w hS => s_move) ?_
          try simp only [opv, n1, n2, n3, n4, Value.cells]
          refine q_part 56 rfl (fun hp7 => ?_) (fun hp7 => ?_)
          ·
           try simp only [n3, n4]
           try simp only [decide_eq_true_eq, decide_eq_false_iff_not, Bool.not_eq_true', Bool.not_eq_false', Int.not_lt, Int.not_le, ne_eq, Decidable.not_not] at hp7
           first
           | (exfalso; omega)
           | skip
             have hax : AtomOk x := by rw [← hx]; exact hso.get (by omega)
             have hxl := hax.len
             have hkx := hax.key
             have hvx := hax.val
             refine q_on (yi (t := 56) rfl rfl) ?_
             refine q_go (fun w hS => s_move) ?_
             try simp only [opv, n1, n2, n3, n4, Value.cells]
             refine q_on (yi (t := 56) rfl rfl) ?_
             refine q_go (fun w hS => s_move) ?_
             try simp only [opv, n1, n2, n3, n4, Value.cells]
             refine q_on (yi (t := 56) rfl rfl) ?_
             first | refine q_go (fun w hS => m_indexAddr_rd Try.underlying24 ti39 (hS := hS)) ?_ | refine q_go (fun w hS => m_indexAddr_vec Try.underlying24 ti39 (hS := hS)) ?_
             try simp only [opv, n1, n2, n3, n4, Value.cells, Nat.mul_one, Nat.zero_add, Int.toNat_natCast, Int.reduceToNat]
             refine q_on (yi (t := 56) rfl rfl) ?_
             first | refine q_go (fun w hS => m_fieldAddr Try.underlying39 (hi := ti34)) ?_ | refine q_go (fun w hS => m_fieldAddr_rd Try.underlying39 (hi := ti34) (hS := hS)) ?_ | refine q_go (fun w hS => m_fieldAddr_vec Try.underlying39 (hi := ti34) (hS := hS)) ?_
             try simp only [opv, n1, n2, n3, n4, Value.cells, Nat.zero_add, Nat.add_zero, List.getElem_toArray, List.getElem_cons_zero, List.getElem_cons_succ]
             refine q_on (yi (t := 56) rfl rfl) ?_
             first | refine q_go (fun w hS => m_load_row Try.underlying34 (hi := ti34) (hS := hS) (hfit := by rw [arows_len]; omega)) ?_ | refine q_go (fun w hS => m_loada_obj Try.underlying34 (hi := ti34) (hS := hS) (hfit := by rw [arows_len]; omega)) ?_ | refine q_go (fun w hS => m_loada_bx Try.underlying34 (hi := ti34) (hS := hS) (hfit := by rw [arows_len]; omega)) ?_ | refine q_go (fun w hS => m_loada_rd Try.underlying34 (hi := ti34) (hS := hS) (hfit := by rw [arows_len]; omega)) ?_ | refine q_go (fun w hS => m_loada_vec Try.underlying34 (hi := ti34) (hS := hS) (hfit := by rw [arows_len]; omega)) ?_
             try simp only [opv, n1, n2, n3, n4, Value.cells, List.getElem_toArray, List.getElem_cons_zero, List.getElem_cons_succ]
             rw [arow_key (by omega) hso, hx]
             refine q_on (yi (t := 56) rfl rfl) ?_
             refine q_go (fun w hS => s_move) ?_
             try simp only [opv, n1, n2, n3, n4, Value.cells]
             refine q_on (yi (t := 56) rfl rfl) ?_
             refine q_go (fun w hS => s_move) ?_
             try simp only [opv, n1, n2, n3, n4, Value.cells]
             refine q_on (yi (t := 56) rfl rfl) ?_
             first | refine q_go (fun w hS => m_indexAddr_rd Try.underlying24 ti39 (hS := hS)) ?_ | refine q_go (fun w hS => m_indexAddr_vec Try.underlying24 ti39 (hS := hS)) ?_
             try simp only [opv, n1, n2, n3, n4, Value.cells, Nat.mul_one, Nat.zero_add, Int.toNat_natCast, Int.reduceToNat]
             refine q_on (yi (t := 56) rfl rfl) ?_
             first | refine q_go (fun w hS => m_fieldAddr Try.underlying39 (hi := ti34)) ?_ | refine q_go (fun w hS => m_fieldAddr_rd Try.underlying39 (hi := ti34) (hS := hS)) ?_ | refine q_go (fun w hS => m_fieldAddr_vec Try.underlying39 (hi := ti34) (hS := hS)) ?_
             try simp only [opv, n1, n2, n3, n4, Value.cells, Nat.zero_add, Nat.add_zero, List.getElem_toArray, List.getElem_cons_zero, List.getElem_cons_succ]
             refine q_on (yi (t := 56) rfl rfl) ?_
             first | refine q_go (fun w hS => m_load_row Try.underlying34 (hi := ti34) (hS := hS) (hfit := by rw [arows_len]; omega)) ?_ | refine q_go (fun w hS => m_loada_obj Try.underlying34 (hi := ti34) (hS := hS) (hfit := by rw [arows_len]; omega)) ?_ | refine q_go (fun w hS => m_loada_bx Try.underlying34 (hi := ti34) (hS := hS) (hfit := by rw [arows_len]; omega)) ?_ | refine q_go (fun w hS => m_loada_rd Try.underlying34 (hi := ti34) (hS := hS) (hfit := by rw [arows_len]; omega)) ?_ | refine q_go (fun w hS => m_loada_vec Try.underlying34 (hi := ti34) (hS := hS) (hfit := by rw [arows_len]; omega)) ?_
             try simp only [opv, n1, n2, n3, n4, Value.cells, List.getElem_toArray, List.getElem_cons_zero, List.getElem_cons_succ]
             rw [arow_key (by omega) hto, hy]
             refine q_on (yi (t := 56) rfl rfl) ?_
             apply q_call en116
             case H =>
               intro w hS
               try simp only [opv, n1, n2, n3, n4, List.map_toArray, List.map_cons, List.map_nil, List.append_toArray, List.cons_append, List.nil_append, Array.append_empty]
               refine CallR.mono (c_ref08Less (akey x) (akey y) hkx hky _) ?_
               rintro _ w1 ⟨rfl, hE⟩; exact ⟨rfl, hS.ext hE⟩
             try simp only [opv, n1, n2, n3, n4, Value.cells]
             refine q_on (yi (t := 51) rfl rfl) ?_
             first | refine q_go (fun w hS => s_pick_t) ?_ | refine q_go (fun w hS => s_pick_f) ?_
             try simp only [opv, n1, n2, n3, n4, Value.cells]
             first | refine q_go (fun w hS => s_pick_t) ?_ | refine q_go (fun w hS => s_pick_f) ?_
             try simp only [opv, n1, n2, n3, n4, Value.cells]
             refine q_go (fun w hS => s_assign) ?_
             try simp only [opv, n1, n2, n3, n4, Value.cells]
             clear hS
             refine q_nil fun w39 hS => ?_
             refine hK21 _ _ ?_
             refine x_cond (ht := fun hc11 => ?_) (hf := fun hc11 => ?_)
             ·
              try simp only [decide_eq_true_eq, decide_eq_false_iff_not, Bool.not_eq_true', Bool.not_eq_false', Int.not_lt, Int.not_le, ne_eq, Decidable.not_not, bne_iff_ne, beq_iff_eq, not_true_eq_false, not_false_eq_true] at hc11
              first
              | (exfalso; omega)
              | skip
                try (have hmg := mg_l (s := s) (t := t) (i := i) (k := k) (by omega) hx (.inr ⟨by omega, by rw [hy]; exact hc11⟩))
                have hnx : (o ++ [x]) ++ mergeP (s.drop (i + 1)) (t.drop k) = mergeP s t := by rw [← hmo, hmg, List.append_assoc]; rfl
                refine x_seq fun K23 hK23 => ?_
                refine x_region ?_
                refine s_go (s_move) ?_
                try simp only [opv, n1, n2, n3, n4, Value.cells]
                refine s_go (s_move) ?_
                try simp only [opv, n1, n2, n3, n4, Value.cells]
                refine s_go (s_move) ?_
                try simp only [opv, n1, n2, n3, n4, Value.cells]
                first | refine s_go (m_indexAddr_rd Try.underlying24 ti39 (hS := hS)) ?_ | refine s_go (m_indexAddr_vec Try.underlying24 ti39 (hS := hS)) ?_
                try simp only [opv, n1, n2, n3, n4, Value.cells, Nat.mul_one, Nat.zero_add, Int.toNat_natCast, Int.reduceToNat]
                first | refine s_go (m_load_row Try.underlying39 (hi := ti39) (hS := hS) (hfit := by rw [arows_len]; omega)) ?_ | refine s_go (m_loada_obj Try.underlying39 (hi := ti39) (hS := hS) (hfit := by rw [arows_len]; omega)) ?_ | refine s_go (m_loada_bx Try.underlying39 (hi := ti39) (hS := hS) (hfit := by rw [arows_len]; omega)) ?_ | refine s_go (m_loada_rd Try.underlying39 (hi := ti39) (hS := hS) (hfit := by rw [arows_len]; omega)) ?_ | refine s_go (m_loada_vec Try.underlying39 (hi := ti39) (hS := hS) (hfit := by rw [arows_len]; omega)) ?_
                try simp only [opv, n1, n2, n3, n4, Value.cells, List.getElem_toArray, List.getElem_cons_zero, List.getElem_cons_succ]
                rw [arow_get (by omega) hso, hx]
                refine m_buildRow (cells := (AA x)) Try.underlying24 ti39 (hc := by simp only [List.map_toArray, List.map_cons, List.map_nil, opv, n1, n2, n3, n4, Value.cells, List.toList_toArray]; exact fill_one (by rfl) (zi_size21 hxl) (by rfl)) (hS := hS) (h := fun w40 g40 hS => ?_)
                try simp only [opv, n1, n2, n3, n4, Value.cells, Array.toArray_toList] at hS ⊢
                replace hS := hS.obj_rd (sz := 21) (n := 1) (by exact zi_size21 hxl) .head
                rw [arow_one hxl] at hS
                refine m_append Try.underlying24 ti39 (hS := hS) (h1 := rowsZ_cells _ _) (h := fun w41 A41 C41 hS => ?_)
                try simp only [← List.map_append, ← List.map_drop, ← List.map_take, Nat.mul_one, Nat.zero_mul, Nat.sub_zero, List.drop_zero, List.nil_append, Nat.zero_add] at hS ⊢
                try simp only [opv, n1, n2, n3, n4, Value.cells, Array.toArray_toList] at hS ⊢
                rw [add_one] at hS
                refine s_go (s_assign) ?_
                try simp only [opv, n1, n2, n3, n4, Value.cells]
                refine x_nil ?_
                refine hK23 _ _ ?_
                refine x_region ?_
                refine s_go (s_move) ?_
                try simp only [opv, n1, n2, n3, n4, Value.cells]
                refine s_go (s_add (hc := by first | exact wr_i64 (by omega) (by omega) | rfl)) ?_
                try simp only [opv, n1, n2, n3, n4, Value.cells]
                refine s_go (s_assign) ?_
                try simp only [opv, n1, n2, n3, n4, Value.cells]
                refine x_nil ?_
                refine loop_back (m' := m1 - 1) (by simp only [clob, List.foldl, n1, n2, n3, n4]) ?_ ?_
                · try simp only [opv, n1, n2, n3, n4, Value.cells]
                  exact ⟨_, _, _, _, _, by omega, by omega, by omega, by rfl, by rfl, by simp only [List.length_append, List.length_cons, List.length_nil, Nat.zero_add]; rfl, hnx, by simp only [List.length_append, List.length_cons, List.length_nil, Nat.zero_add]; omega, by simp only [List.length_append, List.length_cons, List.length_nil, Nat.zero_add]; exact hS.sel (by repeat (first | exact Sel.nil | (refine Sel.cons (by repeat (first | exact Del.head | apply Del.tail)) ?_)))⟩
                · omega
             ·
              try simp only [decide_eq_true_eq, decide_eq_false_iff_not, Bool.not_eq_true', Bool.not_eq_false', Int.not_lt, Int.not_le, ne_eq, Decidable.not_not, bne_iff_ne, beq_iff_eq, not_true_eq_false, not_false_eq_true] at hc11
              first
              | (exfalso; omega)
              | skip
                try have hl1 := hc11
                refine x_seq fun K24 hK24 => ?_
                refine x_quiet (by kernel_rfl) (by kernel_rfl) hS ?_
                refine q_go (fun w hS => s_move) ?_
                try simp only [opv, n1, n2, n3, n4, Value.cells]
                refine q_go (fun w hS => s_move) ?_
                try simp only [opv, n1, n2, n3, n4, Value.cells]
                refine q_go (fun w hS => s_len_sl Try.underlying24) ?_
                try simp only [opv, n1, n2, n3, n4, Value.cells]
                refine q_go (fun w hS => s_eql) ?_
                try simp only [opv, n1, n2, n3, n4, Value.cells]
                refine q_go (fun w hS => s_move) ?_
                try simp only [opv, n1, n2, n3, n4, Value.cells]
                refine q_part 84 rfl (fun hp8 => ?_) (fun hp8 => ?_)
                ·
                 try simp only [n3, n4]
                 try simp only [decide_eq_true_eq, decide_eq_false_iff_not, Bool.not_eq_true', Bool.not_eq_false', Int.not_lt, Int.not_le, ne_eq, Decidable.not_not] at hp8
                 first
                 | (exfalso; omega)
                 | skip
                   refine q_off (yi (t := 84) rfl rfl) ?_
                   try simp only [opv, n1, n2, n3, n4, Value.cells]
                   refine q_off (yi (t := 84) rfl rfl) ?_
                   try simp only [opv, n1, n2, n3, n4, Value.cells]
                   refine q_off (yi (t := 84) rfl rfl) ?_
                   try simp only [opv, n1, n2, n3, n4, Value.cells]
                   refine q_off (yi (t := 84) rfl rfl) ?_
                   try simp only [opv, n1, n2, n3, n4, Value.cells]
                   refine q_off (yi (t := 84) rfl rfl) ?_
                   try simp only [opv, n1, n2, n3, n4, Value.cells]
                   refine q_off (yi (t := 84) rfl rfl) ?_
                   try simp only [opv, n1, n2, n3, n4, Value.cells]
                   refine q_off (yi (t := 84) rfl rfl) ?_
                   try simp only [opv, n1, n2, n3, n4, Value.cells]
                   refine q_off (yi (t := 84) rfl rfl) ?_
                   try simp only [opv, n1, n2, n3, n4, Value.cells]
                   refine q_off (yi (t := 84) rfl rfl) ?_
                   try simp only [opv, n1, n2, n3, n4, Value.cells]
                   refine q_off (yi (t := 84) rfl rfl) ?_
                   try simp only [opv, n1, n2, n3, n4, Value.cells]
                   refine q_off (yi (t := 84) rfl rfl) ?_
                   try simp only [opv, n1, n2, n3, n4, Value.cells]
                   first | refine q_go (fun w hS => s_pick_t) ?_ | refine q_go (fun w hS => s_pick_f) ?_
                   try simp only [opv, n1, n2, n3, n4, Value.cells]
                   refine q_go (fun w hS => s_assign) ?_
                   try simp only [opv, n1, n2, n3, n4, Value.cells]
                   clear hS
                   refine q_nil fun w42 hS => ?_
                   refine hK24 _ _ ?_
                   refine x_cond_t (h := ?_)
                   try (have hmg := mg_r (s := s) (t := t) (i := i) (k := k) (by omega) hy (.inr ⟨by omega, by rw [hx]; exact hl1, by rw [hx]; exact @c⟩))
                   have hnx : (o ++ [y]) ++ mergeP (s.drop i) (t.drop (k + 1)) = mergeP s t := by rw [← hmo, hmg, List.append_assoc]; rfl
                   refine x_seq fun K25 hK25 => ?_
                   refine x_region ?_
                   refine s_go (s_move) ?_
                   try simp only [opv, n1, n2, n3, n4, Value.cells]
                   refine s_go (s_move) ?_
                   try simp only [opv, n1, n2, n3, n4, Value.cells]
                   refine s_go (s_move) ?_
                   try simp only [opv, n1, n2, n3, n4, Value.cells]
                   first | refine s_go (m_indexAddr_rd Try.underlying24 ti39 (hS := hS)) ?_ | refine s_go (m_indexAddr_vec Try.underlying24 ti39 (hS := hS)) ?_
                   try simp only [opv, n1, n2, n3, n4, Value.cells, Nat.mul_one, Nat.zero_add, Int.toNat_natCast, Int.reduceToNat]
                   first | refine s_go (m_load_row Try.underlying39 (hi := ti39) (hS := hS) (hfit := by rw [arows_len]; omega)) ?_ | refine s_go (m_loada_obj Try.underlying39 (hi := ti39) (hS := hS) (hfit := by rw [arows_len]; omega)) ?_ | refine s_go (m_loada_bx Try.underlying39 (hi := ti39) (hS := hS) (hfit := by rw [arows_len]; omega)) ?_ | refine s_go (m_loada_rd Try.underlying39 (hi := ti39) (hS := hS) (hfit := by rw [arows_len]; omega)) ?_ | refine s_go (m_loada_vec Try.underlying39 (hi := ti39) (hS := hS) (hfit := by rw [arows_len]; omega)) ?_
                   try simp only [opv, n1, n2, n3, n4, Value.cells, List.getElem_toArray, List.getElem_cons_zero, List.getElem_cons_succ]
                   rw [arow_get (by omega) hto, hy]
                   refine m_buildRow (cells := (AA y)) Try.underlying24 ti39 (hc := by simp only [List.map_toArray, List.map_cons, List.map_nil, opv, n1, n2, n3, n4, Value.cells, List.toList_toArray]; exact fill_one (by rfl) (zi_size21 hyl) (by rfl)) (hS := hS) (h := fun w43 g43 hS => ?_)
                   try simp only [opv, n1, n2, n3, n4, Value.cells, Array.toArray_toList] at hS ⊢
                   replace hS := hS.obj_rd (sz := 21) (n := 1) (by exact zi_size21 hyl) .head
                   rw [arow_one hyl] at hS
                   refine m_append Try.underlying24 ti39 (hS := hS) (h1 := rowsZ_cells _ _) (h := fun w44 A44 C44 hS => ?_)
                   try simp only [← List.map_append, ← List.map_drop, ← List.map_take, Nat.mul_one, Nat.zero_mul, Nat.sub_zero, List.drop_zero, List.nil_append, Nat.zero_add] at hS ⊢
                   try simp only [opv, n1, n2, n3, n4, Value.cells, Array.toArray_toList] at hS ⊢
                   rw [add_one] at hS
                   refine s_go (s_assign) ?_
                   try simp only [opv, n1, n2, n3, n4, Value.cells]
                   refine x_nil ?_
                   refine hK25 _ _ ?_
                   refine x_region ?_
                   refine s_go (s_move) ?_
                   try simp only [opv, n1, n2, n3, n4, Value.cells]
                   refine s_go (s_add (hc := by first | exact wr_i64 (by omega) (by omega) | rfl)) ?_
                   try simp only [opv, n1, n2, n3, n4, Value.cells]
                   refine s_go (s_assign) ?_
                   try simp only [opv, n1, n2, n3, n4, Value.cells]
                   refine x_nil ?_
                   refine loop_back (m' := m1 - 1) (by simp only [clob, List.foldl, n1, n2, n3, n4]) ?_ ?_
                   · try simp only [opv, n1, n2, n3, n4, Value.cells]
                     exact ⟨_, _, _, _, _, by omega, by omega, by omega, by rfl, by rfl, by simp only [List.length_append, List.length_cons, List.length_nil, Nat.zero_add]; rfl, hnx, by simp only [List.length_append, List.length_cons, List.length_nil, Nat.zero_add]; omega, by simp only [List.length_append, List.length_cons, List.length_nil, Nat.zero_add]; exact hS.sel (by repeat (first | exact Sel.nil | (refine Sel.cons (by repeat (first | exact Del.head | apply Del.tail)) ?_)))⟩
                   · omega
                ·
                 try simp only [n3, n4]
                 try simp only [decide_eq_true_eq, decide_eq_false_iff_not, Bool.not_eq_true', Bool.not_eq_false', Int.not_lt, Int.not_le, ne_eq, Decidable.not_not] at hp8
                 first
                 | (exfalso; omega)
                 | skip
                   refine q_on (yi (t := 84) rfl rfl) ?_
                   refine q_go (fun w hS => s_move) ?_
                   try simp only [opv, n1, n2, n3, n4, Value.cells]
                   refine q_on (yi (t := 84) rfl rfl) ?_
                   refine q_go (fun w hS => s_move) ?_
                   try simp only [opv, n1, n2, n3, n4, Value.cells]
                   refine q_on (yi (t := 84) rfl rfl) ?_
                   first | refine q_go (fun w hS => m_indexAddr_rd Try.underlying24 ti39 (hS := hS)) ?_ | refine q_go (fun w hS => m_indexAddr_vec Try.underlying24 ti39 (hS := hS)) ?_
                   try simp only [opv, n1, n2, n3, n4, Value.cells, Nat.mul_one, Nat.zero_add, Int.toNat_natCast, Int.reduceToNat]
                   refine q_on (yi (t := 84) rfl rfl) ?_
                   first | refine q_go (fun w hS => m_fieldAddr Try.underlying39 (hi := ti34)) ?_ | refine q_go (fun w hS => m_fieldAddr_rd Try.underlying39 (hi := ti34) (hS := hS)) ?_ | refine q_go (fun w hS => m_fieldAddr_vec Try.underlying39 (hi := ti34) (hS := hS)) ?_
                   try simp only [opv, n1, n2, n3, n4, Value.cells, Nat.zero_add, Nat.add_zero, List.getElem_toArray, List.getElem_cons_zero, List.getElem_cons_succ]
                   refine q_on (yi (t := 84) rfl rfl) ?_
                   first | refine q_go (fun w hS => m_load_row Try.underlying34 (hi := ti34) (hS := hS) (hfit := by rw [arows_len]; omega)) ?_ | refine q_go (fun w hS => m_loada_obj Try.underlying34 (hi := ti34) (hS := hS) (hfit := by rw [arows_len]; omega)) ?_ | refine q_go (fun w hS => m_loada_bx Try.underlying34 (hi := ti34) (hS := hS) (hfit := by rw [arows_len]; omega)) ?_ | refine q_go (fun w hS => m_loada_rd Try.underlying34 (hi := ti34) (hS := hS) (hfit := by rw [arows_len]; omega)) ?_ | refine q_go (fun w hS => m_loada_vec Try.underlying34 (hi := ti34) (hS := hS) (hfit := by rw [arows_len]; omega)) ?_
                   try simp only [opv, n1, n2, n3, n4, Value.cells, List.getElem_toArray, List.getElem_cons_zero, List.getElem_cons_succ]
                   rw [arow_key (by omega) hto, hy]
                   refine q_on (yi (t := 84) rfl rfl) ?_
                   refine q_go (fun w hS => s_move) ?_
                   try simp only [opv, n1, n2, n3, n4, Value.cells]
                   refine q_on (yi (t := 84) rfl rfl) ?_
                   refine q_go (fun w hS => s_move) ?_
                   try simp only [opv, n1, n2, n3, n4, Value.cells]
                   refine q_on (yi (t := 84) rfl rfl) ?_
                   first | refine q_go (fun w hS => m_indexAddr_rd Try.underlying24 ti39 (hS := hS)) ?_ | refine q_go (fun w hS => m_indexAddr_vec Try.underlying24 ti39 (hS := hS)) ?_
                   try simp only [opv, n1, n2, n3, n4, Value.cells, Nat.mul_one, Nat.zero_add, Int.toNat_natCast, Int.reduceToNat]
                   refine q_on (yi (t := 84) rfl rfl) ?_
                   first | refine q_go (fun w hS => m_fieldAddr Try.underlying39 (hi := ti34)) ?_ | refine q_go (fun w hS => m_fieldAddr_rd Try.underlying39 (hi := ti34) (hS := hS)) ?_ | refine q_go (fun w hS => m_fieldAddr_vec Try.underlying39 (hi := ti34) (hS := hS)) ?_
                   try simp only [opv, n1, n2, n3, n4, Value.cells, Nat.zero_add, Nat.add_zero, List.getElem_toArray, List.getElem_cons_zero, List.getElem_cons_succ]
                   refine q_on (yi (t := 84) rfl rfl) ?_
                   first | refine q_go (fun w hS => m_load_row Try.underlying34 (hi := ti34) (hS := hS) (hfit := by rw [arows_len]; omega)) ?_ | refine q_go (fun w hS => m_loada_obj Try.underlying34 (hi := ti34) (hS := hS) (hfit := by rw [arows_len]; omega)) ?_ | refine q_go (fun w hS => m_loada_bx Try.underlying34 (hi := ti34) (hS := hS) (hfit := by rw [arows_len]; omega)) ?_ | refine q_go (fun w hS => m_loada_rd Try.underlying34 (hi := ti34) (hS := hS) (hfit := by rw [arows_len]; omega)) ?_ | refine q_go (fun w hS => m_loada_vec Try.underlying34 (hi := ti34) (hS := hS) (hfit := by rw [arows_len]; omega)) ?_
                   try simp only [opv, n1, n2, n3, n4, Value.cells, List.getElem_toArray, List.getElem_cons_zero, List.getElem_cons_succ]
                   rw [arow_key (by omega) hso, hx]
                   refine q_on (yi (t := 84) rfl rfl) ?_
                   apply q_call en116
                   case H =>
                     intro w hS
                     try simp only [opv, n1, n2, n3, n4, List.map_toArray, List.map_cons, List.map_nil, List.append_toArray, List.cons_append, List.nil_append, Array.append_empty]
                     refine CallR.mono (c_ref08Less (akey y) (akey x) hky hkx _) ?_
                     rintro _ w1 ⟨rfl, hE⟩; exact ⟨rfl, hS.ext hE⟩
                   try simp only [opv, n1, n2, n3, n4, Value.cells]
                   first | refine q_go (fun w hS => s_pick_t) ?_ | refine q_go (fun w hS => s_pick_f) ?_
                   try simp only [opv, n1, n2, n3, n4, Value.cells]
                   refine q_go (fun w hS => s_assign) ?_
                   try simp only [opv, n1, n2, n3, n4, Value.cells]
                   clear hS
                   refine q_nil fun w45 hS => ?_
                   refine hK24 _ _ ?_
                   refine x_cond (ht := fun hc13 => ?_) (hf := fun hc13 => ?_)
                   ·
                    try simp only [decide_eq_true_eq, decide_eq_false_iff_not, Bool.not_eq_true', Bool.not_eq_false', Int.not_lt, Int.not_le, ne_eq, Decidable.not_not, bne_iff_ne, beq_iff_eq, not_true_eq_false, not_false_eq_true] at hc13
                    first
                    | (exfalso; omega)
                    | skip
                      try (have hmg := mg_r (s := s) (t := t) (i := i) (k := k) (by omega) hy (.inr ⟨by omega, by rw [hx]; exact hl1, by rw [hx]; exact hc13⟩))
                      have hnx : (o ++ [y]) ++ mergeP (s.drop i) (t.drop (k + 1)) = mergeP s t := by rw [← hmo, hmg, List.append_assoc]; rfl
                      refine x_seq fun K26 hK26 => ?_
                      refine x_region ?_
                      refine s_go (s_move) ?_
                      try simp only [opv, n1, n2, n3, n4, Value.cells]
                      refine s_go (s_move) ?_
                      try simp only [opv, n1, n2, n3, n4, Value.cells]
                      refine s_go (s_move) ?_
                      try simp only [opv, n1, n2, n3, n4, Value.cells]
                      first | refine s_go (m_indexAddr_rd Try.underlying24 ti39 (hS := hS)) ?_ | refine s_go (m_indexAddr_vec Try.underlying24 ti39 (hS := hS)) ?_
                      try simp only [opv, n1, n2, n3, n4, Value.cells, Nat.mul_one, Nat.zero_add, Int.toNat_natCast, Int.reduceToNat]
                      first | refine s_go (m_load_row Try.underlying39 (hi := ti39) (hS := hS) (hfit := by rw [arows_len]; omega)) ?_ | refine s_go (m_loada_obj Try.underlying39 (hi := ti39) (hS := hS) (hfit := by rw [arows_len]; omega)) ?_ | refine s_go (m_loada_bx Try.underlying39 (hi := ti39) (hS := hS) (hfit := by rw [arows_len]; omega)) ?_ | refine s_go (m_loada_rd Try.underlying39 (hi := ti39) (hS := hS) (hfit := by rw [arows_len]; omega)) ?_ | refine s_go (m_loada_vec Try.underlying39 (hi := ti39) (hS := hS) (hfit := by rw [arows_len]; omega)) ?_
                      try simp only [opv, n1, n2, n3, n4, Value.cells, List.getElem_toArray, List.getElem_cons_zero, List.getElem_cons_succ]
                      rw [arow_get (by omega) hto, hy]
                      refine m_buildRow (cells := (AA y)) Try.underlying24 ti39 (hc := by simp only [List.map_toArray, List.map_cons, List.map_nil, opv, n1, n2, n3, n4, Value.cells, List.toList_toArray]; exact fill_one (by rfl) (zi_size21 hyl) (by rfl)) (hS := hS) (h := fun w46 g46 hS => ?_)
                      try simp only [opv, n1, n2, n3, n4, Value.cells, Array.toArray_toList] at hS ⊢
                      replace hS := hS.obj_rd (sz := 21) (n := 1) (by exact zi_size21 hyl) .head
                      rw [arow_one hyl] at hS
                      refine m_append Try.underlying24 ti39 (hS := hS) (h1 := rowsZ_cells _ _) (h := fun w47 A47 C47 hS => ?_)
                      try simp only [← List.map_append, ← List.map_drop, ← List.map_take, Nat.mul_one, Nat.zero_mul, Nat.sub_zero, List.drop_zero, List.nil_append, Nat.zero_add] at hS ⊢
                      try simp only [opv, n1, n2, n3, n4, Value.cells, Array.toArray_toList] at hS ⊢
                      rw [add_one] at hS
                      refine s_go (s_assign) ?_
                      try simp only [opv, n1, n2, n3, n4, Value.cells]
                      refine x_nil ?_
                      refine hK26 _ _ ?_
                      refine x_region ?_
                      refine s_go (s_move) ?_
                      try simp only [opv, n1, n2, n3, n4, Value.cells]
                      refine s_go (s_add (hc := by first | exact wr_i64 (by omega) (by omega) | rfl)) ?_
                      try simp only [opv, n1, n2, n3, n4, Value.cells]
                      refine s_go (s_assign) ?_
                      try simp only [opv, n1, n2, n3, n4, Value.cells]
                      refine x_nil ?_
                      refine loop_back (m' := m1 - 1) (by simp only [clob, List.foldl, n1, n2, n3, n4]) ?_ ?_
                      · try simp only [opv, n1, n2, n3, n4, Value.cells]
                        exact ⟨_, _, _, _, _, by omega, by omega, by omega, by rfl, by rfl, by simp only [List.length_append, List.length_cons, List.length_nil, Nat.zero_add]; rfl, hnx, by simp only [List.length_append, List.length_cons, List.length_nil, Nat.zero_add]; omega, by simp only [List.length_append, List.length_cons, List.length_nil, Nat.zero_add]; exact hS.sel (by repeat (first | exact Sel.nil | (refine Sel.cons (by repeat (first | exact Del.head | apply Del.tail)) ?_)))⟩
                      · omega
                   ·
                    try simp only [decide_eq_true_eq, decide_eq_false_iff_not, Bool.not_eq_true', Bool.not_eq_false', Int.not_lt, Int.not_le, ne_eq, Decidable.not_not, bne_iff_ne, beq_iff_eq, not_true_eq_false, not_false_eq_true] at hc13
                    first
                    | (exfalso; omega)
                    | skip
                      have hmg := mg_e (s := s) (t := t) (i := i) (k := k) (by omega) hx (by omega) hy hl1 hc13
                      have hnx : (o ++ [(akey x ++ moreV (aval x) (aval y))]) ++ mergeP (s.drop (i + 1)) (t.drop (k + 1)) = mergeP s t := by rw [← hmo, hmg, List.append_assoc]; rfl
                      have hmo9 := more_ok hvx hvy
                      have hml := hmo9.len
                      have hk12 := hkx.len
                      have hzl : (akey x ++ moreV (aval x) (aval y)).length = 21 := (kv_ok hkx hmo9).len
                      refine x_seq fun K27 hK27 => ?_
                      refine x_mixed_c (Lc := [.rd B2 21 (t).length (arows (t)), .rd B1 21 (s).length (arows (s))]) [] 0 [5, 22, 23, 24, 25, 26, 27, 28, 29, 30, 31, 32, 33, 34, 35, 36, 37, 38, 39, 40, 41] (fun f w => ∃ (C2 : Option Addr) (e2 : Nat), f 5 = .slice C2 (o.length + 1) e2 ∧ St NoB w0 w [.vec C2 e2 39 21 (o.length + 1) (arows (o ++ [(akey x ++ moreV (aval x) (aval y))])), .rd B2 21 (t).length (arows (t)), .rd B1 21 (s).length (arows (s))]) (by kernel_rfl) (by kernel_rfl) (by kernel_rfl) (by decide) hS (fun w48 hS => ?mixpre503) ?mixrest503
                      case mixpre503 =>
                       refine p_nil ?_
                       simp only [List.length_cons, List.length_nil, Nat.reduceAdd, Nat.reduceSub]
                       refine any_go (i := 0) (by rfl) (by decide +kernel) (by decide +kernel) noLate_nil (go_yields w_none (fun w hS => s_move)) ?_
                       try simp only [opv, n1, n2, n3, n4, Value.cells]
                       refine any_go (i := 1) (by rfl) (by decide +kernel) (by decide +kernel) noLate_nil (go_yields w_none (fun w hS => s_move)) ?_
                       try simp only [opv, n1, n2, n3, n4, Value.cells]
                       refine any_go (i := 2) (by rfl) (by decide +kernel) (by decide +kernel) noLate_nil (go_yields w_none (fun w hS => s_move)) ?_
                       try simp only [opv, n1, n2, n3, n4, Value.cells]
                       first | refine any_go (i := 3) (by rfl) (by decide +kernel) (by decide +kernel) noLate_nil (go_yields w_none (fun w hS => m_indexAddr_rd Try.underlying24 ti39 (hS := hS))) ?_ | refine any_go (i := 3) (by rfl) (by decide +kernel) (by decide +kernel) noLate_nil (go_yields w_none (fun w hS => m_indexAddr_vec Try.underlying24 ti39 (hS := hS))) ?_
                       try simp only [opv, n1, n2, n3, n4, Value.cells, Nat.mul_one, Nat.zero_add, Int.toNat_natCast, Int.reduceToNat]
                       first | refine any_go (i := 4) (by rfl) (by decide +kernel) (by decide +kernel) noLate_nil (go_yields w_none (fun w hS => m_fieldAddr Try.underlying39 (hi := ti34))) ?_ | refine any_go (i := 4) (by rfl) (by decide +kernel) (by decide +kernel) noLate_nil (go_yields w_none (fun w hS => m_fieldAddr_rd Try.underlying39 (hi := ti34) (hS := hS))) ?_ | refine any_go (i := 4) (by rfl) (by decide +kernel) (by decide +kernel) noLate_nil (go_yields w_none (fun w hS => m_fieldAddr_vec Try.underlying39 (hi := ti34) (hS := hS))) ?_
                       try simp only [opv, n1, n2, n3, n4, Value.cells, Nat.zero_add, Nat.add_zero, List.getElem_toArray, List.getElem_cons_zero, List.getElem_cons_succ]
                       first | refine any_go (i := 5) (by rfl) (by decide +kernel) (by decide +kernel) noLate_nil (go_yields w_none (fun w hS => m_load_row Try.underlying34 (hi := ti34) (hS := hS) (hfit := by rw [arows_len]; omega))) ?_ | refine any_go (i := 5) (by rfl) (by decide +kernel) (by decide +kernel) noLate_nil (go_yields w_none (fun w hS => m_loada_obj Try.underlying34 (hi := ti34) (hS := hS) (hfit := by rw [arows_len]; omega))) ?_ | refine any_go (i := 5) (by rfl) (by decide +kernel) (by decide +kernel) noLate_nil (go_yields w_none (fun w hS => m_loada_bx Try.underlying34 (hi := ti34) (hS := hS) (hfit := by rw [arows_len]; omega))) ?_ | refine any_go (i := 5) (by rfl) (by decide +kernel) (by decide +kernel) noLate_nil (go_yields w_none (fun w hS => m_loada_rd Try.underlying34 (hi := ti34) (hS := hS) (hfit := by rw [arows_len]; omega))) ?_ | refine any_go (i := 5) (by rfl) (by decide +kernel) (by decide +kernel) noLate_nil (go_yields w_none (fun w hS => m_loada_vec Try.underlying34 (hi := ti34) (hS := hS) (hfit := by rw [arows_len]; omega))) ?_
                       try simp only [opv, n1, n2, n3, n4, Value.cells, List.getElem_toArray, List.getElem_cons_zero, List.getElem_cons_succ]
                       rw [arow_key (by omega) hso, hx]
                       refine any_go (i := 6) (by rfl) (by decide +kernel) (by decide +kernel) noLate_nil (go_yields w_none (fun w hS => s_move)) ?_
                       try simp only [opv, n1, n2, n3, n4, Value.cells]
                       refine any_go (i := 7) (by rfl) (by decide +kernel) (by decide +kernel) noLate_nil (go_yields w_none (fun w hS => s_move)) ?_
                       try simp only [opv, n1, n2, n3, n4, Value.cells]
                       first | refine any_go (i := 8) (by rfl) (by decide +kernel) (by decide +kernel) noLate_nil (go_yields w_none (fun w hS => m_indexAddr_rd Try.underlying24 ti39 (hS := hS))) ?_ | refine any_go (i := 8) (by rfl) (by decide +kernel) (by decide +kernel) noLate_nil (go_yields w_none (fun w hS => m_indexAddr_vec Try.underlying24 ti39 (hS := hS))) ?_
                       try simp only [opv, n1, n2, n3, n4, Value.cells, Nat.mul_one, Nat.zero_add, Int.toNat_natCast, Int.reduceToNat]
                       first | refine any_go (i := 9) (by rfl) (by decide +kernel) (by decide +kernel) noLate_nil (go_yields w_none (fun w hS => m_fieldAddr Try.underlying39 (hi := ti37))) ?_ | refine any_go (i := 9) (by rfl) (by decide +kernel) (by decide +kernel) noLate_nil (go_yields w_none (fun w hS => m_fieldAddr_rd Try.underlying39 (hi := ti37) (hS := hS))) ?_ | refine any_go (i := 9) (by rfl) (by decide +kernel) (by decide +kernel) noLate_nil (go_yields w_none (fun w hS => m_fieldAddr_vec Try.underlying39 (hi := ti37) (hS := hS))) ?_
                       try simp only [opv, n1, n2, n3, n4, Value.cells, Nat.zero_add, Nat.add_zero, List.getElem_toArray, List.getElem_cons_zero, List.getElem_cons_succ]
                       first | refine any_go (i := 10) (by rfl) (by decide +kernel) (by decide +kernel) noLate_nil (go_yields w_none (fun w hS => m_load_row Try.underlying37 (hi := ti37) (hS := hS) (hfit := by rw [arows_len]; omega))) ?_ | refine any_go (i := 10) (by rfl) (by decide +kernel) (by decide +kernel) noLate_nil (go_yields w_none (fun w hS => m_loada_obj Try.underlying37 (hi := ti37) (hS := hS) (hfit := by rw [arows_len]; omega))) ?_ | refine any_go (i := 10) (by rfl) (by decide +kernel) (by decide +kernel) noLate_nil (go_yields w_none (fun w hS => m_loada_bx Try.underlying37 (hi := ti37) (hS := hS) (hfit := by rw [arows_len]; omega))) ?_ | refine any_go (i := 10) (by rfl) (by decide +kernel) (by decide +kernel) noLate_nil (go_yields w_none (fun w hS => m_loada_rd Try.underlying37 (hi := ti37) (hS := hS) (hfit := by rw [arows_len]; omega))) ?_ | refine any_go (i := 10) (by rfl) (by decide +kernel) (by decide +kernel) noLate_nil (go_yields w_none (fun w hS => m_loada_vec Try.underlying37 (hi := ti37) (hS := hS) (hfit := by rw [arows_len]; omega))) ?_
                       try simp only [opv, n1, n2, n3, n4, Value.cells, List.getElem_toArray, List.getElem_cons_zero, List.getElem_cons_succ]
                       rw [arow_val (by omega) hso, hx]
                       refine any_go (i := 11) (by rfl) (by decide +kernel) (by decide +kernel) noLate_nil (go_yields w_none (fun w hS => s_move)) ?_
                       try simp only [opv, n1, n2, n3, n4, Value.cells]
                       refine any_go (i := 12) (by rfl) (by decide +kernel) (by decide +kernel) noLate_nil (go_yields w_none (fun w hS => s_move)) ?_
                       try simp only [opv, n1, n2, n3, n4, Value.cells]
                       first | refine any_go (i := 13) (by rfl) (by decide +kernel) (by decide +kernel) noLate_nil (go_yields w_none (fun w hS => m_indexAddr_rd Try.underlying24 ti39 (hS := hS))) ?_ | refine any_go (i := 13) (by rfl) (by decide +kernel) (by decide +kernel) noLate_nil (go_yields w_none (fun w hS => m_indexAddr_vec Try.underlying24 ti39 (hS := hS))) ?_
                       try simp only [opv, n1, n2, n3, n4, Value.cells, Nat.mul_one, Nat.zero_add, Int.toNat_natCast, Int.reduceToNat]
                       first | refine any_go (i := 14) (by rfl) (by decide +kernel) (by decide +kernel) noLate_nil (go_yields w_none (fun w hS => m_fieldAddr Try.underlying39 (hi := ti37))) ?_ | refine any_go (i := 14) (by rfl) (by decide +kernel) (by decide +kernel) noLate_nil (go_yields w_none (fun w hS => m_fieldAddr_rd Try.underlying39 (hi := ti37) (hS := hS))) ?_ | refine any_go (i := 14) (by rfl) (by decide +kernel) (by decide +kernel) noLate_nil (go_yields w_none (fun w hS => m_fieldAddr_vec Try.underlying39 (hi := ti37) (hS := hS))) ?_
                       try simp only [opv, n1, n2, n3, n4, Value.cells, Nat.zero_add, Nat.add_zero, List.getElem_toArray, List.getElem_cons_zero, List.getElem_cons_succ]
                       first | refine any_go (i := 15) (by rfl) (by decide +kernel) (by decide +kernel) noLate_nil (go_yields w_none (fun w hS => m_load_row Try.underlying37 (hi := ti37) (hS := hS) (hfit := by rw [arows_len]; omega))) ?_ | refine any_go (i := 15) (by rfl) (by decide +kernel) (by decide +kernel) noLate_nil (go_yields w_none (fun w hS => m_loada_obj Try.underlying37 (hi := ti37) (hS := hS) (hfit := by rw [arows_len]; omega))) ?_ | refine any_go (i := 15) (by rfl) (by decide +kernel) (by decide +kernel) noLate_nil (go_yields w_none (fun w hS => m_loada_bx Try.underlying37 (hi := ti37) (hS := hS) (hfit := by rw [arows_len]; omega))) ?_ | refine any_go (i := 15) (by rfl) (by decide +kernel) (by decide +kernel) noLate_nil (go_yields w_none (fun w hS => m_loada_rd Try.underlying37 (hi := ti37) (hS := hS) (hfit := by rw [arows_len]; omega))) ?_ | refine any_go (i := 15) (by rfl) (by decide +kernel) (by decide +kernel) noLate_nil (go_yields w_none (fun w hS => m_loada_vec Try.underlying37 (hi := ti37) (hS := hS) (hfit := by rw [arows_len]; omega))) ?_
                       try simp only [opv, n1, n2, n3, n4, Value.cells, List.getElem_toArray, List.getElem_cons_zero, List.getElem_cons_succ]
                       rw [arow_val (by omega) hto, hy]
                       apply any_go (i := 16) (by rfl) (by decide +kernel) (by decide +kernel) noLate_nil (call_yields w_none en118 ?H3) ?K3
                       case H3 =>
                         intro w hS
                         try simp only [opv, n1, n2, n3, n4, List.map_toArray, List.map_cons, List.map_nil, List.append_toArray, List.cons_append, List.nil_append, Array.append_empty]
                         refine CallR.mono (c_ref09More (aval x) (aval y) hvx hvy _) ?_
                         rintro _ w1 ⟨rfl, hE⟩; exact ⟨rfl, hE⟩
                       try simp only [opv, n1, n2, n3, n4, Value.cells]
                       refine any_go (i := 17) (by rfl) (by decide +kernel) (by decide +kernel) noLate_nil (go_yields w_none (fun w hS => s_build_struct (cells := (AA (akey x ++ moreV (aval x) (aval y)))) Try.underlying39 ti39 bp39 (hc := by simp only [List.map_toArray, List.map_cons, List.map_nil, opv, n1, n2, n3, n4, Value.cells, List.toList_toArray]; exact fill_atom (by rfl) (by rfl) (by rfl) hk12 hml))) ?_
                       try simp only [opv, n1, n2, n3, n4, Value.cells]
                       refine any_step [18] (by kernel_rfl) (by decide) (fun w49 hE => ⟨fun _ => (hS.ext hE).sel (by repeat (first | exact Sel.nil | (refine Sel.cons (by repeat (first | exact Del.head | apply Del.tail)) ?_))), ?_⟩)
                       replace hS := hS.ext hE
                       intro i hi
                       simp only [List.mem_cons, List.not_mem_nil, or_false] at hi
                       subst hi
                       ·
                        refine any_op (by rfl) ?_
                        refine m_buildRow (cells := (AA (akey x ++ moreV (aval x) (aval y)))) Try.underlying24 ti39 (hc := by simp only [List.map_toArray, List.map_cons, List.map_nil, opv, n1, n2, n3, n4, Value.cells, List.toList_toArray]; exact fill_one (by rfl) (zi_size21 hzl) (by rfl)) (hS := hS) (h := fun w50 g50 hS => ?_)
                        try simp only [opv, n1, n2, n3, n4, Value.cells, Array.toArray_toList] at hS ⊢
                        replace hS := hS.obj_rd (sz := 21) (n := 1) (by exact zi_size21 hzl) .head
                        rw [arow_one hzl] at hS
                        refine x_nil ?_
                        refine any_step [19] (by kernel_rfl) (by decide) (fun w51 hE => ⟨fun _ => (hS.ext hE).sel (by repeat (first | exact Sel.nil | (refine Sel.cons (by repeat (first | exact Del.head | apply Del.tail)) ?_))), ?_⟩)
                        replace hS := hS.ext hE
                        intro i hi
                        simp only [List.mem_cons, List.not_mem_nil, or_false] at hi
                        subst hi
                        ·
                         refine any_op (by rfl) ?_
                         refine m_append Try.underlying24 ti39 (hS := hS) (h1 := rowsZ_cells _ _) (h := fun w52 A52 C52 hS => ?_)
                         try simp only [← List.map_append, ← List.map_drop, ← List.map_take, Nat.mul_one, Nat.zero_mul, Nat.sub_zero, List.drop_zero, List.nil_append, Nat.zero_add] at hS ⊢
                         try simp only [opv, n1, n2, n3, n4, Value.cells, Array.toArray_toList] at hS ⊢
                         rw [add_one] at hS
                         refine x_nil ?_
                         refine any_go (i := 20) (by rfl) (by decide +kernel) (by decide +kernel) noLate_nil (go_yields w_none (fun w hS => s_assign)) ?_
                         try simp only [opv, n1, n2, n3, n4, Value.cells]
                         refine any_nil (by kernel_rfl) (fun w53 hE => ?_)
                         replace hS := hS.ext hE
                         refine ⟨fun _ => hS.sel (by repeat (first | exact Sel.nil | (refine Sel.cons (by repeat (first | exact Del.head | apply Del.tail)) ?_))), ?_⟩
                         refine mix_leaf (by simp only [clob, List.foldl, n1, n2, n3, n4]) ?_
                         try simp only [n1, n2]
                         exact ⟨_, _, by first | trivial | rfl, hS.sel (by repeat (first | exact Sel.nil | (refine Sel.cons (by repeat (first | exact Del.head | apply Del.tail)) ?_)))⟩
                      intro fm3 w54 hM
                      obtain ⟨C2, e2, h5, hS⟩ := hM
                      simp only [clob, List.foldl, n3, n4, h5]
                      refine hK27 _ _ ?_
                      refine x_seq fun K28 hK28 => ?_
                      refine x_region ?_
                      refine s_go (s_move) ?_
                      try simp only [opv, n1, n2, n3, n4, Value.cells]
                      refine s_go (s_add (hc := by first | exact wr_i64 (by omega) (by omega) | rfl)) ?_
                      try simp only [opv, n1, n2, n3, n4, Value.cells]
                      refine s_go (s_assign) ?_
                      try simp only [opv, n1, n2, n3, n4, Value.cells]
                      refine x_nil ?_
                      refine hK28 _ _ ?_
                      refine x_region ?_
                      refine s_go (s_move) ?_
                      try simp only [opv, n1, n2, n3, n4, Value.cells]
                      refine s_go (s_add (hc := by first | exact wr_i64 (by omega) (by omega) | rfl)) ?_
                      try simp only [opv, n1, n2, n3, n4, Value.cells]
                      refine s_go (s_assign) ?_
                      try simp only [opv, n1, n2, n3, n4, Value.cells]
                      refine x_nil ?_
                      refine loop_back (m' := m1 - 1) (by simp only [clob, List.foldl, n1, n2, n3, n4]) ?_ ?_
                      · try simp only [opv, n1, n2, n3, n4, Value.cells]
                        exact ⟨_, _, _, _, _, by omega, by omega, by omega, by rfl, by rfl, by simp only [List.length_append, List.length_cons, List.length_nil, Nat.zero_add]; rfl, hnx, by simp only [List.length_append, List.length_cons, List.length_nil, Nat.zero_add]; omega, by simp only [List.length_append, List.length_cons, List.length_nil, Nat.zero_add]; exact hS.sel (by repeat (first | exact Sel.nil | (refine Sel.cons (by repeat (first | exact Del.head | apply Del.tail)) ?_)))⟩
                      · omega
          ·
           try simp only [n3, n4]
           try simp only [decide_eq_true_eq, decide_eq_false_iff_not, Bool.not_eq_true', Bool.not_eq_false', Int.not_lt, Int.not_le, ne_eq, Decidable.not_not] at hp7
           first
           | (exfalso; omega)
           | skip
             have hmg := mg_r (s := s) (t := t) (i := i) (k := k) (by omega) hy (.inl (by omega))
             have hnx : (o ++ [y]) ++ mergeP (s.drop i) (t.drop (k + 1)) = mergeP s t := by rw [← hmo, hmg, List.append_assoc]; rfl
             refine q_off (yi (t := 56) rfl rfl) ?_
             try simp only [opv, n1, n2, n3, n4, Value.cells]
             refine q_off (yi (t := 56) rfl rfl) ?_
             try simp only [opv, n1, n2, n3, n4, Value.cells]
             refine q_off (yi (t := 56) rfl rfl) ?_
             try simp only [opv, n1, n2, n3, n4, Value.cells]
             refine q_off (yi (t := 56) rfl rfl) ?_
             try simp only [opv, n1, n2, n3, n4, Value.cells]
             refine q_off (yi (t := 56) rfl rfl) ?_
             try simp only [opv, n1, n2, n3, n4, Value.cells]
             refine q_off (yi (t := 56) rfl rfl) ?_
             try simp only [opv, n1, n2, n3, n4, Value.cells]
             refine q_off (yi (t := 56) rfl rfl) ?_
             try simp only [opv, n1, n2, n3, n4, Value.cells]
             refine q_off (yi (t := 56) rfl rfl) ?_
             try simp only [opv, n1, n2, n3, n4, Value.cells]
             refine q_off (yi (t := 56) rfl rfl) ?_
             try simp only [opv, n1, n2, n3, n4, Value.cells]
             refine q_off (yi (t := 56) rfl rfl) ?_
             try simp only [opv, n1, n2, n3, n4, Value.cells]
             refine q_off (yi (t := 56) rfl rfl) ?_
             try simp only [opv, n1, n2, n3, n4, Value.cells]
             refine q_on (yi (t := 51) rfl rfl) ?_
             first | refine q_go (fun w hS => s_pick_t) ?_ | refine q_go (fun w hS => s_pick_f) ?_
             try simp only [opv, n1, n2, n3, n4, Value.cells]
             first | refine q_go (fun w hS => s_pick_t) ?_ | refine q_go (fun w hS => s_pick_f) ?_
             try simp only [opv, n1, n2, n3, n4, Value.cells]
             refine q_go (fun w hS => s_assign) ?_
             try simp only [opv, n1, n2, n3, n4, Value.cells]
             clear hS
             refine q_nil fun w55 hS => ?_
             refine hK21 _ _ ?_
             refine x_cond_f (h := ?_)
             try have hl1 := @c
             refine x_seq fun K29 hK29 => ?_
             refine x_quiet (by kernel_rfl) (by kernel_rfl) hS ?_
             refine q_go (fun w hS => s_move) ?_
             try simp only [opv, n1, n2, n3, n4, Value.cells]
             refine q_go (fun w hS => s_move) ?_
             try simp only [opv, n1, n2, n3, n4, Value.cells]
             refine q_go (fun w hS => s_len_sl Try.underlying24) ?_
             try simp only [opv, n1, n2, n3, n4, Value.cells]
             refine q_go (fun w hS => s_eql) ?_
             try simp only [opv, n1, n2, n3, n4, Value.cells]
             refine q_go (fun w hS => s_move) ?_
             try simp only [opv, n1, n2, n3, n4, Value.cells]
             refine q_part 84 rfl (fun hp9 => ?_) (fun hp9 => ?_)
             ·
              try simp only [n3, n4]
              try simp only [decide_eq_true_eq, decide_eq_false_iff_not, Bool.not_eq_true', Bool.not_eq_false', Int.not_lt, Int.not_le, ne_eq, Decidable.not_not] at hp9
              first
              | (exfalso; omega)
              | skip
                refine q_off (yi (t := 84) rfl rfl) ?_
                try simp only [opv, n1, n2, n3, n4, Value.cells]
                refine q_off (yi (t := 84) rfl rfl) ?_
                try simp only [opv, n1, n2, n3, n4, Value.cells]
                refine q_off (yi (t := 84) rfl rfl) ?_
                try simp only [opv, n1, n2, n3, n4, Value.cells]
                refine q_off (yi (t := 84) rfl rfl) ?_
                try simp only [opv, n1, n2, n3, n4, Value.cells]
                refine q_off (yi (t := 84) rfl rfl) ?_
                try simp only [opv, n1, n2, n3, n4, Value.cells]
                refine q_off (yi (t := 84) rfl rfl) ?_
                try simp only [opv, n1, n2, n3, n4, Value.cells]
                refine q_off (yi (t := 84) rfl rfl) ?_
                try simp only [opv, n1, n2, n3, n4, Value.cells]
                refine q_off (yi (t := 84) rfl rfl) ?_
                try simp only [opv, n1, n2, n3, n4, Value.cells]
                refine q_off (yi (t := 84) rfl rfl) ?_
                try simp only [opv, n1, n2, n3, n4, Value.cells]
                refine q_off (yi (t := 84) rfl rfl) ?_
                try simp only [opv, n1, n2, n3, n4, Value.cells]
                refine q_off (yi (t := 84) rfl rfl) ?_
                try simp only [opv, n1, n2, n3, n4, Value.cells]
                first | refine q_go (fun w hS => s_pick_t) ?_ | refine q_go (fun w hS => s_pick_f) ?_
                try simp only [opv, n1, n2, n3, n4, Value.cells]
                refine q_go (fun w hS => s_assign) ?_
                try simp only [opv, n1, n2, n3, n4, Value.cells]
                clear hS
                refine q_nil fun w56 hS => ?_
                refine hK29 _ _ ?_
                refine x_cond_t (h := ?_)
                try (have hmg := mg_r (s := s) (t := t) (i := i) (k := k) (by omega) hy (.inr ⟨by omega, by rw [hx]; exact hl1, by rw [hx]; exact @c⟩))
                have hnx : (o ++ [y]) ++ mergeP (s.drop i) (t.drop (k + 1)) = mergeP s t := by rw [← hmo, hmg, List.append_assoc]; rfl
                refine x_seq fun K30 hK30 => ?_
                refine x_region ?_
                refine s_go (s_move) ?_
                try simp only [opv, n1, n2, n3, n4, Value.cells]
                refine s_go (s_move) ?_
                try simp only [opv, n1, n2, n3, n4, Value.cells]
                refine s_go (s_move) ?_
                try simp only [opv, n1, n2, n3, n4, Value.cells]
                first | refine s_go (m_indexAddr_rd Try.underlying24 ti39 (hS := hS)) ?_ | refine s_go (m_indexAddr_vec Try.underlying24 ti39 (hS := hS)) ?_
                try simp only [opv, n1, n2, n3, n4, Value.cells, Nat.mul_one, Nat.zero_add, Int.toNat_natCast, Int.reduceToNat]
                first | refine s_go (m_load_row Try.underlying39 (hi := ti39) (hS := hS) (hfit := by rw [arows_len]; omega)) ?_ | refine s_go (m_loada_obj Try.underlying39 (hi := ti39) (hS := hS) (hfit := by rw [arows_len]; omega)) ?_ | refine s_go (m_loada_bx Try.underlying39 (hi := ti39) (hS := hS) (hfit := by rw [arows_len]; omega)) ?_ | refine s_go (m_loada_rd Try.underlying39 (hi := ti39) (hS := hS) (hfit := by rw [arows_len]; omega)) ?_ | refine s_go (m_loada_vec Try.underlying39 (hi := ti39) (hS := hS) (hfit := by rw [arows_len]; omega)) ?_
                try simp only [opv, n1, n2, n3, n4, Value.cells, List.getElem_toArray, List.getElem_cons_zero, List.getElem_cons_succ]
                rw [arow_get (by omega) hto, hy]
                refine m_buildRow (cells := (AA y)) Try.underlying24 ti39 (hc := by simp only [List.map_toArray, List.map_cons, List.map_nil, opv, n1, n2, n3, n4, Value.cells, List.toList_toArray]; exact fill_one (by rfl) (zi_size21 hyl) (by rfl)) (hS := hS) (h := fun w57 g57 hS => ?_)
                try simp only [opv, n1, n2, n3, n4, Value.cells, Array.toArray_toList] at hS ⊢
                replace hS := hS.obj_rd (sz := 21) (n := 1) (by exact zi_size21 hyl) .head
                rw [arow_one hyl] at hS
                refine m_append Try.underlying24 ti39 (hS := hS) (h1 := rowsZ_cells _ _) (h := fun w58 A58 C58 hS => ?_)
                try simp only [← List.map_append, ← List.map_drop, ← List.map_take, Nat.mul_one, Nat.zero_mul, Nat.sub_zero, List.drop_zero, List.nil_append, Nat.zero_add] at hS ⊢
                try simp only [opv, n1, n2, n3, n4, Value.cells, Array.toArray_toList] at hS ⊢
                rw [add_one] at hS
                refine s_go (s_assign) ?_
                try simp only [opv, n1, n2, n3, n4, Value.cells]
                refine x_nil ?_
                refine hK30 _ _ ?_
                refine x_region ?_
                refine s_go (s_move) ?_
                try simp only [opv, n1, n2, n3, n4, Value.cells]
                refine s_go (s_add (hc := by first | exact wr_i64 (by omega) (by omega) | rfl)) ?_
                try simp only [opv, n1, n2, n3, n4, Value.cells]
                refine s_go (s_assign) ?_
                try simp only [opv, n1, n2, n3, n4, Value.cells]
                refine x_nil ?_
                refine loop_back (m' := m1 - 1) (by simp only [clob, List.foldl, n1, n2, n3, n4]) ?_ ?_
                · try simp only [opv, n1, n2, n3, n4, Value.cells]
                  exact ⟨_, _, _, _, _, by omega, by omega, by omega, by rfl, by rfl, by simp only [List.length_append, List.length_cons, List.length_nil, Nat.zero_add]; rfl, hnx, by simp only [List.length_append, List.length_cons, List.length_nil, Nat.zero_add]; omega, by simp only [List.length_append, List.length_cons, List.length_nil, Nat.zero_add]; exact hS.sel (by repeat (first | exact Sel.nil | (refine Sel.cons (by repeat (first | exact Del.head | apply Del.tail)) ?_)))⟩
                · omega
             ·
              try simp only [n3, n4]
              try simp only [decide_eq_true_eq, decide_eq_false_iff_not, Bool.not_eq_true', Bool.not_eq_false', Int.not_lt, Int.not_le, ne_eq, Decidable.not_not] at hp9
              first
              | (exfalso; omega)
              | skip
                refine q_on (yi (t := 84) rfl rfl) ?_
                refine q_go (fun w hS => s_move) ?_
                try simp only [opv, n1, n2, n3, n4, Value.cells]
                refine q_on (yi (t := 84) rfl rfl) ?_
                refine q_go (fun w hS => s_move) ?_
                try simp only [opv, n1, n2, n3, n4, Value.cells]
                refine q_on (yi (t := 84) rfl rfl) ?_
                first | refine q_go (fun w hS => m_indexAddr_rd Try.underlying24 ti39 (hS := hS)) ?_ | refine q_go (fun w hS => m_indexAddr_vec Try.underlying24 ti39 (hS := hS)) ?_
                try simp only [opv, n1, n2, n3, n4, Value.cells, Nat.mul_one, Nat.zero_add, Int.toNat_natCast, Int.reduceToNat]
                refine q_on (yi (t := 84) rfl rfl) ?_
                first | refine q_go (fun w hS => m_fieldAddr Try.underlying39 (hi := ti34)) ?_ | refine q_go (fun w hS => m_fieldAddr_rd Try.underlying39 (hi := ti34) (hS := hS)) ?_ | refine q_go (fun w hS => m_fieldAddr_vec Try.underlying39 (hi := ti34) (hS := hS)) ?_
                try simp only [opv, n1, n2, n3, n4, Value.cells, Nat.zero_add, Nat.add_zero, List.getElem_toArray, List.getElem_cons_zero, List.getElem_cons_succ]
                refine q_on (yi (t := 84) rfl rfl) ?_
                first | refine q_go (fun w hS => m_load_row Try.underlying34 (hi := ti34) (hS := hS) (hfit := by rw [arows_len]; omega)) ?_ | refine q_go (fun w hS => m_loada_obj Try.underlying34 (hi := ti34) (hS := hS) (hfit := by rw [arows_len]; omega)) ?_ | refine q_go (fun w hS => m_loada_bx Try.underlying34 (hi := ti34) (hS := hS) (hfit := by rw [arows_len]; omega)) ?_ | refine q_go (fun w hS => m_loada_rd Try.underlying34 (hi := ti34) (hS := hS) (hfit := by rw [arows_len]; omega)) ?_ | refine q_go (fun w hS => m_loada_vec Try.underlying34 (hi := ti34) (hS := hS) (hfit := by rw [arows_len]; omega)) ?_
                try simp only [opv, n1, n2, n3, n4, Value.cells, List.getElem_toArray, List.getElem_cons_zero, List.getElem_cons_succ]
                rw [arow_key (by omega) hto, hy]
                refine q_on (yi (t := 84) rfl rfl) ?_
                refine q_go (fun w hS => s_move) ?_
                try simp only [opv, n1, n2, n3, n4, Value.cells]
                refine q_on (yi (t := 84) rfl rfl) ?_
                refine q_go (fun w hS => s_move) ?_
                try simp only [opv, n1, n2, n3, n4, Value.cells]
                refine q_on (yi (t := 84) rfl rfl) ?_
                first | refine q_go (fun w hS => m_indexAddr_rd Try.underlying24 ti39 (hS := hS)) ?_ | refine q_go (fun w hS => m_indexAddr_vec Try.underlying24 ti39 (hS := hS)) ?_
                try simp only [opv, n1, n2, n3, n4, Value.cells, Nat.mul_one, Nat.zero_add, Int.toNat_natCast, Int.reduceToNat]
                refine q_on (yi (t := 84) rfl rfl) ?_
                first | refine q_go (fun w hS => m_fieldAddr Try.underlying39 (hi := ti34)) ?_ | refine q_go (fun w hS => m_fieldAddr_rd Try.underlying39 (hi := ti34) (hS := hS)) ?_ | refine q_go (fun w hS => m_fieldAddr_vec Try.underlying39 (hi := ti34) (hS := hS)) ?_
                try simp only [opv, n1, n2, n3, n4, Value.cells, Nat.zero_add, Nat.add_zero, List.getElem_toArray, List.getElem_cons_zero, List.getElem_cons_succ]
                refine q_on (yi (t := 84) rfl rfl) ?_
                first | refine q_go (fun w hS => m_load_row Try.underlying34 (hi := ti34) (hS := hS) (hfit := by rw [arows_len]; omega)) ?_ | refine q_go (fun w hS => m_loada_obj Try.underlying34 (hi := ti34) (hS := hS) (hfit := by rw [arows_len]; omega)) ?_ | refine q_go (fun w hS => m_loada_bx Try.underlying34 (hi := ti34) (hS := hS) (hfit := by rw [arows_len]; omega)) ?_ | refine q_go (fun w hS => m_loada_rd Try.underlying34 (hi := ti34) (hS := hS) (hfit := by rw [arows_len]; omega)) ?_ | refine q_go (fun w hS => m_loada_vec Try.underlying34 (hi := ti34) (hS := hS) (hfit := by rw [arows_len]; omega)) ?_
                try simp only [opv, n1, n2, n3, n4, Value.cells, List.getElem_toArray, List.getElem_cons_zero, List.getElem_cons_succ]
                rw [arow_key (by omega) hso, hx]
                refine q_on (yi (t := 84) rfl rfl) ?_
                apply q_call en116
                case H =>
                  intro w hS
                  try simp only [opv, n1, n2, n3, n4, List.map_toArray, List.map_cons, List.map_nil, List.append_toArray, List.cons_append, List.nil_append, Array.append_empty]
                  refine CallR.mono (c_ref08Less (akey y) (akey x) hky hkx _) ?_
                  rintro _ w1 ⟨rfl, hE⟩; exact ⟨rfl, hS.ext hE⟩
                try simp only [opv, n1, n2, n3, n4, Value.cells]
                first | refine q_go (fun w hS => s_pick_t) ?_ | refine q_go (fun w hS => s_pick_f) ?_
                try simp only [opv, n1, n2, n3, n4, Value.cells]
                refine q_go (fun w hS => s_assign) ?_
                try simp only [opv, n1, n2, n3, n4, Value.cells]
                clear hS
                refine q_nil fun w59 hS => ?_
                refine hK29 _ _ ?_
                refine x_cond (ht := fun hc16 => ?_) (hf := fun hc16 => ?_)
                ·
                 try simp only [decide_eq_true_eq, decide_eq_false_iff_not, Bool.not_eq_true', Bool.not_eq_false', Int.not_lt, Int.not_le, ne_eq, Decidable.not_not, bne_iff_ne, beq_iff_eq, not_true_eq_false, not_false_eq_true] at hc16
                 first
                 | (exfalso; omega)
                 | skip
                   try (have hmg := mg_r (s := s) (t := t) (i := i) (k := k) (by omega) hy (.inr ⟨by omega, by rw [hx]; exact hl1, by rw [hx]; exact hc16⟩))
                   have hnx : (o ++ [y]) ++ mergeP (s.drop i) (t.drop (k + 1)) = mergeP s t := by rw [← hmo, hmg, List.append_assoc]; rfl
                   refine x_seq fun K31 hK31 => ?_
                   refine x_region ?_
                   refine s_go (s_move) ?_
                   try simp only [opv, n1, n2, n3, n4, Value.cells]
                   refine s_go (s_move) ?_
                   try simp only [opv, n1, n2, n3, n4, Value.cells]
                   refine s_go (s_move) ?_
                   try simp only [opv, n1, n2, n3, n4, Value.cells]
                   first | refine s_go (m_indexAddr_rd Try.underlying24 ti39 (hS := hS)) ?_ | refine s_go (m_indexAddr_vec Try.underlying24 ti39 (hS := hS)) ?_
                   try simp only [opv, n1, n2, n3, n4, Value.cells, Nat.mul_one, Nat.zero_add, Int.toNat_natCast, Int.reduceToNat]
                   first | refine s_go (m_load_row Try.underlying39 (hi := ti39) (hS := hS) (hfit := by rw [arows_len]; omega)) ?_ | refine s_go (m_loada_obj Try.underlying39 (hi := ti39) (hS := hS) (hfit := by rw [arows_len]; omega)) ?_ | refine s_go (m_loada_bx Try.underlying39 (hi := ti39) (hS := hS) (hfit := by rw [arows_len]; omega)) ?_ | refine s_go (m_loada_rd Try.underlying39 (hi := ti39) (hS := hS) (hfit := by rw [arows_len]; omega)) ?_ | refine s_go (m_loada_vec Try.underlying39 (hi := ti39) (hS := hS) (hfit := by rw [arows_len]; omega)) ?_
                   try simp only [opv, n1, n2, n3, n4, Value.cells, List.getElem_toArray, List.getElem_cons_zero, List.getElem_cons_succ]
                   rw [arow_get (by omega) hto, hy]
                   refine m_buildRow (cells := (AA y)) Try.underlying24 ti39 (hc := by simp only [List.map_toArray, List.map_cons, List.map_nil, opv, n1, n2, n3, n4, Value.cells, List.toList_toArray]; exact fill_one (by rfl) (zi_size21 hyl) (by rfl)) (hS := hS) (h := fun w60 g60 hS => ?_)
                   try simp only [opv, n1, n2, n3, n4, Value.cells, Array.toArray_toList] at hS ⊢
                   replace hS := hS.obj_rd (sz := 21) (n := 1) (by exact zi_size21 hyl) .head
                   rw [arow_one hyl] at hS
                   refine m_append Try.underlying24 ti39 (hS := hS) (h1 := rowsZ_cells _ _) (h := fun w61 A61 C61 hS => ?_)
                   try simp only [← List.map_append, ← List.map_drop, ← List.map_take, Nat.mul_one, Nat.zero_mul, Nat.sub_zero, List.drop_zero, List.nil_append, Nat.zero_add] at hS ⊢
                   try simp only [opv, n1, n2, n3, n4, Value.cells, Array.toArray_toList] at hS ⊢
                   rw [add_one] at hS
                   refine s_go (s_assign) ?_
                   try simp only [opv, n1, n2, n3, n4, Value.cells]
                   refine x_nil ?_
                   refine hK31 _ _ ?_
                   refine x_region ?_
                   refine s_go (s_move) ?_
                   try simp only [opv, n1, n2, n3, n4, Value.cells]
                   refine s_go (s_add (hc := by first | exact wr_i64 (by omega) (by omega) | rfl)) ?_
                   try simp only [opv, n1, n2, n3, n4, Value.cells]
                   refine s_go (s_assign) ?_
                   try simp only [opv, n1, n2, n3, n4, Value.cells]
                   refine x_nil ?_
                   refine loop_back (m' := m1 - 1) (by simp only [clob, List.foldl, n1, n2, n3, n4]) ?_ ?_
                   · try simp only [opv, n1, n2, n3, n4, Value.cells]
                     exact ⟨_, _, _, _, _, by omega, by omega, by omega, by rfl, by rfl, by simp only [List.length_append, List.length_cons, List.length_nil, Nat.zero_add]; rfl, hnx, by simp only [List.length_append, List.length_cons, List.length_nil, Nat.zero_add]; omega, by simp only [List.length_append, List.length_cons, List.length_nil, Nat.zero_add]; exact hS.sel (by repeat (first | exact Sel.nil | (refine Sel.cons (by repeat (first | exact Del.head | apply Del.tail)) ?_)))⟩
                   · omega
                ·
                 try simp only [decide_eq_true_eq, decide_eq_false_iff_not, Bool.not_eq_true', Bool.not_eq_false', Int.not_lt, Int.not_le, ne_eq, Decidable.not_not, bne_iff_ne, beq_iff_eq, not_true_eq_false, not_false_eq_true] at hc16
                 first
                 | (exfalso; omega)
                 | skip
                   have hmg := mg_e (s := s) (t := t) (i := i) (k := k) (by omega) hx (by omega) hy hl1 hc16
                   have hnx : (o ++ [(akey x ++ moreV (aval x) (aval y))]) ++ mergeP (s.drop (i + 1)) (t.drop (k + 1)) = mergeP s t := by rw [← hmo, hmg, List.append_assoc]; rfl
                   have hmo9 := more_ok hvx hvy
                   have hml := hmo9.len
                   have hk12 := hkx.len
                   have hzl : (akey x ++ moreV (aval x) (aval y)).length = 21 := (kv_ok hkx hmo9).len
                   refine x_seq fun K32 hK32 => ?_
                   refine x_mixed_c (Lc := [.rd B2 21 (t).length (arows (t)), .rd B1 21 (s).length (arows (s))]) [] 0 [5, 22, 23, 24, 25, 26, 27, 28, 29, 30, 31, 32, 33, 34, 35, 36, 37, 38, 39, 40, 41] (fun f w => ∃ (C2 : Option Addr) (e2 : Nat), f 5 = .slice C2 (o.length + 1) e2 ∧ St NoB w0 w [.vec C2 e2 39 21 (o.length + 1) (arows (o ++ [(akey x ++ moreV (aval x) (aval y))])), .rd B2 21 (t).length (arows (t)), .rd B1 21 (s).length (arows (s))]) (by kernel_rfl) (by kernel_rfl) (by kernel_rfl) (by decide) hS (fun w62 hS => ?mixpre504) ?mixrest504
                   case mixpre504 =>
                    refine p_nil ?_
                    simp only [List.length_cons, List.length_nil, Nat.reduceAdd, Nat.reduceSub]
                    refine any_go (i := 0) (by rfl) (by decide +kernel) (by decide +kernel) noLate_nil (go_yields w_none (fun w hS => s_move)) ?_
                    try simp only [opv, n1, n2, n3, n4, Value.cells]
                    refine any_go (i := 1) (by rfl) (by decide +kernel) (by decide +kernel) noLate_nil (go_yields w_none (fun w hS => s_move)) ?_
                    try simp only [opv, n1, n2, n3, n4, Value.cells]
                    refine any_go (i := 2) (by rfl) (by decide +kernel) (by decide +kernel) noLate_nil (go_yields w_none (fun w hS => s_move)) ?_
                    try simp only [opv, n1, n2, n3, n4, Value.cells]
                    first | refine any_go (i := 3) (by rfl) (by decide +kernel) (by decide +kernel) noLate_nil (go_yields w_none (fun w hS => m_indexAddr_rd Try.underlying24 ti39 (hS := hS))) ?_ | refine any_go (i := 3) (by rfl) (by decide +kernel) (by decide +kernel) noLate_nil (go_yields w_none (fun w hS => m_indexAddr_vec Try.underlying24 ti39 (hS := hS))) ?_
                    try simp only [opv, n1, n2, n3, n4, Value.cells, Nat.mul_one, Nat.zero_add, Int.toNat_natCast, Int.reduceToNat]
                    first | refine any_go (i := 4) (by rfl) (by decide +kernel) (by decide +kernel) noLate_nil (go_yields w_none (fun w hS => m_fieldAddr Try.underlying39 (hi := ti34))) ?_ | refine any_go (i := 4) (by rfl) (by decide +kernel) (by decide +kernel) noLate_nil (go_yields w_none (fun w hS => m_fieldAddr_rd Try.underlying39 (hi := ti34) (hS := hS))) ?_ | refine any_go (i := 4) (by rfl) (by decide +kernel) (by decide +kernel) noLate_nil (go_yields w_none (fun w hS => m_fieldAddr_vec Try.underlying39 (hi := ti34) (hS := hS))) ?_
                    try simp only [opv, n1, n2, n3, n4, Value.cells, Nat.zero_add, Nat.add_zero, List.getElem_toArray, List.getElem_cons_zero, List.getElem_cons_succ]
                    first | refine any_go (i := 5) (by rfl) (by decide +kernel) (by decide +kernel) noLate_nil (go_yields w_none (fun w hS => m_load_row Try.underlying34 (hi := ti34) (hS := hS) (hfit := by rw [arows_len]; omega))) ?_ | refine any_go (i := 5) (by rfl) (by decide +kernel) (by decide +kernel) noLate_nil (go_yields w_none (fun w hS => m_loada_obj Try.underlying34 (hi := ti34) (hS := hS) (hfit := by rw [arows_len]; omega))) ?_ | refine any_go (i := 5) (by rfl) (by decide +kernel) (by decide +kernel) noLate_nil (go_yields w_none (fun w hS => m_loada_bx Try.underlying34 (hi := ti34) (hS := hS) (hfit := by rw [arows_len]; omega))) ?_ | refine any_go (i := 5) (by rfl) (by decide +kernel) (by decide +kernel) noLate_nil (go_yields w_none (fun w hS => m_loada_rd Try.underlying34 (hi := ti34) (hS := hS) (hfit := by rw [arows_len]; omega))) ?_ | refine any_go (i := 5) (by rfl) (by decide +kernel) (by decide +kernel) noLate_nil (go_yields w_none (fun w hS => m_loada_vec Try.underlying34 (hi := ti34) (hS := hS) (hfit := by rw [arows_len]; omega))) ?_
                    try simp only [opv, n1, n2, n3, n4, Value.cells, List.getElem_toArray, List.getElem_cons_zero, List.getElem_cons_succ]
                    rw [arow_key (by omega) hso, hx]
                    refine any_go (i := 6) (by rfl) (by decide +kernel) (by decide +kernel) noLate_nil (go_yields w_none (fun w hS => s_move)) ?_
                    try simp only [opv, n1, n2, n3, n4, Value.cells]
                    refine any_go (i := 7) (by rfl) (by decide +kernel) (by decide +kernel) noLate_nil (go_yields w_none (fun w hS => s_move)) ?_
                    try simp only [opv, n1, n2, n3, n4, Value.cells]
                    first | refine any_go (i := 8) (by rfl) (by decide +kernel) (by decide +kernel) noLate_nil (go_yields w_none (fun w hS => m_indexAddr_rd Try.underlying24 ti39 (hS := hS))) ?_ | refine any_go (i := 8) (by rfl) (by decide +kernel) (by decide +kernel) noLate_nil (go_yields w_none (fun w hS => m_indexAddr_vec Try.underlying24 ti39 (hS := hS))) ?_
                    try simp only [opv, n1, n2, n3, n4, Value.cells, Nat.mul_one, Nat.zero_add, Int.toNat_natCast, Int.reduceToNat]
                    first | refine any_go (i := 9) (by rfl) (by decide +kernel) (by decide +kernel) noLate_nil (go_yields w_none (fun w hS => m_fieldAddr Try.underlying39 (hi := ti37))) ?_ | refine any_go (i := 9) (by rfl) (by decide +kernel) (by decide +kernel) noLate_nil (go_yields w_none (fun w hS => m_fieldAddr_rd Try.underlying39 (hi := ti37) (hS := hS))) ?_ | refine any_go (i := 9) (by rfl) (by decide +kernel) (by decide +kernel) noLate_nil (go_yields w_none (fun w hS => m_fieldAddr_vec Try.underlying39 (hi := ti37) (hS := hS))) ?_
                    try simp only [opv, n1, n2, n3, n4, Value.cells, Nat.zero_add, Nat.add_zero, List.getElem_toArray, List.getElem_cons_zero, List.getElem_cons_succ]
                    first | refine any_go (i := 10) (by rfl) (by decide +kernel) (by decide +kernel) noLate_nil (go_yields w_none (fun w hS => m_load_row Try.underlying37 (hi := ti37) (hS := hS) (hfit := by rw [arows_len]; omega))) ?_ | refine any_go (i := 10) (by rfl) (by decide +kernel) (by decide +kernel) noLate_nil (go_yields w_none (fun w hS => m_loada_obj Try.underlying37 (hi := ti37) (hS := hS) (hfit := by rw [arows_len]; omega))) ?_ | refine any_go (i := 10) (by rfl) (by decide +kernel) (by decide +kernel) noLate_nil (go_yields w_none (fun w hS => m_loada_bx Try.underlying37 (hi := ti37) (hS := hS) (hfit := by rw [arows_len]; omega))) ?_ | refine any_go (i := 10) (by rfl) (by decide +kernel) (by decide +kernel) noLate_nil (go_yields w_none (fun w hS => m_loada_rd Try.underlying37 (hi := ti37) (hS := hS) (hfit := by rw [arows_len]; omega))) ?_ | refine any_go (i := 10) (by rfl) (by decide +kernel) (by decide +kernel) noLate_nil (go_yields w_none (fun w hS => m_loada_vec Try.underlying37 (hi := ti37) (hS := hS) (hfit := by rw [arows_len]; omega))) ?_
                    try simp only [opv, n1, n2, n3, n4, Value.cells, List.getElem_toArray, List.getElem_cons_zero, List.getElem_cons_succ]
                    rw [arow_val (by omega) hso, hx]
                    refine any_go (i := 11) (by rfl) (by decide +kernel) (by decide +kernel) noLate_nil (go_yields w_none (fun w hS => s_move)) ?_
                    try simp only [opv, n1, n2, n3, n4, Value.cells]
                    refine any_go (i := 12) (by rfl) (by decide +kernel) (by decide +kernel) noLate_nil (go_yields w_none (fun w hS => s_move)) ?_
                    try simp only [opv, n1, n2, n3, n4, Value.cells]
                    first | refine any_go (i := 13) (by rfl) (by decide +kernel) (by decide +kernel) noLate_nil (go_yields w_none (fun w hS => m_indexAddr_rd Try.underlying24 ti39 (hS := hS))) ?_ | refine any_go (i := 13) (by rfl) (by decide +kernel) (by decide +kernel) noLate_nil (go_yields w_none (fun w hS => m_indexAddr_vec Try.underlying24 ti39 (hS := hS))) ?_
                    try simp only [opv, n1, n2, n3, n4, Value.cells, Nat.mul_one, Nat.zero_add, Int.toNat_natCast, Int.reduceToNat]
                    first | refine any_go (i := 14) (by rfl) (by decide +kernel) (by decide +kernel) noLate_nil (go_yields w_none (fun w hS => m_fieldAddr Try.underlying39 (hi := ti37))) ?_ | refine any_go (i := 14) (by rfl) (by decide +kernel) (by decide +kernel) noLate_nil (go_yields w_none (fun w hS => m_fieldAddr_rd Try.underlying39 (hi := ti37) (hS := hS))) ?_ | refine any_go (i := 14) (by rfl) (by decide +kernel) (by decide +kernel) noLate_nil (go_yields w_none (fun w hS => m_fieldAddr_vec Try.underlying39 (hi := ti37) (hS := hS))) ?_
                    try simp only [opv, n1, n2, n3, n4, Value.cells, Nat.zero_add, Nat.add_zero, List.getElem_toArray, List.getElem_cons_zero, List.getElem_cons_succ]
                    first | refine any_go (i := 15) (by rfl) (by decide +kernel) (by decide +kernel) noLate_nil (go_yields w_none (fun w hS => m_load_row Try.underlying37 (hi := ti37) (hS := hS) (hfit := by rw [arows_len]; omega))) ?_ | refine any_go (i := 15) (by rfl) (by decide +kernel) (by decide +kernel) noLate_nil (go_yields w_none (fun w hS => m_loada_obj Try.underlying37 (hi := ti37) (hS := hS) (hfit := by rw [arows_len]; omega))) ?_ | refine any_go (i := 15) (by rfl) (by decide +kernel) (by decide +kernel) noLate_nil (go_yields w_none (fun w hS => m_loada_bx Try.underlying37 (hi := ti37) (hS := hS) (hfit := by rw [arows_len]; omega))) ?_ | refine any_go (i := 15) (by rfl) (by decide +kernel) (by decide +kernel) noLate_nil (go_yields w_none (fun w hS => m_loada_rd Try.underlying37 (hi := ti37) (hS := hS) (hfit := by rw [arows_len]; omega))) ?_ | refine any_go (i := 15) (by rfl) (by decide +kernel) (by decide +kernel) noLate_nil (go_yields w_none (fun w hS => m_loada_vec Try.underlying37 (hi := ti37) (hS := hS) (hfit := by rw [arows_len]; omega))) ?_
                    try simp only [opv, n1, n2, n3, n4, Value.cells, List.getElem_toArray, List.getElem_cons_zero, List.getElem_cons_succ]
                    rw [arow_val (by omega) hto, hy]
                    apply any_go (i := 16) (by rfl) (by decide +kernel) (by decide +kernel) noLate_nil (call_yields w_none en118 ?H4) ?K4
                    case H4 =>
                      intro w hS
                      try simp only [opv, n1, n2, n3, n4, List.map_toArray, List.map_cons, List.map_nil, List.append_toArray, List.cons_append, List.nil_append, Array.append_empty]
                      refine CallR.mono (c_ref09More (aval x) (aval y) hvx hvy _) ?_
                      rintro _ w1 ⟨rfl, hE⟩; exact ⟨rfl, hE⟩
                    try simp only [opv, n1, n2, n3, n4, Value.cells]
                    refine any_go (i := 17) (by rfl) (by decide +kernel) (by decide +kernel) noLate_nil (go_yields w_none (fun w hS => s_build_struct (cells := (AA (akey x ++ moreV (aval x) (aval y)))) Try.underlying39 ti39 bp39 (hc := by simp only [List.map_toArray, List.map_cons, List.map_nil, opv, n1, n2, n3, n4, Value.cells, List.toList_toArray]; exact fill_atom (by rfl) (by rfl) (by rfl) hk12 hml))) ?_
                    try simp only [opv, n1, n2, n3, n4, Value.cells]
                    refine any_step [18] (by kernel_rfl) (by decide) (fun w63 hE => ⟨fun _ => (hS.ext hE).sel (by repeat (first | exact Sel.nil | (refine Sel.cons (by repeat (first | exact Del.head | apply Del.tail)) ?_))), ?_⟩)
                    replace hS := hS.ext hE
                    intro i hi
                    simp only [List.mem_cons, List.not_mem_nil, or_false] at hi
                    subst hi
                    ·
                     refine any_op (by rfl) ?_
                     refine m_buildRow (cells := (AA (akey x ++ moreV (aval x) (aval y)))) Try.underlying24 ti39 (hc := by simp only [List.map_toArray, List.map_cons, List.map_nil, opv, n1, n2, n3, n4, Value.cells, List.toList_toArray]; exact fill_one (by rfl) (zi_size21 hzl) (by rfl)) (hS := hS) (h := fun w64 g64 hS => ?_)
                     try simp only [opv, n1, n2, n3, n4, Value.cells, Array.toArray_toList] at hS ⊢
                     replace hS := hS.obj_rd (sz := 21) (n := 1) (by exact zi_size21 hzl) .head
                     rw [arow_one hzl] at hS
                     refine x_nil ?_
                     refine any_step [19] (by kernel_rfl) (by decide) (fun w65 hE => ⟨fun _ => (hS.ext hE).sel (by repeat (first | exact Sel.nil | (refine Sel.cons (by repeat (first | exact Del.head | apply Del.tail)) ?_))), ?_⟩)
                     replace hS := hS.ext hE
                     intro i hi
                     simp only [List.mem_cons, List.not_mem_nil, or_false] at hi
                     subst hi
                     ·
                      refine any_op (by rfl) ?_
                      refine m_append Try.underlying24 ti39 (hS := hS) (h1 := rowsZ_cells _ _) (h := fun w66 A66 C66 hS => ?_)
                      try simp only [← List.map_append, ← List.map_drop, ← List.map_take, Nat.mul_one, Nat.zero_mul, Nat.sub_zero, List.drop_zero, List.nil_append, Nat.zero_add] at hS ⊢
                      try simp only [opv, n1, n2, n3, n4, Value.cells, Array.toArray_toList] at hS ⊢
                      rw [add_one] at hS
                      refine x_nil ?_
                      refine any_go (i := 20) (by rfl) (by decide +kernel) (by decide +kernel) noLate_nil (go_yields w_none (fun w hS => s_assign)) ?_
                      try simp only [opv, n1, n2, n3, n4, Value.cells]
                      refine any_nil (by kernel_rfl) (fun w67 hE => ?_)
                      replace hS := hS.ext hE
                      refine ⟨fun _ => hS.sel (by repeat (first | exact Sel.nil | (refine Sel.cons (by repeat (first | exact Del.head | apply Del.tail)) ?_))), ?_⟩
                      refine mix_leaf (by simp only [clob, List.foldl, n1, n2, n3, n4]) ?_
                      try simp only [n1, n2]
                      exact ⟨_, _, by first | trivial | rfl, hS.sel (by repeat (first | exact Sel.nil | (refine Sel.cons (by repeat (first | exact Del.head | apply Del.tail)) ?_)))⟩
                   intro fm4 w68 hM
                   obtain ⟨C2, e2, h5, hS⟩ := hM
                   simp only [clob, List.foldl, n3, n4, h5]
                   refine hK32 _ _ ?_
                   refine x_seq fun K33 hK33 => ?_
                   refine x_region ?_
                   refine s_go (s_move) ?_
                   try simp only [opv, n1, n2, n3, n4, Value.cells]
                   refine s_go (s_add (hc := by first | exact wr_i64 (by omega) (by omega) | rfl)) ?_
                   try simp only [opv, n1, n2, n3, n4, Value.cells]
                   refine s_go (s_assign) ?_
                   try simp only [opv, n1, n2, n3, n4, Value.cells]
                   refine x_nil ?_
                   refine hK33 _ _ ?_
                   refine x_region ?_
                   refine s_go (s_move) ?_
                   try simp only [opv, n1, n2, n3, n4, Value.cells]
                   refine s_go (s_add (hc := by first | exact wr_i64 (by omega) (by omega) | rfl)) ?_
                   try simp only [opv, n1, n2, n3, n4, Value.cells]
                   refine s_go (s_assign) ?_
                   try simp only [opv, n1, n2, n3, n4, Value.cells]
                   refine x_nil ?_
                   refine loop_back (m' := m1 - 1) (by simp only [clob, List.foldl, n1, n2, n3, n4]) ?_ ?_
                   · try simp only [opv, n1, n2, n3, n4, Value.cells]
                     exact ⟨_, _, _, _, _, by omega, by omega, by omega, by rfl, by rfl, by simp only [List.length_append, List.length_cons, List.length_nil, Nat.zero_add]; rfl, hnx, by simp only [List.length_append, List.length_cons, List.length_nil, Nat.zero_add]; omega, by simp only [List.length_append, List.length_cons, List.length_nil, Nat.zero_add]; exact hS.sel (by repeat (first | exact Sel.nil | (refine Sel.cons (by repeat (first | exact Del.head | apply Del.tail)) ?_)))⟩
                   · omega
    ·
     try simp only [decide_eq_true_eq, decide_eq_false_iff_not, Bool.not_eq_true', Bool.not_eq_false', Int.not_lt, Int.not_le, ne_eq, Decidable.not_not, bne_iff_ne, beq_iff_eq, not_true_eq_false, not_false_eq_true] at hc9
     first
     | (exfalso; omega)
     | skip
       obtain rfl : i = s.length := by omega
       obtain rfl : k = t.length := by omega
       rw [List.drop_of_length_le (Nat.le_refl _), List.drop_of_length_le (Nat.le_refl _), merge_nil, List.append_nil] at hmo
       rw [hmg0] at hmo
       refine x_exit (look_here ?_)
       refine hK5 _ _ ?_
       refine x_seq fun K34 hK34 => ?_
       refine x_region ?_
       refine s_go (s_move) ?_
       try simp only [opv, n1, n2, n3, n4, Value.cells]
       refine s_go (s_assign) ?_
       try simp only [opv, n1, n2, n3, n4, Value.cells]
       refine x_nil ?_
       refine hK34 _ _ ?_
       refine x_ret ?_
       refine r_tmp rfl ?_
       rw [← hmo]
       exact ⟨_, _, rfl, hS.sel (by repeat (first | exact Sel.nil | (refine Sel.cons (by repeat (first | exact Del.head | apply Del.tail)) ?_)))⟩
end Go.Proofs.Ytmgacmkikefpjaa
set_option linter.unusedSimpArgs false
set_option linter.unusedVariables false
set_option maxHeartbeats 1000000
set_option maxRecDepth 100000
namespace Go.Proofs.Ytmgacmkikefpjaa
open Go.RowKit

theorem meetA_some {t : List (List Int)} {x v : List Int} (h : fnd (akey x) t = some v) : meetA t x = some (akey x ++ lessV (aval x) v) := by rw [meetA, h]; rfl
theorem meet_tk {s t : List (List Int)} {k : Nat} {x v : List Int} (hk : k < s.length) (hx : s.getD k [] = x) (hf : fnd (akey x) t = some v) : meetP (s.take (k + 1)) t = meetP (s.take k) t ++ [akey x ++ lessV (aval x) v] := by
  rw [meet_take hk, hx, meetA_some hf]; rfl
theorem leqA_val {t : List (List Int)} {x v : List Int} (h : fnd (akey x) t = some v) : leqA t x = overV v (aval x) := by rw [leqA, h]
theorem leqA_non {t : List (List Int)} {x : List Int} (h : fnd (akey x) t = none) : leqA t x = false := by rw [leqA, h]

theorem c_ref10Meet (w0 : World) (A : Option Addr) (c : Nat) (l : List (List Int)) (hr : Rd w0 A 21 l.length (arows l)) (hv : AOks l) (B : Option Addr) (d : Nat) (r : List (List Int)) (hr2 : Rd w0 B 21 r.length (arows r)) (hv2 : AOks r) (hn : l.length + r.length ≤ 1000000000)  :
    CallR Try.prog 36 #[.slice A l.length c, .slice B r.length d] w0 fun v w' => ∃ A c, v = .slice A (meetP (normP l) (normP r)).length c ∧ St NoB w0 w' [.vec A c 39 21 (meetP (normP l) (normP r)).length (arows (meetP (normP l) (normP r)))] := by
 have hS := St.rd2 (S := NoB) hr hr2
 have h9l : v9.length = 9 := rfl
 refine c_enter (l := [.slice A l.length c, .slice B r.length d, undef, undef, undef, undef, undef, undef, undef, undef, undef, undef, undef, undef, undef, undef, undef, undef, undef, undef, undef, undef, undef, undef, undef, undef, undef, undef, undef, undef, undef, undef, undef, undef, undef, undef, undef, undef, undef, undef, undef, undef, undef, undef, undef, undef, undef, undef, undef, undef, undef, undef, undef, undef, undef, undef]) Try.func36 rfl (by simp only [Try.ntmps36, List.size_toArray, List.length_cons, List.length_nil, Nat.reduceAdd, Nat.reduceSub, Array.replicate_succ, Array.replicate_zero, List.push_toArray, List.append_toArray, List.nil_append, List.cons_append]) ?_
 refine x_seq fun K1 hK1 => ?_
 refine x_region ?_
 refine s_go (s_assign) ?_
 try simp only [opv, n1, n2, n3, n4, Value.cells]
 refine x_nil ?_
 refine hK1 _ _ ?_
 refine x_seq fun K2 hK2 => ?_
 refine x_region ?_
 refine s_go (s_move) ?_
 try simp only [opv, n1, n2, n3, n4, Value.cells]
 refine s_call en32 ?_
 try simp only [opv, n1, n2, n3, n4, Value.cells, List.map_toArray, List.map_cons, List.map_nil, List.append_toArray, List.cons_append, List.nil_append, Array.append_empty]
 refine CallR.mono (c_ref10Norm _ A c l (hS.hasRd (by repeat (first | exact Has.head | apply Has.tail))) hv (by omega)) ?_
 rintro _ w1 ⟨B1, d1, rfl, hR1⟩
 replace hS := hS.back hR1
 try simp only [opv, n1, n2, n3, n4, Value.cells]
 refine s_go (s_move) ?_
 try simp only [opv, n1, n2, n3, n4, Value.cells]
 refine s_call en32 ?_
 try simp only [opv, n1, n2, n3, n4, Value.cells, List.map_toArray, List.map_cons, List.map_nil, List.append_toArray, List.cons_append, List.nil_append, Array.append_empty]
 refine CallR.mono (c_ref10Norm _ B d r (hS.hasRd (by repeat (first | exact Has.head | apply Has.tail))) hv2 (by omega)) ?_
 rintro _ w2 ⟨B2, d2, rfl, hR2⟩
 replace hS := hS.back hR2
 try simp only [opv, n1, n2, n3, n4, Value.cells]
 try simp only [hsl]
 obtain ⟨s, hsl⟩ : ∃ s, normP l = s := ⟨_, rfl⟩
 obtain ⟨t, htl⟩ : ∃ t, normP r = t := ⟨_, rfl⟩
 have hsn := norm_len l
 have htn := norm_len r
 have hss := norm_sta hv
 have hts := norm_sta hv2
 have hmg0 := merge_norm hv hv2
 rw [hsl] at hS hsn hss hmg0
 rw [htl] at hS htn hts hmg0
 have hso := hss.ok
 have hto := hts.ok
 have hsl2 := arows_len s
 have htl2 := arows_len t
 try simp only [hsl, htl]
 refine s_go (s_assign) ?_
 try simp only [opv, n1, n2, n3, n4, Value.cells]
 refine s_go (s_assign) ?_
 try simp only [opv, n1, n2, n3, n4, Value.cells]
 refine x_nil ?_
 refine hK2 _ _ ?_
 refine x_seq fun K3 hK3 => ?_
 refine x_region ?_
 replace hS := hS.nil_vec 39 21
 refine s_go (s_assign) ?_
 try simp only [opv, n1, n2, n3, n4, Value.cells]
 refine x_nil ?_
 refine hK3 _ _ ?_
 refine x_seq fun K4 hK4 => ?_
 refine x_seq fun K5 hK5 => ?_
 refine x_region ?_
 refine s_go (s_assign) ?_
 try simp only [opv, n1, n2, n3, n4, Value.cells]
 refine x_nil ?_
 refine hK5 _ _ ?_
 refine x_block ?_
 refine x_loop [5, 6, 7, 8, 13, 14, 15, 16, 17, 18, 19, 20, 21, 22, 23, 24, 25, 26, 27, 28, 29, 30, 31, 32, 33, 34, 35, 36, 37, 38, 39, 40, 41, 42, 43, 44, 45, 46, 47, 48, 49, 50, 51, 52, 53, 54] (fun m f w => ∃ (k : Nat) (C : Option Addr) (e : Nat), k ≤ s.length ∧ m = s.length - k ∧ f 6 = .int .i64 (k : Int) ∧ f 5 = .slice C (meetP (s.take k) t).length e ∧ St NoB w0 w [.vec C e 39 21 (meetP (s.take k) t).length (arows (meetP (s.take k) t)), .rd B2 21 (t).length (arows (t)), .rd B1 21 (s).length (arows (s))]) (s.length) ?init1 (fun m1 f1 wl1 hI => ?_)
 case init1 =>
  try simp only [opv, n1, n2, n3, n4, Value.cells]
  exact ⟨0, none, 0, by omega, rfl, rfl, rfl, hS.sel (by repeat (first | exact Sel.nil | (refine Sel.cons (by repeat (first | exact Del.head | apply Del.tail)) ?_)))⟩
 obtain ⟨k, C, e, hk0, hm, h6, h5, hS⟩ := hI
 simp only [clob, List.foldl, n3, n4, h6, h5]
 obtain ⟨x, hx⟩ : ∃ x, s.getD k [] = x := ⟨_, rfl⟩
 have hml := meet_len (s.take k) t
 have hmt : (s.take k).length ≤ s.length := by rw [List.length_take]; omega
 refine x_seq fun K6 hK6 => ?_
 refine x_seq fun K7 hK7 => ?_
 refine x_region ?_
 refine s_go (s_move) ?_
 try simp only [opv, n1, n2, n3, n4, Value.cells]
 refine s_go (s_move) ?_
 try simp only [opv, n1, n2, n3, n4, Value.cells]
 refine s_go (s_len_sl Try.underlying24) ?_
 try simp only [opv, n1, n2, n3, n4, Value.cells]
 refine s_go (s_lss) ?_
 try simp only [opv, n1, n2, n3, n4, Value.cells]
 refine x_nil ?_
 refine hK7 _ _ ?_
 refine x_cond (ht := fun hc1 => ?_) (hf := fun hc1 => ?_)
 ·
  try simp only [decide_eq_true_eq, decide_eq_false_iff_not, Bool.not_eq_true', Bool.not_eq_false', Int.not_lt, Int.not_le, ne_eq, Decidable.not_not, bne_iff_ne, beq_iff_eq, not_true_eq_false, not_false_eq_true] at hc1
  have hax : AtomOk x := by rw [← hx]; exact hso.get (by omega)
  have hxl := hax.len
  have hkx := hax.key
  have hvx := hax.val
  have hk12 := hkx.len
  refine x_skip ?_
  refine hK6 _ _ ?_
  refine x_seq fun K8 hK8 => ?_
  refine x_block ?_
  refine x_seq fun K9 hK9 => ?_
  refine x_region ?_
  refine s_go (s_move) ?_
  try simp only [opv, n1, n2, n3, n4, Value.cells]
  refine s_go (s_move) ?_
  try simp only [opv, n1, n2, n3, n4, Value.cells]
  refine s_go (s_move) ?_
  try simp only [opv, n1, n2, n3, n4, Value.cells]
  first | refine s_go (m_indexAddr_rd Try.underlying24 ti39 (hS := hS)) ?_ | refine s_go (m_indexAddr_vec Try.underlying24 ti39 (hS := hS)) ?_
  try simp only [opv, n1, n2, n3, n4, Value.cells, Nat.mul_one, Nat.zero_add, Int.toNat_natCast, Int.reduceToNat]
  first | refine s_go (m_fieldAddr Try.underlying39 (hi := ti34)) ?_ | refine s_go (m_fieldAddr_rd Try.underlying39 (hi := ti34) (hS := hS)) ?_ | refine s_go (m_fieldAddr_vec Try.underlying39 (hi := ti34) (hS := hS)) ?_
  try simp only [opv, n1, n2, n3, n4, Value.cells, Nat.zero_add, Nat.add_zero, List.getElem_toArray, List.getElem_cons_zero, List.getElem_cons_succ]
  first | refine s_go (m_load_row Try.underlying34 (hi := ti34) (hS := hS) (hfit := by rw [arows_len]; omega)) ?_ | refine s_go (m_loada_obj Try.underlying34 (hi := ti34) (hS := hS) (hfit := by rw [arows_len]; omega)) ?_ | refine s_go (m_loada_bx Try.underlying34 (hi := ti34) (hS := hS) (hfit := by rw [arows_len]; omega)) ?_ | refine s_go (m_loada_rd Try.underlying34 (hi := ti34) (hS := hS) (hfit := by rw [arows_len]; omega)) ?_ | refine s_go (m_loada_vec Try.underlying34 (hi := ti34) (hS := hS) (hfit := by rw [arows_len]; omega)) ?_
  try simp only [opv, n1, n2, n3, n4, Value.cells, List.getElem_toArray, List.getElem_cons_zero, List.getElem_cons_succ]
  rw [arow_key (by omega) hso, hx]
  refine s_call en113 ?_
  try simp only [opv, n1, n2, n3, n4, Value.cells, List.map_toArray, List.map_cons, List.map_nil, List.append_toArray, List.cons_append, List.nil_append, Array.append_empty]
  refine CallR.mono (c_ref10find _ B2 d2 t (hS.hasRd (by repeat (first | exact Has.head | apply Has.tail))) hto (by omega) (akey x) hkx) ?_
  rintro _ w3 ⟨rfl, hE3⟩
  replace hS := hS.ext hE3
  try simp only [opv, n1, n2, n3, n4, Value.cells]
  refine s_go (s_move) ?_
  try simp only [opv, n1, n2, n3, n4, Value.cells]
  refine s_go (s_extract (hv := rfl)) ?_
  try simp only [List.getElem_toArray, List.getElem_cons_zero, List.getElem_cons_succ]
  try simp only [opv, n1, n2, n3, n4, Value.cells]
  refine s_go (s_extract (hv := rfl)) ?_
  try simp only [List.getElem_toArray, List.getElem_cons_zero, List.getElem_cons_succ]
  try simp only [opv, n1, n2, n3, n4, Value.cells]
  refine m_alloc ti37 hS (fun w4 g4 hS => ?_)
  try simp only [opv, n1, n2, n3, n4, Value.cells, Array.toArray_toList] at hS ⊢
  have hfl9 := (fndD_ok (k := akey x) hto).len
  replace hS : St _ _ w4 (.obj g4 (.cells (VA v9) 37 (0, 0)) :: _) := hS
  obtain ⟨g7, hg7⟩ : ∃ z, z = g4 := ⟨_, rfl⟩
  rw [← hg7] at hS ⊢
  first | refine m_store_obj ti37 (hS := hS) (hc := by first | exact zi_set rfl (by omega) | exact zi_whole (by omega) (by omega) | (first | exact splice_ic (by first | omega | (simp [*]; done) | (simp [*]; omega)) | exact splice_il (by first | omega | (simp [*]; done) | (simp [*]; omega)) | exact splice_whole (by first | (simp [opv, Value.cells, *]; done) | rfl) | (simp only [opv, n1, n2, Value.cells, splice, List.take_succ_cons, List.take_zero, List.drop_succ_cons, List.drop_zero, List.length_cons, List.length_nil, Nat.zero_add, Nat.reduceAdd, List.append_assoc, List.cons_append, List.nil_append]; rfl))) (hv := by first | rfl | (show (zi _ _).toArray.size = _; rw [zi_size (by omega)]; rfl) | (simp [opv, Value.cells, *]; done)) (hfit := by first | omega | (rw [zi_size (by omega)]; first | rfl | decide) | (simp only [ic_size, List.length_map, List.size_toArray]; first | omega | decide) | rfl | (simp [*]; done) | (simp [*]; omega)) (h1 := by first | exact zi_one _ _ | exact ic_one _ _ | simp [opv, Value.cells, Value.oneCell']) (h := fun w5 hS => ?_) | refine m_store_vec ti37 (hS := hS) (hc := by first | exact zi_set rfl (by omega) | exact zi_whole (by omega) (by omega) | (first | exact splice_ic (by first | omega | (simp [*]; done) | (simp [*]; omega)) | exact splice_il (by first | omega | (simp [*]; done) | (simp [*]; omega)) | exact splice_whole (by first | (simp [opv, Value.cells, *]; done) | rfl) | (simp only [opv, n1, n2, Value.cells, splice, List.take_succ_cons, List.take_zero, List.drop_succ_cons, List.drop_zero, List.length_cons, List.length_nil, Nat.zero_add, Nat.reduceAdd, List.append_assoc, List.cons_append, List.nil_append]; rfl))) (hv := by first | rfl | (show (zi _ _).toArray.size = _; rw [zi_size (by omega)]; rfl) | (simp [opv, Value.cells, *]; done)) (hfit := by first | omega | (rw [zi_size (by omega)]; first | rfl | decide) | (simp only [ic_size, List.length_map, List.size_toArray]; first | omega | decide) | rfl | (simp [*]; done) | (simp [*]; omega)) (h1 := by first | exact zi_one _ _ | exact ic_one _ _ | simp [opv, Value.cells, Value.oneCell']) (h := fun w5 hS => ?_)
  try simp only [opv, n1, n2, n3, n4, Value.cells, Array.toArray_toList] at hS ⊢
  refine s_go (s_assign) ?_
  try simp only [opv, n1, n2, n3, n4, Value.cells]
  refine x_nil ?_
  refine hK9 _ _ ?_
  refine x_seq fun K10 hK10 => ?_
  refine x_seq fun K11 hK11 => ?_
  refine x_region ?_
  refine s_go (s_move) ?_
  try simp only [opv, n1, n2, n3, n4, Value.cells]
  refine s_go (s_not) ?_
  try simp only [opv, n1, n2, n3, n4, Value.cells]
  refine x_nil ?_
  refine hK11 _ _ ?_
  refine x_cond (ht := fun hc2 => ?_) (hf := fun hc2 => ?_)
  ·
   try simp only [decide_eq_true_eq, decide_eq_false_iff_not, Bool.not_eq_true', Bool.not_eq_false', Int.not_lt, Int.not_le, ne_eq, Decidable.not_not, bne_iff_ne, beq_iff_eq, not_true_eq_false, not_false_eq_true] at hc2
   have hst := meet_skip (t := t) (by omega) hx (is_none (o := fnd (akey x) t) (by simpa using hc2))
   refine x_exit (look_here ?_)
   refine hK8 _ _ ?_
   refine x_region ?_
   refine s_go (s_move) ?_
   try simp only [opv, n1, n2, n3, n4, Value.cells]
   refine s_go (s_add (hc := by first | exact wr_i64 (by omega) (by omega) | rfl)) ?_
   try simp only [opv, n1, n2, n3, n4, Value.cells]
   refine s_go (s_assign) ?_
   try simp only [opv, n1, n2, n3, n4, Value.cells]
   refine x_nil ?_
   refine loop_back (m' := s.length - (k + 1)) (by simp only [clob, List.foldl, n1, n2, n3, n4]) ?_ ?_
   · try simp only [opv, n1, n2, n3, n4, Value.cells]
     first
     | exact ⟨k + 1, _, _, by omega, by omega, by rfl, by rw [hst], by rw [hst]; exact hS.sel (by repeat (first | exact Sel.nil | (refine Sel.cons (by repeat (first | exact Del.head | apply Del.tail)) ?_)))⟩
     | exact ⟨k + 1, _, _, by omega, by omega, by rfl, by rw [hst, List.length_append]; rfl, by rw [hst, List.length_append]; exact hS.sel (by repeat (first | exact Sel.nil | (refine Sel.cons (by repeat (first | exact Del.head | apply Del.tail)) ?_)))⟩
   · omega
  ·
   try simp only [decide_eq_true_eq, decide_eq_false_iff_not, Bool.not_eq_true', Bool.not_eq_false', Int.not_lt, Int.not_le, ne_eq, Decidable.not_not, bne_iff_ne, beq_iff_eq, not_true_eq_false, not_false_eq_true] at hc2
   have hfs := is_some (d := v9) (show (fnd (akey x) t).isSome = true by simpa using hc2)
   have hwo : ValOk ((fnd (akey x) t).getD v9) := fndD_ok hto
   obtain ⟨u, hu⟩ : ∃ u, (fnd (akey x) t).getD v9 = u := ⟨_, rfl⟩
   rw [hu] at hfs hwo hS
   have hul := hwo.len
   refine x_skip ?_
   refine hK10 _ _ ?_
   refine x_seq fun K12 hK12 => ?_
   refine x_quiet (by kernel_rfl) (by kernel_rfl) hS ?_
   refine q_go (fun w hS => s_move) ?_
   try simp only [opv, n1, n2, n3, n4, Value.cells]
   refine q_go (fun w hS => s_move) ?_
   try simp only [opv, n1, n2, n3, n4, Value.cells]
   first | refine q_go (fun w hS => m_indexAddr_rd Try.underlying24 ti39 (hS := hS)) ?_ | refine q_go (fun w hS => m_indexAddr_vec Try.underlying24 ti39 (hS := hS)) ?_
   try simp only [opv, n1, n2, n3, n4, Value.cells, Nat.mul_one, Nat.zero_add, Int.toNat_natCast, Int.reduceToNat]
   first | refine q_go (fun w hS => m_fieldAddr Try.underlying39 (hi := ti37)) ?_ | refine q_go (fun w hS => m_fieldAddr_rd Try.underlying39 (hi := ti37) (hS := hS)) ?_ | refine q_go (fun w hS => m_fieldAddr_vec Try.underlying39 (hi := ti37) (hS := hS)) ?_
   try simp only [opv, n1, n2, n3, n4, Value.cells, Nat.zero_add, Nat.add_zero, List.getElem_toArray, List.getElem_cons_zero, List.getElem_cons_succ]
   first | refine q_go (fun w hS => m_load_row Try.underlying37 (hi := ti37) (hS := hS) (hfit := by rw [arows_len]; omega)) ?_ | refine q_go (fun w hS => m_loada_obj Try.underlying37 (hi := ti37) (hS := hS) (hfit := by rw [arows_len]; omega)) ?_ | refine q_go (fun w hS => m_loada_bx Try.underlying37 (hi := ti37) (hS := hS) (hfit := by rw [arows_len]; omega)) ?_ | refine q_go (fun w hS => m_loada_rd Try.underlying37 (hi := ti37) (hS := hS) (hfit := by rw [arows_len]; omega)) ?_ | refine q_go (fun w hS => m_loada_vec Try.underlying37 (hi := ti37) (hS := hS) (hfit := by rw [arows_len]; omega)) ?_
   try simp only [opv, n1, n2, n3, n4, Value.cells, List.getElem_toArray, List.getElem_cons_zero, List.getElem_cons_succ]
   rw [arow_val (by omega) hso, hx]
   first | refine q_go (fun w hS => m_load_row Try.underlying37 (hi := ti37) (hS := hS) (hfit := by first | omega | (rw [zi_size (by omega)]; first | rfl | decide) | (simp only [ic_size, List.length_map, List.size_toArray]; first | omega | decide) | rfl | (simp [*]; done) | (simp [*]; omega))) ?_ | refine q_go (fun w hS => m_loada_obj Try.underlying37 (hi := ti37) (hS := hS) (hfit := by first | omega | (rw [zi_size (by omega)]; first | rfl | decide) | (simp only [ic_size, List.length_map, List.size_toArray]; first | omega | decide) | rfl | (simp [*]; done) | (simp [*]; omega))) ?_ | refine q_go (fun w hS => m_loada_bx Try.underlying37 (hi := ti37) (hS := hS) (hfit := by first | omega | (rw [zi_size (by omega)]; first | rfl | decide) | (simp only [ic_size, List.length_map, List.size_toArray]; first | omega | decide) | rfl | (simp [*]; done) | (simp [*]; omega))) ?_ | refine q_go (fun w hS => m_loada_rd Try.underlying37 (hi := ti37) (hS := hS) (hfit := by first | omega | (rw [zi_size (by omega)]; first | rfl | decide) | (simp only [ic_size, List.length_map, List.size_toArray]; first | omega | decide) | rfl | (simp [*]; done) | (simp [*]; omega))) ?_ | refine q_go (fun w hS => m_loada_vec Try.underlying37 (hi := ti37) (hS := hS) (hfit := by first | omega | (rw [zi_size (by omega)]; first | rfl | decide) | (simp only [ic_size, List.length_map, List.size_toArray]; first | omega | decide) | rfl | (simp [*]; done) | (simp [*]; omega))) ?_
   try simp only [opv, n1, n2, n3, n4, Value.cells, List.getElem_toArray, List.getElem_cons_zero, List.getElem_cons_succ]
   apply q_call en120
   case H =>
     intro w hS
     try simp only [opv, n1, n2, n3, n4, List.map_toArray, List.map_cons, List.map_nil, List.append_toArray, List.cons_append, List.nil_append, Array.append_empty]
     refine CallR.mono (c_ref09Over (aval x) u hvx hwo _) ?_
     rintro _ w1 ⟨rfl, hE⟩; exact ⟨rfl, hS.ext hE⟩
   try simp only [opv, n1, n2, n3, n4, Value.cells]
   clear hS
   refine q_nil fun w6 hS => ?_
   refine hK12 _ _ ?_
   refine x_cond (ht := fun hc3 => ?_) (hf := fun hc3 => ?_)
   ·
    try simp only [decide_eq_true_eq, decide_eq_false_iff_not, Bool.not_eq_true', Bool.not_eq_false', Int.not_lt, Int.not_le, ne_eq, Decidable.not_not, bne_iff_ne, beq_iff_eq, not_true_eq_false, not_false_eq_true] at hc3
    have hst := meet_tk (t := t) (by omega) hx hfs
    rw [lessV, if_pos hc3] at hst
    have hzl : (akey x ++ u).length = 21 := (kv_ok hkx hwo).len
    refine x_mixed_c (Lc := [.obj g7 (.cells (VA u) 37 (0, 0)), .rd B2 21 (t).length (arows (t)), .rd B1 21 (s).length (arows (s))]) [] 0 [5, 38, 39, 40, 41, 42, 43, 44, 45, 46, 47] (fun f w => ∃ (C2 : Option Addr) (e2 : Nat), f 5 = .slice C2 ((meetP (s.take k) t).length + 1) e2 ∧ St NoB w0 w [.vec C2 e2 39 21 ((meetP (s.take k) t).length + 1) (arows ((meetP (s.take k) t) ++ [(akey x ++ u)])), .rd B2 21 (t).length (arows (t)), .rd B1 21 (s).length (arows (s))]) (by kernel_rfl) (by kernel_rfl) (by kernel_rfl) (by decide) hS (fun w7 hS => ?mixpre901) ?mixrest901
    case mixpre901 =>
     refine p_nil ?_
     simp only [List.length_cons, List.length_nil, Nat.reduceAdd, Nat.reduceSub]
     refine any_go (i := 0) (by rfl) (by decide +kernel) (by decide +kernel) noLate_nil (go_yields w_none (fun w hS => s_move)) ?_
     try simp only [opv, n1, n2, n3, n4, Value.cells]
     refine any_go (i := 1) (by rfl) (by decide +kernel) (by decide +kernel) noLate_nil (go_yields w_none (fun w hS => s_move)) ?_
     try simp only [opv, n1, n2, n3, n4, Value.cells]
     refine any_go (i := 2) (by rfl) (by decide +kernel) (by decide +kernel) noLate_nil (go_yields w_none (fun w hS => s_move)) ?_
     try simp only [opv, n1, n2, n3, n4, Value.cells]
     first | refine any_go (i := 3) (by rfl) (by decide +kernel) (by decide +kernel) noLate_nil (go_yields w_none (fun w hS => m_indexAddr_rd Try.underlying24 ti39 (hS := hS))) ?_ | refine any_go (i := 3) (by rfl) (by decide +kernel) (by decide +kernel) noLate_nil (go_yields w_none (fun w hS => m_indexAddr_vec Try.underlying24 ti39 (hS := hS))) ?_
     try simp only [opv, n1, n2, n3, n4, Value.cells, Nat.mul_one, Nat.zero_add, Int.toNat_natCast, Int.reduceToNat]
     first | refine any_go (i := 4) (by rfl) (by decide +kernel) (by decide +kernel) noLate_nil (go_yields w_none (fun w hS => m_fieldAddr Try.underlying39 (hi := ti34))) ?_ | refine any_go (i := 4) (by rfl) (by decide +kernel) (by decide +kernel) noLate_nil (go_yields w_none (fun w hS => m_fieldAddr_rd Try.underlying39 (hi := ti34) (hS := hS))) ?_ | refine any_go (i := 4) (by rfl) (by decide +kernel) (by decide +kernel) noLate_nil (go_yields w_none (fun w hS => m_fieldAddr_vec Try.underlying39 (hi := ti34) (hS := hS))) ?_
     try simp only [opv, n1, n2, n3, n4, Value.cells, Nat.zero_add, Nat.add_zero, List.getElem_toArray, List.getElem_cons_zero, List.getElem_cons_succ]
     first | refine any_go (i := 5) (by rfl) (by decide +kernel) (by decide +kernel) noLate_nil (go_yields w_none (fun w hS => m_load_row Try.underlying34 (hi := ti34) (hS := hS) (hfit := by rw [arows_len]; omega))) ?_ | refine any_go (i := 5) (by rfl) (by decide +kernel) (by decide +kernel) noLate_nil (go_yields w_none (fun w hS => m_loada_obj Try.underlying34 (hi := ti34) (hS := hS) (hfit := by rw [arows_len]; omega))) ?_ | refine any_go (i := 5) (by rfl) (by decide +kernel) (by decide +kernel) noLate_nil (go_yields w_none (fun w hS => m_loada_bx Try.underlying34 (hi := ti34) (hS := hS) (hfit := by rw [arows_len]; omega))) ?_ | refine any_go (i := 5) (by rfl) (by decide +kernel) (by decide +kernel) noLate_nil (go_yields w_none (fun w hS => m_loada_rd Try.underlying34 (hi := ti34) (hS := hS) (hfit := by rw [arows_len]; omega))) ?_ | refine any_go (i := 5) (by rfl) (by decide +kernel) (by decide +kernel) noLate_nil (go_yields w_none (fun w hS => m_loada_vec Try.underlying34 (hi := ti34) (hS := hS) (hfit := by rw [arows_len]; omega))) ?_
     try simp only [opv, n1, n2, n3, n4, Value.cells, List.getElem_toArray, List.getElem_cons_zero, List.getElem_cons_succ]
     rw [arow_key (by omega) hso, hx]
     first | refine any_go (i := 6) (by rfl) (by decide +kernel) (by decide +kernel) noLate_nil (go_yields w_none (fun w hS => m_load_row Try.underlying37 (hi := ti37) (hS := hS) (hfit := by first | omega | (rw [zi_size (by omega)]; first | rfl | decide) | (simp only [ic_size, List.length_map, List.size_toArray]; first | omega | decide) | rfl | (simp [*]; done) | (simp [*]; omega)))) ?_ | refine any_go (i := 6) (by rfl) (by decide +kernel) (by decide +kernel) noLate_nil (go_yields w_none (fun w hS => m_loada_obj Try.underlying37 (hi := ti37) (hS := hS) (hfit := by first | omega | (rw [zi_size (by omega)]; first | rfl | decide) | (simp only [ic_size, List.length_map, List.size_toArray]; first | omega | decide) | rfl | (simp [*]; done) | (simp [*]; omega)))) ?_ | refine any_go (i := 6) (by rfl) (by decide +kernel) (by decide +kernel) noLate_nil (go_yields w_none (fun w hS => m_loada_bx Try.underlying37 (hi := ti37) (hS := hS) (hfit := by first | omega | (rw [zi_size (by omega)]; first | rfl | decide) | (simp only [ic_size, List.length_map, List.size_toArray]; first | omega | decide) | rfl | (simp [*]; done) | (simp [*]; omega)))) ?_ | refine any_go (i := 6) (by rfl) (by decide +kernel) (by decide +kernel) noLate_nil (go_yields w_none (fun w hS => m_loada_rd Try.underlying37 (hi := ti37) (hS := hS) (hfit := by first | omega | (rw [zi_size (by omega)]; first | rfl | decide) | (simp only [ic_size, List.length_map, List.size_toArray]; first | omega | decide) | rfl | (simp [*]; done) | (simp [*]; omega)))) ?_ | refine any_go (i := 6) (by rfl) (by decide +kernel) (by decide +kernel) noLate_nil (go_yields w_none (fun w hS => m_loada_vec Try.underlying37 (hi := ti37) (hS := hS) (hfit := by first | omega | (rw [zi_size (by omega)]; first | rfl | decide) | (simp only [ic_size, List.length_map, List.size_toArray]; first | omega | decide) | rfl | (simp [*]; done) | (simp [*]; omega)))) ?_
     try simp only [opv, n1, n2, n3, n4, Value.cells, List.getElem_toArray, List.getElem_cons_zero, List.getElem_cons_succ]
     refine any_go (i := 7) (by rfl) (by decide +kernel) (by decide +kernel) noLate_nil (go_yields w_none (fun w hS => s_build_struct (cells := (AA (akey x ++ u))) Try.underlying39 ti39 bp39 (hc := by simp only [List.map_toArray, List.map_cons, List.map_nil, opv, n1, n2, n3, n4, Value.cells, List.toList_toArray]; exact fill_atom (by rfl) (by rfl) (by rfl) hk12 hul))) ?_
     try simp only [opv, n1, n2, n3, n4, Value.cells]
     refine any_step [8] (by kernel_rfl) (by decide) (fun w8 hE => ⟨fun _ => (hS.ext hE).sel (by repeat (first | exact Sel.nil | (refine Sel.cons (by repeat (first | exact Del.head | apply Del.tail)) ?_))), ?_⟩)
     replace hS := hS.ext hE
     intro i hi
     simp only [List.mem_cons, List.not_mem_nil, or_false] at hi
     subst hi
     ·
      refine any_op (by rfl) ?_
      refine m_buildRow (cells := (AA (akey x ++ u))) Try.underlying24 ti39 (hc := by simp only [List.map_toArray, List.map_cons, List.map_nil, opv, n1, n2, n3, n4, Value.cells, List.toList_toArray]; exact fill_one (by rfl) (zi_size21 hzl) (by rfl)) (hS := hS) (h := fun w9 g9 hS => ?_)
      try simp only [opv, n1, n2, n3, n4, Value.cells, Array.toArray_toList] at hS ⊢
      replace hS := hS.obj_rd (sz := 21) (n := 1) (by exact zi_size21 hzl) .head
      rw [arow_one hzl] at hS
      refine x_nil ?_
      refine any_step [9] (by kernel_rfl) (by decide) (fun w10 hE => ⟨fun _ => (hS.ext hE).sel (by repeat (first | exact Sel.nil | (refine Sel.cons (by repeat (first | exact Del.head | apply Del.tail)) ?_))), ?_⟩)
      replace hS := hS.ext hE
      intro i hi
      simp only [List.mem_cons, List.not_mem_nil, or_false] at hi
      subst hi
      ·
       refine any_op (by rfl) ?_
       refine m_append Try.underlying24 ti39 (hS := hS) (h1 := rowsZ_cells _ _) (h := fun w11 A11 C11 hS => ?_)
       try simp only [← List.map_append, ← List.map_drop, ← List.map_take, Nat.mul_one, Nat.zero_mul, Nat.sub_zero, List.drop_zero, List.nil_append, Nat.zero_add] at hS ⊢
       try simp only [opv, n1, n2, n3, n4, Value.cells, Array.toArray_toList] at hS ⊢
       rw [add_one] at hS
       refine x_nil ?_
       refine any_go (i := 10) (by rfl) (by decide +kernel) (by decide +kernel) noLate_nil (go_yields w_none (fun w hS => s_assign)) ?_
       try simp only [opv, n1, n2, n3, n4, Value.cells]
       refine any_nil (by kernel_rfl) (fun w12 hE => ?_)
       replace hS := hS.ext hE
       refine ⟨fun _ => hS.sel (by repeat (first | exact Sel.nil | (refine Sel.cons (by repeat (first | exact Del.head | apply Del.tail)) ?_))), ?_⟩
       refine mix_leaf (by simp only [clob, List.foldl, n1, n2, n3, n4]) ?_
       try simp only [n1, n2]
       exact ⟨_, _, by first | trivial | rfl, hS.sel (by repeat (first | exact Sel.nil | (refine Sel.cons (by repeat (first | exact Del.head | apply Del.tail)) ?_)))⟩
    intro fm1 w13 hM
    obtain ⟨C2, e2, h5, hS⟩ := hM
    simp only [clob, List.foldl, n3, n4, h5]
    refine hK8 _ _ ?_
    refine x_region ?_
    refine s_go (s_move) ?_
    try simp only [opv, n1, n2, n3, n4, Value.cells]
    refine s_go (s_add (hc := by first | exact wr_i64 (by omega) (by omega) | rfl)) ?_
    try simp only [opv, n1, n2, n3, n4, Value.cells]
    refine s_go (s_assign) ?_
    try simp only [opv, n1, n2, n3, n4, Value.cells]
    refine x_nil ?_
    refine loop_back (m' := s.length - (k + 1)) (by simp only [clob, List.foldl, n1, n2, n3, n4]) ?_ ?_
    · try simp only [opv, n1, n2, n3, n4, Value.cells]
      first
      | exact ⟨k + 1, _, _, by omega, by omega, by rfl, by rw [hst], by rw [hst]; exact hS.sel (by repeat (first | exact Sel.nil | (refine Sel.cons (by repeat (first | exact Del.head | apply Del.tail)) ?_)))⟩
      | exact ⟨k + 1, _, _, by omega, by omega, by rfl, by rw [hst, List.length_append]; rfl, by rw [hst, List.length_append]; exact hS.sel (by repeat (first | exact Sel.nil | (refine Sel.cons (by repeat (first | exact Del.head | apply Del.tail)) ?_)))⟩
    · omega
   ·
    try simp only [decide_eq_true_eq, decide_eq_false_iff_not, Bool.not_eq_true', Bool.not_eq_false', Int.not_lt, Int.not_le, ne_eq, Decidable.not_not, bne_iff_ne, beq_iff_eq, not_true_eq_false, not_false_eq_true] at hc3
    have hst := meet_tk (t := t) (by omega) hx hfs
    rw [lessV, if_neg (by rw [hc3]; decide), kv_atom] at hst
    refine x_region ?_
    refine s_go (s_move) ?_
    try simp only [opv, n1, n2, n3, n4, Value.cells]
    refine s_go (s_move) ?_
    try simp only [opv, n1, n2, n3, n4, Value.cells]
    refine s_go (s_move) ?_
    try simp only [opv, n1, n2, n3, n4, Value.cells]
    first | refine s_go (m_indexAddr_rd Try.underlying24 ti39 (hS := hS)) ?_ | refine s_go (m_indexAddr_vec Try.underlying24 ti39 (hS := hS)) ?_
    try simp only [opv, n1, n2, n3, n4, Value.cells, Nat.mul_one, Nat.zero_add, Int.toNat_natCast, Int.reduceToNat]
    first | refine s_go (m_load_row Try.underlying39 (hi := ti39) (hS := hS) (hfit := by rw [arows_len]; omega)) ?_ | refine s_go (m_loada_obj Try.underlying39 (hi := ti39) (hS := hS) (hfit := by rw [arows_len]; omega)) ?_ | refine s_go (m_loada_bx Try.underlying39 (hi := ti39) (hS := hS) (hfit := by rw [arows_len]; omega)) ?_ | refine s_go (m_loada_rd Try.underlying39 (hi := ti39) (hS := hS) (hfit := by rw [arows_len]; omega)) ?_ | refine s_go (m_loada_vec Try.underlying39 (hi := ti39) (hS := hS) (hfit := by rw [arows_len]; omega)) ?_
    try simp only [opv, n1, n2, n3, n4, Value.cells, List.getElem_toArray, List.getElem_cons_zero, List.getElem_cons_succ]
    rw [arow_get (by omega) hso, hx]
    refine m_buildRow (cells := (AA x)) Try.underlying24 ti39 (hc := by simp only [List.map_toArray, List.map_cons, List.map_nil, opv, n1, n2, n3, n4, Value.cells, List.toList_toArray]; exact fill_one (by rfl) (zi_size21 hxl) (by rfl)) (hS := hS) (h := fun w14 g14 hS => ?_)
    try simp only [opv, n1, n2, n3, n4, Value.cells, Array.toArray_toList] at hS ⊢
    replace hS := hS.obj_rd (sz := 21) (n := 1) (by exact zi_size21 hxl) .head
    rw [arow_one hxl] at hS
    refine m_append Try.underlying24 ti39 (hS := hS) (h1 := rowsZ_cells _ _) (h := fun w15 A15 C15 hS => ?_)
    try simp only [← List.map_append, ← List.map_drop, ← List.map_take, Nat.mul_one, Nat.zero_mul, Nat.sub_zero, List.drop_zero, List.nil_append, Nat.zero_add] at hS ⊢
    try simp only [opv, n1, n2, n3, n4, Value.cells, Array.toArray_toList] at hS ⊢
    rw [add_one] at hS
    refine s_go (s_assign) ?_
    try simp only [opv, n1, n2, n3, n4, Value.cells]
    refine x_nil ?_
    refine hK8 _ _ ?_
    refine x_region ?_
    refine s_go (s_move) ?_
    try simp only [opv, n1, n2, n3, n4, Value.cells]
    refine s_go (s_add (hc := by first | exact wr_i64 (by omega) (by omega) | rfl)) ?_
    try simp only [opv, n1, n2, n3, n4, Value.cells]
    refine s_go (s_assign) ?_
    try simp only [opv, n1, n2, n3, n4, Value.cells]
    refine x_nil ?_
    refine loop_back (m' := s.length - (k + 1)) (by simp only [clob, List.foldl, n1, n2, n3, n4]) ?_ ?_
    · try simp only [opv, n1, n2, n3, n4, Value.cells]
      first
      | exact ⟨k + 1, _, _, by omega, by omega, by rfl, by rw [hst], by rw [hst]; exact hS.sel (by repeat (first | exact Sel.nil | (refine Sel.cons (by repeat (first | exact Del.head | apply Del.tail)) ?_)))⟩
      | exact ⟨k + 1, _, _, by omega, by omega, by rfl, by rw [hst, List.length_append]; rfl, by rw [hst, List.length_append]; exact hS.sel (by repeat (first | exact Sel.nil | (refine Sel.cons (by repeat (first | exact Del.head | apply Del.tail)) ?_)))⟩
    · omega
 ·
  try simp only [decide_eq_true_eq, decide_eq_false_iff_not, Bool.not_eq_true', Bool.not_eq_false', Int.not_lt, Int.not_le, ne_eq, Decidable.not_not, bne_iff_ne, beq_iff_eq, not_true_eq_false, not_false_eq_true] at hc1
  obtain rfl : k = s.length := by omega
  rw [List.take_of_length_le (Nat.le_refl _)] at hS ⊢
  refine x_exit (look_here ?_)
  refine hK4 _ _ ?_
  refine x_seq fun K13 hK13 => ?_
  refine x_region ?_
  refine s_go (s_move) ?_
  try simp only [opv, n1, n2, n3, n4, Value.cells]
  refine s_go (s_assign) ?_
  try simp only [opv, n1, n2, n3, n4, Value.cells]
  refine x_nil ?_
  refine hK13 _ _ ?_
  refine x_ret ?_
  refine r_tmp rfl ?_
  rw [hsl, htl]
  exact ⟨_, _, rfl, hS.sel (by repeat (first | exact Sel.nil | (refine Sel.cons (by repeat (first | exact Del.head | apply Del.tail)) ?_)))⟩
theorem c_ref10Leq (w0 : World) (A : Option Addr) (c : Nat) (l : List (List Int)) (hr : Rd w0 A 21 l.length (arows l)) (hv : AOks l) (B : Option Addr) (d : Nat) (r : List (List Int)) (hr2 : Rd w0 B 21 r.length (arows r)) (hv2 : AOks r) (hn : l.length + r.length ≤ 1000000000)  :
    CallR Try.prog 38 #[.slice A l.length c, .slice B r.length d] w0 fun v w' => v = .bool (leqP (normP l) (normP r)) ∧ Ext w0 w' := by
 have hS := St.rd2 (S := NoB) hr hr2
 have h9l : v9.length = 9 := rfl
 refine c_enter (l := [.slice A l.length c, .slice B r.length d, undef, undef, undef, undef, undef, undef, undef, undef, undef, undef, undef, undef, undef, undef, undef, undef, undef, undef, undef, undef, undef, undef, undef, undef, undef, undef, undef, undef, undef, undef, undef, undef, undef, undef, undef, undef, undef, undef]) Try.func38 rfl (by simp only [Try.ntmps38, List.size_toArray, List.length_cons, List.length_nil, Nat.reduceAdd, Nat.reduceSub, Array.replicate_succ, Array.replicate_zero, List.push_toArray, List.append_toArray, List.nil_append, List.cons_append]) ?_
 refine x_seq fun K1 hK1 => ?_
 refine x_region ?_
 refine s_go (s_assign) ?_
 try simp only [opv, n1, n2, n3, n4, Value.cells]
 refine x_nil ?_
 refine hK1 _ _ ?_
 refine x_seq fun K2 hK2 => ?_
 refine x_region ?_
 refine s_go (s_move) ?_
 try simp only [opv, n1, n2, n3, n4, Value.cells]
 refine s_call en32 ?_
 try simp only [opv, n1, n2, n3, n4, Value.cells, List.map_toArray, List.map_cons, List.map_nil, List.append_toArray, List.cons_append, List.nil_append, Array.append_empty]
 refine CallR.mono (c_ref10Norm _ A c l (hS.hasRd (by repeat (first | exact Has.head | apply Has.tail))) hv (by omega)) ?_
 rintro _ w1 ⟨B1, d1, rfl, hR1⟩
 replace hS := hS.back hR1
 try simp only [opv, n1, n2, n3, n4, Value.cells]
 refine s_go (s_move) ?_
 try simp only [opv, n1, n2, n3, n4, Value.cells]
 refine s_call en32 ?_
 try simp only [opv, n1, n2, n3, n4, Value.cells, List.map_toArray, List.map_cons, List.map_nil, List.append_toArray, List.cons_append, List.nil_append, Array.append_empty]
 refine CallR.mono (c_ref10Norm _ B d r (hS.hasRd (by repeat (first | exact Has.head | apply Has.tail))) hv2 (by omega)) ?_
 rintro _ w2 ⟨B2, d2, rfl, hR2⟩
 replace hS := hS.back hR2
 try simp only [opv, n1, n2, n3, n4, Value.cells]
 try simp only [hsl]
 obtain ⟨s, hsl⟩ : ∃ s, normP l = s := ⟨_, rfl⟩
 obtain ⟨t, htl⟩ : ∃ t, normP r = t := ⟨_, rfl⟩
 have hsn := norm_len l
 have htn := norm_len r
 have hss := norm_sta hv
 have hts := norm_sta hv2
 have hmg0 := merge_norm hv hv2
 rw [hsl] at hS hsn hss hmg0
 rw [htl] at hS htn hts hmg0
 have hso := hss.ok
 have hto := hts.ok
 have hsl2 := arows_len s
 have htl2 := arows_len t
 try simp only [hsl, htl]
 refine s_go (s_assign) ?_
 try simp only [opv, n1, n2, n3, n4, Value.cells]
 refine s_go (s_assign) ?_
 try simp only [opv, n1, n2, n3, n4, Value.cells]
 refine x_nil ?_
 refine hK2 _ _ ?_
 refine x_seq fun K3 hK3 => ?_
 refine x_seq fun K4 hK4 => ?_
 refine x_region ?_
 refine s_go (s_assign) ?_
 try simp only [opv, n1, n2, n3, n4, Value.cells]
 refine x_nil ?_
 refine hK4 _ _ ?_
 refine x_block ?_
 refine x_loop [4, 5, 6, 7, 12, 13, 14, 15, 16, 17, 18, 19, 20, 21, 22, 23, 24, 25, 26, 27, 28, 29, 30, 31, 32, 33, 34, 35, 36, 37, 38, 39] (fun m f w => ∃ (k : Nat), k ≤ s.length ∧ m = s.length - k ∧ f 5 = .int .i64 (k : Int) ∧ leqP (s.take k) t = true ∧ St NoB w0 w [.rd B2 21 (t).length (arows (t)), .rd B1 21 (s).length (arows (s))]) (s.length) ?init1 (fun m1 f1 wl1 hI => ?_)
 case init1 =>
  try simp only [opv, n1, n2, n3, n4, Value.cells]
  exact ⟨0, by omega, rfl, rfl, rfl, hS.sel (by repeat (first | exact Sel.nil | (refine Sel.cons (by repeat (first | exact Del.head | apply Del.tail)) ?_)))⟩
 obtain ⟨k, hk0, hm, h5, hlq, hS⟩ := hI
 simp only [clob, List.foldl, n3, n4, h5]
 obtain ⟨x, hx⟩ : ∃ x, s.getD k [] = x := ⟨_, rfl⟩
 refine x_seq fun K5 hK5 => ?_
 refine x_seq fun K6 hK6 => ?_
 refine x_region ?_
 refine s_go (s_move) ?_
 try simp only [opv, n1, n2, n3, n4, Value.cells]
 refine s_go (s_move) ?_
 try simp only [opv, n1, n2, n3, n4, Value.cells]
 refine s_go (s_len_sl Try.underlying24) ?_
 try simp only [opv, n1, n2, n3, n4, Value.cells]
 refine s_go (s_lss) ?_
 try simp only [opv, n1, n2, n3, n4, Value.cells]
 refine x_nil ?_
 refine hK6 _ _ ?_
 refine x_cond (ht := fun hc1 => ?_) (hf := fun hc1 => ?_)
 ·
  try simp only [decide_eq_true_eq, decide_eq_false_iff_not, Bool.not_eq_true', Bool.not_eq_false', Int.not_lt, Int.not_le, ne_eq, Decidable.not_not, bne_iff_ne, beq_iff_eq, not_true_eq_false, not_false_eq_true] at hc1
  have hax : AtomOk x := by rw [← hx]; exact hso.get (by omega)
  have hxl := hax.len
  have hkx := hax.key
  have hvx := hax.val
  have hk12 := hkx.len
  refine x_skip ?_
  refine hK5 _ _ ?_
  refine x_seq fun K7 hK7 => ?_
  refine x_block ?_
  refine x_seq fun K8 hK8 => ?_
  refine x_region ?_
  refine s_go (s_move) ?_
  try simp only [opv, n1, n2, n3, n4, Value.cells]
  refine s_go (s_move) ?_
  try simp only [opv, n1, n2, n3, n4, Value.cells]
  refine s_go (s_move) ?_
  try simp only [opv, n1, n2, n3, n4, Value.cells]
  first | refine s_go (m_indexAddr_rd Try.underlying24 ti39 (hS := hS)) ?_ | refine s_go (m_indexAddr_vec Try.underlying24 ti39 (hS := hS)) ?_
  try simp only [opv, n1, n2, n3, n4, Value.cells, Nat.mul_one, Nat.zero_add, Int.toNat_natCast, Int.reduceToNat]
  first | refine s_go (m_fieldAddr Try.underlying39 (hi := ti34)) ?_ | refine s_go (m_fieldAddr_rd Try.underlying39 (hi := ti34) (hS := hS)) ?_ | refine s_go (m_fieldAddr_vec Try.underlying39 (hi := ti34) (hS := hS)) ?_
  try simp only [opv, n1, n2, n3, n4, Value.cells, Nat.zero_add, Nat.add_zero, List.getElem_toArray, List.getElem_cons_zero, List.getElem_cons_succ]
  first | refine s_go (m_load_row Try.underlying34 (hi := ti34) (hS := hS) (hfit := by rw [arows_len]; omega)) ?_ | refine s_go (m_loada_obj Try.underlying34 (hi := ti34) (hS := hS) (hfit := by rw [arows_len]; omega)) ?_ | refine s_go (m_loada_bx Try.underlying34 (hi := ti34) (hS := hS) (hfit := by rw [arows_len]; omega)) ?_ | refine s_go (m_loada_rd Try.underlying34 (hi := ti34) (hS := hS) (hfit := by rw [arows_len]; omega)) ?_ | refine s_go (m_loada_vec Try.underlying34 (hi := ti34) (hS := hS) (hfit := by rw [arows_len]; omega)) ?_
  try simp only [opv, n1, n2, n3, n4, Value.cells, List.getElem_toArray, List.getElem_cons_zero, List.getElem_cons_succ]
  rw [arow_key (by omega) hso, hx]
  refine s_call en113 ?_
  try simp only [opv, n1, n2, n3, n4, Value.cells, List.map_toArray, List.map_cons, List.map_nil, List.append_toArray, List.cons_append, List.nil_append, Array.append_empty]
  refine CallR.mono (c_ref10find _ B2 d2 t (hS.hasRd (by repeat (first | exact Has.head | apply Has.tail))) hto (by omega) (akey x) hkx) ?_
  rintro _ w3 ⟨rfl, hE3⟩
  replace hS := hS.ext hE3
  try simp only [opv, n1, n2, n3, n4, Value.cells]
  refine s_go (s_move) ?_
  try simp only [opv, n1, n2, n3, n4, Value.cells]
  refine s_go (s_extract (hv := rfl)) ?_
  try simp only [List.getElem_toArray, List.getElem_cons_zero, List.getElem_cons_succ]
  try simp only [opv, n1, n2, n3, n4, Value.cells]
  refine s_go (s_extract (hv := rfl)) ?_
  try simp only [List.getElem_toArray, List.getElem_cons_zero, List.getElem_cons_succ]
  try simp only [opv, n1, n2, n3, n4, Value.cells]
  refine m_alloc ti37 hS (fun w4 g4 hS => ?_)
  try simp only [opv, n1, n2, n3, n4, Value.cells, Array.toArray_toList] at hS ⊢
  have hfl9 := (fndD_ok (k := akey x) hto).len
  replace hS : St _ _ w4 (.obj g4 (.cells (VA v9) 37 (0, 0)) :: _) := hS
  first | refine m_store_obj ti37 (hS := hS) (hc := by first | exact zi_set rfl (by omega) | exact zi_whole (by omega) (by omega) | (first | exact splice_ic (by first | omega | (simp [*]; done) | (simp [*]; omega)) | exact splice_il (by first | omega | (simp [*]; done) | (simp [*]; omega)) | exact splice_whole (by first | (simp [opv, Value.cells, *]; done) | rfl) | (simp only [opv, n1, n2, Value.cells, splice, List.take_succ_cons, List.take_zero, List.drop_succ_cons, List.drop_zero, List.length_cons, List.length_nil, Nat.zero_add, Nat.reduceAdd, List.append_assoc, List.cons_append, List.nil_append]; rfl))) (hv := by first | rfl | (show (zi _ _).toArray.size = _; rw [zi_size (by omega)]; rfl) | (simp [opv, Value.cells, *]; done)) (hfit := by first | omega | (rw [zi_size (by omega)]; first | rfl | decide) | (simp only [ic_size, List.length_map, List.size_toArray]; first | omega | decide) | rfl | (simp [*]; done) | (simp [*]; omega)) (h1 := by first | exact zi_one _ _ | exact ic_one _ _ | simp [opv, Value.cells, Value.oneCell']) (h := fun w5 hS => ?_) | refine m_store_vec ti37 (hS := hS) (hc := by first | exact zi_set rfl (by omega) | exact zi_whole (by omega) (by omega) | (first | exact splice_ic (by first | omega | (simp [*]; done) | (simp [*]; omega)) | exact splice_il (by first | omega | (simp [*]; done) | (simp [*]; omega)) | exact splice_whole (by first | (simp [opv, Value.cells, *]; done) | rfl) | (simp only [opv, n1, n2, Value.cells, splice, List.take_succ_cons, List.take_zero, List.drop_succ_cons, List.drop_zero, List.length_cons, List.length_nil, Nat.zero_add, Nat.reduceAdd, List.append_assoc, List.cons_append, List.nil_append]; rfl))) (hv := by first | rfl | (show (zi _ _).toArray.size = _; rw [zi_size (by omega)]; rfl) | (simp [opv, Value.cells, *]; done)) (hfit := by first | omega | (rw [zi_size (by omega)]; first | rfl | decide) | (simp only [ic_size, List.length_map, List.size_toArray]; first | omega | decide) | rfl | (simp [*]; done) | (simp [*]; omega)) (h1 := by first | exact zi_one _ _ | exact ic_one _ _ | simp [opv, Value.cells, Value.oneCell']) (h := fun w5 hS => ?_)
  try simp only [opv, n1, n2, n3, n4, Value.cells, Array.toArray_toList] at hS ⊢
  refine s_go (s_assign) ?_
  try simp only [opv, n1, n2, n3, n4, Value.cells]
  have hwo : ValOk ((fnd (akey x) t).getD v9) := fndD_ok hto
  obtain ⟨u, hu⟩ : ∃ u, (fnd (akey x) t).getD v9 = u := ⟨_, rfl⟩
  rw [hu] at hwo hS
  have hul := hwo.len
  refine x_nil ?_
  refine hK8 _ _ ?_
  refine x_seq fun K9 hK9 => ?_
  refine x_quiet (by kernel_rfl) (by kernel_rfl) hS ?_
  refine q_go (fun w hS => s_move) ?_
  try simp only [opv, n1, n2, n3, n4, Value.cells]
  refine q_go (fun w hS => s_not) ?_
  try simp only [opv, n1, n2, n3, n4, Value.cells]
  refine q_go (fun w hS => s_move) ?_
  try simp only [opv, n1, n2, n3, n4, Value.cells]
  refine q_part 30 rfl (fun hp1 => ?_) (fun hp1 => ?_)
  ·
   try simp only [n3, n4]
   try simp only [decide_eq_true_eq, decide_eq_false_iff_not, Bool.not_eq_true', Bool.not_eq_false', Int.not_lt, Int.not_le, ne_eq, Decidable.not_not] at hp1
   have hlf : leqP s t = false := leq_no (k := k) (by omega) (by rw [hx, leqA_non (is_none (o := fnd (akey x) t) (by simpa using hp1))])
   refine q_off (yi (t := 30) rfl rfl) ?_
   try simp only [opv, n1, n2, n3, n4, Value.cells]
   refine q_off (yi (t := 30) rfl rfl) ?_
   try simp only [opv, n1, n2, n3, n4, Value.cells]
   refine q_off (yi (t := 30) rfl rfl) ?_
   try simp only [opv, n1, n2, n3, n4, Value.cells]
   refine q_off (yi (t := 30) rfl rfl) ?_
   try simp only [opv, n1, n2, n3, n4, Value.cells]
   refine q_off (yi (t := 30) rfl rfl) ?_
   try simp only [opv, n1, n2, n3, n4, Value.cells]
   refine q_off (yi (t := 30) rfl rfl) ?_
   try simp only [opv, n1, n2, n3, n4, Value.cells]
   refine q_off (yi (t := 30) rfl rfl) ?_
   try simp only [opv, n1, n2, n3, n4, Value.cells]
   refine q_off (yi (t := 30) rfl rfl) ?_
   try simp only [opv, n1, n2, n3, n4, Value.cells]
   first | refine q_go (fun w hS => s_pick_t) ?_ | refine q_go (fun w hS => s_pick_f) ?_
   try simp only [opv, n1, n2, n3, n4, Value.cells]
   clear hS
   refine q_nil fun w6 hS => ?_
   refine hK9 _ _ ?_
   refine x_cond_t (h := ?_)
   try have hlf : leqP s t = false := leq_no (k := k) (by omega) (by rw [hx, leqA_val hfs]; simpa using @c)
   refine x_seq fun K10 hK10 => ?_
   refine x_region ?_
   refine s_go (s_assign) ?_
   try simp only [opv, n1, n2, n3, n4, Value.cells]
   refine x_nil ?_
   refine hK10 _ _ ?_
   refine x_ret ?_
   refine r_tmp rfl ?_
   rw [hsl, htl]
   first | exact ⟨by rw [hlf]; rfl, hS.ext_of⟩ | exact ⟨by rw [hlq]; rfl, hS.ext_of⟩
  ·
   try simp only [n3, n4]
   try simp only [decide_eq_true_eq, decide_eq_false_iff_not, Bool.not_eq_true', Bool.not_eq_false', Int.not_lt, Int.not_le, ne_eq, Decidable.not_not] at hp1
   have hfs := is_some (d := v9) (show (fnd (akey x) t).isSome = true by simpa using hp1)
   rw [hu] at hfs
   refine q_on (yi (t := 30) rfl rfl) ?_
   first | refine q_go (fun w hS => m_load_row Try.underlying37 (hi := ti37) (hS := hS) (hfit := by first | omega | (rw [zi_size (by omega)]; first | rfl | decide) | (simp only [ic_size, List.length_map, List.size_toArray]; first | omega | decide) | rfl | (simp [*]; done) | (simp [*]; omega))) ?_ | refine q_go (fun w hS => m_loada_obj Try.underlying37 (hi := ti37) (hS := hS) (hfit := by first | omega | (rw [zi_size (by omega)]; first | rfl | decide) | (simp only [ic_size, List.length_map, List.size_toArray]; first | omega | decide) | rfl | (simp [*]; done) | (simp [*]; omega))) ?_ | refine q_go (fun w hS => m_loada_bx Try.underlying37 (hi := ti37) (hS := hS) (hfit := by first | omega | (rw [zi_size (by omega)]; first | rfl | decide) | (simp only [ic_size, List.length_map, List.size_toArray]; first | omega | decide) | rfl | (simp [*]; done) | (simp [*]; omega))) ?_ | refine q_go (fun w hS => m_loada_rd Try.underlying37 (hi := ti37) (hS := hS) (hfit := by first | omega | (rw [zi_size (by omega)]; first | rfl | decide) | (simp only [ic_size, List.length_map, List.size_toArray]; first | omega | decide) | rfl | (simp [*]; done) | (simp [*]; omega))) ?_ | refine q_go (fun w hS => m_loada_vec Try.underlying37 (hi := ti37) (hS := hS) (hfit := by first | omega | (rw [zi_size (by omega)]; first | rfl | decide) | (simp only [ic_size, List.length_map, List.size_toArray]; first | omega | decide) | rfl | (simp [*]; done) | (simp [*]; omega))) ?_
   try simp only [opv, n1, n2, n3, n4, Value.cells, List.getElem_toArray, List.getElem_cons_zero, List.getElem_cons_succ]
   refine q_on (yi (t := 30) rfl rfl) ?_
   refine q_go (fun w hS => s_move) ?_
   try simp only [opv, n1, n2, n3, n4, Value.cells]
   refine q_on (yi (t := 30) rfl rfl) ?_
   refine q_go (fun w hS => s_move) ?_
   try simp only [opv, n1, n2, n3, n4, Value.cells]
   refine q_on (yi (t := 30) rfl rfl) ?_
   first | refine q_go (fun w hS => m_indexAddr_rd Try.underlying24 ti39 (hS := hS)) ?_ | refine q_go (fun w hS => m_indexAddr_vec Try.underlying24 ti39 (hS := hS)) ?_
   try simp only [opv, n1, n2, n3, n4, Value.cells, Nat.mul_one, Nat.zero_add, Int.toNat_natCast, Int.reduceToNat]
   refine q_on (yi (t := 30) rfl rfl) ?_
   first | refine q_go (fun w hS => m_fieldAddr Try.underlying39 (hi := ti37)) ?_ | refine q_go (fun w hS => m_fieldAddr_rd Try.underlying39 (hi := ti37) (hS := hS)) ?_ | refine q_go (fun w hS => m_fieldAddr_vec Try.underlying39 (hi := ti37) (hS := hS)) ?_
   try simp only [opv, n1, n2, n3, n4, Value.cells, Nat.zero_add, Nat.add_zero, List.getElem_toArray, List.getElem_cons_zero, List.getElem_cons_succ]
   refine q_on (yi (t := 30) rfl rfl) ?_
   first | refine q_go (fun w hS => m_load_row Try.underlying37 (hi := ti37) (hS := hS) (hfit := by rw [arows_len]; omega)) ?_ | refine q_go (fun w hS => m_loada_obj Try.underlying37 (hi := ti37) (hS := hS) (hfit := by rw [arows_len]; omega)) ?_ | refine q_go (fun w hS => m_loada_bx Try.underlying37 (hi := ti37) (hS := hS) (hfit := by rw [arows_len]; omega)) ?_ | refine q_go (fun w hS => m_loada_rd Try.underlying37 (hi := ti37) (hS := hS) (hfit := by rw [arows_len]; omega)) ?_ | refine q_go (fun w hS => m_loada_vec Try.underlying37 (hi := ti37) (hS := hS) (hfit := by rw [arows_len]; omega)) ?_
   try simp only [opv, n1, n2, n3, n4, Value.cells, List.getElem_toArray, List.getElem_cons_zero, List.getElem_cons_succ]
   rw [arow_val (by omega) hso, hx]
   refine q_on (yi (t := 30) rfl rfl) ?_
   apply q_call en120
   case H =>
     intro w hS
     try simp only [opv, n1, n2, n3, n4, List.map_toArray, List.map_cons, List.map_nil, List.append_toArray, List.cons_append, List.nil_append, Array.append_empty]
     refine CallR.mono (c_ref09Over u (aval x) hwo hvx _) ?_
     rintro _ w1 ⟨rfl, hE⟩; exact ⟨rfl, hS.ext hE⟩
   try simp only [opv, n1, n2, n3, n4, Value.cells]
   refine q_on (yi (t := 30) rfl rfl) ?_
   refine q_go (fun w hS => s_not) ?_
   try simp only [opv, n1, n2, n3, n4, Value.cells]
   first | refine q_go (fun w hS => s_pick_t) ?_ | refine q_go (fun w hS => s_pick_f) ?_
   try simp only [opv, n1, n2, n3, n4, Value.cells]
   clear hS
   refine q_nil fun w7 hS => ?_
   refine hK9 _ _ ?_
   refine x_cond (ht := fun hc3 => ?_) (hf := fun hc3 => ?_)
   ·
    try simp only [decide_eq_true_eq, decide_eq_false_iff_not, Bool.not_eq_true', Bool.not_eq_false', Int.not_lt, Int.not_le, ne_eq, Decidable.not_not, bne_iff_ne, beq_iff_eq, not_true_eq_false, not_false_eq_true] at hc3
    try have hlf : leqP s t = false := leq_no (k := k) (by omega) (by rw [hx, leqA_val hfs]; simpa using hc3)
    refine x_seq fun K11 hK11 => ?_
    refine x_region ?_
    refine s_go (s_assign) ?_
    try simp only [opv, n1, n2, n3, n4, Value.cells]
    refine x_nil ?_
    refine hK11 _ _ ?_
    refine x_ret ?_
    refine r_tmp rfl ?_
    rw [hsl, htl]
    first | exact ⟨by rw [hlf]; rfl, hS.ext_of⟩ | exact ⟨by rw [hlq]; rfl, hS.ext_of⟩
   ·
    try simp only [decide_eq_true_eq, decide_eq_false_iff_not, Bool.not_eq_true', Bool.not_eq_false', Int.not_lt, Int.not_le, ne_eq, Decidable.not_not, bne_iff_ne, beq_iff_eq, not_true_eq_false, not_false_eq_true] at hc3
    try have hov : overV u (aval x) = true := by simpa using hc3
    refine x_skip ?_
    refine hK7 _ _ ?_
    refine x_region ?_
    refine s_go (s_move) ?_
    try simp only [opv, n1, n2, n3, n4, Value.cells]
    refine s_go (s_add (hc := by first | exact wr_i64 (by omega) (by omega) | rfl)) ?_
    try simp only [opv, n1, n2, n3, n4, Value.cells]
    refine s_go (s_assign) ?_
    try simp only [opv, n1, n2, n3, n4, Value.cells]
    refine x_nil ?_
    refine loop_back (m' := s.length - (k + 1)) (by simp only [clob, List.foldl, n1, n2, n3, n4]) ?_ ?_
    · try simp only [opv, n1, n2, n3, n4, Value.cells]
      exact ⟨k + 1, by omega, by omega, by rfl, leq_step (by omega) hx hlq (by rw [leqA_val hfs]; exact hov), hS.sel (by repeat (first | exact Sel.nil | (refine Sel.cons (by repeat (first | exact Del.head | apply Del.tail)) ?_)))⟩
    · omega
 ·
  try simp only [decide_eq_true_eq, decide_eq_false_iff_not, Bool.not_eq_true', Bool.not_eq_false', Int.not_lt, Int.not_le, ne_eq, Decidable.not_not, bne_iff_ne, beq_iff_eq, not_true_eq_false, not_false_eq_true] at hc1
  obtain rfl : k = s.length := by omega
  rw [List.take_of_length_le (Nat.le_refl _)] at hlq
  refine x_exit (look_here ?_)
  refine hK3 _ _ ?_
  refine x_seq fun K12 hK12 => ?_
  refine x_region ?_
  refine s_go (s_assign) ?_
  try simp only [opv, n1, n2, n3, n4, Value.cells]
  refine x_nil ?_
  refine hK12 _ _ ?_
  refine x_ret ?_
  refine r_tmp rfl ?_
  rw [hsl, htl]
  first | exact ⟨by rw [hlf]; rfl, hS.ext_of⟩ | exact ⟨by rw [hlq]; rfl, hS.ext_of⟩
theorem c_ref10Same (w0 : World) (A : Option Addr) (c : Nat) (l : List (List Int)) (hr : Rd w0 A 21 l.length (arows l)) (hv : AOks l) (B : Option Addr) (d : Nat) (r : List (List Int)) (hr2 : Rd w0 B 21 r.length (arows r)) (hv2 : AOks r) (hn : l.length + r.length ≤ 1000000000)  :
    CallR Try.prog 40 #[.slice A l.length c, .slice B r.length d] w0 fun v w' => v = .bool (decide (normP l = normP r)) ∧ Ext w0 w' := by
 have hS := St.rd2 (S := NoB) hr hr2
 have hno := (norm_sta hv).ok
 have hno2 := (norm_sta hv2).ok
 have hnb := norm_len l
 have hnb2 := norm_len r
 refine c_enter (l := [.slice A l.length c, .slice B r.length d, undef, undef, undef, undef, undef, undef, undef, undef]) Try.func40 rfl (by simp only [Try.ntmps40, List.size_toArray, List.length_cons, List.length_nil, Nat.reduceAdd, Nat.reduceSub, Array.replicate_succ, Array.replicate_zero, List.push_toArray, List.append_toArray, List.nil_append, List.cons_append]) ?_
 refine x_seq fun K1 hK1 => ?_
 refine x_region ?_
 refine s_go (s_assign) ?_
 try simp only [opv, n1, n2, n3, n4, Value.cells]
 refine x_nil ?_
 refine hK1 _ _ ?_
 refine x_seq fun K2 hK2 => ?_
 refine x_region ?_
 refine s_go (s_move) ?_
 try simp only [opv, n1, n2, n3, n4, Value.cells]
 refine s_call en32 ?_
 try simp only [opv, n1, n2, n3, n4, Value.cells, List.map_toArray, List.map_cons, List.map_nil, List.append_toArray, List.cons_append, List.nil_append, Array.append_empty]
 refine CallR.mono (c_ref10Norm _ A c l (hS.hasRd (by repeat (first | exact Has.head | apply Has.tail))) hv (by omega)) ?_
 rintro _ w1 ⟨B1, d1, rfl, hR1⟩
 replace hS := hS.back hR1
 try simp only [opv, n1, n2, n3, n4, Value.cells]
 refine s_go (s_move) ?_
 try simp only [opv, n1, n2, n3, n4, Value.cells]
 refine s_call en32 ?_
 try simp only [opv, n1, n2, n3, n4, Value.cells, List.map_toArray, List.map_cons, List.map_nil, List.append_toArray, List.cons_append, List.nil_append, Array.append_empty]
 refine CallR.mono (c_ref10Norm _ B d r (hS.hasRd (by repeat (first | exact Has.head | apply Has.tail))) hv2 (by omega)) ?_
 rintro _ w2 ⟨B2, d2, rfl, hR2⟩
 replace hS := hS.back hR2
 try simp only [opv, n1, n2, n3, n4, Value.cells]
 refine s_call en25 ?_
 try simp only [opv, n1, n2, n3, n4, Value.cells, List.map_toArray, List.map_cons, List.map_nil, List.append_toArray, List.cons_append, List.nil_append, Array.append_empty]
 refine CallR.mono (c_ref10Rows _ _ _ _ (hS.hasRd (by repeat (first | exact Has.head | apply Has.tail))) hno _ _ _ (hS.hasRd (by repeat (first | exact Has.head | apply Has.tail))) hno2 (by omega)) ?_
 rintro _ w3 ⟨rfl, hE3⟩
 replace hS := hS.ext hE3
 try simp only [opv, n1, n2, n3, n4, Value.cells]
 refine s_go (s_assign) ?_
 try simp only [opv, n1, n2, n3, n4, Value.cells]
 refine x_nil ?_
 refine hK2 _ _ ?_
 refine x_ret ?_
 refine r_tmp rfl ?_
 exact ⟨rfl, hS.ext_of⟩
end Go.Proofs.Ytmgacmkikefpjaa
set_option linter.unusedSimpArgs false
set_option linter.unusedVariables false
set_option maxHeartbeats 1000000
set_option maxRecDepth 100000
namespace Go.Proofs.Ytmgacmkikefpjaa
open Go.RowKit

def k10 : List Int := [1, 1, 97, 0, 0, 0, 0, 0, 0, 0, 2, 3]
def a10 : List Int := k10 ++ [1, 0, 0, 0, 0, 0, 0, 0, 0]
def b10 : List Int := k10 ++ [2, 0, 0, 0, 0, 0, 0, 0, 0]
theorem a10_ok : AOks [a10] := fun a h => by rw [List.mem_singleton] at h; rw [h]; exact ⟨rfl, ⟨rfl, rfl, by decide, rfl, by decide, by unfold Byt; decide, rfl, by decide, rfl, by decide⟩, ⟨rfl, rfl, by decide, by unfold Byt; decide⟩⟩
theorem b10_ok : AOks [b10] := fun a h => by rw [List.mem_singleton] at h; rw [h]; exact ⟨rfl, ⟨rfl, rfl, by decide, rfl, by decide, by unfold Byt; decide, rfl, by decide, rfl, by decide⟩, ⟨rfl, rfl, by decide, by unfold Byt; decide⟩⟩
theorem j10 : normP [a10, b10] = [b10] := by decide +kernel
theorem m10 : meetP (normP [a10]) (normP [b10]) = [a10] := by decide +kernel
theorem r10 : rightL [a10] = true := by decide +kernel

theorem c_law10alive  (w0 : World) :
    CallR Try.prog 21 #[] w0 fun v w' => v = .bool true ∧ Ext w0 w' := by
 have hS : St NoB w0 w0 [] := St.start w0
 refine c_enter (l := [undef, undef, undef, undef, undef, undef, undef, undef, undef, undef, undef, undef, undef, undef, undef, undef, undef, undef, undef, undef, undef, undef, undef, undef, undef, undef, undef, undef, undef, undef]) Try.func21 rfl (by simp only [Try.ntmps21, List.size_toArray, List.length_cons, List.length_nil, Nat.reduceAdd, Nat.reduceSub, Array.replicate_succ, Array.replicate_zero, List.push_toArray, List.append_toArray, List.nil_append, List.cons_append]) ?_
 refine x_seq fun K1 hK1 => ?_
 refine x_region ?_
 refine s_go (s_assign) ?_
 try simp only [opv, n1, n2, n3, n4, Value.cells]
 refine x_nil ?_
 refine hK1 _ _ ?_
 refine x_seq fun K2 hK2 => ?_
 refine x_region ?_
 refine s_go (s_build_arr (cells := #[_, .int .u8 0, .int .u8 0, .int .u8 0, .int .u8 0, .int .u8 0, .int .u8 0, .int .u8 0]) Try.underlying31 ti31 ti5 (hc := by simp only [List.map_toArray, List.map_cons, List.map_nil, opv, n1, n2, n3, n4, Value.cells, List.toList_toArray]; (repeat (refine fill_cons rfl rfl (Nat.le_of_ble_eq_true rfl) ?_)); rfl)) ?_
 try simp only [opv, n1, n2, n3, n4, Value.cells]
 refine s_go (s_build_struct (cells := #[_, _, _, _, _, _, _, _, _, _, _, _]) Try.underlying34 ti34 bp34 (hc := by simp only [List.map_toArray, List.map_cons, List.map_nil, opv, n1, n2, n3, n4, Value.cells, List.toList_toArray]; (repeat (refine fill_cons rfl rfl (Nat.le_of_ble_eq_true rfl) ?_)); rfl)) ?_
 try simp only [opv, n1, n2, n3, n4, Value.cells]
 refine m_alloc ti34 hS (fun w1 g1 hS => ?_)
 try simp only [opv, n1, n2, n3, n4, Value.cells, Array.toArray_toList] at hS ⊢
 first | refine m_store_obj ti34 (hS := hS) (h := fun w2 hS => ?_) | refine m_store_vec ti34 (hS := hS) (h := fun w2 hS => ?_)
 try simp only [opv, n1, n2, n3, n4, Value.cells, Array.toArray_toList] at hS ⊢
 refine x_nil ?_
 refine hK2 _ _ ?_
 refine x_seq fun K3 hK3 => ?_
 refine x_mixed_f [] 0 [2, 3, 6, 7, 8, 9, 10, 11, 12, 13] (fun f w => ∃ ga gb : Nat, f 2 = .slice (some ⟨ga, 0, none⟩) 1 1 ∧ f 3 = .slice (some ⟨gb, 0, none⟩) 1 1 ∧ St NoB w0 w [.rd (some ⟨ga, 0, none⟩) 21 1 (arows [a10]), .rd (some ⟨gb, 0, none⟩) 21 1 (arows [b10])]) (by kernel_rfl) (by kernel_rfl) (by kernel_rfl) (by decide) hS (fun w3 hS => ?mixpre201) ?mixrest201
 case mixpre201 =>
  refine p_nil ?_
  simp only [List.length_cons, List.length_nil, Nat.reduceAdd, Nat.reduceSub]
  first | refine any_go (i := 0) (by rfl) (by decide +kernel) (by decide +kernel) noLate_nil (go_yields w_none (fun w hS => m_load_row Try.underlying34 (hi := ti34) (hS := hS))) ?_ | refine any_go (i := 0) (by rfl) (by decide +kernel) (by decide +kernel) noLate_nil (go_yields w_none (fun w hS => m_loada_obj Try.underlying34 (hi := ti34) (hS := hS))) ?_ | refine any_go (i := 0) (by rfl) (by decide +kernel) (by decide +kernel) noLate_nil (go_yields w_none (fun w hS => m_loada_bx Try.underlying34 (hi := ti34) (hS := hS))) ?_ | refine any_go (i := 0) (by rfl) (by decide +kernel) (by decide +kernel) noLate_nil (go_yields w_none (fun w hS => m_loada_rd Try.underlying34 (hi := ti34) (hS := hS))) ?_ | refine any_go (i := 0) (by rfl) (by decide +kernel) (by decide +kernel) noLate_nil (go_yields w_none (fun w hS => m_loada_vec Try.underlying34 (hi := ti34) (hS := hS))) ?_
  try simp only [opv, n1, n2, n3, n4, Value.cells, List.getElem_toArray, List.getElem_cons_zero, List.getElem_cons_succ]
  refine any_go (i := 1) (by rfl) (by decide +kernel) (by decide +kernel) noLate_nil (go_yields w_none (fun w hS => s_build_struct (cells := #[_, .int .u8 0, .int .u8 0, .int .u8 0, .int .u8 0, .int .u8 0, .int .u8 0, .int .u8 0, .int .u8 0]) Try.underlying37 ti37 bp37 (hc := by simp only [List.map_toArray, List.map_cons, List.map_nil, opv, n1, n2, n3, n4, Value.cells, List.toList_toArray]; (repeat (refine fill_cons rfl rfl (Nat.le_of_ble_eq_true rfl) ?_)); rfl))) ?_
  try simp only [opv, n1, n2, n3, n4, Value.cells]
  refine any_go (i := 2) (by rfl) (by decide +kernel) (by decide +kernel) noLate_nil (go_yields w_none (fun w hS => s_build_struct (cells := #[_, _, _, _, _, _, _, _, _, _, _, _, _, _, _, _, _, _, _, _, _]) Try.underlying39 ti39 bp39 (hc := by simp only [List.map_toArray, List.map_cons, List.map_nil, opv, n1, n2, n3, n4, Value.cells, List.toList_toArray]; (repeat (refine fill_cons rfl rfl (Nat.le_of_ble_eq_true rfl) ?_)); rfl))) ?_
  try simp only [opv, n1, n2, n3, n4, Value.cells]
  first | refine any_go (i := 4) (by rfl) (by decide +kernel) (by decide +kernel) noLate_nil (go_yields w_none (fun w hS => m_load_row Try.underlying34 (hi := ti34) (hS := hS))) ?_ | refine any_go (i := 4) (by rfl) (by decide +kernel) (by decide +kernel) noLate_nil (go_yields w_none (fun w hS => m_loada_obj Try.underlying34 (hi := ti34) (hS := hS))) ?_ | refine any_go (i := 4) (by rfl) (by decide +kernel) (by decide +kernel) noLate_nil (go_yields w_none (fun w hS => m_loada_bx Try.underlying34 (hi := ti34) (hS := hS))) ?_ | refine any_go (i := 4) (by rfl) (by decide +kernel) (by decide +kernel) noLate_nil (go_yields w_none (fun w hS => m_loada_rd Try.underlying34 (hi := ti34) (hS := hS))) ?_ | refine any_go (i := 4) (by rfl) (by decide +kernel) (by decide +kernel) noLate_nil (go_yields w_none (fun w hS => m_loada_vec Try.underlying34 (hi := ti34) (hS := hS))) ?_
  try simp only [opv, n1, n2, n3, n4, Value.cells, List.getElem_toArray, List.getElem_cons_zero, List.getElem_cons_succ]
  refine any_go (i := 5) (by rfl) (by decide +kernel) (by decide +kernel) noLate_nil (go_yields w_none (fun w hS => s_build_struct (cells := #[_, .int .u8 0, .int .u8 0, .int .u8 0, .int .u8 0, .int .u8 0, .int .u8 0, .int .u8 0, .int .u8 0]) Try.underlying37 ti37 bp37 (hc := by simp only [List.map_toArray, List.map_cons, List.map_nil, opv, n1, n2, n3, n4, Value.cells, List.toList_toArray]; (repeat (refine fill_cons rfl rfl (Nat.le_of_ble_eq_true rfl) ?_)); rfl))) ?_
  try simp only [opv, n1, n2, n3, n4, Value.cells]
  refine any_go (i := 6) (by rfl) (by decide +kernel) (by decide +kernel) noLate_nil (go_yields w_none (fun w hS => s_build_struct (cells := #[_, _, _, _, _, _, _, _, _, _, _, _, _, _, _, _, _, _, _, _, _]) Try.underlying39 ti39 bp39 (hc := by simp only [List.map_toArray, List.map_cons, List.map_nil, opv, n1, n2, n3, n4, Value.cells, List.toList_toArray]; (repeat (refine fill_cons rfl rfl (Nat.le_of_ble_eq_true rfl) ?_)); rfl))) ?_
  try simp only [opv, n1, n2, n3, n4, Value.cells]
  refine any_step [3, 7] (by kernel_rfl) (by decide) (fun w4 hE => ⟨fun _ => (hS.ext hE).sel (by repeat (first | exact Sel.nil | (refine Sel.cons (by repeat (first | exact Del.head | apply Del.tail)) ?_))), ?_⟩)
  replace hS := hS.ext hE
  intro i hi
  simp only [List.mem_cons, List.not_mem_nil, or_false] at hi
  rcases hi with rfl | rfl
  ·
   refine any_op (by rfl) ?_
   refine m_buildRow (cells := #[_, _, _, _, _, _, _, _, _, _, _, _, _, _, _, _, _, _, _, _, _]) Try.underlying24 ti39 (hc := by simp only [List.map_toArray, List.map_cons, List.map_nil, opv, n1, n2, n3, n4, Value.cells, List.toList_toArray]; (repeat (refine fill_cons rfl rfl (Nat.le_of_ble_eq_true rfl) ?_)); rfl) (hS := hS) (h := fun w5 g5 hS => ?_)
   try simp only [opv, n1, n2, n3, n4, Value.cells, Array.toArray_toList] at hS ⊢
   replace hS := hS.obj_rd (sz := 21) (n := 1) rfl .head
   refine x_nil ?_
   refine any_go (i := 8) (by rfl) (by decide +kernel) (by decide +kernel) noLate_nil (go_yields w_none (fun w hS => s_assign)) ?_
   try simp only [opv, n1, n2, n3, n4, Value.cells]
   refine any_step [7] (by kernel_rfl) (by decide) (fun w6 hE => ⟨fun _ => (hS.ext hE).sel (by repeat (first | exact Sel.nil | (refine Sel.cons (by repeat (first | exact Del.head | apply Del.tail)) ?_))), ?_⟩)
   replace hS := hS.ext hE
   intro i hi
   simp only [List.mem_cons, List.not_mem_nil, or_false] at hi
   subst hi
   ·
    refine any_op (by rfl) ?_
    refine m_buildRow (cells := #[_, _, _, _, _, _, _, _, _, _, _, _, _, _, _, _, _, _, _, _, _]) Try.underlying24 ti39 (hc := by simp only [List.map_toArray, List.map_cons, List.map_nil, opv, n1, n2, n3, n4, Value.cells, List.toList_toArray]; (repeat (refine fill_cons rfl rfl (Nat.le_of_ble_eq_true rfl) ?_)); rfl) (hS := hS) (h := fun w7 g7 hS => ?_)
    try simp only [opv, n1, n2, n3, n4, Value.cells, Array.toArray_toList] at hS ⊢
    replace hS := hS.obj_rd (sz := 21) (n := 1) rfl .head
    refine x_nil ?_
    refine any_go (i := 9) (by rfl) (by decide +kernel) (by decide +kernel) noLate_nil (go_yields w_none (fun w hS => s_assign)) ?_
    try simp only [opv, n1, n2, n3, n4, Value.cells]
    refine any_nil (by kernel_rfl) (fun w8 hE => ?_)
    replace hS := hS.ext hE
    refine ⟨fun _ => hS.sel (by repeat (first | exact Sel.nil | (refine Sel.cons (by repeat (first | exact Del.head | apply Del.tail)) ?_))), ?_⟩
    refine mix_leaf (by simp only [clob, List.foldl, n1, n2, n3, n4]) ?_
    try simp only [n1, n2]
    exact ⟨_, _, by first | trivial | rfl, by first | trivial | rfl, hS.sel (by repeat (first | exact Sel.nil | (refine Sel.cons (by repeat (first | exact Del.head | apply Del.tail)) ?_)))⟩
  ·
   refine any_op (by rfl) ?_
   refine m_buildRow (cells := #[_, _, _, _, _, _, _, _, _, _, _, _, _, _, _, _, _, _, _, _, _]) Try.underlying24 ti39 (hc := by simp only [List.map_toArray, List.map_cons, List.map_nil, opv, n1, n2, n3, n4, Value.cells, List.toList_toArray]; (repeat (refine fill_cons rfl rfl (Nat.le_of_ble_eq_true rfl) ?_)); rfl) (hS := hS) (h := fun w9 g9 hS => ?_)
   try simp only [opv, n1, n2, n3, n4, Value.cells, Array.toArray_toList] at hS ⊢
   replace hS := hS.obj_rd (sz := 21) (n := 1) rfl .head
   refine x_nil ?_
   refine any_step [3] (by kernel_rfl) (by decide) (fun w10 hE => ⟨fun _ => (hS.ext hE).sel (by repeat (first | exact Sel.nil | (refine Sel.cons (by repeat (first | exact Del.head | apply Del.tail)) ?_))), ?_⟩)
   replace hS := hS.ext hE
   intro i hi
   simp only [List.mem_cons, List.not_mem_nil, or_false] at hi
   subst hi
   ·
    refine any_op (by rfl) ?_
    refine m_buildRow (cells := #[_, _, _, _, _, _, _, _, _, _, _, _, _, _, _, _, _, _, _, _, _]) Try.underlying24 ti39 (hc := by simp only [List.map_toArray, List.map_cons, List.map_nil, opv, n1, n2, n3, n4, Value.cells, List.toList_toArray]; (repeat (refine fill_cons rfl rfl (Nat.le_of_ble_eq_true rfl) ?_)); rfl) (hS := hS) (h := fun w11 g11 hS => ?_)
    try simp only [opv, n1, n2, n3, n4, Value.cells, Array.toArray_toList] at hS ⊢
    replace hS := hS.obj_rd (sz := 21) (n := 1) rfl .head
    refine x_nil ?_
    refine any_go (i := 8) (by rfl) (by decide +kernel) (by decide +kernel) noLate_nil (go_yields w_none (fun w hS => s_assign)) ?_
    try simp only [opv, n1, n2, n3, n4, Value.cells]
    refine any_go (i := 9) (by rfl) (by decide +kernel) (by decide +kernel) noLate_nil (go_yields w_none (fun w hS => s_assign)) ?_
    try simp only [opv, n1, n2, n3, n4, Value.cells]
    refine any_nil (by kernel_rfl) (fun w12 hE => ?_)
    replace hS := hS.ext hE
    refine ⟨fun _ => hS.sel (by repeat (first | exact Sel.nil | (refine Sel.cons (by repeat (first | exact Del.head | apply Del.tail)) ?_))), ?_⟩
    refine mix_leaf (by simp only [clob, List.foldl, n1, n2, n3, n4]) ?_
    try simp only [n1, n2]
    exact ⟨_, _, by first | trivial | rfl, by first | trivial | rfl, hS.sel (by repeat (first | exact Sel.nil | (refine Sel.cons (by repeat (first | exact Del.head | apply Del.tail)) ?_)))⟩
 intro fm1 w13 hM
 obtain ⟨ga, gb, h2, h3, hS⟩ := hM
 simp only [clob, List.foldl, n3, n4, h2, h3]
 refine hK3 _ _ ?_
 refine x_seq fun K4 hK4 => ?_
 refine x_region ?_
 refine s_go (s_move) ?_
 try simp only [opv, n1, n2, n3, n4, Value.cells]
 refine s_go (s_move) ?_
 try simp only [opv, n1, n2, n3, n4, Value.cells]
 refine s_call en33 ?_
 try simp only [opv, n1, n2, n3, n4, Value.cells, List.map_toArray, List.map_cons, List.map_nil, List.append_toArray, List.cons_append, List.nil_append, Array.append_empty]
 refine CallR.mono (c_latJoin _ (some ⟨ga, 0, none⟩) 1 [a10] (hS.hasRd (by repeat (first | exact Has.head | apply Has.tail))) a10_ok (some ⟨gb, 0, none⟩) 1 [b10] (hS.hasRd (by repeat (first | exact Has.head | apply Has.tail))) b10_ok (by decide)) ?_
 rintro _ w14 ⟨A14, c14, rfl, hC14⟩
 replace hS := hS.call hC14
 simp only [List.cons_append, List.nil_append] at hS
 rw [j10] at hS
 rw [show normP ([a10] ++ [b10]) = [b10] from j10]
 try simp only [opv, n1, n2, n3, n4, Value.cells]
 refine s_go (s_move) ?_
 try simp only [opv, n1, n2, n3, n4, Value.cells]
 refine s_call en25 ?_
 try simp only [opv, n1, n2, n3, n4, Value.cells, List.map_toArray, List.map_cons, List.map_nil, List.append_toArray, List.cons_append, List.nil_append, Array.append_empty]
 refine CallR.mono (c_ref10Rows _ _ _ [b10] (hS.vecRd (by repeat (first | exact Has.head | apply Has.tail))) b10_ok _ _ [b10] (hS.hasRd (by repeat (first | exact Has.head | apply Has.tail))) b10_ok (by decide)) ?_
 rintro _ w15 ⟨rfl, hE15⟩
 replace hS := hS.ext hE15
 try simp only [opv, n1, n2, n3, n4, Value.cells]
 try simp only [eq_self, decide_true, beq_self_eq_true, Bool.and_self]
 refine s_go (s_move) ?_
 try simp only [opv, n1, n2, n3, n4, Value.cells]
 refine g_on (yi (t := 19) rfl rfl) ?_
 refine s_go (s_move) ?_
 try simp only [opv, n1, n2, n3, n4, Value.cells]
 refine g_on (yi (t := 19) rfl rfl) ?_
 refine s_go (s_move) ?_
 try simp only [opv, n1, n2, n3, n4, Value.cells]
 refine g_on (yi (t := 19) rfl rfl) ?_
 refine s_call en35 ?_
 try simp only [opv, n1, n2, n3, n4, Value.cells, List.map_toArray, List.map_cons, List.map_nil, List.append_toArray, List.cons_append, List.nil_append, Array.append_empty]
 refine CallR.mono (c_latMeet _ (some ⟨ga, 0, none⟩) 1 [a10] (hS.hasRd (by repeat (first | exact Has.head | apply Has.tail))) a10_ok (some ⟨gb, 0, none⟩) 1 [b10] (hS.hasRd (by repeat (first | exact Has.head | apply Has.tail))) b10_ok (by decide)) ?_
 rintro _ w16 ⟨A16, c16, rfl, hC16⟩
 replace hS := hS.call hC16
 simp only [List.cons_append, List.nil_append] at hS
 rw [m10] at hS ⊢
 try simp only [opv, n1, n2, n3, n4, Value.cells]
 refine g_on (yi (t := 19) rfl rfl) ?_
 refine s_go (s_move) ?_
 try simp only [opv, n1, n2, n3, n4, Value.cells]
 refine g_on (yi (t := 19) rfl rfl) ?_
 refine s_call en25 ?_
 try simp only [opv, n1, n2, n3, n4, Value.cells, List.map_toArray, List.map_cons, List.map_nil, List.append_toArray, List.cons_append, List.nil_append, Array.append_empty]
 refine CallR.mono (c_ref10Rows _ _ _ [a10] (hS.vecRd (by repeat (first | exact Has.head | apply Has.tail))) a10_ok _ _ [a10] (hS.hasRd (by repeat (first | exact Has.head | apply Has.tail))) a10_ok (by decide)) ?_
 rintro _ w17 ⟨rfl, hE17⟩
 replace hS := hS.ext hE17
 try simp only [opv, n1, n2, n3, n4, Value.cells]
 try simp only [eq_self, decide_true, beq_self_eq_true, Bool.and_self]
 first | refine s_go (s_pick_t) ?_ | refine s_go (s_pick_f) ?_
 try simp only [opv, n1, n2, n3, n4, Value.cells]
 refine s_go (s_move) ?_
 try simp only [opv, n1, n2, n3, n4, Value.cells]
 refine g_on (yi (t := 26) rfl rfl) ?_
 refine s_go (s_move) ?_
 try simp only [opv, n1, n2, n3, n4, Value.cells]
 refine g_on (yi (t := 26) rfl rfl) ?_
 refine s_call en29 ?_
 try simp only [opv, n1, n2, n3, n4, Value.cells, List.map_toArray, List.map_cons, List.map_nil, List.append_toArray, List.cons_append, List.nil_append, Array.append_empty]
 refine CallR.mono (c_latRight _ _ _ [a10] (hS.hasRd (by repeat (first | exact Has.head | apply Has.tail))) a10_ok (by decide)) ?_
 rintro _ w18 ⟨rfl, hE18⟩
 replace hS := hS.ext hE18
 try simp only [opv, n1, n2, n3, n4, Value.cells]
 rw [r10]
 first | refine s_go (s_pick_t) ?_ | refine s_go (s_pick_f) ?_
 try simp only [opv, n1, n2, n3, n4, Value.cells]
 refine s_go (s_assign) ?_
 try simp only [opv, n1, n2, n3, n4, Value.cells]
 refine x_nil ?_
 refine hK4 _ _ ?_
 refine x_ret ?_
 refine r_tmp rfl ?_
 exact ⟨rfl, hS.ext_of⟩
theorem c_LatJoins (w0 : World) (A : Option Addr) (c : Nat) (l : List (List Int)) (hr : Rd w0 A 21 l.length (arows l)) (hv : AOks l) (B : Option Addr) (d : Nat) (r : List (List Int)) (hr2 : Rd w0 B 21 r.length (arows r)) (hv2 : AOks r) (hn : l.length + r.length ≤ 1800000000000000)  :
    CallR Try.prog 5 #[.slice A l.length c, .slice B r.length d] w0 fun v w' => v = .bool true ∧ Ext w0 w' := by
 have hS := St.rd2 (S := NoB) hr hr2
 have hjo := (norm_sta (hv.app hv2)).ok
 have hjl := norm_len (l ++ r)
 rw [List.length_append] at hjl
 have hmo := (meet_sta (norm_sta hv2) (norm_sta hv)).1.ok
 have hml := meet_len (normP l) (normP r)
 have hnl := norm_len l
 refine c_enter (l := [.slice A l.length c, .slice B r.length d, undef, undef, undef, undef, undef, undef, undef, undef, undef, undef, undef, undef, undef, undef, undef, undef, undef, undef, undef, undef, undef, undef, undef, undef, undef, undef, undef, undef, undef, undef, undef, undef, undef, undef, undef, undef, undef, undef, undef, undef, undef, undef, undef, undef, undef, undef, undef, undef, undef]) Try.func5 rfl (by simp only [Try.ntmps5, List.size_toArray, List.length_cons, List.length_nil, Nat.reduceAdd, Nat.reduceSub, Array.replicate_succ, Array.replicate_zero, List.push_toArray, List.append_toArray, List.nil_append, List.cons_append]) ?_
 refine x_seq fun K1 hK1 => ?_
 refine x_region ?_
 refine s_go (s_assign) ?_
 try simp only [opv, n1, n2, n3, n4, Value.cells]
 refine x_nil ?_
 refine hK1 _ _ ?_
 refine x_seq fun K2 hK2 => ?_
 refine x_seq fun K3 hK3 => ?_
 refine x_region ?_
 refine s_go (s_move) ?_
 try simp only [opv, n1, n2, n3, n4, Value.cells]
 refine s_go (s_len_sl Try.underlying24) ?_
 try simp only [opv, n1, n2, n3, n4, Value.cells]
 refine s_go (s_gtr) ?_
 try simp only [opv, n1, n2, n3, n4, Value.cells]
 refine s_go (s_move) ?_
 try simp only [opv, n1, n2, n3, n4, Value.cells]
 refine s_part 8 rfl (fun hp1 => ?_) (fun hp1 => ?_)
 ·
  try simp only [n3, n4]
  try simp only [decide_eq_true_eq, decide_eq_false_iff_not, Bool.not_eq_true', Bool.not_eq_false', Int.not_lt, Int.not_le, ne_eq, Decidable.not_not] at hp1
  first
  | (exfalso; omega)
  | skip
    refine g_off (yi (t := 8) rfl rfl) ?_
    try simp only [opv, n1, n2, n3, n4, Value.cells]
    refine g_off (yi (t := 8) rfl rfl) ?_
    try simp only [opv, n1, n2, n3, n4, Value.cells]
    refine g_off (yi (t := 8) rfl rfl) ?_
    try simp only [opv, n1, n2, n3, n4, Value.cells]
    first | refine s_go (s_pick_t) ?_ | refine s_go (s_pick_f) ?_
    try simp only [opv, n1, n2, n3, n4, Value.cells]
    refine x_nil ?_
    refine hK3 _ _ ?_
    refine x_cond_t (h := ?_)
    refine x_seq fun K4 hK4 => ?_
    refine x_region ?_
    refine s_call en21 ?_
    try simp only [opv, n1, n2, n3, n4, Value.cells, List.map_toArray, List.map_cons, List.map_nil, List.append_toArray, List.cons_append, List.nil_append, Array.append_empty]
    refine CallR.mono (c_law10alive _) ?_
    rintro _ w1 ⟨rfl, hE1⟩
    replace hS := hS.ext hE1
    try simp only [opv, n1, n2, n3, n4, Value.cells]
    refine s_go (s_assign) ?_
    try simp only [opv, n1, n2, n3, n4, Value.cells]
    refine x_nil ?_
    refine hK4 _ _ ?_
    refine x_ret ?_
    refine r_tmp rfl ?_
    exact ⟨rfl, hS.ext_of⟩
 ·
  try simp only [n3, n4]
  try simp only [decide_eq_true_eq, decide_eq_false_iff_not, Bool.not_eq_true', Bool.not_eq_false', Int.not_lt, Int.not_le, ne_eq, Decidable.not_not] at hp1
  first
  | (exfalso; omega)
  | skip
    refine g_on (yi (t := 8) rfl rfl) ?_
    refine s_go (s_move) ?_
    try simp only [opv, n1, n2, n3, n4, Value.cells]
    refine g_on (yi (t := 8) rfl rfl) ?_
    refine s_go (s_len_sl Try.underlying24) ?_
    try simp only [opv, n1, n2, n3, n4, Value.cells]
    refine g_on (yi (t := 8) rfl rfl) ?_
    refine s_go (s_gtr) ?_
    try simp only [opv, n1, n2, n3, n4, Value.cells]
    first | refine s_go (s_pick_t) ?_ | refine s_go (s_pick_f) ?_
    try simp only [opv, n1, n2, n3, n4, Value.cells]
    refine x_nil ?_
    refine hK3 _ _ ?_
    refine x_cond (ht := fun hc2 => ?_) (hf := fun hc2 => ?_)
    ·
     try simp only [decide_eq_true_eq, decide_eq_false_iff_not, Bool.not_eq_true', Bool.not_eq_false', Int.not_lt, Int.not_le, ne_eq, Decidable.not_not, bne_iff_ne, beq_iff_eq, not_true_eq_false, not_false_eq_true] at hc2
     first
     | (exfalso; omega)
     | skip
       refine x_seq fun K5 hK5 => ?_
       refine x_region ?_
       refine s_call en21 ?_
       try simp only [opv, n1, n2, n3, n4, Value.cells, List.map_toArray, List.map_cons, List.map_nil, List.append_toArray, List.cons_append, List.nil_append, Array.append_empty]
       refine CallR.mono (c_law10alive _) ?_
       rintro _ w2 ⟨rfl, hE2⟩
       replace hS := hS.ext hE2
       try simp only [opv, n1, n2, n3, n4, Value.cells]
       refine s_go (s_assign) ?_
       try simp only [opv, n1, n2, n3, n4, Value.cells]
       refine x_nil ?_
       refine hK5 _ _ ?_
       refine x_ret ?_
       refine r_tmp rfl ?_
       exact ⟨rfl, hS.ext_of⟩
    ·
     try simp only [decide_eq_true_eq, decide_eq_false_iff_not, Bool.not_eq_true', Bool.not_eq_false', Int.not_lt, Int.not_le, ne_eq, Decidable.not_not, bne_iff_ne, beq_iff_eq, not_true_eq_false, not_false_eq_true] at hc2
     first
     | (exfalso; omega)
     | skip
       have hn2 : l.length + r.length ≤ 120 := by omega
       refine x_skip ?_
       refine hK2 _ _ ?_
       refine x_seq fun K6 hK6 => ?_
       refine x_region ?_
       refine s_go (s_move) ?_
       try simp only [opv, n1, n2, n3, n4, Value.cells]
       refine s_go (s_move) ?_
       try simp only [opv, n1, n2, n3, n4, Value.cells]
       refine s_call en33 ?_
       try simp only [opv, n1, n2, n3, n4, Value.cells, List.map_toArray, List.map_cons, List.map_nil, List.append_toArray, List.cons_append, List.nil_append, Array.append_empty]
       refine CallR.mono (c_latJoin _ A c l (hS.hasRd (by repeat (first | exact Has.head | apply Has.tail))) hv B d r (hS.hasRd (by repeat (first | exact Has.head | apply Has.tail))) hv2 (by omega)) ?_
       rintro _ w3 ⟨A3, c3, rfl, hC3⟩
       replace hS := hS.call hC3
       simp only [List.cons_append, List.nil_append] at hS
       try simp only [opv, n1, n2, n3, n4, Value.cells]
       refine s_go (s_move) ?_
       try simp only [opv, n1, n2, n3, n4, Value.cells]
       refine s_go (s_move) ?_
       try simp only [opv, n1, n2, n3, n4, Value.cells]
       refine s_call en34 ?_
       try simp only [opv, n1, n2, n3, n4, Value.cells, List.map_toArray, List.map_cons, List.map_nil, List.append_toArray, List.cons_append, List.nil_append, Array.append_empty]
       refine CallR.mono (c_ref10Join _ A c l (hS.hasRd (by repeat (first | exact Has.head | apply Has.tail))) hv B d r (hS.hasRd (by repeat (first | exact Has.head | apply Has.tail))) hv2 (by omega)) ?_
       rintro _ w4 ⟨A4, c4, rfl, hC4⟩
       replace hS := hS.call hC4
       simp only [List.cons_append, List.nil_append] at hS
       try simp only [opv, n1, n2, n3, n4, Value.cells]
       refine s_call en25 ?_
       try simp only [opv, n1, n2, n3, n4, Value.cells, List.map_toArray, List.map_cons, List.map_nil, List.append_toArray, List.cons_append, List.nil_append, Array.append_empty]
       refine CallR.mono (c_ref10Rows _ _ _ _ (hS.vecRd (by repeat (first | exact Has.head | apply Has.tail))) hjo _ _ _ (hS.vecRd (by repeat (first | exact Has.head | apply Has.tail))) hjo (by omega)) ?_
       rintro _ w5 ⟨rfl, hE5⟩
       replace hS := hS.ext hE5
       try simp only [opv, n1, n2, n3, n4, Value.cells]
       try simp only [eq_self, decide_true, beq_self_eq_true, Bool.and_self]
       refine s_go (s_move) ?_
       try simp only [opv, n1, n2, n3, n4, Value.cells]
       refine g_on (yi (t := 21) rfl rfl) ?_
       refine s_go (s_move) ?_
       try simp only [opv, n1, n2, n3, n4, Value.cells]
       refine g_on (yi (t := 21) rfl rfl) ?_
       refine s_go (s_move) ?_
       try simp only [opv, n1, n2, n3, n4, Value.cells]
       refine g_on (yi (t := 21) rfl rfl) ?_
       refine s_call en35 ?_
       try simp only [opv, n1, n2, n3, n4, Value.cells, List.map_toArray, List.map_cons, List.map_nil, List.append_toArray, List.cons_append, List.nil_append, Array.append_empty]
       refine CallR.mono (c_latMeet _ A c l (hS.hasRd (by repeat (first | exact Has.head | apply Has.tail))) hv B d r (hS.hasRd (by repeat (first | exact Has.head | apply Has.tail))) hv2 (by omega)) ?_
       rintro _ w6 ⟨A6, c6, rfl, hC6⟩
       replace hS := hS.call hC6
       simp only [List.cons_append, List.nil_append] at hS
       try simp only [opv, n1, n2, n3, n4, Value.cells]
       refine g_on (yi (t := 21) rfl rfl) ?_
       refine s_go (s_move) ?_
       try simp only [opv, n1, n2, n3, n4, Value.cells]
       refine g_on (yi (t := 21) rfl rfl) ?_
       refine s_go (s_move) ?_
       try simp only [opv, n1, n2, n3, n4, Value.cells]
       refine g_on (yi (t := 21) rfl rfl) ?_
       refine s_call en36 ?_
       try simp only [opv, n1, n2, n3, n4, Value.cells, List.map_toArray, List.map_cons, List.map_nil, List.append_toArray, List.cons_append, List.nil_append, Array.append_empty]
       refine CallR.mono (c_ref10Meet _ A c l (hS.hasRd (by repeat (first | exact Has.head | apply Has.tail))) hv B d r (hS.hasRd (by repeat (first | exact Has.head | apply Has.tail))) hv2 (by omega)) ?_
       rintro _ w7 ⟨A7, c7, rfl, hC7⟩
       replace hS := hS.call hC7
       simp only [List.cons_append, List.nil_append] at hS
       try simp only [opv, n1, n2, n3, n4, Value.cells]
       refine g_on (yi (t := 21) rfl rfl) ?_
       refine s_call en25 ?_
       try simp only [opv, n1, n2, n3, n4, Value.cells, List.map_toArray, List.map_cons, List.map_nil, List.append_toArray, List.cons_append, List.nil_append, Array.append_empty]
       refine CallR.mono (c_ref10Rows _ _ _ _ (hS.vecRd (by repeat (first | exact Has.head | apply Has.tail))) hmo _ _ _ (hS.vecRd (by repeat (first | exact Has.head | apply Has.tail))) hmo (by omega)) ?_
       rintro _ w8 ⟨rfl, hE8⟩
       replace hS := hS.ext hE8
       try simp only [opv, n1, n2, n3, n4, Value.cells]
       try simp only [eq_self, decide_true, beq_self_eq_true, Bool.and_self]
       first | refine s_go (s_pick_t) ?_ | refine s_go (s_pick_f) ?_
       try simp only [opv, n1, n2, n3, n4, Value.cells]
       refine s_go (s_move) ?_
       try simp only [opv, n1, n2, n3, n4, Value.cells]
       refine g_on (yi (t := 30) rfl rfl) ?_
       refine s_go (s_move) ?_
       try simp only [opv, n1, n2, n3, n4, Value.cells]
       refine g_on (yi (t := 30) rfl rfl) ?_
       refine s_go (s_move) ?_
       try simp only [opv, n1, n2, n3, n4, Value.cells]
       refine g_on (yi (t := 30) rfl rfl) ?_
       refine s_call en37 ?_
       try simp only [opv, n1, n2, n3, n4, Value.cells, List.map_toArray, List.map_cons, List.map_nil, List.append_toArray, List.cons_append, List.nil_append, Array.append_empty]
       refine CallR.mono (c_latLeq _ A c l (hS.hasRd (by repeat (first | exact Has.head | apply Has.tail))) hv B d r (hS.hasRd (by repeat (first | exact Has.head | apply Has.tail))) hv2 (by omega)) ?_
       rintro _ w9 ⟨rfl, hE9⟩
       replace hS := hS.ext hE9
       try simp only [opv, n1, n2, n3, n4, Value.cells]
       refine g_on (yi (t := 30) rfl rfl) ?_
       refine s_go (s_move) ?_
       try simp only [opv, n1, n2, n3, n4, Value.cells]
       refine g_on (yi (t := 30) rfl rfl) ?_
       refine s_go (s_move) ?_
       try simp only [opv, n1, n2, n3, n4, Value.cells]
       refine g_on (yi (t := 30) rfl rfl) ?_
       refine s_call en38 ?_
       try simp only [opv, n1, n2, n3, n4, Value.cells, List.map_toArray, List.map_cons, List.map_nil, List.append_toArray, List.cons_append, List.nil_append, Array.append_empty]
       refine CallR.mono (c_ref10Leq _ A c l (hS.hasRd (by repeat (first | exact Has.head | apply Has.tail))) hv B d r (hS.hasRd (by repeat (first | exact Has.head | apply Has.tail))) hv2 (by omega)) ?_
       rintro _ w10 ⟨rfl, hE10⟩
       replace hS := hS.ext hE10
       try simp only [opv, n1, n2, n3, n4, Value.cells]
       refine g_on (yi (t := 30) rfl rfl) ?_
       refine s_go (s_eql_bool Try.underlying4) ?_
       try simp only [opv, n1, n2, n3, n4, Value.cells]
       rw [beq_self_eq_true]
       first | refine s_go (s_pick_t) ?_ | refine s_go (s_pick_f) ?_
       try simp only [opv, n1, n2, n3, n4, Value.cells]
       refine s_go (s_move) ?_
       try simp only [opv, n1, n2, n3, n4, Value.cells]
       refine g_on (yi (t := 39) rfl rfl) ?_
       refine s_go (s_move) ?_
       try simp only [opv, n1, n2, n3, n4, Value.cells]
       refine g_on (yi (t := 39) rfl rfl) ?_
       refine s_go (s_move) ?_
       try simp only [opv, n1, n2, n3, n4, Value.cells]
       refine g_on (yi (t := 39) rfl rfl) ?_
       refine s_call en39 ?_
       try simp only [opv, n1, n2, n3, n4, Value.cells, List.map_toArray, List.map_cons, List.map_nil, List.append_toArray, List.cons_append, List.nil_append, Array.append_empty]
       refine CallR.mono (c_latSame _ A c l (hS.hasRd (by repeat (first | exact Has.head | apply Has.tail))) hv B d r (hS.hasRd (by repeat (first | exact Has.head | apply Has.tail))) hv2 (by omega)) ?_
       rintro _ w11 ⟨rfl, hE11⟩
       replace hS := hS.ext hE11
       try simp only [opv, n1, n2, n3, n4, Value.cells]
       refine g_on (yi (t := 39) rfl rfl) ?_
       refine s_go (s_move) ?_
       try simp only [opv, n1, n2, n3, n4, Value.cells]
       refine g_on (yi (t := 39) rfl rfl) ?_
       refine s_go (s_move) ?_
       try simp only [opv, n1, n2, n3, n4, Value.cells]
       refine g_on (yi (t := 39) rfl rfl) ?_
       refine s_call en40 ?_
       try simp only [opv, n1, n2, n3, n4, Value.cells, List.map_toArray, List.map_cons, List.map_nil, List.append_toArray, List.cons_append, List.nil_append, Array.append_empty]
       refine CallR.mono (c_ref10Same _ A c l (hS.hasRd (by repeat (first | exact Has.head | apply Has.tail))) hv B d r (hS.hasRd (by repeat (first | exact Has.head | apply Has.tail))) hv2 (by omega)) ?_
       rintro _ w12 ⟨rfl, hE12⟩
       replace hS := hS.ext hE12
       try simp only [opv, n1, n2, n3, n4, Value.cells]
       refine g_on (yi (t := 39) rfl rfl) ?_
       refine s_go (s_eql_bool Try.underlying4) ?_
       try simp only [opv, n1, n2, n3, n4, Value.cells]
       rw [beq_self_eq_true]
       first | refine s_go (s_pick_t) ?_ | refine s_go (s_pick_f) ?_
       try simp only [opv, n1, n2, n3, n4, Value.cells]
       refine s_go (s_move) ?_
       try simp only [opv, n1, n2, n3, n4, Value.cells]
       refine g_on (yi (t := 48) rfl rfl) ?_
       refine s_call en21 ?_
       try simp only [opv, n1, n2, n3, n4, Value.cells, List.map_toArray, List.map_cons, List.map_nil, List.append_toArray, List.cons_append, List.nil_append, Array.append_empty]
       refine CallR.mono (c_law10alive _) ?_
       rintro _ w13 ⟨rfl, hE13⟩
       replace hS := hS.ext hE13
       try simp only [opv, n1, n2, n3, n4, Value.cells]
       first | refine s_go (s_pick_t) ?_ | refine s_go (s_pick_f) ?_
       try simp only [opv, n1, n2, n3, n4, Value.cells]
       refine s_go (s_assign) ?_
       try simp only [opv, n1, n2, n3, n4, Value.cells]
       refine x_nil ?_
       refine hK6 _ _ ?_
       refine x_ret ?_
       refine r_tmp rfl ?_
       exact ⟨rfl, hS.ext_of⟩
end Go.Proofs.Ytmgacmkikefpjaa
