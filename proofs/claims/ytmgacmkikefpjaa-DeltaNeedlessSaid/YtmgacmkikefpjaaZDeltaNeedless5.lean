/- Rules, plain words and walks that the claim leans on: Gi, Gj, Gk, Na, Nt, Pt. -/
import Derived.Test.YtmgacmkikefpjaaZDeltaNeedless4
set_option linter.unusedSimpArgs false
set_option linter.unusedVariables false
set_option linter.unusedSimpArgs false
set_option linter.unusedVariables false
set_option maxHeartbeats 1000000
set_option maxRecDepth 100000
namespace Go.Proofs.Ytmgacmkikefpjaa
open Go.RowKit
theorem c_ref10Join (w0 : World) (A : Option Addr) (c : Nat) (l : List (List Int)) (hr : Rd w0 A 21 l.length (arows l)) (hv : AOks l) (B : Option Addr) (d : Nat) (r : List (List Int)) (hr2 : Rd w0 B 21 r.length (arows r)) (hv2 : AOks r) (hn : l.length + r.length ≤ 1000000000)  :
    CallR Try.prog 34 #[.slice A l.length c, .slice B r.length d] w0 fun v w' => ∃ A c, v = .slice A (normP (l ++ r)).length c ∧ St NoB w0 w' [.vec A c 39 21 (normP (l ++ r)).length (arows (normP (l ++ r)))] := by
 have hS := St.rd2 (S := NoB) hr hr2
 refine c_enter (l := [.slice A l.length c, .slice B r.length d, undef, undef, undef, undef, undef, undef, undef, undef, undef, undef, undef, undef, undef, undef, undef, undef, undef, undef, undef, undef, undef, undef, undef, undef, undef, undef, undef, undef, undef, undef, undef, undef, undef, undef, undef, undef, undef, undef, undef, undef, undef, undef, undef, undef, undef, undef, undef, undef, undef, undef, undef, undef, undef, undef, undef, undef, undef, undef, undef, undef, undef, undef, undef, undef, undef, undef, undef, undef, undef, undef, undef, undef, undef, undef, undef, undef, undef, undef, undef, undef, undef, undef, undef, undef, undef, undef, undef, undef, undef, undef, undef, undef, undef, undef, undef, undef, undef, undef, undef, undef, undef, undef, undef, undef, undef]) Try.func34 rfl (by simp only [Try.ntmps34, List.size_toArray, List.length_cons, List.length_nil, Nat.reduceAdd, Nat.reduceSub, Array.replicate_succ, Array.replicate_zero, List.push_toArray, List.append_toArray, List.nil_append, List.cons_append]) ?_
 refine x_seq fun K1 hK1 => ?_
 refine x_region ?_
 refine s_go (s_assign) ?_
 try simp only [opv, n1, n2, n3, n4, Value.cells]
 refine x_nil ?_
 refine hK1 _ _ ?_
 refine x_seq fun K2 hK2 => ?_
 refine x_region ?_
 refine s_go (s_move) ?_
 try simp only [opv, n1, n2, n3, n4, Value.cells]
 refine s_call en32 ?_
 try simp only [opv, n1, n2, n3, n4, Value.cells, List.map_toArray, List.map_cons, List.map_nil, List.append_toArray, List.cons_append, List.nil_append, Array.append_empty]
 refine CallR.mono (c_ref10Norm _ A c l (hS.hasRd (by repeat (first | exact Has.head | apply Has.tail))) hv (by omega)) ?_
 rintro _ w1 ⟨B1, d1, rfl, hR1⟩
 replace hS := hS.back hR1
 try simp only [opv, n1, n2, n3, n4, Value.cells]
 refine s_go (s_move) ?_
 try simp only [opv, n1, n2, n3, n4, Value.cells]
 refine s_call en32 ?_
 try simp only [opv, n1, n2, n3, n4, Value.cells, List.map_toArray, List.map_cons, List.map_nil, List.append_toArray, List.cons_append, List.nil_append, Array.append_empty]
 refine CallR.mono (c_ref10Norm _ B d r (hS.hasRd (by repeat (first | exact Has.head | apply Has.tail))) hv2 (by omega)) ?_
 rintro _ w2 ⟨B2, d2, rfl, hR2⟩
 replace hS := hS.back hR2
 try simp only [opv, n1, n2, n3, n4, Value.cells]
 try simp only [hsl]
 obtain ⟨s, hsl⟩ : ∃ s, normP l = s := ⟨_, rfl⟩
 obtain ⟨t, htl⟩ : ∃ t, normP r = t := ⟨_, rfl⟩
 have hsn := norm_len l
 have htn := norm_len r
 have hss := norm_sta hv
 have hts := norm_sta hv2
 have hmg0 := merge_norm hv hv2
 rw [hsl] at hS hsn hss hmg0
 rw [htl] at hS htn hts hmg0
 have hso := hss.ok
 have hto := hts.ok
 have hsl2 := arows_len s
 have htl2 := arows_len t
 try simp only [hsl, htl]
 refine s_go (s_assign) ?_
 try simp only [opv, n1, n2, n3, n4, Value.cells]
 refine s_go (s_assign) ?_
 try simp only [opv, n1, n2, n3, n4, Value.cells]
 refine x_nil ?_
 refine hK2 _ _ ?_
 refine x_seq fun K3 hK3 => ?_
 refine x_region ?_
 replace hS := hS.nil_vec 39 21
 refine s_go (s_assign) ?_
 try simp only [opv, n1, n2, n3, n4, Value.cells]
 refine x_nil ?_
 refine hK3 _ _ ?_
 refine x_seq fun K4 hK4 => ?_
 refine x_region ?_
 refine s_go (s_assign) ?_
 try simp only [opv, n1, n2, n3, n4, Value.cells]
 refine s_go (s_assign) ?_
 try simp only [opv, n1, n2, n3, n4, Value.cells]
 refine x_nil ?_
 refine hK4 _ _ ?_
 refine x_seq fun K5 hK5 => ?_
 refine x_block ?_
 refine x_loop [5, 6, 7, 12, 13, 14, 15, 16, 17, 18, 19, 20, 21, 22, 23, 24, 25, 26, 27, 28, 29, 30, 31, 32, 33, 34, 35, 36, 37, 38, 39, 40, 41, 42, 43, 44, 45, 46, 47, 48, 49, 50, 51, 52, 53, 54, 55, 56, 57, 58, 59, 60, 61, 62, 63, 64, 65, 66, 67, 68, 69, 70, 71, 72, 73, 74, 75, 76, 77, 78, 79, 80, 81, 82, 83, 84, 85, 86, 87, 88, 89, 90, 91, 92, 93, 94, 95, 96, 97, 98, 99, 100, 101, 102, 103, 104, 105] (fun m f w => ∃ (i k : Nat) (C : Option Addr) (e : Nat) (o : List (List Int)), i ≤ s.length ∧ k ≤ t.length ∧ (s.length - i) + (t.length - k) ≤ m ∧ f 6 = .int .i64 (i : Int) ∧ f 7 = .int .i64 (k : Int) ∧ f 5 = .slice C o.length e ∧ o ++ mergeP (s.drop i) (t.drop k) = mergeP s t ∧ o.length ≤ i + k ∧ St NoB w0 w [.vec C e 39 21 (o).length (arows (o)), .rd B2 21 (t).length (arows (t)), .rd B1 21 (s).length (arows (s))]) (s.length + t.length) ?init1 (fun m1 f1 wl1 hI => ?_)
 case init1 =>
  try simp only [opv, n1, n2, n3, n4, Value.cells]
  exact ⟨0, 0, none, 0, [], by omega, by omega, by omega, rfl, rfl, rfl, rfl, by simp, hS.sel (by repeat (first | exact Sel.nil | (refine Sel.cons (by repeat (first | exact Del.head | apply Del.tail)) ?_)))⟩
 obtain ⟨i, k, C, e, o, hi, hk, hmm, h6, h7, h5, hmo, hol, hS⟩ := hI
 simp only [clob, List.foldl, n3, n4, h6, h7, h5]
 obtain ⟨x, hx⟩ : ∃ x, s.getD i [] = x := ⟨_, rfl⟩
 obtain ⟨y, hy⟩ : ∃ y, t.getD k [] = y := ⟨_, rfl⟩
 refine x_seq fun K6 hK6 => ?_
 refine x_seq fun K7 hK7 => ?_
 refine x_region ?_
 refine s_go (s_move) ?_
 try simp only [opv, n1, n2, n3, n4, Value.cells]
 refine s_go (s_move) ?_
 try simp only [opv, n1, n2, n3, n4, Value.cells]
 refine s_go (s_len_sl Try.underlying24) ?_
 try simp only [opv, n1, n2, n3, n4, Value.cells]
 refine s_go (s_lss) ?_
 try simp only [opv, n1, n2, n3, n4, Value.cells]
 refine s_go (s_move) ?_
 try simp only [opv, n1, n2, n3, n4, Value.cells]
 refine s_part 16 rfl (fun hp1 => ?_) (fun hp1 => ?_)
 ·
  try simp only [n3, n4]
  try simp only [decide_eq_true_eq, decide_eq_false_iff_not, Bool.not_eq_true', Bool.not_eq_false', Int.not_lt, Int.not_le, ne_eq, Decidable.not_not] at hp1
  first
  | (exfalso; omega)
  | skip
    refine g_off (yi (t := 16) rfl rfl) ?_
    try simp only [opv, n1, n2, n3, n4, Value.cells]
    refine g_off (yi (t := 16) rfl rfl) ?_
    try simp only [opv, n1, n2, n3, n4, Value.cells]
    refine g_off (yi (t := 16) rfl rfl) ?_
    try simp only [opv, n1, n2, n3, n4, Value.cells]
    refine g_off (yi (t := 16) rfl rfl) ?_
    try simp only [opv, n1, n2, n3, n4, Value.cells]
    first | refine s_go (s_pick_t) ?_ | refine s_go (s_pick_f) ?_
    try simp only [opv, n1, n2, n3, n4, Value.cells]
    refine x_nil ?_
    refine hK7 _ _ ?_
    refine x_cond_t (h := ?_)
    refine x_skip ?_
    refine hK6 _ _ ?_
    refine x_block ?_
    refine x_block ?_
    refine x_seq fun K8 hK8 => ?_
    refine x_quiet (by kernel_rfl) (by kernel_rfl) hS ?_
    refine q_go (fun w hS => s_move) ?_
    try simp only [opv, n1, n2, n3, n4, Value.cells]
    refine q_go (fun w hS => s_move) ?_
    try simp only [opv, n1, n2, n3, n4, Value.cells]
    refine q_go (fun w hS => s_len_sl Try.underlying24) ?_
    try simp only [opv, n1, n2, n3, n4, Value.cells]
    refine q_go (fun w hS => s_eql) ?_
    try simp only [opv, n1, n2, n3, n4, Value.cells]
    refine q_go (fun w hS => s_move) ?_
    try simp only [opv, n1, n2, n3, n4, Value.cells]
    refine q_part 51 rfl (fun hp2 => ?_) (fun hp2 => ?_)
    ·
     try simp only [n3, n4]
     try simp only [decide_eq_true_eq, decide_eq_false_iff_not, Bool.not_eq_true', Bool.not_eq_false', Int.not_lt, Int.not_le, ne_eq, Decidable.not_not] at hp2
     first
     | (exfalso; omega)
     | skip
       have hax : AtomOk x := by rw [← hx]; exact hso.get (by omega)
       have hxl := hax.len
       have hkx := hax.key
       have hvx := hax.val
       have hmg := mg_l (s := s) (t := t) (i := i) (k := k) (by omega) hx (.inl (by omega))
       have hnx : (o ++ [x]) ++ mergeP (s.drop (i + 1)) (t.drop k) = mergeP s t := by rw [← hmo, hmg, List.append_assoc]; rfl
       refine q_off (yi (t := 51) rfl rfl) ?_
       try simp only [opv, n1, n2, n3, n4, Value.cells]
       refine q_off (yi (t := 51) rfl rfl) ?_
       try simp only [opv, n1, n2, n3, n4, Value.cells]
       refine q_off (yi (t := 51) rfl rfl) ?_
       try simp only [opv, n1, n2, n3, n4, Value.cells]
       refine q_off (yi (t := 51) rfl rfl) ?_
       try simp only [opv, n1, n2, n3, n4, Value.cells]
       refine q_off (yi (t := 51) rfl rfl) ?_
       try simp only [opv, n1, n2, n3, n4, Value.cells]
       refine q_un (yn (t := 56) rfl rfl) ?_
       try simp only [opv, n1, n2, n3, n4, Value.cells]
       refine q_un (yn (t := 56) rfl rfl) ?_
       try simp only [opv, n1, n2, n3, n4, Value.cells]
       refine q_un (yn (t := 56) rfl rfl) ?_
       try simp only [opv, n1, n2, n3, n4, Value.cells]
       refine q_un (yn (t := 56) rfl rfl) ?_
       try simp only [opv, n1, n2, n3, n4, Value.cells]
       refine q_un (yn (t := 56) rfl rfl) ?_
       try simp only [opv, n1, n2, n3, n4, Value.cells]
       refine q_un (yn (t := 56) rfl rfl) ?_
       try simp only [opv, n1, n2, n3, n4, Value.cells]
       refine q_un (yn (t := 56) rfl rfl) ?_
       try simp only [opv, n1, n2, n3, n4, Value.cells]
       refine q_un (yn (t := 56) rfl rfl) ?_
       try simp only [opv, n1, n2, n3, n4, Value.cells]
       refine q_un (yn (t := 56) rfl rfl) ?_
       try simp only [opv, n1, n2, n3, n4, Value.cells]
       refine q_un (yn (t := 56) rfl rfl) ?_
       try simp only [opv, n1, n2, n3, n4, Value.cells]
       refine q_un (yn (t := 56) rfl rfl) ?_
       try simp only [opv, n1, n2, n3, n4, Value.cells]
       refine q_off (yi (t := 51) rfl rfl) ?_
       try simp only [opv, n1, n2, n3, n4, Value.cells]
       first | refine q_go (fun w hS => s_pick_t) ?_ | refine q_go (fun w hS => s_pick_f) ?_
       try simp only [opv, n1, n2, n3, n4, Value.cells]
       refine q_go (fun w hS => s_assign) ?_
       try simp only [opv, n1, n2, n3, n4, Value.cells]
       clear hS
       refine q_nil fun w3 hS => ?_
       refine hK8 _ _ ?_
       refine x_cond_t (h := ?_)
       try (have hmg := mg_l (s := s) (t := t) (i := i) (k := k) (by omega) hx (.inr ⟨by omega, by rw [hy]; exact @c⟩))
       have hnx : (o ++ [x]) ++ mergeP (s.drop (i + 1)) (t.drop k) = mergeP s t := by rw [← hmo, hmg, List.append_assoc]; rfl
       refine x_seq fun K9 hK9 => ?_
       refine x_region ?_
       refine s_go (s_move) ?_
       try simp only [opv, n1, n2, n3, n4, Value.cells]
       refine s_go (s_move) ?_
       try simp only [opv, n1, n2, n3, n4, Value.cells]
       refine s_go (s_move) ?_
       try simp only [opv, n1, n2, n3, n4, Value.cells]
       first | refine s_go (m_indexAddr_rd Try.underlying24 ti39 (hS := hS)) ?_ | refine s_go (m_indexAddr_vec Try.underlying24 ti39 (hS := hS)) ?_
       try simp only [opv, n1, n2, n3, n4, Value.cells, Nat.mul_one, Nat.zero_add, Int.toNat_natCast, Int.reduceToNat]
       first | refine s_go (m_load_row Try.underlying39 (hi := ti39) (hS := hS) (hfit := by rw [arows_len]; omega)) ?_ | refine s_go (m_loada_obj Try.underlying39 (hi := ti39) (hS := hS) (hfit := by rw [arows_len]; omega)) ?_ | refine s_go (m_loada_bx Try.underlying39 (hi := ti39) (hS := hS) (hfit := by rw [arows_len]; omega)) ?_ | refine s_go (m_loada_rd Try.underlying39 (hi := ti39) (hS := hS) (hfit := by rw [arows_len]; omega)) ?_ | refine s_go (m_loada_vec Try.underlying39 (hi := ti39) (hS := hS) (hfit := by rw [arows_len]; omega)) ?_
       try simp only [opv, n1, n2, n3, n4, Value.cells, List.getElem_toArray, List.getElem_cons_zero, List.getElem_cons_succ]
       rw [arow_get (by omega) hso, hx]
       refine m_buildRow (cells := (AA x)) Try.underlying24 ti39 (hc := by simp only [List.map_toArray, List.map_cons, List.map_nil, opv, n1, n2, n3, n4, Value.cells, List.toList_toArray]; exact fill_one (by rfl) (zi_size21 hxl) (by rfl)) (hS := hS) (h := fun w4 g4 hS => ?_)
       try simp only [opv, n1, n2, n3, n4, Value.cells, Array.toArray_toList] at hS ⊢
       replace hS := hS.obj_rd (sz := 21) (n := 1) (by exact zi_size21 hxl) .head
       rw [arow_one hxl] at hS
       refine m_append Try.underlying24 ti39 (hS := hS) (h1 := rowsZ_cells _ _) (h := fun w5 A5 C5 hS => ?_)
       try simp only [← List.map_append, ← List.map_drop, ← List.map_take, Nat.mul_one, Nat.zero_mul, Nat.sub_zero, List.drop_zero, List.nil_append, Nat.zero_add] at hS ⊢
       try simp only [opv, n1, n2, n3, n4, Value.cells, Array.toArray_toList] at hS ⊢
       rw [add_one] at hS
       refine s_go (s_assign) ?_
       try simp only [opv, n1, n2, n3, n4, Value.cells]
       refine x_nil ?_
       refine hK9 _ _ ?_
       refine x_region ?_
       refine s_go (s_move) ?_
       try simp only [opv, n1, n2, n3, n4, Value.cells]
       refine s_go (s_add (hc := by first | exact wr_i64 (by omega) (by omega) | rfl)) ?_
       try simp only [opv, n1, n2, n3, n4, Value.cells]
       refine s_go (s_assign) ?_
       try simp only [opv, n1, n2, n3, n4, Value.cells]
       refine x_nil ?_
       refine loop_back (m' := m1 - 1) (by simp only [clob, List.foldl, n1, n2, n3, n4]) ?_ ?_
       · try simp only [opv, n1, n2, n3, n4, Value.cells]
         exact ⟨_, _, _, _, _, by omega, by omega, by omega, by rfl, by rfl, by simp only [List.length_append, List.length_cons, List.length_nil, Nat.zero_add]; rfl, hnx, by simp only [List.length_append, List.length_cons, List.length_nil, Nat.zero_add]; omega, by simp only [List.length_append, List.length_cons, List.length_nil, Nat.zero_add]; exact hS.sel (by repeat (first | exact Sel.nil | (refine Sel.cons (by repeat (first | exact Del.head | apply Del.tail)) ?_)))⟩
       · omega
    ·
     try simp only [n3, n4]
     try simp only [decide_eq_true_eq, decide_eq_false_iff_not, Bool.not_eq_true', Bool.not_eq_false', Int.not_lt, Int.not_le, ne_eq, Decidable.not_not] at hp2
     first
     | (exfalso; omega)
     | skip
       have hay : AtomOk y := by rw [← hy]; exact hto.get (by omega)
       have hyl := hay.len
       have hky := hay.key
       have hvy := hay.val
       refine q_on (yi (t := 51) rfl rfl) ?_
       refine q_go (fun w hS => s_move) ?_
       try simp only [opv, n1, n2, n3, n4, Value.cells]
       refine q_on (yi (t := 51) rfl rfl) ?_
       refine q_go (fun w hS => s_move) ?_
       try simp only [opv, n1, n2, n3, n4, Value.cells]
       refine q_on (yi (t := 51) rfl rfl) ?_
       refine q_go (fun w hS => s_len_sl Try.underlying24) ?_
       try simp only [opv, n1, n2, n3, n4, Value.cells]
       refine q_on (yi (t := 51) rfl rfl) ?_
       refine q_go (fun w hS => s_lss) ?_
       try simp only [opv, n1, n2, n3, n4, Value.cells]
       refine q_on (yi (t := 51) rfl rfl) ?_
       refine q_go (fun w hS => s_move) ?_
       try simp only [opv, n1, n2, n3, n4, Value.cells]
       refine q_part 56 rfl (fun hp3 => ?_) (fun hp3 => ?_)
       ·
        try simp only [n3, n4]
        try simp only [decide_eq_true_eq, decide_eq_false_iff_not, Bool.not_eq_true', Bool.not_eq_false', Int.not_lt, Int.not_le, ne_eq, Decidable.not_not] at hp3
        first
        | (exfalso; omega)
        | skip
          have hax : AtomOk x := by rw [← hx]; exact hso.get (by omega)
          have hxl := hax.len
          have hkx := hax.key
          have hvx := hax.val
          refine q_on (yi (t := 56) rfl rfl) ?_
          refine q_go (fun w hS => s_move) ?_
          try simp only [opv, n1, n2, n3, n4, Value.cells]
          refine q_on (yi (t := 56) rfl rfl) ?_
          refine q_go (fun w hS => s_move) ?_
          try simp only [opv, n1, n2, n3, n4, Value.cells]
          refine q_on (yi (t := 56) rfl rfl) ?_
          first | refine q_go (fun w hS => m_indexAddr_rd Try.underlying24 ti39 (hS := hS)) ?_ | refine q_go (fun w hS => m_indexAddr_vec Try.underlying24 ti39 (hS := hS)) ?_
          try simp only [opv, n1, n2, n3, n4, Value.cells, Nat.mul_one, Nat.zero_add, Int.toNat_natCast, Int.reduceToNat]
          refine q_on (yi (t := 56) rfl rfl) ?_
          first | refine q_go (fun w hS => m_fieldAddr Try.underlying39 (hi := ti34)) ?_ | refine q_go (fun w hS => m_fieldAddr_rd Try.underlying39 (hi := ti34) (hS := hS)) ?_ | refine q_go (fun w hS => m_fieldAddr_vec Try.underlying39 (hi := ti34) (hS := hS)) ?_
          try simp only [opv, n1, n2, n3, n4, Value.cells, Nat.zero_add, Nat.add_zero, List.getElem_toArray, List.getElem_cons_zero, List.getElem_cons_succ]
          refine q_on (yi (t := 56) rfl rfl) ?_
          first | refine q_go (fun w hS => m_load_row Try.underlying34 (hi := ti34) (hS := hS) (hfit := by rw [arows_len]; omega)) ?_ | refine q_go (fun w hS => m_loada_obj Try.underlying34 (hi := ti34) (hS := hS) (hfit := by rw [arows_len]; omega)) ?_ | refine q_go (fun w hS => m_loada_bx Try.underlying34 (hi := ti34) (hS := hS) (hfit := by rw [arows_len]; omega)) ?_ | refine q_go (fun w hS => m_loada_rd Try.underlying34 (hi := ti34) (hS := hS) (hfit := by rw [arows_len]; omega)) ?_ | refine q_go (fun w hS => m_loada_vec Try.underlying34 (hi := ti34) (hS := hS) (hfit := by rw [arows_len]; omega)) ?_
          try simp only [opv, n1, n2, n3, n4, Value.cells, List.getElem_toArray, List.getElem_cons_zero, List.getElem_cons_succ]
          rw [arow_key (by omega) hso, hx]
          refine q_on (yi (t := 56) rfl rfl) ?_
          refine q_go (fun w hS => s_move) ?_
          try simp only [opv, n1, n2, n3, n4, Value.cells]
          refine q_on (yi (t := 56) rfl rfl) ?_
          refine q_go (fun w hS => s_move) ?_
          try simp only [opv, n1, n2, n3, n4, Value.cells]
          refine q_on (yi (t := 56) rfl rfl) ?_
          first | refine q_go (fun w hS => m_indexAddr_rd Try.underlying24 ti39 (hS := hS)) ?_ | refine q_go (fun w hS => m_indexAddr_vec Try.underlying24 ti39 (hS := hS)) ?_
          try simp only [opv, n1, n2, n3, n4, Value.cells, Nat.mul_one, Nat.zero_add, Int.toNat_natCast, Int.reduceToNat]
          refine q_on (yi (t := 56) rfl rfl) ?_
          first | refine q_go (fun w hS => m_fieldAddr Try.underlying39 (hi := ti34)) ?_ | refine q_go (fun w hS => m_fieldAddr_rd Try.underlying39 (hi := ti34) (hS := hS)) ?_ | refine q_go (fun w hS => m_fieldAddr_vec Try.underlying39 (hi := ti34) (hS := hS)) ?_
          try simp only [opv, n1, n2, n3, n4, Value.cells, Nat.zero_add, Nat.add_zero, List.getElem_toArray, List.getElem_cons_zero, List.getElem_cons_succ]
          refine q_on (yi (t := 56) rfl rfl) ?_
          first | refine q_go (fun w hS => m_load_row Try.underlying34 (hi := ti34) (hS := hS) (hfit := by rw [arows_len]; omega)) ?_ | refine q_go (fun w hS => m_loada_obj Try.underlying34 (hi := ti34) (hS := hS) (hfit := by rw [arows_len]; omega)) ?_ | refine q_go (fun w hS => m_loada_bx Try.underlying34 (hi := ti34) (hS := hS) (hfit := by rw [arows_len]; omega)) ?_ | refine q_go (fun w hS => m_loada_rd Try.underlying34 (hi := ti34) (hS := hS) (hfit := by rw [arows_len]; omega)) ?_ | refine q_go (fun w hS => m_loada_vec Try.underlying34 (hi := ti34) (hS := hS) (hfit := by rw [arows_len]; omega)) ?_
          try simp only [opv, n1, n2, n3, n4, Value.cells, List.getElem_toArray, List.getElem_cons_zero, List.getElem_cons_succ]
          rw [arow_key (by omega) hto, hy]
          refine q_on (yi (t := 56) rfl rfl) ?_
          apply q_call en116
          case H =>
            intro w hS
            try simp only [opv, n1, n2, n3, n4, List.map_toArray, List.map_cons, List.map_nil, List.append_toArray, List.cons_append, List.nil_append, Array.append_empty]
            refine CallR.mono (c_ref08Less (akey x) (akey y) hkx hky _) ?_
            rintro _ w1 ⟨rfl, hE⟩; exact ⟨rfl, hS.ext hE⟩
          try simp only [opv, n1, n2, n3, n4, Value.cells]
          refine q_on (yi (t := 51) rfl rfl) ?_
          first | refine q_go (fun w hS => s_pick_t) ?_ | refine q_go (fun w hS => s_pick_f) ?_
          try simp only [opv, n1, n2, n3, n4, Value.cells]
          first | refine q_go (fun w hS => s_pick_t) ?_ | refine q_go (fun w hS => s_pick_f) ?_
          try simp only [opv, n1, n2, n3, n4, Value.cells]
          refine q_go (fun w hS => s_assign) ?_
          try simp only [opv, n1, n2, n3, n4, Value.cells]
          clear hS
          refine q_nil fun w6 hS => ?_
          refine hK8 _ _ ?_
          refine x_cond (ht := fun hc3 => ?_) (hf := fun hc3 => ?_)
          ·
           try simp only [decide_eq_true_eq, decide_eq_false_iff_not, Bool.not_eq_true', Bool.not_eq_false', Int.not_lt, Int.not_le, ne_eq, Decidable.not_not, bne_iff_ne, beq_iff_eq, not_true_eq_false, not_false_eq_true] at hc3
           first
           | (exfalso; omega)
           | skip
             try (have hmg := mg_l (s := s) (t := t) (i := i) (k := k) (by omega) hx (.inr ⟨by omega, by rw [hy]; exact hc3⟩))
             have hnx : (o ++ [x]) ++ mergeP (s.drop (i + 1)) (t.drop k) = mergeP s t := by rw [← hmo, hmg, List.append_assoc]; rfl
             refine x_seq fun K10 hK10 => ?_
             refine x_region ?_
             refine s_go (s_move) ?_
             try simp only [opv, n1, n2, n3, n4, Value.cells]
             refine s_go (s_move) ?_
             try simp only [opv, n1, n2, n3, n4, Value.cells]
             refine s_go (s_move) ?_
             try simp only [opv, n1, n2, n3, n4, Value.cells]
             first | refine s_go (m_indexAddr_rd Try.underlying24 ti39 (hS := hS)) ?_ | refine s_go (m_indexAddr_vec Try.underlying24 ti39 (hS := hS)) ?_
             try simp only [opv, n1, n2, n3, n4, Value.cells, Nat.mul_one, Nat.zero_add, Int.toNat_natCast, Int.reduceToNat]
             first | refine s_go (m_load_row Try.underlying39 (hi := ti39) (hS := hS) (hfit := by rw [arows_len]; omega)) ?_ | refine s_go (m_loada_obj Try.underlying39 (hi := ti39) (hS := hS) (hfit := by rw [arows_len]; omega)) ?_ | refine s_go (m_loada_bx Try.underlying39 (hi := ti39) (hS := hS) (hfit := by rw [arows_len]; omega)) ?_ | refine s_go (m_loada_rd Try.underlying39 (hi := ti39) (hS := hS) (hfit := by rw [arows_len]; omega)) ?_ | refine s_go (m_loada_vec Try.underlying39 (hi := ti39) (hS := hS) (hfit := by rw [arows_len]; omega)) ?_
             try simp only [opv, n1, n2, n3, n4, Value.cells, List.getElem_toArray, List.getElem_cons_zero, List.getElem_cons_succ]
             rw [arow_get (by omega) hso, hx]
             refine m_buildRow (cells := (AA x)) Try.underlying24 ti39 (hc := by simp only [List.map_toArray, List.map_cons, List.map_nil, opv, n1, n2, n3, n4, Value.cells, List.toList_toArray]; exact fill_one (by rfl) (zi_size21 hxl) (by rfl)) (hS := hS) (h := fun w7 g7 hS => ?_)
             try simp only [opv, n1, n2, n3, n4, Value.cells, Array.toArray_toList] at hS ⊢
             replace hS := hS.obj_rd (sz := 21) (n := 1) (by exact zi_size21 hxl) .head
             rw [arow_one hxl] at hS
             refine m_append Try.underlying24 ti39 (hS := hS) (h1 := rowsZ_cells _ _) (h := fun w8 A8 C8 hS => ?_)
             try simp only [← List.map_append, ← List.map_drop, ← List.map_take, Nat.mul_one, Nat.zero_mul, Nat.sub_zero, List.drop_zero, List.nil_append, Nat.zero_add] at hS ⊢
             try simp only [opv, n1, n2, n3, n4, Value.cells, Array.toArray_toList] at hS ⊢
             rw [add_one] at hS
             refine s_go (s_assign) ?_
             try simp only [opv, n1, n2, n3, n4, Value.cells]
             refine x_nil ?_
             refine hK10 _ _ ?_
             refine x_region ?_
             refine s_go (s_move) ?_
             try simp only [opv, n1, n2, n3, n4, Value.cells]
             refine s_go (s_add (hc := by first | exact wr_i64 (by omega) (by omega) | rfl)) ?_
             try simp only [opv, n1, n2, n3, n4, Value.cells]
             refine s_go (s_assign) ?_
             try simp only [opv, n1, n2, n3, n4, Value.cells]
             refine x_nil ?_
             refine loop_back (m' := m1 - 1) (by simp only [clob, List.foldl, n1, n2, n3, n4]) ?_ ?_
             · try simp only [opv, n1, n2, n3, n4, Value.cells]
               exact ⟨_, _, _, _, _, by omega, by omega, by omega, by rfl, by rfl, by simp only [List.length_append, List.length_cons, List.length_nil, Nat.zero_add]; rfl, hnx, by simp only [List.length_append, List.length_cons, List.length_nil, Nat.zero_add]; omega, by simp only [List.length_append, List.length_cons, List.length_nil, Nat.zero_add]; exact hS.sel (by repeat (first | exact Sel.nil | (refine Sel.cons (by repeat (first | exact Del.head | apply Del.tail)) ?_)))⟩
             · omega
          ·
           try simp only [decide_eq_true_eq, decide_eq_false_iff_not, Bool.not_eq_true', Bool.not_eq_false', Int.not_lt, Int.not_le, ne_eq, Decidable.not_not, bne_iff_ne, beq_iff_eq, not_true_eq_false, not_false_eq_true] at hc3
           first
           | (exfalso; omega)
           | skip
             try have hl1 := hc3
             refine x_seq fun K11 hK11 => ?_
             refine x_quiet (by kernel_rfl) (by kernel_rfl) hS ?_
             refine q_go (fun w hS => s_move) ?_
             try simp only [opv, n1, n2, n3, n4, Value.cells]
             refine q_go (fun w hS => s_move) ?_
             try simp only [opv, n1, n2, n3, n4, Value.cells]
             refine q_go (fun w hS => s_len_sl Try.underlying24) ?_
             try simp only [opv, n1, n2, n3, n4, Value.cells]
             refine q_go (fun w hS => s_eql) ?_
             try simp only [opv, n1, n2, n3, n4, Value.cells]
             refine q_go (fun w hS => s_move) ?_
             try simp only [opv, n1, n2, n3, n4, Value.cells]
             refine q_part 84 rfl (fun hp4 => ?_) (fun hp4 => ?_)
             ·
              try simp only [n3, n4]
              try simp only [decide_eq_true_eq, decide_eq_false_iff_not, Bool.not_eq_true', Bool.not_eq_false', Int.not_lt, Int.not_le, ne_eq, Decidable.not_not] at hp4
              first
              | (exfalso; omega)
              | skip
                refine q_off (yi (t := 84) rfl rfl) ?_
                try simp only [opv, n1, n2, n3, n4, Value.cells]
                refine q_off (yi (t := 84) rfl rfl) ?_
                try simp only [opv, n1, n2, n3, n4, Value.cells]
                refine q_off (yi (t := 84) rfl rfl) ?_
                try simp only [opv, n1, n2, n3, n4, Value.cells]
                refine q_off (yi (t := 84) rfl rfl) ?_
                try simp only [opv, n1, n2, n3, n4, Value.cells]
                refine q_off (yi (t := 84) rfl rfl) ?_
                try simp only [opv, n1, n2, n3, n4, Value.cells]
                refine q_off (yi (t := 84) rfl rfl) ?_
                try simp only [opv, n1, n2, n3, n4, Value.cells]
                refine q_off (yi (t := 84) rfl rfl) ?_
                try simp only [opv, n1, n2, n3, n4, Value.cells]
                refine q_off (yi (t := 84) rfl rfl) ?_
                try simp only [opv, n1, n2, n3, n4, Value.cells]
                refine q_off (yi (t := 84) rfl rfl) ?_
                try simp only [opv, n1, n2, n3, n4, Value.cells]
                refine q_off (yi (t := 84) rfl rfl) ?_
                try simp only [opv, n1, n2, n3, n4, Value.cells]
                refine q_off (yi (t := 84) rfl rfl) ?_
                try simp only [opv, n1, n2, n3, n4, Value.cells]
                first | refine q_go (fun w hS => s_pick_t) ?_ | refine q_go (fun w hS => s_pick_f) ?_
                try simp only [opv, n1, n2, n3, n4, Value.cells]
                refine q_go (fun w hS => s_assign) ?_
                try simp only [opv, n1, n2, n3, n4, Value.cells]
                clear hS
                refine q_nil fun w9 hS => ?_
                refine hK11 _ _ ?_
                refine x_cond_t (h := ?_)
                try (have hmg := mg_r (s := s) (t := t) (i := i) (k := k) (by omega) hy (.inr ⟨by omega, by rw [hx]; exact hl1, by rw [hx]; exact @c⟩))
                have hnx : (o ++ [y]) ++ mergeP (s.drop i) (t.drop (k + 1)) = mergeP s t := by rw [← hmo, hmg, List.append_assoc]; rfl
                refine x_seq fun K12 hK12 => ?_
                refine x_region ?_
                refine s_go (s_move) ?_
                try simp only [opv, n1, n2, n3, n4, Value.cells]
                refine s_go (s_move) ?_
                try simp only [opv, n1, n2, n3, n4, Value.cells]
                refine s_go (s_move) ?_
                try simp only [opv, n1, n2, n3, n4, Value.cells]
                first | refine s_go (m_indexAddr_rd Try.underlying24 ti39 (hS := hS)) ?_ | refine s_go (m_indexAddr_vec Try.underlying24 ti39 (hS := hS)) ?_
                try simp only [opv, n1, n2, n3, n4, Value.cells, Nat.mul_one, Nat.zero_add, Int.toNat_natCast, Int.reduceToNat]
                first | refine s_go (m_load_row Try.underlying39 (hi := ti39) (hS := hS) (hfit := by rw [arows_len]; omega)) ?_ | refine s_go (m_loada_obj Try.underlying39 (hi := ti39) (hS := hS) (hfit := by rw [arows_len]; omega)) ?_ | refine s_go (m_loada_bx Try.underlying39 (hi := ti39) (hS := hS) (hfit := by rw [arows_len]; omega)) ?_ | refine s_go (m_loada_rd Try.underlying39 (hi := ti39) (hS := hS) (hfit := by rw [arows_len]; omega)) ?_ | refine s_go (m_loada_vec Try.underlying39 (hi := ti39) (hS := hS) (hfit := by rw [arows_len]; omega)) ?_
                try simp only [opv, n1, n2, n3, n4, Value.cells, List.getElem_toArray, List.getElem_cons_zero, List.getElem_cons_succ]
                rw [arow_get (by omega) hto, hy]
                refine m_buildRow (cells := (AA y)) Try.underlying24 ti39 (hc := by simp only [List.map_toArray, List.map_cons, List.map_nil, opv, n1, n2, n3, n4, Value.cells, List.toList_toArray]; exact fill_one (by rfl) (zi_size21 hyl) (by rfl)) (hS := hS) (h := fun w10 g10 hS => ?_)
                try simp only [opv, n1, n2, n3, n4, Value.cells, Array.toArray_toList] at hS ⊢
                replace hS := hS.obj_rd (sz := 21) (n := 1) (by exact zi_size21 hyl) .head
                rw [arow_one hyl] at hS
                refine m_append Try.underlying24 ti39 (hS := hS) (h1 := rowsZ_cells _ _) (h := fun w11 A11 C11 hS => ?_)
                try simp only [← List.map_append, ← List.map_drop, ← List.map_take, Nat.mul_one, Nat.zero_mul, Nat.sub_zero, List.drop_zero, List.nil_append, Nat.zero_add] at hS ⊢
                try simp only [opv, n1, n2, n3, n4, Value.cells, Array.toArray_toList] at hS ⊢
                rw [add_one] at hS
                refine s_go (s_assign) ?_
                try simp only [opv, n1, n2, n3, n4, Value.cells]
                refine x_nil ?_
                refine hK12 _ _ ?_
                refine x_region ?_
                refine s_go (s_move) ?_
                try simp only [opv, n1, n2, n3, n4, Value.cells]
                refine s_go (s_add (hc := by first | exact wr_i64 (by omega) (by omega) | rfl)) ?_
                try simp only [opv, n1, n2, n3, n4, Value.cells]
                refine s_go (s_assign) ?_
                try simp only [opv, n1, n2, n3, n4, Value.cells]
                refine x_nil ?_
                refine loop_back (m' := m1 - 1) (by simp only [clob, List.foldl, n1, n2, n3, n4]) ?_ ?_
                · try simp only [opv, n1, n2, n3, n4, Value.cells]
                  exact ⟨_, _, _, _, _, by omega, by omega, by omega, by rfl, by rfl, by simp only [List.length_append, List.length_cons, List.length_nil, Nat.zero_add]; rfl, hnx, by simp only [List.length_append, List.length_cons, List.length_nil, Nat.zero_add]; omega, by simp only [List.length_append, List.length_cons, List.length_nil, Nat.zero_add]; exact hS.sel (by repeat (first | exact Sel.nil | (refine Sel.cons (by repeat (first | exact Del.head | apply Del.tail)) ?_)))⟩
                · omega
             ·
              try simp only [n3, n4]
              try simp only [decide_eq_true_eq, decide_eq_false_iff_not, Bool.not_eq_true', Bool.not_eq_false', Int.not_lt, Int.not_le, ne_eq, Decidable.not_not] at hp4
              first
              | (exfalso; omega)
              | skip
                refine q_on (yi (t := 84) rfl rfl) ?_
                refine q_go (fun w hS => s_move) ?_
                try simp only [opv, n1, n2, n3, n4, Value.cells]
                refine q_on (yi (t := 84) rfl rfl) ?_
                refine q_go (fun w hS => s_move) ?_
                try simp only [opv, n1, n2, n3, n4, Value.cells]
                refine q_on (yi (t := 84) rfl rfl) ?_
                first | refine q_go (fun w hS => m_indexAddr_rd Try.underlying24 ti39 (hS := hS)) ?_ | refine q_go (fun w hS => m_indexAddr_vec Try.underlying24 ti39 (hS := hS)) ?_
                try simp only [opv, n1, n2, n3, n4, Value.cells, Nat.mul_one, Nat.zero_add, Int.toNat_natCast, Int.reduceToNat]
                refine q_on (yi (t := 84) rfl rfl) ?_
                first | refine q_go (fun w hS => m_fieldAddr Try.underlying39 (hi := ti34)) ?_ | refine q_go (fun w hS => m_fieldAddr_rd Try.underlying39 (hi := ti34) (hS := hS)) ?_ | refine q_go (fun w hS => m_fieldAddr_vec Try.underlying39 (hi := ti34) (hS := hS)) ?_
                try simp only [opv, n1, n2, n3, n4, Value.cells, Nat.zero_add, Nat.add_zero, List.getElem_toArray, List.getElem_cons_zero, List.getElem_cons_succ]
                refine q_on (yi (t := 84) rfl rfl) ?_
                first | refine q_go (fun w hS => m_load_row Try.underlying34 (hi := ti34) (hS := hS) (hfit := by rw [arows_len]; omega)) ?_ | refine q_go (fun w hS => m_loada_obj Try.underlying34 (hi := ti34) (hS := hS) (hfit := by rw [arows_len]; omega)) ?_ | refine q_go (fun w hS => m_loada_bx Try.underlying34 (hi := ti34) (hS := hS) (hfit := by rw [arows_len]; omega)) ?_ | refine q_go (fun w hS => m_loada_rd Try.underlying34 (hi := ti34) (hS := hS) (hfit := by rw [arows_len]; omega)) ?_ | refine q_go (fun w hS => m_loada_vec Try.underlying34 (hi := ti34) (hS := hS) (hfit := by rw [arows_len]; omega)) ?_
                try simp only [opv, n1, n2, n3, n4, Value.cells, List.getElem_toArray, List.getElem_cons_zero, List.getElem_cons_succ]
                rw [arow_key (by omega) hto, hy]
                refine q_on (yi (t := 84) rfl rfl) ?_
                refine q_go (fun w hS => s_move) ?_
                try simp only [opv, n1, n2, n3, n4, Value.cells]
                refine q_on (yi (t := 84) rfl rfl) ?_
                refine q_go (fun w hS => s_move) ?_
                try simp only [opv, n1, n2, n3, n4, Value.cells]
                refine q_on (yi (t := 84) rfl rfl) ?_
                first | refine q_go (fun w hS => m_indexAddr_rd Try.underlying24 ti39 (hS := hS)) ?_ | refine q_go (fun w hS => m_indexAddr_vec Try.underlying24 ti39 (hS := hS)) ?_
                try simp only [opv, n1, n2, n3, n4, Value.cells, Nat.mul_one, Nat.zero_add, Int.toNat_natCast, Int.reduceToNat]
                refine q_on (yi (t := 84) rfl rfl) ?_
                first | refine q_go (fun w hS => m_fieldAddr Try.underlying39 (hi := ti34)) ?_ | refine q_go (fun w hS => m_fieldAddr_rd Try.underlying39 (hi := ti34) (hS := hS)) ?_ | refine q_go (fun w hS => m_fieldAddr_vec Try.underlying39 (hi := ti34) (hS := hS)) ?_
                try simp only [opv, n1, n2, n3, n4, Value.cells, Nat.zero_add, Nat.add_zero, List.getElem_toArray, List.getElem_cons_zero, List.getElem_cons_succ]
                refine q_on (yi (t := 84) rfl rfl) ?_
                first | refine q_go (fun w hS => m_load_row Try.underlying34 (hi := ti34) (hS := hS) (hfit := by rw [arows_len]; omega)) ?_ | refine q_go (fun w hS => m_loada_obj Try.underlying34 (hi := ti34) (hS := hS) (hfit := by rw [arows_len]; omega)) ?_ | refine q_go (fun w hS => m_loada_bx Try.underlying34 (hi := ti34) (hS := hS) (hfit := by rw [arows_len]; omega)) ?_ | refine q_go (fun w hS => m_loada_rd Try.underlying34 (hi := ti34) (hS := hS) (hfit := by rw [arows_len]; omega)) ?_ | refine q_go (fun w hS => m_loada_vec Try.underlying34 (hi := ti34) (hS := hS) (hfit := by rw [arows_len]; omega)) ?_
                try simp only [opv, n1, n2, n3, n4, Value.cells, List.getElem_toArray, List.getElem_cons_zero, List.getElem_cons_succ]
                rw [arow_key (by omega) hso, hx]
                refine q_on (yi (t := 84) rfl rfl) ?_
                apply q_call en116
                case H =>
                  intro w hS
                  try simp only [opv, n1, n2, n3, n4, List.map_toArray, List.map_cons, List.map_nil, List.append_toArray, List.cons_append, List.nil_append, Array.append_empty]
                  refine CallR.mono (c_ref08Less (akey y) (akey x) hky hkx _) ?_
                  rintro _ w1 ⟨rfl, hE⟩; exact ⟨rfl, hS.ext hE⟩
                try simp only [opv, n1, n2, n3, n4, Value.cells]
                first | refine q_go (fun w hS => s_pick_t) ?_ | refine q_go (fun w hS => s_pick_f) ?_
                try simp only [opv, n1, n2, n3, n4, Value.cells]
                refine q_go (fun w hS => s_assign) ?_
                try simp only [opv, n1, n2, n3, n4, Value.cells]
                clear hS
                refine q_nil fun w12 hS => ?_
                refine hK11 _ _ ?_
                refine x_cond (ht := fun hc5 => ?_) (hf := fun hc5 => ?_)
                ·
                 try simp only [decide_eq_true_eq, decide_eq_false_iff_not, Bool.not_eq_true', Bool.not_eq_false', Int.not_lt, Int.not_le, ne_eq, Decidable.not_not, bne_iff_ne, beq_iff_eq, not_true_eq_false, not_false_eq_true] at hc5
                 first
                 | (exfalso; omega)
                 | skip
                   try (have hmg := mg_r (s := s) (t := t) (i := i) (k := k) (by omega) hy (.inr ⟨by omega, by rw [hx]; exact hl1, by rw [hx]; exact hc5⟩))
                   have hnx : (o ++ [y]) ++ mergeP (s.drop i) (t.drop (k + 1)) = mergeP s t := by rw [← hmo, hmg, List.append_assoc]; rfl
                   refine x_seq fun K13 hK13 => ?_
                   refine x_region ?_
                   refine s_go (s_move) ?_
                   try simp only [opv, n1, n2, n3, n4, Value.cells]
                   refine s_go (s_move) ?_
                   try simp only [opv, n1, n2, n3, n4, Value.cells]
                   refine s_go (s_move) ?_
                   try simp only [opv, n1, n2, n3, n4, Value.cells]
                   first | refine s_go (m_indexAddr_rd Try.underlying24 ti39 (hS := hS)) ?_ | refine s_go (m_indexAddr_vec Try.underlying24 ti39 (hS := hS)) ?_
                   try simp only [opv, n1, n2, n3, n4, Value.cells, Nat.mul_one, Nat.zero_add, Int.toNat_natCast, Int.reduceToNat]
                   first | refine s_go (m_load_row Try.underlying39 (hi := ti39) (hS := hS) (hfit := by rw [arows_len]; omega)) ?_ | refine s_go (m_loada_obj Try.underlying39 (hi := ti39) (hS := hS) (hfit := by rw [arows_len]; omega)) ?_ | refine s_go (m_loada_bx Try.underlying39 (hi := ti39) (hS := hS) (hfit := by rw [arows_len]; omega)) ?_ | refine s_go (m_loada_rd Try.underlying39 (hi := ti39) (hS := hS) (hfit := by rw [arows_len]; omega)) ?_ | refine s_go (m_loada_vec Try.underlying39 (hi := ti39) (hS := hS) (hfit := by rw [arows_len]; omega)) ?_
                   try simp only [opv, n1, n2, n3, n4, Value.cells, List.getElem_toArray, List.getElem_cons_zero, List.getElem_cons_succ]
                   rw [arow_get (by omega) hto, hy]
                   refine m_buildRow (cells := (AA y)) Try.underlying24 ti39 (hc := by simp only [List.map_toArray, List.map_cons, List.map_nil, opv, n1, n2, n3, n4, Value.cells, List.toList_toArray]; exact fill_one (by rfl) (zi_size21 hyl) (by rfl)) (hS := hS) (h := fun w13 g13 hS => ?_)
                   try simp only [opv, n1, n2, n3, n4, Value.cells, Array.toArray_toList] at hS ⊢
                   replace hS := hS.obj_rd (sz := 21) (n := 1) (by exact zi_size21 hyl) .head
                   rw [arow_one hyl] at hS
                   refine m_append Try.underlying24 ti39 (hS := hS) (h1 := rowsZ_cells _ _) (h := fun w14 A14 C14 hS => ?_)
                   try simp only [← List.map_append, ← List.map_drop, ← List.map_take, Nat.mul_one, Nat.zero_mul, Nat.sub_zero, List.drop_zero, List.nil_append, Nat.zero_add] at hS ⊢
                   try simp only [opv, n1, n2, n3, n4, Value.cells, Array.toArray_toList] at hS ⊢
                   rw [add_one] at hS
                   refine s_go (s_assign) ?_
                   try simp only [opv, n1, n2, n3, n4, Value.cells]
                   refine x_nil ?_
                   refine hK13 _ _ ?_
                   refine x_region ?_
                   refine s_go (s_move) ?_
                   try simp only [opv, n1, n2, n3, n4, Value.cells]
                   refine s_go (s_add (hc := by first | exact wr_i64 (by omega) (by omega) | rfl)) ?_
                   try simp only [opv, n1, n2, n3, n4, Value.cells]
                   refine s_go (s_assign) ?_
                   try simp only [opv, n1, n2, n3, n4, Value.cells]
                   refine x_nil ?_
                   refine loop_back (m' := m1 - 1) (by simp only [clob, List.foldl, n1, n2, n3, n4]) ?_ ?_
                   · try simp only [opv, n1, n2, n3, n4, Value.cells]
                     exact ⟨_, _, _, _, _, by omega, by omega, by omega, by rfl, by rfl, by simp only [List.length_append, List.length_cons, List.length_nil, Nat.zero_add]; rfl, hnx, by simp only [List.length_append, List.length_cons, List.length_nil, Nat.zero_add]; omega, by simp only [List.length_append, List.length_cons, List.length_nil, Nat.zero_add]; exact hS.sel (by repeat (first | exact Sel.nil | (refine Sel.cons (by repeat (first | exact Del.head | apply Del.tail)) ?_)))⟩
                   · omega
                ·
                 try simp only [decide_eq_true_eq, decide_eq_false_iff_not, Bool.not_eq_true', Bool.not_eq_false', Int.not_lt, Int.not_le, ne_eq, Decidable.not_not, bne_iff_ne, beq_iff_eq, not_true_eq_false, not_false_eq_true] at hc5
                 first
                 | (exfalso; omega)
                 | skip
                   have hmg := mg_e (s := s) (t := t) (i := i) (k := k) (by omega) hx (by omega) hy hl1 hc5
                   have hnx : (o ++ [(akey x ++ moreV (aval x) (aval y))]) ++ mergeP (s.drop (i + 1)) (t.drop (k + 1)) = mergeP s t := by rw [← hmo, hmg, List.append_assoc]; rfl
                   have hmo9 := more_ok hvx hvy
                   have hml := hmo9.len
                   have hk12 := hkx.len
                   have hzl : (akey x ++ moreV (aval x) (aval y)).length = 21 := (kv_ok hkx hmo9).len
                   refine x_seq fun K14 hK14 => ?_
                   refine x_mixed_c (Lc := [.rd B2 21 (t).length (arows (t)), .rd B1 21 (s).length (arows (s))]) [] 0 [5, 22, 23, 24, 25, 26, 27, 28, 29, 30, 31, 32, 33, 34, 35, 36, 37, 38, 39, 40, 41] (fun f w => ∃ (C2 : Option Addr) (e2 : Nat), f 5 = .slice C2 (o.length + 1) e2 ∧ St NoB w0 w [.vec C2 e2 39 21 (o.length + 1) (arows (o ++ [(akey x ++ moreV (aval x) (aval y))])), .rd B2 21 (t).length (arows (t)), .rd B1 21 (s).length (arows (s))]) (by kernel_rfl) (by kernel_rfl) (by kernel_rfl) (by decide) hS (fun w15 hS => ?mixpre501) ?mixrest501
                   case mixpre501 =>
                    refine p_nil ?_
                    simp only [List.length_cons, List.length_nil, Nat.reduceAdd, Nat.reduceSub]
                    refine any_go (i := 0) (by rfl) (by decide +kernel) (by decide +kernel) noLate_nil (go_yields w_none (fun w hS => s_move)) ?_
                    try simp only [opv, n1, n2, n3, n4, Value.cells]
                    refine any_go (i := 1) (by rfl) (by decide +kernel) (by decide +kernel) noLate_nil (go_yields w_none (fun w hS => s_move)) ?_
                    try simp only [opv, n1, n2, n3, n4, Value.cells]
                    refine any_go (i := 2) (by rfl) (by decide +kernel) (by decide +kernel) noLate_nil (go_yields w_none (fun w hS => s_move)) ?_
                    try simp only [opv, n1, n2, n3, n4, Value.cells]
                    first | refine any_go (i := 3) (by rfl) (by decide +kernel) (by decide +kernel) noLate_nil (go_yields w_none (fun w hS => m_indexAddr_rd Try.underlying24 ti39 (hS := hS))) ?_ | refine any_go (i := 3) (by rfl) (by decide +kernel) (by decide +kernel) noLate_nil (go_yields w_none (fun w hS => m_indexAddr_vec Try.underlying24 ti39 (hS := hS))) ?_
                    try simp only [opv, n1, n2, n3, n4, Value.cells, Nat.mul_one, Nat.zero_add, Int.toNat_natCast, Int.reduceToNat]
                    first | refine any_go (i := 4) (by rfl) (by decide +kernel) (by decide +kernel) noLate_nil (go_yields w_none (fun w hS => m_fieldAddr Try.underlying39 (hi := ti34))) ?_ | refine any_go (i := 4) (by rfl) (by decide +kernel) (by decide +kernel) noLate_nil (go_yields w_none (fun w hS => m_fieldAddr_rd Try.underlying39 (hi := ti34) (hS := hS))) ?_ | refine any_go (i := 4) (by rfl) (by decide +kernel) (by decide +kernel) noLate_nil (go_yields w_none (fun w hS => m_fieldAddr_vec Try.underlying39 (hi := ti34) (hS := hS))) ?_
                    try simp only [opv, n1, n2, n3, n4, Value.cells, Nat.zero_add, Nat.add_zero, List.getElem_toArray, List.getElem_cons_zero, List.getElem_cons_succ]
                    first | refine any_go (i := 5) (by rfl) (by decide +kernel) (by decide +kernel) noLate_nil (go_yields w_none (fun w hS => m_load_row Try.underlying34 (hi := ti34) (hS := hS) (hfit := by rw [arows_len]; omega))) ?_ | refine any_go (i := 5) (by rfl) (by decide +kernel) (by decide +kernel) noLate_nil (go_yields w_none (fun w hS => m_loada_obj Try.underlying34 (hi := ti34) (hS := hS) (hfit := by rw [arows_len]; omega))) ?_ | refine any_go (i := 5) (by rfl) (by decide +kernel) (by decide +kernel) noLate_nil (go_yields w_none (fun w hS => m_loada_bx Try.underlying34 (hi := ti34) (hS := hS) (hfit := by rw [arows_len]; omega))) ?_ | refine any_go (i := 5) (by rfl) (by decide +kernel) (by decide +kernel) noLate_nil (go_yields w_none (fun w hS => m_loada_rd Try.underlying34 (hi := ti34) (hS := hS) (hfit := by rw [arows_len]; omega))) ?_ | refine any_go (i := 5) (by rfl) (by decide +kernel) (by decide +kernel) noLate_nil (go_yields w_none (fun w hS => m_loada_vec Try.underlying34 (hi := ti34) (hS := hS) (hfit := by rw [arows_len]; omega))) ?_
                    try simp only [opv, n1, n2, n3, n4, Value.cells, List.getElem_toArray, List.getElem_cons_zero, List.getElem_cons_succ]
                    rw [arow_key (by omega) hso, hx]
                    refine any_go (i := 6) (by rfl) (by decide +kernel) (by decide +kernel) noLate_nil (go_yields w_none (fun w hS => s_move)) ?_
                    try simp only [opv, n1, n2, n3, n4, Value.cells]
                    refine any_go (i := 7) (by rfl) (by decide +kernel) (by decide +kernel) noLate_nil (go_yields w_none (fun w hS => s_move)) ?_
                    try simp only [opv, n1, n2, n3, n4, Value.cells]
                    first | refine any_go (i := 8) (by rfl) (by decide +kernel) (by decide +kernel) noLate_nil (go_yields w_none (fun w hS => m_indexAddr_rd Try.underlying24 ti39 (hS := hS))) ?_ | refine any_go (i := 8) (by rfl) (by decide +kernel) (by decide +kernel) noLate_nil (go_yields w_none (fun w hS => m_indexAddr_vec Try.underlying24 ti39 (hS := hS))) ?_
                    try simp only [opv, n1, n2, n3, n4, Value.cells, Nat.mul_one, Nat.zero_add, Int.toNat_natCast, Int.reduceToNat]
                    first | refine any_go (i := 9) (by rfl) (by decide +kernel) (by decide +kernel) noLate_nil (go_yields w_none (fun w hS => m_fieldAddr Try.underlying39 (hi := ti37))) ?_ | refine any_go (i := 9) (by rfl) (by decide +kernel) (by decide +kernel) noLate_nil (go_yields w_none (fun w hS => m_fieldAddr_rd Try.underlying39 (hi := ti37) (hS := hS))) ?_ | refine any_go (i := 9) (by rfl) (by decide +kernel) (by decide +kernel) noLate_nil (go_yields w_none (fun w hS => m_fieldAddr_vec Try.underlying39 (hi := ti37) (hS := hS))) ?_
                    try simp only [opv, n1, n2, n3, n4, Value.cells, Nat.zero_add, Nat.add_zero, List.getElem_toArray, List.getElem_cons_zero, List.getElem_cons_succ]
                    first | refine any_go (i := 10) (by rfl) (by decide +kernel) (by decide +kernel) noLate_nil (go_yields w_none (fun w hS => m_load_row Try.underlying37 (hi := ti37) (hS := hS) (hfit := by rw [arows_len]; omega))) ?_ | refine any_go (i := 10) (by rfl) (by decide +kernel) (by decide +kernel) noLate_nil (go_yields w_none (fun w hS => m_loada_obj Try.underlying37 (hi := ti37) (hS := hS) (hfit := by rw [arows_len]; omega))) ?_ | refine any_go (i := 10) (by rfl) (by decide +kernel) (by decide +kernel) noLate_nil (go_yields w_none (fun w hS => m_loada_bx Try.underlying37 (hi := ti37) (hS := hS) (hfit := by rw [arows_len]; omega))) ?_ | refine any_go (i := 10) (by rfl) (by decide +kernel) (by decide +kernel) noLate_nil (go_yields w_none (fun w hS => m_loada_rd Try.underlying37 (hi := ti37) (hS := hS) (hfit := by rw [arows_len]; omega))) ?_ | refine any_go (i := 10) (by rfl) (by decide +kernel) (by decide +kernel) noLate_nil (go_yields w_none (fun w hS => m_loada_vec Try.underlying37 (hi := ti37) (hS := hS) (hfit := by rw [arows_len]; omega))) ?_
                    try simp only [opv, n1, n2, n3, n4, Value.cells, List.getElem_toArray, List.getElem_cons_zero, List.getElem_cons_succ]
                    rw [arow_val (by omega) hso, hx]
                    refine any_go (i := 11) (by rfl) (by decide +kernel) (by decide +kernel) noLate_nil (go_yields w_none (fun w hS => s_move)) ?_
                    try simp only [opv, n1, n2, n3, n4, Value.cells]
                    refine any_go (i := 12) (by rfl) (by decide +kernel) (by decide +kernel) noLate_nil (go_yields w_none (fun w hS => s_move)) ?_
                    try simp only [opv, n1, n2, n3, n4, Value.cells]
                    first | refine any_go (i := 13) (by rfl) (by decide +kernel) (by decide +kernel) noLate_nil (go_yields w_none (fun w hS => m_indexAddr_rd Try.underlying24 ti39 (hS := hS))) ?_ | refine any_go (i := 13) (by rfl) (by decide +kernel) (by decide +kernel) noLate_nil (go_yields w_none (fun w hS => m_indexAddr_vec Try.underlying24 ti39 (hS := hS))) ?_
                    try simp only [opv, n1, n2, n3, n4, Value.cells, Nat.mul_one, Nat.zero_add, Int.toNat_natCast, Int.reduceToNat]
                    first | refine any_go (i := 14) (by rfl) (by decide +kernel) (by decide +kernel) noLate_nil (go_yields w_none (fun w hS => m_fieldAddr Try.underlying39 (hi := ti37))) ?_ | refine any_go (i := 14) (by rfl) (by decide +kernel) (by decide +kernel) noLate_nil (go_yields w_none (fun w hS => m_fieldAddr_rd Try.underlying39 (hi := ti37) (hS := hS))) ?_ | refine any_go (i := 14) (by rfl) (by decide +kernel) (by decide +kernel) noLate_nil (go_yields w_none (fun w hS => m_fieldAddr_vec Try.underlying39 (hi := ti37) (hS := hS))) ?_
                    try simp only [opv, n1, n2, n3, n4, Value.cells, Nat.zero_add, Nat.add_zero, List.getElem_toArray, List.getElem_cons_zero, List.getElem_cons_succ]
                    first | refine any_go (i := 15) (by rfl) (by decide +kernel) (by decide +kernel) noLate_nil (go_yields w_none (fun w hS => m_load_row Try.underlying37 (hi := ti37) (hS := hS) (hfit := by rw [arows_len]; omega))) ?_ | refine any_go (i := 15) (by rfl) (by decide +kernel) (by decide +kernel) noLate_nil (go_yields w_none (fun w hS => m_loada_obj Try.underlying37 (hi := ti37) (hS := hS) (hfit := by rw [arows_len]; omega))) ?_ | refine any_go (i := 15) (by rfl) (by decide +kernel) (by decide +kernel) noLate_nil (go_yields w_none (fun w hS => m_loada_bx Try.underlying37 (hi := ti37) (hS := hS) (hfit := by rw [arows_len]; omega))) ?_ | refine any_go (i := 15) (by rfl) (by decide +kernel) (by decide +kernel) noLate_nil (go_yields w_none (fun w hS => m_loada_rd Try.underlying37 (hi := ti37) (hS := hS) (hfit := by rw [arows_len]; omega))) ?_ | refine any_go (i := 15) (by rfl) (by decide +kernel) (by decide +kernel) noLate_nil (go_yields w_none (fun w hS => m_loada_vec Try.underlying37 (hi := ti37) (hS := hS) (hfit := by rw [arows_len]; omega))) ?_
                    try simp only [opv, n1, n2, n3, n4, Value.cells, List.getElem_toArray, List.getElem_cons_zero, List.getElem_cons_succ]
                    rw [arow_val (by omega) hto, hy]
                    apply any_go (i := 16) (by rfl) (by decide +kernel) (by decide +kernel) noLate_nil (call_yields w_none en118 ?H1) ?K1
                    case H1 =>
                      intro w hS
                      try simp only [opv, n1, n2, n3, n4, List.map_toArray, List.map_cons, List.map_nil, List.append_toArray, List.cons_append, List.nil_append, Array.append_empty]
                      refine CallR.mono (c_ref09More (aval x) (aval y) hvx hvy _) ?_
                      rintro _ w1 ⟨rfl, hE⟩; exact ⟨rfl, hE⟩
                    try simp only [opv, n1, n2, n3, n4, Value.cells]
                    refine any_go (i := 17) (by rfl) (by decide +kernel) (by decide +kernel) noLate_nil (go_yields w_none (fun w hS => s_build_struct (cells := (AA (akey x ++ moreV (aval x) (aval y)))) Try.underlying39 ti39 bp39 (hc := by simp only [List.map_toArray, List.map_cons, List.map_nil, opv, n1, n2, n3, n4, Value.cells, List.toList_toArray]; exact fill_atom (by rfl) (by rfl) (by rfl) hk12 hml))) ?_
                    try simp only [opv, n1, n2, n3, n4, Value.cells]
                    refine any_step [18] (by kernel_rfl) (by decide) (fun w16 hE => ⟨fun _ => (hS.ext hE).sel (by repeat (first | exact Sel.nil | (refine Sel.cons (by repeat (first | exact Del.head | apply Del.tail)) ?_))), ?_⟩)
                    replace hS := hS.ext hE
                    intro i hi
                    simp only [List.mem_cons, List.not_mem_nil, or_false] at hi
                    subst hi
                    ·
                     refine any_op (by rfl) ?_
                     refine m_buildRow (cells := (AA (akey x ++ moreV (aval x) (aval y)))) Try.underlying24 ti39 (hc := by simp only [List.map_toArray, List.map_cons, List.map_nil, opv, n1, n2, n3, n4, Value.cells, List.toList_toArray]; exact fill_one (by rfl) (zi_size21 hzl) (by rfl)) (hS := hS) (h := fun w17 g17 hS => ?_)
                     try simp only [opv, n1, n2, n3, n4, Value.cells, Array.toArray_toList] at hS ⊢
                     replace hS := hS.obj_rd (sz := 21) (n := 1) (by exact zi_size21 hzl) .head
                     rw [arow_one hzl] at hS
                     refine x_nil ?_
                     refine any_step [19] (by kernel_rfl) (by decide) (fun w18 hE => ⟨fun _ => (hS.ext hE).sel (by repeat (first | exact Sel.nil | (refine Sel.cons (by repeat (first | exact Del.head | apply Del.tail)) ?_))), ?_⟩)
                     replace hS := hS.ext hE
                     intro i hi
                     simp only [List.mem_cons, List.not_mem_nil, or_false] at hi
                     subst hi
                     ·
                      refine any_op (by rfl) ?_
                      refine m_append Try.underlying24 ti39 (hS := hS) (h1 := rowsZ_cells _ _) (h := fun w19 A19 C19 hS => ?_)
                      try simp only [← List.map_append, ← List.map_drop, ← List.map_take, Nat.mul_one, Nat.zero_mul, Nat.sub_zero, List.drop_zero, List.nil_append, Nat.zero_add] at hS ⊢
                      try simp only [opv, n1, n2, n3, n4, Value.cells, Array.toArray_toList] at hS ⊢
                      rw [add_one] at hS
                      refine x_nil ?_
                      refine any_go (i := 20) (by rfl) (by decide +kernel) (by decide +kernel) noLate_nil (go_yields w_none (fun w hS => s_assign)) ?_
                      try simp only [opv, n1, n2, n3, n4, Value.cells]
                      refine any_nil (by kernel_rfl) (fun w20 hE => ?_)
                      replace hS := hS.ext hE
                      refine ⟨fun _ => hS.sel (by repeat (first | exact Sel.nil | (refine Sel.cons (by repeat (first | exact Del.head | apply Del.tail)) ?_))), ?_⟩
                      refine mix_leaf (by simp only [clob, List.foldl, n1, n2, n3, n4]) ?_
                      try simp only [n1, n2]
                      exact ⟨_, _, by first | trivial | rfl, hS.sel (by repeat (first | exact Sel.nil | (refine Sel.cons (by repeat (first | exact Del.head | apply Del.tail)) ?_)))⟩
                   intro fm1 w21 hM
                   obtain ⟨C2, e2, h5, hS⟩ := hM
                   simp only [clob, List.foldl, n3, n4, h5]
                   refine hK14 _ _ ?_
                   refine x_seq fun K15 hK15 => ?_
                   refine x_region ?_
                   refine s_go (s_move) ?_
                   try simp only [opv, n1, n2, n3, n4, Value.cells]
                   refine s_go (s_add (hc := by first | exact wr_i64 (by omega) (by omega) | rfl)) ?_
                   try simp only [opv, n1, n2, n3, n4, Value.cells]
                   refine s_go (s_assign) ?_
                   try simp only [opv, n1, n2, n3, n4, Value.cells]
                   refine x_nil ?_
                   refine hK15 _ _ ?_
                   refine x_region ?_
                   refine s_go (s_move) ?_
                   try simp only [opv, n1, n2, n3, n4, Value.cells]
                   refine s_go (s_add (hc := by first | exact wr_i64 (by omega) (by omega) | rfl)) ?_
                   try simp only [opv, n1, n2, n3, n4, Value.cells]
                   refine s_go (s_assign) ?_
                   try simp only [opv, n1, n2, n3, n4, Value.cells]
                   refine x_nil ?_
                   refine loop_back (m' := m1 - 1) (by simp only [clob, List.foldl, n1, n2, n3, n4]) ?_ ?_
                   · try simp only [opv, n1, n2, n3, n4, Value.cells]
                     exact ⟨_, _, _, _, _, by omega, by omega, by omega, by rfl, by rfl, by simp only [List.length_append, List.length_cons, List.length_nil, Nat.zero_add]; rfl, hnx, by simp only [List.length_append, List.length_cons, List.length_nil, Nat.zero_add]; omega, by simp only [List.length_append, List.length_cons, List.length_nil, Nat.zero_add]; exact hS.sel (by repeat (first | exact Sel.nil | (refine Sel.cons (by repeat (first | exact Del.head | apply Del.tail)) ?_)))⟩
                   · omega
       ·
        try simp only [n3, n4]
        try simp only [decide_eq_true_eq, decide_eq_false_iff_not, Bool.not_eq_true', Bool.not_eq_false', Int.not_lt, Int.not_le, ne_eq, Decidable.not_not] at hp3
        first
        | (exfalso; omega)
        | skip
          have hmg := mg_r (s := s) (t := t) (i := i) (k := k) (by omega) hy (.inl (by omega))
          have hnx : (o ++ [y]) ++ mergeP (s.drop i) (t.drop (k + 1)) = mergeP s t := by rw [← hmo, hmg, List.append_assoc]; rfl
          refine q_off (yi (t := 56) rfl rfl) ?_
          try simp only [opv, n1, n2, n3, n4, Value.cells]
          refine q_off (yi (t := 56) rfl rfl) ?_
          try simp only [opv, n1, n2, n3, n4, Value.cells]
          refine q_off (yi (t := 56) rfl rfl) ?_
          try simp only [opv, n1, n2, n3, n4, Value.cells]
          refine q_off (yi (t := 56) rfl rfl) ?_
          try simp only [opv, n1, n2, n3, n4, Value.cells]
          refine q_off (yi (t := 56) rfl rfl) ?_
          try simp only [opv, n1, n2, n3, n4, Value.cells]
          refine q_off (yi (t := 56) rfl rfl) ?_
          try simp only [opv, n1, n2, n3, n4, Value.cells]
          refine q_off (yi (t := 56) rfl rfl) ?_
          try simp only [opv, n1, n2, n3, n4, Value.cells]
          refine q_off (yi (t := 56) rfl rfl) ?_
          try simp only [opv, n1, n2, n3, n4, Value.cells]
          refine q_off (yi (t := 56) rfl rfl) ?_
          try simp only [opv, n1, n2, n3, n4, Value.cells]
          refine q_off (yi (t := 56) rfl rfl) ?_
          try simp only [opv, n1, n2, n3, n4, Value.cells]
          refine q_off (yi (t := 56) rfl rfl) ?_
          try simp only [opv, n1, n2, n3, n4, Value.cells]
          refine q_on (yi (t := 51) rfl rfl) ?_
          first | refine q_go (fun w hS => s_pick_t) ?_ | refine q_go (fun w hS => s_pick_f) ?_
          try simp only [opv, n1, n2, n3, n4, Value.cells]
          first | refine q_go (fun w hS => s_pick_t) ?_ | refine q_go (fun w hS => s_pick_f) ?_
          try simp only [opv, n1, n2, n3, n4, Value.cells]
          refine q_go (fun w hS => s_assign) ?_
          try simp only [opv, n1, n2, n3, n4, Value.cells]
          clear hS
          refine q_nil fun w22 hS => ?_
          refine hK8 _ _ ?_
          refine x_cond_f (h := ?_)
          try have hl1 := @c
          refine x_seq fun K16 hK16 => ?_
          refine x_quiet (by kernel_rfl) (by kernel_rfl) hS ?_
          refine q_go (fun w hS => s_move) ?_
          try simp only [opv, n1, n2, n3, n4, Value.cells]
          refine q_go (fun w hS => s_move) ?_
          try simp only [opv, n1, n2, n3, n4, Value.cells]
          refine q_go (fun w hS => s_len_sl Try.underlying24) ?_
          try simp only [opv, n1, n2, n3, n4, Value.cells]
          refine q_go (fun w hS => s_eql) ?_
          try simp only [opv, n1, n2, n3, n4, Value.cells]
          refine q_go (fun w hS => s_move) ?_
          try simp only [opv, n1, n2, n3, n4, Value.cells]
          refine q_part 84 rfl (fun hp5 => ?_) (fun hp5 => ?_)
          ·
           try simp only [n3, n4]
           try simp only [decide_eq_true_eq, decide_eq_false_iff_not, Bool.not_eq_true', Bool.not_eq_false', Int.not_lt, Int.not_le, ne_eq, Decidable.not_not] at hp5
           first
           | (exfalso; omega)
           | skip
             refine q_off (yi (t := 84) rfl rfl) ?_
             try simp only [opv, n1, n2, n3, n4, Value.cells]
             refine q_off (yi (t := 84) rfl rfl) ?_
             try simp only [opv, n1, n2, n3, n4, Value.cells]
             refine q_off (yi (t := 84) rfl rfl) ?_
             try simp only [opv, n1, n2, n3, n4, Value.cells]
             refine q_off (yi (t := 84) rfl rfl) ?_
             try simp only [opv, n1, n2, n3, n4, Value.cells]
             refine q_off (yi (t := 84) rfl rfl) ?_
             try simp only [opv, n1, n2, n3, n4, Value.cells]
             refine q_off (yi (t := 84) rfl rfl) ?_
             try simp only [opv, n1, n2, n3, n4, Value.cells]
             refine q_off (yi (t := 84) rfl rfl) ?_
             try simp only [opv, n1, n2, n3, n4, Value.cells]
             refine q_off (yi (t := 84) rfl rfl) ?_
             try simp only [opv, n1, n2, n3, n4, Value.cells]
             refine q_off (yi (t := 84) rfl rfl) ?_
             try simp only [opv, n1, n2, n3, n4, Value.cells]
             refine q_off (yi (t := 84) rfl rfl) ?_
             try simp only [opv, n1, n2, n3, n4, Value.cells]
             refine q_off (yi (t := 84) rfl rfl) ?_
             try simp only [opv, n1, n2, n3, n4, Value.cells]
             first | refine q_go (fun w hS => s_pick_t) ?_ | refine q_go (fun w hS => s_pick_f) ?_
             try simp only [opv, n1, n2, n3, n4, Value.cells]
             refine q_go (fun w hS => s_assign) ?_
             try simp only [opv, n1, n2, n3, n4, Value.cells]
             clear hS
             refine q_nil fun w23 hS => ?_
             refine hK16 _ _ ?_
             refine x_cond_t (h := ?_)
             try (have hmg := mg_r (s := s) (t := t) (i := i) (k := k) (by omega) hy (.inr ⟨by omega, by rw [hx]; exact hl1, by rw [hx]; exact @c⟩))
             have hnx : (o ++ [y]) ++ mergeP (s.drop i) (t.drop (k + 1)) = mergeP s t := by rw [← hmo, hmg, List.append_assoc]; rfl
             refine x_seq fun K17 hK17 => ?_
             refine x_region ?_
             refine s_go (s_move) ?_
             try simp only [opv, n1, n2, n3, n4, Value.cells]
             refine s_go (s_move) ?_
             try simp only [opv, n1, n2, n3, n4, Value.cells]
             refine s_go (s_move) ?_
             try simp only [opv, n1, n2, n3, n4, Value.cells]
             first | refine s_go (m_indexAddr_rd Try.underlying24 ti39 (hS := hS)) ?_ | refine s_go (m_indexAddr_vec Try.underlying24 ti39 (hS := hS)) ?_
             try simp only [opv, n1, n2, n3, n4, Value.cells, Nat.mul_one, Nat.zero_add, Int.toNat_natCast, Int.reduceToNat]
             first | refine s_go (m_load_row Try.underlying39 (hi := ti39) (hS := hS) (hfit := by rw [arows_len]; omega)) ?_ | refine s_go (m_loada_obj Try.underlying39 (hi := ti39) (hS := hS) (hfit := by rw [arows_len]; omega)) ?_ | refine s_go (m_loada_bx Try.underlying39 (hi := ti39) (hS := hS) (hfit := by rw [arows_len]; omega)) ?_ | refine s_go (m_loada_rd Try.underlying39 (hi := ti39) (hS := hS) (hfit := by rw [arows_len]; omega)) ?_ | refine s_go (m_loada_vec Try.underlying39 (hi := ti39) (hS := hS) (hfit := by rw [arows_len]; omega)) ?_
             try simp only [opv, n1, n2, n3, n4, Value.cells, List.getElem_toArray, List.getElem_cons_zero, List.getElem_cons_succ]
             rw [arow_get (by omega) hto, hy]
             refine m_buildRow (cells := (AA y)) Try.underlying24 ti39 (hc := by simp only [List.map_toArray, List.map_cons, List.map_nil, opv, n1, n2, n3, n4, Value.cells, List.toList_toArray]; exact fill_one (by rfl) (zi_size21 hyl) (by rfl)) (hS := hS) (h := fun w24 g24 hS => ?_)
             try simp only [opv, n1, n2, n3, n4, Value.cells, Array.toArray_toList] at hS ⊢
             replace hS := hS.obj_rd (sz := 21) (n := 1) (by exact zi_size21 hyl) .head
             rw [arow_one hyl] at hS
             refine m_append Try.underlying24 ti39 (hS := hS) (h1 := rowsZ_cells _ _) (h := fun w25 A25 C25 hS => ?_)
             try simp only [← List.map_append, ← List.map_drop, ← List.map_take, Nat.mul_one, Nat.zero_mul, Nat.sub_zero, List.drop_zero, List.nil_append, Nat.zero_add] at hS ⊢
             try simp only [opv, n1, n2, n3, n4, Value.cells, Array.toArray_toList] at hS ⊢
             rw [add_one] at hS
             refine s_go (s_assign) ?_
             try simp only [opv, n1, n2, n3, n4, Value.cells]
             refine x_nil ?_
             refine hK17 _ _ ?_
             refine x_region ?_
             refine s_go (s_move) ?_
             try simp only [opv, n1, n2, n3, n4, Value.cells]
             refine s_go (s_add (hc := by first | exact wr_i64 (by omega) (by omega) | rfl)) ?_
             try simp only [opv, n1, n2, n3, n4, Value.cells]
             refine s_go (s_assign) ?_
             try simp only [opv, n1, n2, n3, n4, Value.cells]
             refine x_nil ?_
             refine loop_back (m' := m1 - 1) (by simp only [clob, List.foldl, n1, n2, n3, n4]) ?_ ?_
             · try simp only [opv, n1, n2, n3, n4, Value.cells]
               exact ⟨_, _, _, _, _, by omega, by omega, by omega, by rfl, by rfl, by simp only [List.length_append, List.length_cons, List.length_nil, Nat.zero_add]; rfl, hnx, by simp only [List.length_append, List.length_cons, List.length_nil, Nat.zero_add]; omega, by simp only [List.length_append, List.length_cons, List.length_nil, Nat.zero_add]; exact hS.sel (by repeat (first | exact Sel.nil | (refine Sel.cons (by repeat (first | exact Del.head | apply Del.tail)) ?_)))⟩
             · omega
          ·
           try simp only [n3, n4]
           try simp only [decide_eq_true_eq, decide_eq_false_iff_not, Bool.not_eq_true', Bool.not_eq_false', Int.not_lt, Int.not_le, ne_eq, Decidable.not_not] at hp5
           first
           | (exfalso; omega)
           | skip
             refine q_on (yi (t := 84) rfl rfl) ?_
             refine q_go (fun w hS => s_move) ?_
             try simp only [opv, n1, n2, n3, n4, Value.cells]
             refine q_on (yi (t := 84) rfl rfl) ?_
             refine q_go (fun w hS => s_move) ?_
             try simp only [opv, n1, n2, n3, n4, Value.cells]
             refine q_on (yi (t := 84) rfl rfl) ?_
             first | refine q_go (fun w hS => m_indexAddr_rd Try.underlying24 ti39 (hS := hS)) ?_ | refine q_go (fun w hS => m_indexAddr_vec Try.underlying24 ti39 (hS := hS)) ?_
             try simp only [opv, n1, n2, n3, n4, Value.cells, Nat.mul_one, Nat.zero_add, Int.toNat_natCast, Int.reduceToNat]
             refine q_on (yi (t := 84) rfl rfl) ?_
             first | refine q_go (fun w hS => m_fieldAddr Try.underlying39 (hi := ti34)) ?_ | refine q_go (fun w hS => m_fieldAddr_rd Try.underlying39 (hi := ti34) (hS := hS)) ?_ | refine q_go (fun w hS => m_fieldAddr_vec Try.underlying39 (hi := ti34) (hS := hS)) ?_
             try simp only [opv, n1, n2, n3, n4, Value.cells, Nat.zero_add, Nat.add_zero, List.getElem_toArray, List.getElem_cons_zero, List.getElem_cons_succ]
             refine q_on (yi (t := 84) rfl rfl) ?_
             first | refine q_go (fun w hS => m_load_row Try.underlying34 (hi := ti34) (hS := hS) (hfit := by rw [arows_len]; omega)) ?_ | refine q_go (fun w hS => m_loada_obj Try.underlying34 (hi := ti34) (hS := hS) (hfit := by rw [arows_len]; omega)) ?_ | refine q_go (fun w hS => m_loada_bx Try.underlying34 (hi := ti34) (hS := hS) (hfit := by rw [arows_len]; omega)) ?_ | refine q_go (fun w hS => m_loada_rd Try.underlying34 (hi := ti34) (hS := hS) (hfit := by rw [arows_len]; omega)) ?_ | refine q_go (fun w hS => m_loada_vec Try.underlying34 (hi := ti34) (hS := hS) (hfit := by rw [arows_len]; omega)) ?_
             try simp only [opv, n1, n2, n3, n4, Value.cells, List.getElem_toArray, List.getElem_cons_zero, List.getElem_cons_succ]
             rw [arow_key (by omega) hto, hy]
             refine q_on (yi (t := 84) rfl rfl) ?_
             refine q_go (fun w hS => s_move) ?_
             try simp only [opv, n1, n2, n3, n4, Value.cells]
             refine q_on (yi (t := 84) rfl rfl) ?_
             refine q_go (fun w hS => s_move) ?_
             try simp only [opv, n1, n2, n3, n4, Value.cells]
             refine q_on (yi (t := 84) rfl rfl) ?_
             first | refine q_go (fun w hS => m_indexAddr_rd Try.underlying24 ti39 (hS := hS)) ?_ | refine q_go (fun w hS => m_indexAddr_vec Try.underlying24 ti39 (hS := hS)) ?_
             try simp only [opv, n1, n2, n3, n4, Value.cells, Nat.mul_one, Nat.zero_add, Int.toNat_natCast, Int.reduceToNat]
             refine q_on (yi (t := 84) rfl rfl) ?_
             first | refine q_go (fun w hS => m_fieldAddr Try.underlying39 (hi := ti34)) ?_ | refine q_go (fun w hS => m_fieldAddr_rd Try.underlying39 (hi := ti34) (hS := hS)) ?_ | refine q_go (fun w hS => m_fieldAddr_vec Try.underlying39 (hi := ti34) (hS := hS)) ?_
             try simp only [opv, n1, n2, n3, n4, Value.cells, Nat.zero_add, Nat.add_zero, List.getElem_toArray, List.getElem_cons_zero, List.getElem_cons_succ]
             refine q_on (yi (t := 84) rfl rfl) ?_
             first | refine q_go (fun w hS => m_load_row Try.underlying34 (hi := ti34) (hS := hS) (hfit := by rw [arows_len]; omega)) ?_ | refine q_go (fun w hS => m_loada_obj Try.underlying34 (hi := ti34) (hS := hS) (hfit := by rw [arows_len]; omega)) ?_ | refine q_go (fun w hS => m_loada_bx Try.underlying34 (hi := ti34) (hS := hS) (hfit := by rw [arows_len]; omega)) ?_ | refine q_go (fun w hS => m_loada_rd Try.underlying34 (hi := ti34) (hS := hS) (hfit := by rw [arows_len]; omega)) ?_ | refine q_go (fun w hS => m_loada_vec Try.underlying34 (hi := ti34) (hS := hS) (hfit := by rw [arows_len]; omega)) ?_
             try simp only [opv, n1, n2, n3, n4, Value.cells, List.getElem_toArray, List.getElem_cons_zero, List.getElem_cons_succ]
             rw [arow_key (by omega) hso, hx]
             refine q_on (yi (t := 84) rfl rfl) ?_
             apply q_call en116
             case H =>
               intro w hS
               try simp only [opv, n1, n2, n3, n4, List.map_toArray, List.map_cons, List.map_nil, List.append_toArray, List.cons_append, List.nil_append, Array.append_empty]
               refine CallR.mono (c_ref08Less (akey y) (akey x) hky hkx _) ?_
               rintro _ w1 ⟨rfl, hE⟩; exact ⟨rfl, hS.ext hE⟩
             try simp only [opv, n1, n2, n3, n4, Value.cells]
             first | refine q_go (fun w hS => s_pick_t) ?_ | refine q_go (fun w hS => s_pick_f) ?_
             try simp only [opv, n1, n2, n3, n4, Value.cells]
             refine q_go (fun w hS => s_assign) ?_
             try simp only [opv, n1, n2, n3, n4, Value.cells]
             clear hS
             refine q_nil fun w26 hS => ?_
             refine hK16 _ _ ?_
             refine x_cond (ht := fun hc8 => ?_) (hf := fun hc8 => ?_)
             ·
              try simp only [decide_eq_true_eq, decide_eq_false_iff_not, Bool.not_eq_true', Bool.not_eq_false', Int.not_lt, Int.not_le, ne_eq, Decidable.not_not, bne_iff_ne, beq_iff_eq, not_true_eq_false, not_false_eq_true] at hc8
              first
              | (exfalso; omega)
              | skip
                try (have hmg := mg_r (s := s) (t := t) (i := i) (k := k) (by omega) hy (.inr ⟨by omega, by rw [hx]; exact hl1, by rw [hx]; exact hc8⟩))
                have hnx : (o ++ [y]) ++ mergeP (s.drop i) (t.drop (k + 1)) = mergeP s t := by rw [← hmo, hmg, List.append_assoc]; rfl
                refine x_seq fun K18 hK18 => ?_
                refine x_region ?_
                refine s_go (s_move) ?_
                try simp only [opv, n1, n2, n3, n4, Value.cells]
                refine s_go (s_move) ?_
                try simp only [opv, n1, n2, n3, n4, Value.cells]
                refine s_go (s_move) ?_
                try simp only [opv, n1, n2, n3, n4, Value.cells]
                first | refine s_go (m_indexAddr_rd Try.underlying24 ti39 (hS := hS)) ?_ | refine s_go (m_indexAddr_vec Try.underlying24 ti39 (hS := hS)) ?_
                try simp only [opv, n1, n2, n3, n4, Value.cells, Nat.mul_one, Nat.zero_add, Int.toNat_natCast, Int.reduceToNat]
                first | refine s_go (m_load_row Try.underlying39 (hi := ti39) (hS := hS) (hfit := by rw [arows_len]; omega)) ?_ | refine s_go (m_loada_obj Try.underlying39 (hi := ti39) (hS := hS) (hfit := by rw [arows_len]; omega)) ?_ | refine s_go (m_loada_bx Try.underlying39 (hi := ti39) (hS := hS) (hfit := by rw [arows_len]; omega)) ?_ | refine s_go (m_loada_rd Try.underlying39 (hi := ti39) (hS := hS) (hfit := by rw [arows_len]; omega)) ?_ | refine s_go (m_loada_vec Try.underlying39 (hi := ti39) (hS := hS) (hfit := by rw [arows_len]; omega)) ?_
                try simp only [opv, n1, n2, n3, n4, Value.cells, List.getElem_toArray, List.getElem_cons_zero, List.getElem_cons_succ]
                rw [arow_get (by omega) hto, hy]
                refine m_buildRow (cells := (AA y)) Try.underlying24 ti39 (hc := by simp only [List.map_toArray, List.map_cons, List.map_nil, opv, n1, n2, n3, n4, Value.cells, List.toList_toArray]; exact fill_one (by rfl) (zi_size21 hyl) (by rfl)) (hS := hS) (h := fun w27 g27 hS => ?_)
                try simp only [opv, n1, n2, n3, n4, Value.cells, Array.toArray_toList] at hS ⊢
                replace hS := hS.obj_rd (sz := 21) (n := 1) (by exact zi_size21 hyl) .head
                rw [arow_one hyl] at hS
                refine m_append Try.underlying24 ti39 (hS := hS) (h1 := rowsZ_cells _ _) (h := fun w28 A28 C28 hS => ?_)
                try simp only [← List.map_append, ← List.map_drop, ← List.map_take, Nat.mul_one, Nat.zero_mul, Nat.sub_zero, List.drop_zero, List.nil_append, Nat.zero_add] at hS ⊢
                try simp only [opv, n1, n2, n3, n4, Value.cells, Array.toArray_toList] at hS ⊢
                rw [add_one] at hS
                refine s_go (s_assign) ?_
                try simp only [opv, n1, n2, n3, n4, Value.cells]
                refine x_nil ?_
                refine hK18 _ _ ?_
                refine x_region ?_
                refine s_go (s_move) ?_
                try simp only [opv, n1, n2, n3, n4, Value.cells]
                refine s_go (s_add (hc := by first | exact wr_i64 (by omega) (by omega) | rfl)) ?_
                try simp only [opv, n1, n2, n3, n4, Value.cells]
                refine s_go (s_assign) ?_
                try simp only [opv, n1, n2, n3, n4, Value.cells]
                refine x_nil ?_
                refine loop_back (m' := m1 - 1) (by simp only [clob, List.foldl, n1, n2, n3, n4]) ?_ ?_
                · try simp only [opv, n1, n2, n3, n4, Value.cells]
                  exact ⟨_, _, _, _, _, by omega, by omega, by omega, by rfl, by rfl, by simp only [List.length_append, List.length_cons, List.length_nil, Nat.zero_add]; rfl, hnx, by simp only [List.length_append, List.length_cons, List.length_nil, Nat.zero_add]; omega, by simp only [List.length_append, List.length_cons, List.length_nil, Nat.zero_add]; exact hS.sel (by repeat (first | exact Sel.nil | (refine Sel.cons (by repeat (first | exact Del.head | apply Del.tail)) ?_)))⟩
                · omega
             ·
              try simp only [decide_eq_true_eq, decide_eq_false_iff_not, Bool.not_eq_true', Bool.not_eq_false', Int.not_lt, Int.not_le, ne_eq, Decidable.not_not, bne_iff_ne, beq_iff_eq, not_true_eq_false, not_false_eq_true] at hc8
              first
              | (exfalso; omega)
              | skip
                have hmg := mg_e (s := s) (t := t) (i := i) (k := k) (by omega) hx (by omega) hy hl1 hc8
                have hnx : (o ++ [(akey x ++ moreV (aval x) (aval y))]) ++ mergeP (s.drop (i + 1)) (t.drop (k + 1)) = mergeP s t := by rw [← hmo, hmg, List.append_assoc]; rfl
                have hmo9 := more_ok hvx hvy
                have hml := hmo9.len
                have hk12 := hkx.len
                have hzl : (akey x ++ moreV (aval x) (aval y)).length = 21 := (kv_ok hkx hmo9).len
                refine x_seq fun K19 hK19 => ?_
                refine x_mixed_c (Lc := [.rd B2 21 (t).length (arows (t)), .rd B1 21 (s).length (arows (s))]) [] 0 [5, 22, 23, 24, 25, 26, 27, 28, 29, 30, 31, 32, 33, 34, 35, 36, 37, 38, 39, 40, 41] (fun f w => ∃ (C2 : Option Addr) (e2 : Nat), f 5 = .slice C2 (o.length + 1) e2 ∧ St NoB w0 w [.vec C2 e2 39 21 (o.length + 1) (arows (o ++ [(akey x ++ moreV (aval x) (aval y))])), .rd B2 21 (t).length (arows (t)), .rd B1 21 (s).length (arows (s))]) (by kernel_rfl) (by kernel_rfl) (by kernel_rfl) (by decide) hS (fun w29 hS => ?mixpre502) ?mixrest502
                case mixpre502 =>
                 refine p_nil ?_
                 simp only [List.length_cons, List.length_nil, Nat.reduceAdd, Nat.reduceSub]
                 refine any_go (i := 0) (by rfl) (by decide +kernel) (by decide +kernel) noLate_nil (go_yields w_none (fun w hS => s_move)) ?_
                 try simp only [opv, n1, n2, n3, n4, Value.cells]
                 refine any_go (i := 1) (by rfl) (by decide +kernel) (by decide +kernel) noLate_nil (go_yields w_none (fun w hS => s_move)) ?_
                 try simp only [opv, n1, n2, n3, n4, Value.cells]
                 refine any_go (i := 2) (by rfl) (by decide +kernel) (by decide +kernel) noLate_nil (go_yields w_none (fun w hS => s_move)) ?_
                 try simp only [opv, n1, n2, n3, n4, Value.cells]
                 first | refine any_go (i := 3) (by rfl) (by decide +kernel) (by decide +kernel) noLate_nil (go_yields w_none (fun w hS => m_indexAddr_rd Try.underlying24 ti39 (hS := hS))) ?_ | refine any_go (i := 3) (by rfl) (by decide +kernel) (by decide +kernel) noLate_nil (go_yields w_none (fun w hS => m_indexAddr_vec Try.underlying24 ti39 (hS := hS))) ?_
                 try simp only [opv, n1, n2, n3, n4, Value.cells, Nat.mul_one, Nat.zero_add, Int.toNat_natCast, Int.reduceToNat]
                 first | refine any_go (i := 4) (by rfl) (by decide +kernel) (by decide +kernel) noLate_nil (go_yields w_none (fun w hS => m_fieldAddr Try.underlying39 (hi := ti34))) ?_ | refine any_go (i := 4) (by rfl) (by decide +kernel) (by decide +kernel) noLate_nil (go_yields w_none (fun w hS => m_fieldAddr_rd Try.underlying39 (hi := ti34) (hS := hS))) ?_ | refine any_go (i := 4) (by rfl) (by decide +kernel) (by decide +kernel) noLate_nil (go_yields w_none (fun w hS => m_fieldAddr_vec Try.underlying39 (hi := ti34) (hS := hS))) ?_
                 try simp only [opv, n1, n2, n3, n4, Value.cells, Nat.zero_add, Nat.add_zero, List.getElem_toArray, List.getElem_cons_zero, List.getElem_cons_succ]
                 first | refine any_go (i := 5) (by rfl) (by decide +kernel) (by decide +kernel) noLate_nil (go_yields w_none (fun w hS => m_load_row Try.underlying34 (hi := ti34) (hS := hS) (hfit := by rw [arows_len]; omega))) ?_ | refine any_go (i := 5) (by rfl) (by decide +kernel) (by decide +kernel) noLate_nil (go_yields w_none (fun w hS => m_loada_obj Try.underlying34 (hi := ti34) (hS := hS) (hfit := by rw [arows_len]; omega))) ?_ | refine any_go (i := 5) (by rfl) (by decide +kernel) (by decide +kernel) noLate_nil (go_yields w_none (fun w hS => m_loada_bx Try.underlying34 (hi := ti34) (hS := hS) (hfit := by rw [arows_len]; omega))) ?_ | refine any_go (i := 5) (by rfl) (by decide +kernel) (by decide +kernel) noLate_nil (go_yields w_none (fun w hS => m_loada_rd Try.underlying34 (hi := ti34) (hS := hS) (hfit := by rw [arows_len]; omega))) ?_ | refine any_go (i := 5) (by rfl) (by decide +kernel) (by decide +kernel) noLate_nil (go_yields w_none (fun w hS => m_loada_vec Try.underlying34 (hi := ti34) (hS := hS) (hfit := by rw [arows_len]; omega))) ?_
                 try simp only [opv, n1, n2, n3, n4, Value.cells, List.getElem_toArray, List.getElem_cons_zero, List.getElem_cons_succ]
                 rw [arow_key (by omega) hso, hx]
                 refine any_go (i := 6) (by rfl) (by decide +kernel) (by decide +kernel) noLate_nil (go_yields w_none (fun w hS => s_move)) ?_
                 try simp only [opv, n1, n2, n3, n4, Value.cells]
                 refine any_go (i := 7) (by rfl) (by decide +kernel) (by decide +kernel) noLate_nil (go_yields w_none (fun w hS => s_move)) ?_
                 try simp only [opv, n1, n2, n3, n4, Value.cells]
                 first | refine any_go (i := 8) (by rfl) (by decide +kernel) (by decide +kernel) noLate_nil (go_yields w_none (fun w hS => m_indexAddr_rd Try.underlying24 ti39 (hS := hS))) ?_ | refine any_go (i := 8) (by rfl) (by decide +kernel) (by decide +kernel) noLate_nil (go_yields w_none (fun w hS => m_indexAddr_vec Try.underlying24 ti39 (hS := hS))) ?_
                 try simp only [opv, n1, n2, n3, n4, Value.cells, Nat.mul_one, Nat.zero_add, Int.toNat_natCast, Int.reduceToNat]
                 first | refine any_go (i := 9) (by rfl) (by decide +kernel) (by decide +kernel) noLate_nil (go_yields w_none (fun w hS => m_fieldAddr Try.underlying39 (hi := ti37))) ?_ | refine any_go (i := 9) (by rfl) (by decide +kernel) (by decide +kernel) noLate_nil (go_yields w_none (fun w hS => m_fieldAddr_rd Try.underlying39 (hi := ti37) (hS := hS))) ?_ | refine any_go (i := 9) (by rfl) (by decide +kernel) (by decide +kernel) noLate_nil (go_yields w_none (fun w hS => m_fieldAddr_vec Try.underlying39 (hi := ti37) (hS := hS))) ?_
                 try simp only [opv, n1, n2, n3, n4, Value.cells, Nat.zero_add, Nat.add_zero, List.getElem_toArray, List.getElem_cons_zero, List.getElem_cons_succ]
                 first | refine any_go (i := 10) (by rfl) (by decide +kernel) (by decide +kernel) noLate_nil (go_yields w_none (fun w hS => m_load_row Try.underlying37 (hi := ti37) (hS := hS) (hfit := by rw [arows_len]; omega))) ?_ | refine any_go (i := 10) (by rfl) (by decide +kernel) (by decide +kernel) noLate_nil (go_yields w_none (fun w hS => m_loada_obj Try.underlying37 (hi := ti37) (hS := hS) (hfit := by rw [arows_len]; omega))) ?_ | refine any_go (i := 10) (by rfl) (by decide +kernel) (by decide +kernel) noLate_nil (go_yields w_none (fun w hS => m_loada_bx Try.underlying37 (hi := ti37) (hS := hS) (hfit := by rw [arows_len]; omega))) ?_ | refine any_go (i := 10) (by rfl) (by decide +kernel) (by decide +kernel) noLate_nil (go_yields w_none (fun w hS => m_loada_rd Try.underlying37 (hi := ti37) (hS := hS) (hfit := by rw [arows_len]; omega))) ?_ | refine any_go (i := 10) (by rfl) (by decide +kernel) (by decide +kernel) noLate_nil (go_yields w_none (fun w hS => m_loada_vec Try.underlying37 (hi := ti37) (hS := hS) (hfit := by rw [arows_len]; omega))) ?_
                 try simp only [opv, n1, n2, n3, n4, Value.cells, List.getElem_toArray, List.getElem_cons_zero, List.getElem_cons_succ]
                 rw [arow_val (by omega) hso, hx]
                 refine any_go (i := 11) (by rfl) (by decide +kernel) (by decide +kernel) noLate_nil (go_yields w_none (fun w hS => s_move)) ?_
                 try simp only [opv, n1, n2, n3, n4, Value.cells]
                 refine any_go (i := 12) (by rfl) (by decide +kernel) (by decide +kernel) noLate_nil (go_yields w_none (fun w hS => s_move)) ?_
                 try simp only [opv, n1, n2, n3, n4, Value.cells]
                 first | refine any_go (i := 13) (by rfl) (by decide +kernel) (by decide +kernel) noLate_nil (go_yields w_none (fun w hS => m_indexAddr_rd Try.underlying24 ti39 (hS := hS))) ?_ | refine any_go (i := 13) (by rfl) (by decide +kernel) (by decide +kernel) noLate_nil (go_yields w_none (fun w hS => m_indexAddr_vec Try.underlying24 ti39 (hS := hS))) ?_
                 try simp only [opv, n1, n2, n3, n4, Value.cells, Nat.mul_one, Nat.zero_add, Int.toNat_natCast, Int.reduceToNat]
                 first | refine any_go (i := 14) (by rfl) (by decide +kernel) (by decide +kernel) noLate_nil (go_yields w_none (fun w hS => m_fieldAddr Try.underlying39 (hi := ti37))) ?_ | refine any_go (i := 14) (by rfl) (by decide +kernel) (by decide +kernel) noLate_nil (go_yields w_none (fun w hS => m_fieldAddr_rd Try.underlying39 (hi := ti37) (hS := hS))) ?_ | refine any_go (i := 14) (by rfl) (by decide +kernel) (by decide +kernel) noLate_nil (go_yields w_none (fun w hS => m_fieldAddr_vec Try.underlying39 (hi := ti37) (hS := hS))) ?_
                 try simp only [opv, n1, n2, n3, n4, Value.cells, Nat.zero_add, Nat.add_zero, List.getElem_toArray, List.getElem_cons_zero, List.getElem_cons_succ]
                 first | refine any_go (i := 15) (by rfl) (by decide +kernel) (by decide +kernel) noLate_nil (go_yields w_none (fun w hS => m_load_row Try.underlying37 (hi := ti37) (hS := hS) (hfit := by rw [arows_len]; omega))) ?_ | refine any_go (i := 15) (by rfl) (by decide +kernel) (by decide +kernel) noLate_nil (go_yields w_none (fun w hS => m_loada_obj Try.underlying37 (hi := ti37) (hS := hS) (hfit := by rw [arows_len]; omega))) ?_ | refine any_go (i := 15) (by rfl) (by decide +kernel) (by decide +kernel) noLate_nil (go_yields w_none (fun w hS => m_loada_bx Try.underlying37 (hi := ti37) (hS := hS) (hfit := by rw [arows_len]; omega))) ?_ | refine any_go (i := 15) (by rfl) (by decide +kernel) (by decide +kernel) noLate_nil (go_yields w_none (fun w hS => m_loada_rd Try.underlying37 (hi := ti37) (hS := hS) (hfit := by rw [arows_len]; omega))) ?_ | refine any_go (i := 15) (by rfl) (by decide +kernel) (by decide +kernel) noLate_nil (go_yields w_none (fun w hS => m_loada_vec Try.underlying37 (hi := ti37) (hS := hS) (hfit := by rw [arows_len]; omega))) ?_
                 try simp only [opv, n1, n2, n3, n4, Value.cells, List.getElem_toArray, List.getElem_cons_zero, List.getElem_cons_succ]
                 rw [arow_val (by omega) hto, hy]
                 apply any_go (i := 16) (by rfl) (by decide +kernel) (by decide +kernel) noLate_nil (call_yields w_none en118 ?H2) ?K2
                 case H2 =>
                   intro w hS
                   try simp only [opv, n1, n2, n3, n4, List.map_toArray, List.map_cons, List.map_nil, List.append_toArray, List.cons_append, List.nil_append, Array.append_empty]
                   refine CallR.mono (c_ref09More (aval x) (aval y) hvx hvy _) ?_
                   rintro _ w1 ⟨rfl, hE⟩; exact ⟨rfl, hE⟩
                 try simp only [opv, n1, n2, n3, n4, Value.cells]
                 refine any_go (i := 17) (by rfl) (by decide +kernel) (by decide +kernel) noLate_nil (go_yields w_none (fun w hS => s_build_struct (cells := (AA (akey x ++ moreV (aval x) (aval y)))) Try.underlying39 ti39 bp39 (hc := by simp only [List.map_toArray, List.map_cons, List.map_nil, opv, n1, n2, n3, n4, Value.cells, List.toList_toArray]; exact fill_atom (by rfl) (by rfl) (by rfl) hk12 hml))) ?_
                 try simp only [opv, n1, n2, n3, n4, Value.cells]
                 refine any_step [18] (by kernel_rfl) (by decide) (fun w30 hE => ⟨fun _ => (hS.ext hE).sel (by repeat (first | exact Sel.nil | (refine Sel.cons (by repeat (first | exact Del.head | apply Del.tail)) ?_))), ?_⟩)
                 replace hS := hS.ext hE
                 intro i hi
                 simp only [List.mem_cons, List.not_mem_nil, or_false] at hi
                 subst hi
                 ·
                  refine any_op (by rfl) ?_
                  refine m_buildRow (cells := (AA (akey x ++ moreV (aval x) (aval y)))) Try.underlying24 ti39 (hc := by simp only [List.map_toArray, List.map_cons, List.map_nil, opv, n1, n2, n3, n4, Value.cells, List.toList_toArray]; exact fill_one (by rfl) (zi_size21 hzl) (by rfl)) (hS := hS) (h := fun w31 g31 hS => ?_)
                  try simp only [opv, n1, n2, n3, n4, Value.cells, Array.toArray_toList] at hS ⊢
                  replace hS := hS.obj_rd (sz := 21) (n := 1) (by exact zi_size21 hzl) .head
                  rw [arow_one hzl] at hS
                  refine x_nil ?_
                  refine any_step [19] (by kernel_rfl) (by decide) (fun w32 hE => ⟨fun _ => (hS.ext hE).sel (by repeat (first | exact Sel.nil | (refine Sel.cons (by repeat (first | exact Del.head | apply Del.tail)) ?_))), ?_⟩)
                  replace hS := hS.ext hE
                  intro i hi
                  simp only [List.mem_cons, List.not_mem_nil, or_false] at hi
                  subst hi
                  ·
                   refine any_op (by rfl) ?_
                   refine m_append Try.underlying24 ti39 (hS := hS) (h1 := rowsZ_cells _ _) (h := fun w33 A33 C33 hS => ?_)
                   try simp only [← List.map_append, ← List.map_drop, ← List.map_take, Nat.mul_one, Nat.zero_mul, Nat.sub_zero, List.drop_zero, List.nil_append, Nat.zero_add] at hS ⊢
                   try simp only [opv, n1, n2, n3, n4, Value.cells, Array.toArray_toList] at hS ⊢
                   rw [add_one] at hS
                   refine x_nil ?_
                   refine any_go (i := 20) (by rfl) (by decide +kernel) (by decide +kernel) noLate_nil (go_yields w_none (fun w hS => s_assign)) ?_
                   try simp only [opv, n1, n2, n3, n4, Value.cells]
                   refine any_nil (by kernel_rfl) (fun w34 hE => ?_)
                   replace hS := hS.ext hE
                   refine ⟨fun _ => hS.sel (by repeat (first | exact Sel.nil | (refine Sel.cons (by repeat (first | exact Del.head | apply Del.tail)) ?_))), ?_⟩
                   refine mix_leaf (by simp only [clob, List.foldl, n1, n2, n3, n4]) ?_
                   try simp only [n1, n2]
                   exact ⟨_, _, by first | trivial | rfl, hS.sel (by repeat (first | exact Sel.nil | (refine Sel.cons (by repeat (first | exact Del.head | apply Del.tail)) ?_)))⟩
                intro fm2 w35 hM
                obtain ⟨C2, e2, h5, hS⟩ := hM
                simp only [clob, List.foldl, n3, n4, h5]
                refine hK19 _ _ ?_
                refine x_seq fun K20 hK20 => ?_
                refine x_region ?_
                refine s_go (s_move) ?_
                try simp only [opv, n1, n2, n3, n4, Value.cells]
                refine s_go (s_add (hc := by first | exact wr_i64 (by omega) (by omega) | rfl)) ?_
                try simp only [opv, n1, n2, n3, n4, Value.cells]
                refine s_go (s_assign) ?_
                try simp only [opv, n1, n2, n3, n4, Value.cells]
                refine x_nil ?_
                refine hK20 _ _ ?_
                refine x_region ?_
                refine s_go (s_move) ?_
                try simp only [opv, n1, n2, n3, n4, Value.cells]
                refine s_go (s_add (hc := by first | exact wr_i64 (by omega) (by omega) | rfl)) ?_
                try simp only [opv, n1, n2, n3, n4, Value.cells]
                refine s_go (s_assign) ?_
                try simp only [opv, n1, n2, n3, n4, Value.cells]
                refine x_nil ?_
                refine loop_back (m' := m1 - 1) (by simp only [clob, List.foldl, n1, n2, n3, n4]) ?_ ?_
                · try simp only [opv, n1, n2, n3, n4, Value.cells]
                  exact ⟨_, _, _, _, _, by omega, by omega, by omega, by rfl, by rfl, by simp only [List.length_append, List.length_cons, List.length_nil, Nat.zero_add]; rfl, hnx, by simp only [List.length_append, List.length_cons, List.length_nil, Nat.zero_add]; omega, by simp only [List.length_append, List.length_cons, List.length_nil, Nat.zero_add]; exact hS.sel (by repeat (first | exact Sel.nil | (refine Sel.cons (by repeat (first | exact Del.head | apply Del.tail)) ?_)))⟩
                · omega
 ·
  try simp only [n3, n4]
  try simp only [decide_eq_true_eq, decide_eq_false_iff_not, Bool.not_eq_true', Bool.not_eq_false', Int.not_lt, Int.not_le, ne_eq, Decidable.not_not] at hp1
  first
  | (exfalso; omega)
  | skip
    refine g_on (yi (t := 16) rfl rfl) ?_
    refine s_go (s_move) ?_
    try simp only [opv, n1, n2, n3, n4, Value.cells]
    refine g_on (yi (t := 16) rfl rfl) ?_
    refine s_go (s_move) ?_
    try simp only [opv, n1, n2, n3, n4, Value.cells]
    refine g_on (yi (t := 16) rfl rfl) ?_
    refine s_go (s_len_sl Try.underlying24) ?_
    try simp only [opv, n1, n2, n3, n4, Value.cells]
    refine g_on (yi (t := 16) rfl rfl) ?_
    refine s_go (s_lss) ?_
    try simp only [opv, n1, n2, n3, n4, Value.cells]
    first | refine s_go (s_pick_t) ?_ | refine s_go (s_pick_f) ?_
    try simp only [opv, n1, n2, n3, n4, Value.cells]
    refine x_nil ?_
    refine hK7 _ _ ?_
    refine x_cond (ht := fun hc9 => ?_) (hf := fun hc9 => ?_)
    ·
     try simp only [decide_eq_true_eq, decide_eq_false_iff_not, Bool.not_eq_true', Bool.not_eq_false', Int.not_lt, Int.not_le, ne_eq, Decidable.not_not, bne_iff_ne, beq_iff_eq, not_true_eq_false, not_false_eq_true] at hc9
     first
     | (exfalso; omega)
     | skip
       refine x_skip ?_
       refine hK6 _ _ ?_
       refine x_block ?_
       refine x_block ?_
       refine x_seq fun K21 hK21 => ?_
       refine x_quiet (by kernel_rfl) (by kernel_rfl) hS ?_
       refine q_go (fun w hS => s_move) ?_
       try simp only [opv, n1, n2, n3, n4, Value.cells]
       refine q_go (fun w hS => s_move) ?_
       try simp only [opv, n1, n2, n3, n4, Value.cells]
       refine q_go (fun w hS => s_len_sl Try.underlying24) ?_
       try simp only [opv, n1, n2, n3, n4, Value.cells]
       refine q_go (fun w hS => s_eql) ?_
       try simp only [opv, n1, n2, n3, n4, Value.cells]
       refine q_go (fun w hS => s_move) ?_
       try simp only [opv, n1, n2, n3, n4, Value.cells]
       refine q_part 51 rfl (fun hp6 => ?_) (fun hp6 => ?_)
       ·
        try simp only [n3, n4]
        try simp only [decide_eq_true_eq, decide_eq_false_iff_not, Bool.not_eq_true', Bool.not_eq_false', Int.not_lt, Int.not_le, ne_eq, Decidable.not_not] at hp6
        first
        | (exfalso; omega)
        | skip
          have hax : AtomOk x := by rw [← hx]; exact hso.get (by omega)
          have hxl := hax.len
          have hkx := hax.key
          have hvx := hax.val
          have hmg := mg_l (s := s) (t := t) (i := i) (k := k) (by omega) hx (.inl (by omega))
          have hnx : (o ++ [x]) ++ mergeP (s.drop (i + 1)) (t.drop k) = mergeP s t := by rw [← hmo, hmg, List.append_assoc]; rfl
          refine q_off (yi (t := 51) rfl rfl) ?_
          try simp only [opv, n1, n2, n3, n4, Value.cells]
          refine q_off (yi (t := 51) rfl rfl) ?_
          try simp only [opv, n1, n2, n3, n4, Value.cells]
          refine q_off (yi (t := 51) rfl rfl) ?_
          try simp only [opv, n1, n2, n3, n4, Value.cells]
          refine q_off (yi (t := 51) rfl rfl) ?_
          try simp only [opv, n1, n2, n3, n4, Value.cells]
          refine q_off (yi (t := 51) rfl rfl) ?_
          try simp only [opv, n1, n2, n3, n4, Value.cells]
          refine q_un (yn (t := 56) rfl rfl) ?_
          try simp only [opv, n1, n2, n3, n4, Value.cells]
          refine q_un (yn (t := 56) rfl rfl) ?_
          try simp only [opv, n1, n2, n3, n4, Value.cells]
          refine q_un (yn (t := 56) rfl rfl) ?_
          try simp only [opv, n1, n2, n3, n4, Value.cells]
          refine q_un (yn (t := 56) rfl rfl) ?_
          try simp only [opv, n1, n2, n3, n4, Value.cells]
          refine q_un (yn (t := 56) rfl rfl) ?_
          try simp only [opv, n1, n2, n3, n4, Value.cells]
          refine q_un (yn (t := 56) rfl rfl) ?_
          try simp only [opv, n1, n2, n3, n4, Value.cells]
          refine q_un (yn (t := 56) rfl rfl) ?_
          try simp only [opv, n1, n2, n3, n4, Value.cells]
          refine q_un (yn (t := 56) rfl rfl) ?_
          try simp only [opv, n1, n2, n3, n4, Value.cells]
          refine q_un (yn (t := 56) rfl rfl) ?_
          try simp only [opv, n1, n2, n3, n4, Value.cells]
          refine q_un (yn (t := 56) rfl rfl) ?_
          try simp only [opv, n1, n2, n3, n4, Value.cells]
          refine q_un (yn (t := 56) rfl rfl) ?_
          try simp only [opv, n1, n2, n3, n4, Value.cells]
          refine q_off (yi (t := 51) rfl rfl) ?_
          try simp only [opv, n1, n2, n3, n4, Value.cells]
          first | refine q_go (fun w hS => s_pick_t) ?_ | refine q_go (fun w hS => s_pick_f) ?_
          try simp only [opv, n1, n2, n3, n4, Value.cells]
          refine q_go (fun w hS => s_assign) ?_
          try simp only [opv, n1, n2, n3, n4, Value.cells]
          clear hS
          refine q_nil fun w36 hS => ?_
          refine hK21 _ _ ?_
          refine x_cond_t (h := ?_)
          try (have hmg := mg_l (s := s) (t := t) (i := i) (k := k) (by omega) hx (.inr ⟨by omega, by rw [hy]; exact @c⟩))
          have hnx : (o ++ [x]) ++ mergeP (s.drop (i + 1)) (t.drop k) = mergeP s t := by rw [← hmo, hmg, List.append_assoc]; rfl
          refine x_seq fun K22 hK22 => ?_
          refine x_region ?_
          refine s_go (s_move) ?_
          try simp only [opv, n1, n2, n3, n4, Value.cells]
          refine s_go (s_move) ?_
          try simp only [opv, n1, n2, n3, n4, Value.cells]
          refine s_go (s_move) ?_
          try simp only [opv, n1, n2, n3, n4, Value.cells]
          first | refine s_go (m_indexAddr_rd Try.underlying24 ti39 (hS := hS)) ?_ | refine s_go (m_indexAddr_vec Try.underlying24 ti39 (hS := hS)) ?_
          try simp only [opv, n1, n2, n3, n4, Value.cells, Nat.mul_one, Nat.zero_add, Int.toNat_natCast, Int.reduceToNat]
          first | refine s_go (m_load_row Try.underlying39 (hi := ti39) (hS := hS) (hfit := by rw [arows_len]; omega)) ?_ | refine s_go (m_loada_obj Try.underlying39 (hi := ti39) (hS := hS) (hfit := by rw [arows_len]; omega)) ?_ | refine s_go (m_loada_bx Try.underlying39 (hi := ti39) (hS := hS) (hfit := by rw [arows_len]; omega)) ?_ | refine s_go (m_loada_rd Try.underlying39 (hi := ti39) (hS := hS) (hfit := by rw [arows_len]; omega)) ?_ | refine s_go (m_loada_vec Try.underlying39 (hi := ti39) (hS := hS) (hfit := by rw [arows_len]; omega)) ?_
          try simp only [opv, n1, n2, n3, n4, Value.cells, List.getElem_toArray, List.getElem_cons_zero, List.getElem_cons_succ]
          rw [arow_get (by omega) hso, hx]
          refine m_buildRow (cells := (AA x)) Try.underlying24 ti39 (hc := by simp only [List.map_toArray, List.map_cons, List.map_nil, opv, n1, n2, n3, n4, Value.cells, List.toList_toArray]; exact fill_one (by rfl) (zi_size21 hxl) (by rfl)) (hS := hS) (h := fun w37 g37 hS => ?_)
          try simp only [opv, n1, n2, n3, n4, Value.cells, Array.toArray_toList] at hS ⊢
          replace hS := hS.obj_rd (sz := 21) (n := 1) (by exact zi_size21 hxl) .head
          rw [arow_one hxl] at hS
          refine m_append Try.underlying24 ti39 (hS := hS) (h1 := rowsZ_cells _ _) (h := fun w38 A38 C38 hS => ?_)
          try simp only [← List.map_append, ← List.map_drop, ← List.map_take, Nat.mul_one, Nat.zero_mul, Nat.sub_zero, List.drop_zero, List.nil_append, Nat.zero_add] at hS ⊢
          try simp only [opv, n1, n2, n3, n4, Value.cells, Array.toArray_toList] at hS ⊢
          rw [add_one] at hS
          refine s_go (s_assign) ?_
          try simp only [opv, n1, n2, n3, n4, Value.cells]
          refine x_nil ?_
          refine hK22 _ _ ?_
          refine x_region ?_
          refine s_go (s_move) ?_
          try simp only [opv, n1, n2, n3, n4, Value.cells]
          refine s_go (s_add (hc := by first | exact wr_i64 (by omega) (by omega) | rfl)) ?_
          try simp only [opv, n1, n2, n3, n4, Value.cells]
          refine s_go (s_assign) ?_
          try simp only [opv, n1, n2, n3, n4, Value.cells]
          refine x_nil ?_
          refine loop_back (m' := m1 - 1) (by simp only [clob, List.foldl, n1, n2, n3, n4]) ?_ ?_
          · try simp only [opv, n1, n2, n3, n4, Value.cells]
            exact ⟨_, _, _, _, _, by omega, by omega, by omega, by rfl, by rfl, by simp only [List.length_append, List.length_cons, List.length_nil, Nat.zero_add]; rfl, hnx, by simp only [List.length_append, List.length_cons, List.length_nil, Nat.zero_add]; omega, by simp only [List.length_append, List.length_cons, List.length_nil, Nat.zero_add]; exact hS.sel (by repeat (first | exact Sel.nil | (refine Sel.cons (by repeat (first | exact Del.head | apply Del.tail)) ?_)))⟩
          · omega
       ·
        try simp only [n3, n4]
        try simp only [decide_eq_true_eq, decide_eq_false_iff_not, Bool.not_eq_true', Bool.not_eq_false', Int.not_lt, Int.not_le, ne_eq, Decidable.not_not] at hp6
        first
        | (exfalso; omega)
        | skip
          have hay : AtomOk y := by rw [← hy]; exact hto.get (by omega)
          have hyl := hay.len
          have hky := hay.key
          have hvy := hay.val
          refine q_on (yi (t := 51) rfl rfl) ?_
          refine q_go (fun w hS => s_move) ?_
          try simp only [opv, n1, n2, n3, n4, Value.cells]
          refine q_on (yi (t := 51) rfl rfl) ?_
          refine q_go (fun w hS => s_move) ?_
          try simp only [opv, n1, n2, n3, n4, Value.cells]
          refine q_on (yi (t := 51) rfl rfl) ?_
          refine q_go (fun w hS => s_len_sl Try.underlying24) ?_
          try simp only [opv, n1, n2, n3, n4, Value.cells]
          refine q_on (yi (t := 51) rfl rfl) ?_
          refine q_go (fun w hS => s_lss) ?_
          try simp only [opv, n1, n2, n3, n4, Value.cells]
          refine q_on (yi (t := 51) rfl rfl) ?_
          refine q_go (fun w hS => s_move) ?_
          try simp only [opv, n1, n2, n3, n4, Value.cells]
          refine q_part 56 rfl (fun hp7 => ?_) (fun hp7 => ?_)
          ·
           try simp only [n3, n4]
           try simp only [decide_eq_true_eq, decide_eq_false_iff_not, Bool.not_eq_true', Bool.not_eq_false', Int.not_lt, Int.not_le, ne_eq, Decidable.not_not] at hp7
           first
           | (exfalso; omega)
           | skip
             have hax : AtomOk x := by rw [← hx]; exact hso.get (by omega)
             have hxl := hax.len
             have hkx := hax.key
             have hvx := hax.val
             refine q_on (yi (t := 56) rfl rfl) ?_
             refine q_go (fun w hS => s_move) ?_
             try simp only [opv, n1, n2, n3, n4, Value.cells]
             refine q_on (yi (t := 56) rfl rfl) ?_
             refine q_go (fun w hS => s_move) ?_
             try simp only [opv, n1, n2, n3, n4, Value.cells]
             refine q_on (yi (t := 56) rfl rfl) ?_
             first | refine q_go (fun w hS => m_indexAddr_rd Try.underlying24 ti39 (hS := hS)) ?_ | refine q_go (fun w hS => m_indexAddr_vec Try.underlying24 ti39 (hS := hS)) ?_
             try simp only [opv, n1, n2, n3, n4, Value.cells, Nat.mul_one, Nat.zero_add, Int.toNat_natCast, Int.reduceToNat]
             refine q_on (yi (t := 56) rfl rfl) ?_
             first | refine q_go (fun w hS => m_fieldAddr Try.underlying39 (hi := ti34)) ?_ | refine q_go (fun w hS => m_fieldAddr_rd Try.underlying39 (hi := ti34) (hS := hS)) ?_ | refine q_go (fun w hS => m_fieldAddr_vec Try.underlying39 (hi := ti34) (hS := hS)) ?_
             try simp only [opv, n1, n2, n3, n4, Value.cells, Nat.zero_add, Nat.add_zero, List.getElem_toArray, List.getElem_cons_zero, List.getElem_cons_succ]
             refine q_on (yi (t := 56) rfl rfl) ?_
             first | refine q_go (fun w hS => m_load_row Try.underlying34 (hi := ti34) (hS := hS) (hfit := by rw [arows_len]; omega)) ?_ | refine q_go (fun w hS => m_loada_obj Try.underlying34 (hi := ti34) (hS := hS) (hfit := by rw [arows_len]; omega)) ?_ | refine q_go (fun w hS => m_loada_bx Try.underlying34 (hi := ti34) (hS := hS) (hfit := by rw [arows_len]; omega)) ?_ | refine q_go (fun w hS => m_loada_rd Try.underlying34 (hi := ti34) (hS := hS) (hfit := by rw [arows_len]; omega)) ?_ | refine q_go (fun w hS => m_loada_vec Try.underlying34 (hi := ti34) (hS := hS) (hfit := by rw [arows_len]; omega)) ?_
             try simp only [opv, n1, n2, n3, n4, Value.cells, List.getElem_toArray, List.getElem_cons_zero, List.getElem_cons_succ]
             rw [arow_key (by omega) hso, hx]
             refine q_on (yi (t := 56) rfl rfl) ?_
             refine q_go (fun w hS => s_move) ?_
             try simp only [opv, n1, n2, n3, n4, Value.cells]
             refine q_on (yi (t := 56) rfl rfl) ?_
             refine q_go (fun w hS => s_move) ?_
             try simp only [opv, n1, n2, n3, n4, Value.cells]
             refine q_on (yi (t := 56) rfl rfl) ?_
             first | refine q_go (fun w hS => m_indexAddr_rd Try.underlying24 ti39 (hS := hS)) ?_ | refine q_go (fun w hS => m_indexAddr_vec Try.underlying24 ti39 (hS := hS)) ?_
             try simp only [opv, n1, n2, n3, n4, Value.cells, Nat.mul_one, Nat.zero_add, Int.toNat_natCast, Int.reduceToNat]
             refine q_on (yi (t := 56) rfl rfl) ?_
             first | refine q_go (fun w hS => m_fieldAddr Try.underlying39 (hi := ti34)) ?_ | refine q_go (fun w hS => m_fieldAddr_rd Try.underlying39 (hi := ti34) (hS := hS)) ?_ | refine q_go (fun w hS => m_fieldAddr_vec Try.underlying39 (hi := ti34) (hS := hS)) ?_
             try simp only [opv, n1, n2, n3, n4, Value.cells, Nat.zero_add, Nat.add_zero, List.getElem_toArray, List.getElem_cons_zero, List.getElem_cons_succ]
             refine q_on (yi (t := 56) rfl rfl) ?_
             first | refine q_go (fun w hS => m_load_row Try.underlying34 (hi := ti34) (hS := hS) (hfit := by rw [arows_len]; omega)) ?_ | refine q_go (fun w hS => m_loada_obj Try.underlying34 (hi := ti34) (hS := hS) (hfit := by rw [arows_len]; omega)) ?_ | refine q_go (fun w hS => m_loada_bx Try.underlying34 (hi := ti34) (hS := hS) (hfit := by rw [arows_len]; omega)) ?_ | refine q_go (fun w hS => m_loada_rd Try.underlying34 (hi := ti34) (hS := hS) (hfit := by rw [arows_len]; omega)) ?_ | refine q_go (fun w hS => m_loada_vec Try.underlying34 (hi := ti34) (hS := hS) (hfit := by rw [arows_len]; omega)) ?_
             try simp only [opv, n1, n2, n3, n4, Value.cells, List.getElem_toArray, List.getElem_cons_zero, List.getElem_cons_succ]
             rw [arow_key (by omega) hto, hy]
             refine q_on (yi (t := 56) rfl rfl) ?_
             apply q_call en116
             case H =>
               intro w hS
               try simp only [opv, n1, n2, n3, n4, List.map_toArray, List.map_cons, List.map_nil, List.append_toArray, List.cons_append, List.nil_append, Array.append_empty]
               refine CallR.mono (c_ref08Less (akey x) (akey y) hkx hky _) ?_
               rintro _ w1 ⟨rfl, hE⟩; exact ⟨rfl, hS.ext hE⟩
             try simp only [opv, n1, n2, n3, n4, Value.cells]
             refine q_on (yi (t := 51) rfl rfl) ?_
             first | refine q_go (fun w hS => s_pick_t) ?_ | refine q_go (fun w hS => s_pick_f) ?_
             try simp only [opv, n1, n2, n3, n4, Value.cells]
             first | refine q_go (fun w hS => s_pick_t) ?_ | refine q_go (fun w hS => s_pick_f) ?_
             try simp only [opv, n1, n2, n3, n4, Value.cells]
             refine q_go (fun w hS => s_assign) ?_
             try simp only [opv, n1, n2, n3, n4, Value.cells]
             clear hS
             refine q_nil fun w39 hS => ?_
             refine hK21 _ _ ?_
             refine x_cond (ht := fun hc11 => ?_) (hf := fun hc11 => ?_)
             ·
              try simp only [decide_eq_true_eq, decide_eq_false_iff_not, Bool.not_eq_true', Bool.not_eq_false', Int.not_lt, Int.not_le, ne_eq, Decidable.not_not, bne_iff_ne, beq_iff_eq, not_true_eq_false, not_false_eq_true] at hc11
              first
              | (exfalso; omega)
              | skip
                try (have hmg := mg_l (s := s) (t := t) (i := i) (k := k) (by omega) hx (.inr ⟨by omega, by rw [hy]; exact hc11⟩))
                have hnx : (o ++ [x]) ++ mergeP (s.drop (i + 1)) (t.drop k) = mergeP s t := by rw [← hmo, hmg, List.append_assoc]; rfl
                refine x_seq fun K23 hK23 => ?_
                refine x_region ?_
                refine s_go (s_move) ?_
                try simp only [opv, n1, n2, n3, n4, Value.cells]
                refine s_go (s_move) ?_
                try simp only [opv, n1, n2, n3, n4, Value.cells]
                refine s_go (s_move) ?_
                try simp only [opv, n1, n2, n3, n4, Value.cells]
                first | refine s_go (m_indexAddr_rd Try.underlying24 ti39 (hS := hS)) ?_ | refine s_go (m_indexAddr_vec Try.underlying24 ti39 (hS := hS)) ?_
                try simp only [opv, n1, n2, n3, n4, Value.cells, Nat.mul_one, Nat.zero_add, Int.toNat_natCast, Int.reduceToNat]
                first | refine s_go (m_load_row Try.underlying39 (hi := ti39) (hS := hS) (hfit := by rw [arows_len]; omega)) ?_ | refine s_go (m_loada_obj Try.underlying39 (hi := ti39) (hS := hS) (hfit := by rw [arows_len]; omega)) ?_ | refine s_go (m_loada_bx Try.underlying39 (hi := ti39) (hS := hS) (hfit := by rw [arows_len]; omega)) ?_ | refine s_go (m_loada_rd Try.underlying39 (hi := ti39) (hS := hS) (hfit := by rw [arows_len]; omega)) ?_ | refine s_go (m_loada_vec Try.underlying39 (hi := ti39) (hS := hS) (hfit := by rw [arows_len]; omega)) ?_
                try simp only [opv, n1, n2, n3, n4, Value.cells, List.getElem_toArray, List.getElem_cons_zero, List.getElem_cons_succ]
                rw [arow_get (by omega) hso, hx]
                refine m_buildRow (cells := (AA x)) Try.underlying24 ti39 (hc := by simp only [List.map_toArray, List.map_cons, List.map_nil, opv, n1, n2, n3, n4, Value.cells, List.toList_toArray]; exact fill_one (by rfl) (zi_size21 hxl) (by rfl)) (hS := hS) (h := fun w40 g40 hS => ?_)
                try simp only [opv, n1, n2, n3, n4, Value.cells, Array.toArray_toList] at hS ⊢
                replace hS := hS.obj_rd (sz := 21) (n := 1) (by exact zi_size21 hxl) .head
                rw [arow_one hxl] at hS
                refine m_append Try.underlying24 ti39 (hS := hS) (h1 := rowsZ_cells _ _) (h := fun w41 A41 C41 hS => ?_)
                try simp only [← List.map_append, ← List.map_drop, ← List.map_take, Nat.mul_one, Nat.zero_mul, Nat.sub_zero, List.drop_zero, List.nil_append, Nat.zero_add] at hS ⊢
                try simp only [opv, n1, n2, n3, n4, Value.cells, Array.toArray_toList] at hS ⊢
                rw [add_one] at hS
                refine s_go (s_assign) ?_
                try simp only [opv, n1, n2, n3, n4, Value.cells]
                refine x_nil ?_
                refine hK23 _ _ ?_
                refine x_region ?_
                refine s_go (s_move) ?_
                try simp only [opv, n1, n2, n3, n4, Value.cells]
                refine s_go (s_add (hc := by first | exact wr_i64 (by omega) (by omega) | rfl)) ?_
                try simp only [opv, n1, n2, n3, n4, Value.cells]
                refine s_go (s_assign) ?_
                try simp only [opv, n1, n2, n3, n4, Value.cells]
                refine x_nil ?_
                refine loop_back (m' := m1 - 1) (by simp only [clob, List.foldl, n1, n2, n3, n4]) ?_ ?_
                · try simp only [opv, n1, n2, n3, n4, Value.cells]
                  exact ⟨_, _, _, _, _, by omega, by omega, by omega, by rfl, by rfl, by simp only [List.length_append, List.length_cons, List.length_nil, Nat.zero_add]; rfl, hnx, by simp only [List.length_append, List.length_cons, List.length_nil, Nat.zero_add]; omega, by simp only [List.length_append, List.length_cons, List.length_nil, Nat.zero_add]; exact hS.sel (by repeat (first | exact Sel.nil | (refine Sel.cons (by repeat (first | exact Del.head | apply Del.tail)) ?_)))⟩
                · omega
             ·
              try simp only [decide_eq_true_eq, decide_eq_false_iff_not, Bool.not_eq_true', Bool.not_eq_false', Int.not_lt, Int.not_le, ne_eq, Decidable.not_not, bne_iff_ne, beq_iff_eq, not_true_eq_false, not_false_eq_true] at hc11
              first
              | (exfalso; omega)
              | skip
                try have hl1 := hc11
                refine x_seq fun K24 hK24 => ?_
                refine x_quiet (by kernel_rfl) (by kernel_rfl) hS ?_
                refine q_go (fun w hS => s_move) ?_
                try simp only [opv, n1, n2, n3, n4, Value.cells]
                refine q_go (fun w hS => s_move) ?_
                try simp only [opv, n1, n2, n3, n4, Value.cells]
                refine q_go (fun w hS => s_len_sl Try.underlying24) ?_
                try simp only [opv, n1, n2, n3, n4, Value.cells]
                refine q_go (fun w hS => s_eql) ?_
                try simp only [opv, n1, n2, n3, n4, Value.cells]
                refine q_go (fun w hS => s_move) ?_
                try simp only [opv, n1, n2, n3, n4, Value.cells]
                refine q_part 84 rfl (fun hp8 => ?_) (fun hp8 => ?_)
                ·
                 try simp only [n3, n4]
                 try simp only [decide_eq_true_eq, decide_eq_false_iff_not, Bool.not_eq_true', Bool.not_eq_false', Int.not_lt, Int.not_le, ne_eq, Decidable.not_not] at hp8
                 first
                 | (exfalso; omega)
                 | skip
                   refine q_off (yi (t := 84) rfl rfl) ?_
                   try simp only [opv, n1, n2, n3, n4, Value.cells]
                   refine q_off (yi (t := 84) rfl rfl) ?_
                   try simp only [opv, n1, n2, n3, n4, Value.cells]
                   refine q_off (yi (t := 84) rfl rfl) ?_
                   try simp only [opv, n1, n2, n3, n4, Value.cells]
                   refine q_off (yi (t := 84) rfl rfl) ?_
                   try simp only [opv, n1, n2, n3, n4, Value.cells]
                   refine q_off (yi (t := 84) rfl rfl) ?_
                   try simp only [opv, n1, n2, n3, n4, Value.cells]
                   refine q_off (yi (t := 84) rfl rfl) ?_
                   try simp only [opv, n1, n2, n3, n4, Value.cells]
                   refine q_off (yi (t := 84) rfl rfl) ?_
                   try simp only [opv, n1, n2, n3, n4, Value.cells]
                   refine q_off (yi (t := 84) rfl rfl) ?_
                   try simp only [opv, n1, n2, n3, n4, Value.cells]
                   refine q_off (yi (t := 84) rfl rfl) ?_
                   try simp only [opv, n1, n2, n3, n4, Value.cells]
                   refine q_off (yi (t := 84) rfl rfl) ?_
                   try simp only [opv, n1, n2, n3, n4, Value.cells]
                   refine q_off (yi (t := 84) rfl rfl) ?_
                   try simp only [opv, n1, n2, n3, n4, Value.cells]
                   first | refine q_go (fun w hS => s_pick_t) ?_ | refine q_go (fun w hS => s_pick_f) ?_
                   try simp only [opv, n1, n2, n3, n4, Value.cells]
                   refine q_go (fun w hS => s_assign) ?_
                   try simp only [opv, n1, n2, n3, n4, Value.cells]
                   clear hS
                   refine q_nil fun w42 hS => ?_
                   refine hK24 _ _ ?_
                   refine x_cond_t (h := ?_)
                   try (have hmg := mg_r (s := s) (t := t) (i := i) (k := k) (by omega) hy (.inr ⟨by omega, by rw [hx]; exact hl1, by rw [hx]; exact @c⟩))
                   have hnx : (o ++ [y]) ++ mergeP (s.drop i) (t.drop (k + 1)) = mergeP s t := by rw [← hmo, hmg, List.append_assoc]; rfl
                   refine x_seq fun K25 hK25 => ?_
                   refine x_region ?_
                   refine s_go (s_move) ?_
                   try simp only [opv, n1, n2, n3, n4, Value.cells]
                   refine s_go (s_move) ?_
                   try simp only [opv, n1, n2, n3, n4, Value.cells]
                   refine s_go (s_move) ?_
                   try simp only [opv, n1, n2, n3, n4, Value.cells]
                   first | refine s_go (m_indexAddr_rd Try.underlying24 ti39 (hS := hS)) ?_ | refine s_go (m_indexAddr_vec Try.underlying24 ti39 (hS := hS)) ?_
                   try simp only [opv, n1, n2, n3, n4, Value.cells, Nat.mul_one, Nat.zero_add, Int.toNat_natCast, Int.reduceToNat]
                   first | refine s_go (m_load_row Try.underlying39 (hi := ti39) (hS := hS) (hfit := by rw [arows_len]; omega)) ?_ | refine s_go (m_loada_obj Try.underlying39 (hi := ti39) (hS := hS) (hfit := by rw [arows_len]; omega)) ?_ | refine s_go (m_loada_bx Try.underlying39 (hi := ti39) (hS := hS) (hfit := by rw [arows_len]; omega)) ?_ | refine s_go (m_loada_rd Try.underlying39 (hi := ti39) (hS := hS) (hfit := by rw [arows_len]; omega)) ?_ | refine s_go (m_loada_vec Try.underlying39 (hi := ti39) (hS := hS) (hfit := by rw [arows_len]; omega)) ?_
                   try simp only [opv, n1, n2, n3, n4, Value.cells, List.getElem_toArray, List.getElem_cons_zero, List.getElem_cons_succ]
                   rw [arow_get (by omega) hto, hy]
                   refine m_buildRow (cells := (AA y)) Try.underlying24 ti39 (hc := by simp only [List.map_toArray, List.map_cons, List.map_nil, opv, n1, n2, n3, n4, Value.cells, List.toList_toArray]; exact fill_one (by rfl) (zi_size21 hyl) (by rfl)) (hS := hS) (h := fun w43 g43 hS => ?_)
                   try simp only [opv, n1, n2, n3, n4, Value.cells, Array.toArray_toList] at hS ⊢
                   replace hS := hS.obj_rd (sz := 21) (n := 1) (by exact zi_size21 hyl) .head
                   rw [arow_one hyl] at hS
                   refine m_append Try.underlying24 ti39 (hS := hS) (h1 := rowsZ_cells _ _) (h := fun w44 A44 C44 hS => ?_)
                   try simp only [← List.map_append, ← List.map_drop, ← List.map_take, Nat.mul_one, Nat.zero_mul, Nat.sub_zero, List.drop_zero, List.nil_append, Nat.zero_add] at hS ⊢
                   try simp only [opv, n1, n2, n3, n4, Value.cells, Array.toArray_toList] at hS ⊢
                   rw [add_one] at hS
                   refine s_go (s_assign) ?_
                   try simp only [opv, n1, n2, n3, n4, Value.cells]
                   refine x_nil ?_
                   refine hK25 _ _ ?_
                   refine x_region ?_
                   refine s_go (s_move) ?_
                   try simp only [opv, n1, n2, n3, n4, Value.cells]
                   refine s_go (s_add (hc := by first | exact wr_i64 (by omega) (by omega) | rfl)) ?_
                   try simp only [opv, n1, n2, n3, n4, Value.cells]
                   refine s_go (s_assign) ?_
                   try simp only [opv, n1, n2, n3, n4, Value.cells]
                   refine x_nil ?_
                   refine loop_back (m' := m1 - 1) (by simp only [clob, List.foldl, n1, n2, n3, n4]) ?_ ?_
                   · try simp only [opv, n1, n2, n3, n4, Value.cells]
                     exact ⟨_, _, _, _, _, by omega, by omega, by omega, by rfl, by rfl, by simp only [List.length_append, List.length_cons, List.length_nil, Nat.zero_add]; rfl, hnx, by simp only [List.length_append, List.length_cons, List.length_nil, Nat.zero_add]; omega, by simp only [List.length_append, List.length_cons, List.length_nil, Nat.zero_add]; exact hS.sel (by repeat (first | exact Sel.nil | (refine Sel.cons (by repeat (first | exact Del.head | apply Del.tail)) ?_)))⟩
                   · omega
                ·
                 try simp only [n3, n4]
                 try simp only [decide_eq_true_eq, decide_eq_false_iff_not, Bool.not_eq_true', Bool.not_eq_false', Int.not_lt, Int.not_le, ne_eq, Decidable.not_not] at hp8
                 first
                 | (exfalso; omega)
                 | skip
                   refine q_on (yi (t := 84) rfl rfl) ?_
                   refine q_go (fun w hS => s_move) ?_
                   try simp only [opv, n1, n2, n3, n4, Value.cells]
                   refine q_on (yi (t := 84) rfl rfl) ?_
                   refine q_go (fun w hS => s_move) ?_
                   try simp only [opv, n1, n2, n3, n4, Value.cells]
                   refine q_on (yi (t := 84) rfl rfl) ?_
                   first | refine q_go (fun w hS => m_indexAddr_rd Try.underlying24 ti39 (hS := hS)) ?_ | refine q_go (fun w hS => m_indexAddr_vec Try.underlying24 ti39 (hS := hS)) ?_
                   try simp only [opv, n1, n2, n3, n4, Value.cells, Nat.mul_one, Nat.zero_add, Int.toNat_natCast, Int.reduceToNat]
                   refine q_on (yi (t := 84) rfl rfl) ?_
                   first | refine q_go (fun w hS => m_fieldAddr Try.underlying39 (hi := ti34)) ?_ | refine q_go (fun w hS => m_fieldAddr_rd Try.underlying39 (hi := ti34) (hS := hS)) ?_ | refine q_go (fun w hS => m_fieldAddr_vec Try.underlying39 (hi := ti34) (hS := hS)) ?_
                   try simp only [opv, n1, n2, n3, n4, Value.cells, Nat.zero_add, Nat.add_zero, List.getElem_toArray, List.getElem_cons_zero, List.getElem_cons_succ]
                   refine q_on (yi (t := 84) rfl rfl) ?_
                   first | refine q_go (fun w hS => m_load_row Try.underlying34 (hi := ti34) (hS := hS) (hfit := by rw [arows_len]; omega)) ?_ | refine q_go (fun w hS => m_loada_obj Try.underlying34 (hi := ti34) (hS := hS) (hfit := by rw [arows_len]; omega)) ?_ | refine q_go (fun w hS => m_loada_bx Try.underlying34 (hi := ti34) (hS := hS) (hfit := by rw [arows_len]; omega)) ?_ | refine q_go (fun w hS => m_loada_rd Try.underlying34 (hi := ti34) (hS := hS) (hfit := by rw [arows_len]; omega)) ?_ | refine q_go (fun w hS => m_loada_vec Try.underlying34 (hi := ti34) (hS := hS) (hfit := by rw [arows_len]; omega)) ?_
                   try simp only [opv, n1, n2, n3, n4, Value.cells, List.getElem_toArray, List.getElem_cons_zero, List.getElem_cons_succ]
                   rw [arow_key (by omega) hto, hy]
                   refine q_on (yi (t := 84) rfl rfl) ?_
                   refine q_go (fun w hS => s_move) ?_
                   try simp only [opv, n1, n2, n3, n4, Value.cells]
                   refine q_on (yi (t := 84) rfl rfl) ?_
                   refine q_go (fun w hS => s_move) ?_
                   try simp only [opv, n1, n2, n3, n4, Value.cells]
                   refine q_on (yi (t := 84) rfl rfl) ?_
                   first | refine q_go (fun w hS => m_indexAddr_rd Try.underlying24 ti39 (hS := hS)) ?_ | refine q_go (fun w hS => m_indexAddr_vec Try.underlying24 ti39 (hS := hS)) ?_
                   try simp only [opv, n1, n2, n3, n4, Value.cells, Nat.mul_one, Nat.zero_add, Int.toNat_natCast, Int.reduceToNat]
                   refine q_on (yi (t := 84) rfl rfl) ?_
                   first | refine q_go (fun w hS => m_fieldAddr Try.underlying39 (hi := ti34)) ?_ | refine q_go (fun w hS => m_fieldAddr_rd Try.underlying39 (hi := ti34) (hS := hS)) ?_ | refine q_go (fun w hS => m_fieldAddr_vec Try.underlying39 (hi := ti34) (hS := hS)) ?_
                   try simp only [opv, n1, n2, n3, n4, Value.cells, Nat.zero_add, Nat.add_zero, List.getElem_toArray, List.getElem_cons_zero, List.getElem_cons_succ]
                   refine q_on (yi (t := 84) rfl rfl) ?_
                   first | refine q_go (fun w hS => m_load_row Try.underlying34 (hi := ti34) (hS := hS) (hfit := by rw [arows_len]; omega)) ?_ | refine q_go (fun w hS => m_loada_obj Try.underlying34 (hi := ti34) (hS := hS) (hfit := by rw [arows_len]; omega)) ?_ | refine q_go (fun w hS => m_loada_bx Try.underlying34 (hi := ti34) (hS := hS) (hfit := by rw [arows_len]; omega)) ?_ | refine q_go (fun w hS => m_loada_rd Try.underlying34 (hi := ti34) (hS := hS) (hfit := by rw [arows_len]; omega)) ?_ | refine q_go (fun w hS => m_loada_vec Try.underlying34 (hi := ti34) (hS := hS) (hfit := by rw [arows_len]; omega)) ?_
                   try simp only [opv, n1, n2, n3, n4, Value.cells, List.getElem_toArray, List.getElem_cons_zero, List.getElem_cons_succ]
                   rw [arow_key (by omega) hso, hx]
                   refine q_on (yi (t := 84) rfl rfl) ?_
                   apply q_call en116
                   case H =>
                     intro w hS
                     try simp only [opv, n1, n2, n3, n4, List.map_toArray, List.map_cons, List.map_nil, List.append_toArray, List.cons_append, List.nil_append, Array.append_empty]
                     refine CallR.mono (c_ref08Less (akey y) (akey x) hky hkx _) ?_
                     rintro _ w1 ⟨rfl, hE⟩; exact ⟨rfl, hS.ext hE⟩
                   try simp only [opv, n1, n2, n3, n4, Value.cells]
                   first | refine q_go (fun w hS => s_pick_t) ?_ | refine q_go (fun w hS => s_pick_f) ?_
                   try simp only [opv, n1, n2, n3, n4, Value.cells]
                   refine q_go (fun w hS => s_assign) ?_
                   try simp only [opv, n1, n2, n3, n4, Value.cells]
                   clear hS
                   refine q_nil fun w45 hS => ?_
                   refine hK24 _ _ ?_
                   refine x_cond (ht := fun hc13 => ?_) (hf := fun hc13 => ?_)
                   ·
                    try simp only [decide_eq_true_eq, decide_eq_false_iff_not, Bool.not_eq_true', Bool.not_eq_false', Int.not_lt, Int.not_le, ne_eq, Decidable.not_not, bne_iff_ne, beq_iff_eq, not_true_eq_false, not_false_eq_true] at hc13
                    first
                    | (exfalso; omega)
                    | skip
                      try (have hmg := mg_r (s := s) (t := t) (i := i) (k := k) (by omega) hy (.inr ⟨by omega, by rw [hx]; exact hl1, by rw [hx]; exact hc13⟩))
                      have hnx : (o ++ [y]) ++ mergeP (s.drop i) (t.drop (k + 1)) = mergeP s t := by rw [← hmo, hmg, List.append_assoc]; rfl
                      refine x_seq fun K26 hK26 => ?_
                      refine x_region ?_
                      refine s_go (s_move) ?_
                      try simp only [opv, n1, n2, n3, n4, Value.cells]
                      refine s_go (s_move) ?_
                      try simp only [opv, n1, n2, n3, n4, Value.cells]
                      refine s_go (s_move) ?_
                      try simp only [opv, n1, n2, n3, n4, Value.cells]
                      first | refine s_go (m_indexAddr_rd Try.underlying24 ti39 (hS := hS)) ?_ | refine s_go (m_indexAddr_vec Try.underlying24 ti39 (hS := hS)) ?_
                      try simp only [opv, n1, n2, n3, n4, Value.cells, Nat.mul_one, Nat.zero_add, Int.toNat_natCast, Int.reduceToNat]
                      first | refine s_go (m_load_row Try.underlying39 (hi := ti39) (hS := hS) (hfit := by rw [arows_len]; omega)) ?_ | refine s_go (m_loada_obj Try.underlying39 (hi := ti39) (hS := hS) (hfit := by rw [arows_len]; omega)) ?_ | refine s_go (m_loada_bx Try.underlying39 (hi := ti39) (hS := hS) (hfit := by rw [arows_len]; omega)) ?_ | refine s_go (m_loada_rd Try.underlying39 (hi := ti39) (hS := hS) (hfit := by rw [arows_len]; omega)) ?_ | refine s_go (m_loada_vec Try.underlying39 (hi := ti39) (hS := hS) (hfit := by rw [arows_len]; omega)) ?_
                      try simp only [opv, n1, n2, n3, n4, Value.cells, List.getElem_toArray, List.getElem_cons_zero, List.getElem_cons_succ]
                      rw [arow_get (by omega) hto, hy]
                      refine m_buildRow (cells := (AA y)) Try.underlying24 ti39 (hc := by simp only [List.map_toArray, List.map_cons, List.map_nil, opv, n1, n2, n3, n4, Value.cells, List.toList_toArray]; exact fill_one (by rfl) (zi_size21 hyl) (by rfl)) (hS := hS) (h := fun w46 g46 hS => ?_)
                      try simp only [opv, n1, n2, n3, n4, Value.cells, Array.toArray_toList] at hS ⊢
                      replace hS := hS.obj_rd (sz := 21) (n := 1) (by exact zi_size21 hyl) .head
                      rw [arow_one hyl] at hS
                      refine m_append Try.underlying24 ti39 (hS := hS) (h1 := rowsZ_cells _ _) (h := fun w47 A47 C47 hS => ?_)
                      try simp only [← List.map_append, ← List.map_drop, ← List.map_take, Nat.mul_one, Nat.zero_mul, Nat.sub_zero, List.drop_zero, List.nil_append, Nat.zero_add] at hS ⊢
                      try simp only [opv, n1, n2, n3, n4, Value.cells, Array.toArray_toList] at hS ⊢
                      rw [add_one] at hS
                      refine s_go (s_assign) ?_
                      try simp only [opv, n1, n2, n3, n4, Value.cells]
                      refine x_nil ?_
                      refine hK26 _ _ ?_
                      refine x_region ?_
                      refine s_go (s_move) ?_
                      try simp only [opv, n1, n2, n3, n4, Value.cells]
                      refine s_go (s_add (hc := by first | exact wr_i64 (by omega) (by omega) | rfl)) ?_
                      try simp only [opv, n1, n2, n3, n4, Value.cells]
                      refine s_go (s_assign) ?_
                      try simp only [opv, n1, n2, n3, n4, Value.cells]
                      refine x_nil ?_
                      refine loop_back (m' := m1 - 1) (by simp only [clob, List.foldl, n1, n2, n3, n4]) ?_ ?_
                      · try simp only [opv, n1, n2, n3, n4, Value.cells]
                        exact ⟨_, _, _, _, _, by omega, by omega, by omega, by rfl, by rfl, by simp only [List.length_append, List.length_cons, List.length_nil, Nat.zero_add]; rfl, hnx, by simp only [List.length_append, List.length_cons, List.length_nil, Nat.zero_add]; omega, by simp only [List.length_append, List.length_cons, List.length_nil, Nat.zero_add]; exact hS.sel (by repeat (first | exact Sel.nil | (refine Sel.cons (by repeat (first | exact Del.head | apply Del.tail)) ?_)))⟩
                      · omega
                   ·
                    try simp only [decide_eq_true_eq, decide_eq_false_iff_not, Bool.not_eq_true', Bool.not_eq_false', Int.not_lt, Int.not_le, ne_eq, Decidable.not_not, bne_iff_ne, beq_iff_eq, not_true_eq_false, not_false_eq_true] at hc13
                    first
                    | (exfalso; omega)
                    | skip
                      have hmg := mg_e (s := s) (t := t) (i := i) (k := k) (by omega) hx (by omega) hy hl1 hc13
                      have hnx : (o ++ [(akey x ++ moreV (aval x) (aval y))]) ++ mergeP (s.drop (i + 1)) (t.drop (k + 1)) = mergeP s t := by rw [← hmo, hmg, List.append_assoc]; rfl
                      have hmo9 := more_ok hvx hvy
                      have hml := hmo9.len
                      have hk12 := hkx.len
                      have hzl : (akey x ++ moreV (aval x) (aval y)).length = 21 := (kv_ok hkx hmo9).len
                      refine x_seq fun K27 hK27 => ?_
                      refine x_mixed_c (Lc := [.rd B2 21 (t).length (arows (t)), .rd B1 21 (s).length (arows (s))]) [] 0 [5, 22, 23, 24, 25, 26, 27, 28, 29, 30, 31, 32, 33, 34, 35, 36, 37, 38, 39, 40, 41] (fun f w => ∃ (C2 : Option Addr) (e2 : Nat), f 5 = .slice C2 (o.length + 1) e2 ∧ St NoB w0 w [.vec C2 e2 39 21 (o.length + 1) (arows (o ++ [(akey x ++ moreV (aval x) (aval y))])), .rd B2 21 (t).length (arows (t)), .rd B1 21 (s).length (arows (s))]) (by kernel_rfl) (by kernel_rfl) (by kernel_rfl) (by decide) hS (fun w48 hS => ?mixpre503) ?mixrest503
                      case mixpre503 =>
                       refine p_nil ?_
                       simp only [List.length_cons, List.length_nil, Nat.reduceAdd, Nat.reduceSub]
                       refine any_go (i := 0) (by rfl) (by decide +kernel) (by decide +kernel) noLate_nil (go_yields w_none (fun w hS => s_move)) ?_
                       try simp only [opv, n1, n2, n3, n4, Value.cells]
                       refine any_go (i := 1) (by rfl) (by decide +kernel) (by decide +kernel) noLate_nil (go_yields w_none (fun w hS => s_move)) ?_
                       try simp only [opv, n1, n2, n3, n4, Value.cells]
                       refine any_go (i := 2) (by rfl) (by decide +kernel) (by decide +kernel) noLate_nil (go_yields w_none (fun w hS => s_move)) ?_
                       try simp only [opv, n1, n2, n3, n4, Value.cells]
                       first | refine any_go (i := 3) (by rfl) (by decide +kernel) (by decide +kernel) noLate_nil (go_yields w_none (fun w hS => m_indexAddr_rd Try.underlying24 ti39 (hS := hS))) ?_ | refine any_go (i := 3) (by rfl) (by decide +kernel) (by decide +kernel) noLate_nil (go_yields w_none (fun w hS => m_indexAddr_vec Try.underlying24 ti39 (hS := hS))) ?_
                       try simp only [opv, n1, n2, n3, n4, Value.cells, Nat.mul_one, Nat.zero_add, Int.toNat_natCast, Int.reduceToNat]
                       first | refine any_go (i := 4) (by rfl) (by decide +kernel) (by decide +kernel) noLate_nil (go_yields w_none (fun w hS => m_fieldAddr Try.underlying39 (hi := ti34))) ?_ | refine any_go (i := 4) (by rfl) (by decide +kernel) (by decide +kernel) noLate_nil (go_yields w_none (fun w hS => m_fieldAddr_rd Try.underlying39 (hi := ti34) (hS := hS))) ?_ | refine any_go (i := 4) (by rfl) (by decide +kernel) (by decide +kernel) noLate_nil (go_yields w_none (fun w hS => m_fieldAddr_vec Try.underlying39 (hi := ti34) (hS := hS))) ?_
                       try simp only [opv, n1, n2, n3, n4, Value.cells, Nat.zero_add, Nat.add_zero, List.getElem_toArray, List.getElem_cons_zero, List.getElem_cons_succ]
                       first | refine any_go (i := 5) (by rfl) (by decide +kernel) (by decide +kernel) noLate_nil (go_yields w_none (fun w hS => m_load_row Try.underlying34 (hi := ti34) (hS := hS) (hfit := by rw [arows_len]; omega))) ?_ | refine any_go (i := 5) (by rfl) (by decide +kernel) (by decide +kernel) noLate_nil (go_yields w_none (fun w hS => m_loada_obj Try.underlying34 (hi := ti34) (hS := hS) (hfit := by rw [arows_len]; omega))) ?_ | refine any_go (i := 5) (by rfl) (by decide +kernel) (by decide +kernel) noLate_nil (go_yields w_none (fun w hS => m_loada_bx Try.underlying34 (hi := ti34) (hS := hS) (hfit := by rw [arows_len]; omega))) ?_ | refine any_go (i := 5) (by rfl) (by decide +kernel) (by decide +kernel) noLate_nil (go_yields w_none (fun w hS => m_loada_rd Try.underlying34 (hi := ti34) (hS := hS) (hfit := by rw [arows_len]; omega))) ?_ | refine any_go (i := 5) (by rfl) (by decide +kernel) (by decide +kernel) noLate_nil (go_yields w_none (fun w hS => m_loada_vec Try.underlying34 (hi := ti34) (hS := hS) (hfit := by rw [arows_len]; omega))) ?_
                       try simp only [opv, n1, n2, n3, n4, Value.cells, List.getElem_toArray, List.getElem_cons_zero, List.getElem_cons_succ]
                       rw [arow_key (by omega) hso, hx]
                       refine any_go (i := 6) (by rfl) (by decide +kernel) (by decide +kernel) noLate_nil (go_yields w_none (fun w hS => s_move)) ?_
                       try simp only [opv, n1, n2, n3, n4, Value.cells]
                       refine any_go (i := 7) (by rfl) (by decide +kernel) (by decide +kernel) noLate_nil (go_yields w_none (fun w hS => s_move)) ?_
                       try simp only [opv, n1, n2, n3, n4, Value.cells]
                       first | refine any_go (i := 8) (by rfl) (by decide +kernel) (by decide +kernel) noLate_nil (go_yields w_none (fun w hS => m_indexAddr_rd Try.underlying24 ti39 (hS := hS))) ?_ | refine any_go (i := 8) (by rfl) (by decide +kernel) (by decide +kernel) noLate_nil (go_yields w_none (fun w hS => m_indexAddr_vec Try.underlying24 ti39 (hS := hS))) ?_
                       try simp only [opv, n1, n2, n3, n4, Value.cells, Nat.mul_one, Nat.zero_add, Int.toNat_natCast, Int.reduceToNat]
                       first | refine any_go (i := 9) (by rfl) (by decide +kernel) (by decide +kernel) noLate_nil (go_yields w_none (fun w hS => m_fieldAddr Try.underlying39 (hi := ti37))) ?_ | refine any_go (i := 9) (by rfl) (by decide +kernel) (by decide +kernel) noLate_nil (go_yields w_none (fun w hS => m_fieldAddr_rd Try.underlying39 (hi := ti37) (hS := hS))) ?_ | refine any_go (i := 9) (by rfl) (by decide +kernel) (by decide +kernel) noLate_nil (go_yields w_none (fun w hS => m_fieldAddr_vec Try.underlying39 (hi := ti37) (hS := hS))) ?_
                       try simp only [opv, n1, n2, n3, n4, Value.cells, Nat.zero_add, Nat.add_zero, List.getElem_toArray, List.getElem_cons_zero, List.getElem_cons_succ]
                       first | refine any_go (i := 10) (by rfl) (by decide +kernel) (by decide +kernel) noLate_nil (go_yields w_none (fun w hS => m_load_row Try.underlying37 (hi := ti37) (hS := hS) (hfit := by rw [arows_len]; omega))) ?_ | refine any_go (i := 10) (by rfl) (by decide +kernel) (by decide +kernel) noLate_nil (go_yields w_none (fun w hS => m_loada_obj Try.underlying37 (hi := ti37) (hS := hS) (hfit := by rw [arows_len]; omega))) ?_ | refine any_go (i := 10) (by rfl) (by decide +kernel) (by decide +kernel) noLate_nil (go_yields w_none (fun w hS => m_loada_bx Try.underlying37 (hi := ti37) (hS := hS) (hfit := by rw [arows_len]; omega))) ?_ | refine any_go (i := 10) (by rfl) (by decide +kernel) (by decide +kernel) noLate_nil (go_yields w_none (fun w hS => m_loada_rd Try.underlying37 (hi := ti37) (hS := hS) (hfit := by rw [arows_len]; omega))) ?_ | refine any_go (i := 10) (by rfl) (by decide +kernel) (by decide +kernel) noLate_nil (go_yields w_none (fun w hS => m_loada_vec Try.underlying37 (hi := ti37) (hS := hS) (hfit := by rw [arows_len]; omega))) ?_
                       try simp only [opv, n1, n2, n3, n4, Value.cells, List.getElem_toArray, List.getElem_cons_zero, List.getElem_cons_succ]
                       rw [arow_val (by omega) hso, hx]
                       refine any_go (i := 11) (by rfl) (by decide +kernel) (by decide +kernel) noLate_nil (go_yields w_none (fun w hS => s_move)) ?_
                       try simp only [opv, n1, n2, n3, n4, Value.cells]
                       refine any_go (i := 12) (by rfl) (by decide +kernel) (by decide +kernel) noLate_nil (go_yields w_none (fun w hS => s_move)) ?_
                       try simp only [opv, n1, n2, n3, n4, Value.cells]
                       first | refine any_go (i := 13) (by rfl) (by decide +kernel) (by decide +kernel) noLate_nil (go_yields w_none (fun w hS => m_indexAddr_rd Try.underlying24 ti39 (hS := hS))) ?_ | refine any_go (i := 13) (by rfl) (by decide +kernel) (by decide +kernel) noLate_nil (go_yields w_none (fun w hS => m_indexAddr_vec Try.underlying24 ti39 (hS := hS))) ?_
                       try simp only [opv, n1, n2, n3, n4, Value.cells, Nat.mul_one, Nat.zero_add, Int.toNat_natCast, Int.reduceToNat]
                       first | refine any_go (i := 14) (by rfl) (by decide +kernel) (by decide +kernel) noLate_nil (go_yields w_none (fun w hS => m_fieldAddr Try.underlying39 (hi := ti37))) ?_ | refine any_go (i := 14) (by rfl) (by decide +kernel) (by decide +kernel) noLate_nil (go_yields w_none (fun w hS => m_fieldAddr_rd Try.underlying39 (hi := ti37) (hS := hS))) ?_ | refine any_go (i := 14) (by rfl) (by decide +kernel) (by decide +kernel) noLate_nil (go_yields w_none (fun w hS => m_fieldAddr_vec Try.underlying39 (hi := ti37) (hS := hS))) ?_
                       try simp only [opv, n1, n2, n3, n4, Value.cells, Nat.zero_add, Nat.add_zero, List.getElem_toArray, List.getElem_cons_zero, List.getElem_cons_succ]
                       first | refine any_go (i := 15) (by rfl) (by decide +kernel) (by decide +kernel) noLate_nil (go_yields w_none (fun w hS => m_load_row Try.underlying37 (hi := ti37) (hS := hS) (hfit := by rw [arows_len]; omega))) ?_ | refine any_go (i := 15) (by rfl) (by decide +kernel) (by decide +kernel) noLate_nil (go_yields w_none (fun w hS => m_loada_obj Try.underlying37 (hi := ti37) (hS := hS) (hfit := by rw [arows_len]; omega))) ?_ | refine any_go (i := 15) (by rfl) (by decide +kernel) (by decide +kernel) noLate_nil (go_yields w_none (fun w hS => m_loada_bx Try.underlying37 (hi := ti37) (hS := hS) (hfit := by rw [arows_len]; omega))) ?_ | refine any_go (i := 15) (by rfl) (by decide +kernel) (by decide +kernel) noLate_nil (go_yields w_none (fun w hS => m_loada_rd Try.underlying37 (hi := ti37) (hS := hS) (hfit := by rw [arows_len]; omega))) ?_ | refine any_go (i := 15) (by rfl) (by decide +kernel) (by decide +kernel) noLate_nil (go_yields w_none (fun w hS => m_loada_vec Try.underlying37 (hi := ti37) (hS := hS) (hfit := by rw [arows_len]; omega))) ?_
                       try simp only [opv, n1, n2, n3, n4, Value.cells, List.getElem_toArray, List.getElem_cons_zero, List.getElem_cons_succ]
                       rw [arow_val (by omega) hto, hy]
                       apply any_go (i := 16) (by rfl) (by decide +kernel) (by decide +kernel) noLate_nil (call_yields w_none en118 ?H3) ?K3
                       case H3 =>
                         intro w hS
                         try simp only [opv, n1, n2, n3, n4, List.map_toArray, List.map_cons, List.map_nil, List.append_toArray, List.cons_append, List.nil_append, Array.append_empty]
                         refine CallR.mono (c_ref09More (aval x) (aval y) hvx hvy _) ?_
                         rintro _ w1 ⟨rfl, hE⟩; exact ⟨rfl, hE⟩
                       try simp only [opv, n1, n2, n3, n4, Value.cells]
                       refine any_go (i := 17) (by rfl) (by decide +kernel) (by decide +kernel) noLate_nil (go_yields w_none (fun w hS => s_build_struct (cells := (AA (akey x ++ moreV (aval x) (aval y)))) Try.underlying39 ti39 bp39 (hc := by simp only [List.map_toArray, List.map_cons, List.map_nil, opv, n1, n2, n3, n4, Value.cells, List.toList_toArray]; exact fill_atom (by rfl) (by rfl) (by rfl) hk12 hml))) ?_
                       try simp only [opv, n1, n2, n3, n4, Value.cells]
                       refine any_step [18] (by kernel_rfl) (by decide) (fun w49 hE => ⟨fun _ => (hS.ext hE).sel (by repeat (first | exact Sel.nil | (refine Sel.cons (by repeat (first | exact Del.head | apply Del.tail)) ?_))), ?_⟩)
                       replace hS := hS.ext hE
                       intro i hi
                       simp only [List.mem_cons, List.not_mem_nil, or_false] at hi
                       subst hi
                       ·
                        refine any_op (by rfl) ?_
                        refine m_buildRow (cells := (AA (akey x ++ moreV (aval x) (aval y)))) Try.underlying24 ti39 (hc := by simp only [List.map_toArray, List.map_cons, List.map_nil, opv, n1, n2, n3, n4, Value.cells, List.toList_toArray]; exact fill_one (by rfl) (zi_size21 hzl) (by rfl)) (hS := hS) (h := fun w50 g50 hS => ?_)
                        try simp only [opv, n1, n2, n3, n4, Value.cells, Array.toArray_toList] at hS ⊢
                        replace hS := hS.obj_rd (sz := 21) (n := 1) (by exact zi_size21 hzl) .head
                        rw [arow_one hzl] at hS
                        refine x_nil ?_
                        refine any_step [19] (by kernel_rfl) (by decide) (fun w51 hE => ⟨fun _ => (hS.ext hE).sel (by repeat (first | exact Sel.nil | (refine Sel.cons (by repeat (first | exact Del.head | apply Del.tail)) ?_))), ?_⟩)
                        replace hS := hS.ext hE
                        intro i hi
                        simp only [List.mem_cons, List.not_mem_nil, or_false] at hi
                        subst hi
                        ·
                         refine any_op (by rfl) ?_
                         refine m_append Try.underlying24 ti39 (hS := hS) (h1 := rowsZ_cells _ _) (h := fun w52 A52 C52 hS => ?_)
                         try simp only [← List.map_append, ← List.map_drop, ← List.map_take, Nat.mul_one, Nat.zero_mul, Nat.sub_zero, List.drop_zero, List.nil_append, Nat.zero_add] at hS ⊢
                         try simp only [opv, n1, n2, n3, n4, Value.cells, Array.toArray_toList] at hS ⊢
                         rw [add_one] at hS
                         refine x_nil ?_
                         refine any_go (i := 20) (by rfl) (by decide +kernel) (by decide +kernel) noLate_nil (go_yields w_none (fun w hS => s_assign)) ?_
                         try simp only [opv, n1, n2, n3, n4, Value.cells]
                         refine any_nil (by kernel_rfl) (fun w53 hE => ?_)
                         replace hS := hS.ext hE
                         refine ⟨fun _ => hS.sel (by repeat (first | exact Sel.nil | (refine Sel.cons (by repeat (first | exact Del.head | apply Del.tail)) ?_))), ?_⟩
                         refine mix_leaf (by simp only [clob, List.foldl, n1, n2, n3, n4]) ?_
                         try simp only [n1, n2]
                         exact ⟨_, _, by first | trivial | rfl, hS.sel (by repeat (first | exact Sel.nil | (refine Sel.cons (by repeat (first | exact Del.head | apply Del.tail)) ?_)))⟩
                      intro fm3 w54 hM
                      obtain ⟨C2, e2, h5, hS⟩ := hM
                      simp only [clob, List.foldl, n3, n4, h5]
                      refine hK27 _ _ ?_
                      refine x_seq fun K28 hK28 => ?_
                      refine x_region ?_
                      refine s_go (s_move) ?_
                      try simp only [opv, n1, n2, n3, n4, Value.cells]
                      refine s_go (s_add (hc := by first | exact wr_i64 (by omega) (by omega) | rfl)) ?_
                      try simp only [opv, n1, n2, n3, n4, Value.cells]
                      refine s_go (s_assign) ?_
                      try simp only [opv, n1, n2, n3, n4, Value.cells]
                      refine x_nil ?_
                      refine hK28 _ _ ?_
                      refine x_region ?_
                      refine s_go (s_move) ?_
                      try simp only [opv, n1, n2, n3, n4, Value.cells]
                      refine s_go (s_add (hc := by first | exact wr_i64 (by omega) (by omega) | rfl)) ?_
                      try simp only [opv, n1, n2, n3, n4, Value.cells]
                      refine s_go (s_assign) ?_
                      try simp only [opv, n1, n2, n3, n4, Value.cells]
                      refine x_nil ?_
                      refine loop_back (m' := m1 - 1) (by simp only [clob, List.foldl, n1, n2, n3, n4]) ?_ ?_
                      · try simp only [opv, n1, n2, n3, n4, Value.cells]
                        exact ⟨_, _, _, _, _, by omega, by omega, by omega, by rfl, by rfl, by simp only [List.length_append, List.length_cons, List.length_nil, Nat.zero_add]; rfl, hnx, by simp only [List.length_append, List.length_cons, List.length_nil, Nat.zero_add]; omega, by simp only [List.length_append, List.length_cons, List.length_nil, Nat.zero_add]; exact hS.sel (by repeat (first | exact Sel.nil | (refine Sel.cons (by repeat (first | exact Del.head | apply Del.tail)) ?_)))⟩
                      · omega
          ·
           try simp only [n3, n4]
           try simp only [decide_eq_true_eq, decide_eq_false_iff_not, Bool.not_eq_true', Bool.not_eq_false', Int.not_lt, Int.not_le, ne_eq, Decidable.not_not] at hp7
           first
           | (exfalso; omega)
           | skip
             have hmg := mg_r (s := s) (t := t) (i := i) (k := k) (by omega) hy (.inl (by omega))
             have hnx : (o ++ [y]) ++ mergeP (s.drop i) (t.drop (k + 1)) = mergeP s t := by rw [← hmo, hmg, List.append_assoc]; rfl
             refine q_off (yi (t := 56) rfl rfl) ?_
             try simp only [opv, n1, n2, n3, n4, Value.cells]
             refine q_off (yi (t := 56) rfl rfl) ?_
             try simp only [opv, n1, n2, n3, n4, Value.cells]
             refine q_off (yi (t := 56) rfl rfl) ?_
             try simp only [opv, n1, n2, n3, n4, Value.cells]
             refine q_off (yi (t := 56) rfl rfl) ?_
             try simp only [opv, n1, n2, n3, n4, Value.cells]
             refine q_off (yi (t := 56) rfl rfl) ?_
             try simp only [opv, n1, n2, n3, n4, Value.cells]
             refine q_off (yi (t := 56) rfl rfl) ?_
             try simp only [opv, n1, n2, n3, n4, Value.cells]
             refine q_off (yi (t := 56) rfl rfl) ?_
             try simp only [opv, n1, n2, n3, n4, Value.cells]
             refine q_off (yi (t := 56) rfl rfl) ?_
             try simp only [opv, n1, n2, n3, n4, Value.cells]
             refine q_off (yi (t := 56) rfl rfl) ?_
             try simp only [opv, n1, n2, n3, n4, Value.cells]
             refine q_off (yi (t := 56) rfl rfl) ?_
             try simp only [opv, n1, n2, n3, n4, Value.cells]
             refine q_off (yi (t := 56) rfl rfl) ?_
             try simp only [opv, n1, n2, n3, n4, Value.cells]
             refine q_on (yi (t := 51) rfl rfl) ?_
             first | refine q_go (fun w hS => s_pick_t) ?_ | refine q_go (fun w hS => s_pick_f) ?_
             try simp only [opv, n1, n2, n3, n4, Value.cells]
             first | refine q_go (fun w hS => s_pick_t) ?_ | refine q_go (fun w hS => s_pick_f) ?_
             try simp only [opv, n1, n2, n3, n4, Value.cells]
             refine q_go (fun w hS => s_assign) ?_
             try simp only [opv, n1, n2, n3, n4, Value.cells]
             clear hS
             refine q_nil fun w55 hS => ?_
             refine hK21 _ _ ?_
             refine x_cond_f (h := ?_)
             try have hl1 := @c
             refine x_seq fun K29 hK29 => ?_
             refine x_quiet (by kernel_rfl) (by kernel_rfl) hS ?_
             refine q_go (fun w hS => s_move) ?_
             try simp only [opv, n1, n2, n3, n4, Value.cells]
             refine q_go (fun w hS => s_move) ?_
             try simp only [opv, n1, n2, n3, n4, Value.cells]
             refine q_go (fun w hS => s_len_sl Try.underlying24) ?_
             try simp only [opv, n1, n2, n3, n4, Value.cells]
             refine q_go (fun w hS => s_eql) ?_
             try simp only [opv, n1, n2, n3, n4, Value.cells]
             refine q_go (fun w hS => s_move) ?_
             try simp only [opv, n1, n2, n3, n4, Value.cells]
             refine q_part 84 rfl (fun hp9 => ?_) (fun hp9 => ?_)
             ·
              try simp only [n3, n4]
              try simp only [decide_eq_true_eq, decide_eq_false_iff_not, Bool.not_eq_true', Bool.not_eq_false', Int.not_lt, Int.not_le, ne_eq, Decidable.not_not] at hp9
              first
              | (exfalso; omega)
              | skip
                refine q_off (yi (t := 84) rfl rfl) ?_
                try simp only [opv, n1, n2, n3, n4, Value.cells]
                refine q_off (yi (t := 84) rfl rfl) ?_
                try simp only [opv, n1, n2, n3, n4, Value.cells]
                refine q_off (yi (t := 84) rfl rfl) ?_
                try simp only [opv, n1, n2, n3, n4, Value.cells]
                refine q_off (yi (t := 84) rfl rfl) ?_
                try simp only [opv, n1, n2, n3, n4, Value.cells]
                refine q_off (yi (t := 84) rfl rfl) ?_
                try simp only [opv, n1, n2, n3, n4, Value.cells]
                refine q_off (yi (t := 84) rfl rfl) ?_
                try simp only [opv, n1, n2, n3, n4, Value.cells]
                refine q_off (yi (t := 84) rfl rfl) ?_
                try simp only [opv, n1, n2, n3, n4, Value.cells]
                refine q_off (yi (t := 84) rfl rfl) ?_
                try simp only [opv, n1, n2, n3, n4, Value.cells]
                refine q_off (yi (t := 84) rfl rfl) ?_
                try simp only [opv, n1, n2, n3, n4, Value.cells]
                refine q_off (yi (t := 84) rfl rfl) ?_
                try simp only [opv, n1, n2, n3, n4, Value.cells]
                refine q_off (yi (t := 84) rfl rfl) ?_
                try simp only [opv, n1, n2, n3, n4, Value.cells]
                first | refine q_go (fun w hS => s_pick_t) ?_ | refine q_go (fun w hS => s_pick_f) ?_
                try simp only [opv, n1, n2, n3, n4, Value.cells]
                refine q_go (fun w hS => s_assign) ?_
                try simp only [opv, n1, n2, n3, n4, Value.cells]
                clear hS
                refine q_nil fun w56 hS => ?_
                refine hK29 _ _ ?_
                refine x_cond_t (h := ?_)
                try (have hmg := mg_r (s := s) (t := t) (i := i) (k := k) (by omega) hy (.inr ⟨by omega, by rw [hx]; exact hl1, by rw [hx]; exact @c⟩))
                have hnx : (o ++ [y]) ++ mergeP (s.drop i) (t.drop (k + 1)) = mergeP s t := by rw [← hmo, hmg, List.append_assoc]; rfl
                refine x_seq fun K30 hK30 => ?_
                refine x_region ?_
                refine s_go (s_move) ?_
                try simp only [opv, n1, n2, n3, n4, Value.cells]
                refine s_go (s_move) ?_
                try simp only [opv, n1, n2, n3, n4, Value.cells]
                refine s_go (s_move) ?_
                try simp only [opv, n1, n2, n3, n4, Value.cells]
                first | refine s_go (m_indexAddr_rd Try.underlying24 ti39 (hS := hS)) ?_ | refine s_go (m_indexAddr_vec Try.underlying24 ti39 (hS := hS)) ?_
                try simp only [opv, n1, n2, n3, n4, Value.cells, Nat.mul_one, Nat.zero_add, Int.toNat_natCast, Int.reduceToNat]
                first | refine s_go (m_load_row Try.underlying39 (hi := ti39) (hS := hS) (hfit := by rw [arows_len]; omega)) ?_ | refine s_go (m_loada_obj Try.underlying39 (hi := ti39) (hS := hS) (hfit := by rw [arows_len]; omega)) ?_ | refine s_go (m_loada_bx Try.underlying39 (hi := ti39) (hS := hS) (hfit := by rw [arows_len]; omega)) ?_ | refine s_go (m_loada_rd Try.underlying39 (hi := ti39) (hS := hS) (hfit := by rw [arows_len]; omega)) ?_ | refine s_go (m_loada_vec Try.underlying39 (hi := ti39) (hS := hS) (hfit := by rw [arows_len]; omega)) ?_
                try simp only [opv, n1, n2, n3, n4, Value.cells, List.getElem_toArray, List.getElem_cons_zero, List.getElem_cons_succ]
                rw [arow_get (by omega) hto, hy]
                refine m_buildRow (cells := (AA y)) Try.underlying24 ti39 (hc := by simp only [List.map_toArray, List.map_cons, List.map_nil, opv, n1, n2, n3, n4, Value.cells, List.toList_toArray]; exact fill_one (by rfl) (zi_size21 hyl) (by rfl)) (hS := hS) (h := fun w57 g57 hS => ?_)
                try simp only [opv, n1, n2, n3, n4, Value.cells, Array.toArray_toList] at hS ⊢
                replace hS := hS.obj_rd (sz := 21) (n := 1) (by exact zi_size21 hyl) .head
                rw [arow_one hyl] at hS
                refine m_append Try.underlying24 ti39 (hS := hS) (h1 := rowsZ_cells _ _) (h := fun w58 A58 C58 hS => ?_)
                try simp only [← List.map_append, ← List.map_drop, ← List.map_take, Nat.mul_one, Nat.zero_mul, Nat.sub_zero, List.drop_zero, List.nil_append, Nat.zero_add] at hS ⊢
                try simp only [opv, n1, n2, n3, n4, Value.cells, Array.toArray_toList] at hS ⊢
                rw [add_one] at hS
                refine s_go (s_assign) ?_
                try simp only [opv, n1, n2, n3, n4, Value.cells]
                refine x_nil ?_
                refine hK30 _ _ ?_
                refine x_region ?_
                refine s_go (s_move) ?_
                try simp only [opv, n1, n2, n3, n4, Value.cells]
                refine s_go (s_add (hc := by first | exact wr_i64 (by omega) (by omega) | rfl)) ?_
                try simp only [opv, n1, n2, n3, n4, Value.cells]
                refine s_go (s_assign) ?_
                try simp only [opv, n1, n2, n3, n4, Value.cells]
                refine x_nil ?_
                refine loop_back (m' := m1 - 1) (by simp only [clob, List.foldl, n1, n2, n3, n4]) ?_ ?_
                · try simp only [opv, n1, n2, n3, n4, Value.cells]
                  exact ⟨_, _, _, _, _, by omega, by omega, by omega, by rfl, by rfl, by simp only [List.length_append, List.length_cons, List.length_nil, Nat.zero_add]; rfl, hnx, by simp only [List.length_append, List.length_cons, List.length_nil, Nat.zero_add]; omega, by simp only [List.length_append, List.length_cons, List.length_nil, Nat.zero_add]; exact hS.sel (by repeat (first | exact Sel.nil | (refine Sel.cons (by repeat (first | exact Del.head | apply Del.tail)) ?_)))⟩
                · omega
             ·
              try simp only [n3, n4]
              try simp only [decide_eq_true_eq, decide_eq_false_iff_not, Bool.not_eq_true', Bool.not_eq_false', Int.not_lt, Int.not_le, ne_eq, Decidable.not_not] at hp9
              first
              | (exfalso; omega)
              | skip
                refine q_on (yi (t := 84) rfl rfl) ?_
                refine q_go (fun w hS => s_move) ?_
                try simp only [opv, n1, n2, n3, n4, Value.cells]
                refine q_on (yi (t := 84) rfl rfl) ?_
                refine q_go (fun w hS => s_move) ?_
                try simp only [opv, n1, n2, n3, n4, Value.cells]
                refine q_on (yi (t := 84) rfl rfl) ?_
                first | refine q_go (fun w hS => m_indexAddr_rd Try.underlying24 ti39 (hS := hS)) ?_ | refine q_go (fun w hS => m_indexAddr_vec Try.underlying24 ti39 (hS := hS)) ?_
                try simp only [opv, n1, n2, n3, n4, Value.cells, Nat.mul_one, Nat.zero_add, Int.toNat_natCast, Int.reduceToNat]
                refine q_on (yi (t := 84) rfl rfl) ?_
                first | refine q_go (fun w hS => m_fieldAddr Try.underlying39 (hi := ti34)) ?_ | refine q_go (fun w hS => m_fieldAddr_rd Try.underlying39 (hi := ti34) (hS := hS)) ?_ | refine q_go (fun w hS => m_fieldAddr_vec Try.underlying39 (hi := ti34) (hS := hS)) ?_
                try simp only [opv, n1, n2, n3, n4, Value.cells, Nat.zero_add, Nat.add_zero, List.getElem_toArray, List.getElem_cons_zero, List.getElem_cons_succ]
                refine q_on (yi (t := 84) rfl rfl) ?_
                first | refine q_go (fun w hS => m_load_row Try.underlying34 (hi := ti34) (hS := hS) (hfit := by rw [arows_len]; omega)) ?_ | refine q_go (fun w hS => m_loada_obj Try.underlying34 (hi := ti34) (hS := hS) (hfit := by rw [arows_len]; omega)) ?_ | refine q_go (fun w hS => m_loada_bx Try.underlying34 (hi := ti34) (hS := hS) (hfit := by rw [arows_len]; omega)) ?_ | refine q_go (fun w hS => m_loada_rd Try.underlying34 (hi := ti34) (hS := hS) (hfit := by rw [arows_len]; omega)) ?_ | refine q_go (fun w hS => m_loada_vec Try.underlying34 (hi := ti34) (hS := hS) (hfit := by rw [arows_len]; omega)) ?_
                try simp only [opv, n1, n2, n3, n4, Value.cells, List.getElem_toArray, List.getElem_cons_zero, List.getElem_cons_succ]
                rw [arow_key (by omega) hto, hy]
                refine q_on (yi (t := 84) rfl rfl) ?_
                refine q_go (fun w hS => s_move) ?_
                try simp only [opv, n1, n2, n3, n4, Value.cells]
                refine q_on (yi (t := 84) rfl rfl) ?_
                refine q_go (fun w hS => s_move) ?_
                try simp only [opv, n1, n2, n3, n4, Value.cells]
                refine q_on (yi (t := 84) rfl rfl) ?_
                first | refine q_go (fun w hS => m_indexAddr_rd Try.underlying24 ti39 (hS := hS)) ?_ | refine q_go (fun w hS => m_indexAddr_vec Try.underlying24 ti39 (hS := hS)) ?_
                try simp only [opv, n1, n2, n3, n4, Value.cells, Nat.mul_one, Nat.zero_add, Int.toNat_natCast, Int.reduceToNat]
                refine q_on (yi (t := 84) rfl rfl) ?_
                first | refine q_go (fun w hS => m_fieldAddr Try.underlying39 (hi := ti34)) ?_ | refine q_go (fun w hS => m_fieldAddr_rd Try.underlying39 (hi := ti34) (hS := hS)) ?_ | refine q_go (fun w hS => m_fieldAddr_vec Try.underlying39 (hi := ti34) (hS := hS)) ?_
                try simp only [opv, n1, n2, n3, n4, Value.cells, Nat.zero_add, Nat.add_zero, List.getElem_toArray, List.getElem_cons_zero, List.getElem_cons_succ]
                refine q_on (yi (t := 84) rfl rfl) ?_
                first | refine q_go (fun w hS => m_load_row Try.underlying34 (hi := ti34) (hS := hS) (hfit := by rw [arows_len]; omega)) ?_ | refine q_go (fun w hS => m_loada_obj Try.underlying34 (hi := ti34) (hS := hS) (hfit := by rw [arows_len]; omega)) ?_ | refine q_go (fun w hS => m_loada_bx Try.underlying34 (hi := ti34) (hS := hS) (hfit := by rw [arows_len]; omega)) ?_ | refine q_go (fun w hS => m_loada_rd Try.underlying34 (hi := ti34) (hS := hS) (hfit := by rw [arows_len]; omega)) ?_ | refine q_go (fun w hS => m_loada_vec Try.underlying34 (hi := ti34) (hS := hS) (hfit := by rw [arows_len]; omega)) ?_
                try simp only [opv, n1, n2, n3, n4, Value.cells, List.getElem_toArray, List.getElem_cons_zero, List.getElem_cons_succ]
                rw [arow_key (by omega) hso, hx]
                refine q_on (yi (t := 84) rfl rfl) ?_
                apply q_call en116
                case H =>
                  intro w hS
                  try simp only [opv, n1, n2, n3, n4, List.map_toArray, List.map_cons, List.map_nil, List.append_toArray, List.cons_append, List.nil_append, Array.append_empty]
                  refine CallR.mono (c_ref08Less (akey y) (akey x) hky hkx _) ?_
                  rintro _ w1 ⟨rfl, hE⟩; exact ⟨rfl, hS.ext hE⟩
                try simp only [opv, n1, n2, n3, n4, Value.cells]
                first | refine q_go (fun w hS => s_pick_t) ?_ | refine q_go (fun w hS => s_pick_f) ?_
                try simp only [opv, n1, n2, n3, n4, Value.cells]
                refine q_go (fun w hS => s_assign) ?_
                try simp only [opv, n1, n2, n3, n4, Value.cells]
                clear hS
                refine q_nil fun w59 hS => ?_
                refine hK29 _ _ ?_
                refine x_cond (ht := fun hc16 => ?_) (hf := fun hc16 => ?_)
                ·
                 try simp only [decide_eq_true_eq, decide_eq_false_iff_not, Bool.not_eq_true', Bool.not_eq_false', Int.not_lt, Int.not_le, ne_eq, Decidable.not_not, bne_iff_ne, beq_iff_eq, not_true_eq_false, not_false_eq_true] at hc16
                 first
                 | (exfalso; omega)
                 | skip
                   try (have hmg := mg_r (s := s) (t := t) (i := i) (k := k) (by omega) hy (.inr ⟨by omega, by rw [hx]; exact hl1, by rw [hx]; exact hc16⟩))
                   have hnx : (o ++ [y]) ++ mergeP (s.drop i) (t.drop (k + 1)) = mergeP s t := by rw [← hmo, hmg, List.append_assoc]; rfl
                   refine x_seq fun K31 hK31 => ?_
                   refine x_region ?_
                   refine s_go (s_move) ?_
                   try simp only [opv, n1, n2, n3, n4, Value.cells]
                   refine s_go (s_move) ?_
                   try simp only [opv, n1, n2, n3, n4, Value.cells]
                   refine s_go (s_move) ?_
                   try simp only [opv, n1, n2, n3, n4, Value.cells]
                   first | refine s_go (m_indexAddr_rd Try.underlying24 ti39 (hS := hS)) ?_ | refine s_go (m_indexAddr_vec Try.underlying24 ti39 (hS := hS)) ?_
                   try simp only [opv, n1, n2, n3, n4, Value.cells, Nat.mul_one, Nat.zero_add, Int.toNat_natCast, Int.reduceToNat]
                   first | refine s_go (m_load_row Try.underlying39 (hi := ti39) (hS := hS) (hfit := by rw [arows_len]; omega)) ?_ | refine s_go (m_loada_obj Try.underlying39 (hi := ti39) (hS := hS) (hfit := by rw [arows_len]; omega)) ?_ | refine s_go (m_loada_bx Try.underlying39 (hi := ti39) (hS := hS) (hfit := by rw [arows_len]; omega)) ?_ | refine s_go (m_loada_rd Try.underlying39 (hi := ti39) (hS := hS) (hfit := by rw [arows_len]; omega)) ?_ | refine s_go (m_loada_vec Try.underlying39 (hi := ti39) (hS := hS) (hfit := by rw [arows_len]; omega)) ?_
                   try simp only [opv, n1, n2, n3, n4, Value.cells, List.getElem_toArray, List.getElem_cons_zero, List.getElem_cons_succ]
                   rw [arow_get (by omega) hto, hy]
                   refine m_buildRow (cells := (AA y)) Try.underlying24 ti39 (hc := by simp only [List.map_toArray, List.map_cons, List.map_nil, opv, n1, n2, n3, n4, Value.cells, List.toList_toArray]; exact fill_one (by rfl) (zi_size21 hyl) (by rfl)) (hS := hS) (h := fun w60 g60 hS => ?_)
                   try simp only [opv, n1, n2, n3, n4, Value.cells, Array.toArray_toList] at hS ⊢
                   replace hS := hS.obj_rd (sz := 21) (n := 1) (by exact zi_size21 hyl) .head
                   rw [arow_one hyl] at hS
                   refine m_append Try.underlying24 ti39 (hS := hS) (h1 := rowsZ_cells _ _) (h := fun w61 A61 C61 hS => ?_)
                   try simp only [← List.map_append, ← List.map_drop, ← List.map_take, Nat.mul_one, Nat.zero_mul, Nat.sub_zero, List.drop_zero, List.nil_append, Nat.zero_add] at hS ⊢
                   try simp only [opv, n1, n2, n3, n4, Value.cells, Array.toArray_toList] at hS ⊢
                   rw [add_one] at hS
                   refine s_go (s_assign) ?_
                   try simp only [opv, n1, n2, n3, n4, Value.cells]
                   refine x_nil ?_
                   refine hK31 _ _ ?_
                   refine x_region ?_
                   refine s_go (s_move) ?_
                   try simp only [opv, n1, n2, n3, n4, Value.cells]
                   refine s_go (s_add (hc := by first | exact wr_i64 (by omega) (by omega) | rfl)) ?_
                   try simp only [opv, n1, n2, n3, n4, Value.cells]
                   refine s_go (s_assign) ?_
                   try simp only [opv, n1, n2, n3, n4, Value.cells]
                   refine x_nil ?_
                   refine loop_back (m' := m1 - 1) (by simp only [clob, List.foldl, n1, n2, n3, n4]) ?_ ?_
                   · try simp only [opv, n1, n2, n3, n4, Value.cells]
                     exact ⟨_, _, _, _, _, by omega, by omega, by omega, by rfl, by rfl, by simp only [List.length_append, List.length_cons, List.length_nil, Nat.zero_add]; rfl, hnx, by simp only [List.length_append, List.length_cons, List.length_nil, Nat.zero_add]; omega, by simp only [List.length_append, List.length_cons, List.length_nil, Nat.zero_add]; exact hS.sel (by repeat (first | exact Sel.nil | (refine Sel.cons (by repeat (first | exact Del.head | apply Del.tail)) ?_)))⟩
                   · omega
                ·
                 try simp only [decide_eq_true_eq, decide_eq_false_iff_not, Bool.not_eq_true', Bool.not_eq_false', Int.not_lt, Int.not_le, ne_eq, Decidable.not_not, bne_iff_ne, beq_iff_eq, not_true_eq_false, not_false_eq_true] at hc16
                 first
                 | (exfalso; omega)
                 | skip
                   have hmg := mg_e (s := s) (t := t) (i := i) (k := k) (by omega) hx (by omega) hy hl1 hc16
                   have hnx : (o ++ [(akey x ++ moreV (aval x) (aval y))]) ++ mergeP (s.drop (i + 1)) (t.drop (k + 1)) = mergeP s t := by rw [← hmo, hmg, List.append_assoc]; rfl
                   have hmo9 := more_ok hvx hvy
                   have hml := hmo9.len
                   have hk12 := hkx.len
                   have hzl : (akey x ++ moreV (aval x) (aval y)).length = 21 := (kv_ok hkx hmo9).len
                   refine x_seq fun K32 hK32 => ?_
                   refine x_mixed_c (Lc := [.rd B2 21 (t).length (arows (t)), .rd B1 21 (s).length (arows (s))]) [] 0 [5, 22, 23, 24, 25, 26, 27, 28, 29, 30, 31, 32, 33, 34, 35, 36, 37, 38, 39, 40, 41] (fun f w => ∃ (C2 : Option Addr) (e2 : Nat), f 5 = .slice C2 (o.length + 1) e2 ∧ St NoB w0 w [.vec C2 e2 39 21 (o.length + 1) (arows (o ++ [(akey x ++ moreV (aval x) (aval y))])), .rd B2 21 (t).length (arows (t)), .rd B1 21 (s).length (arows (s))]) (by kernel_rfl) (by kernel_rfl) (by kernel_rfl) (by decide) hS (fun w62 hS => ?mixpre504) ?mixrest504
                   case mixpre504 =>
                    refine p_nil ?_
                    simp only [List.length_cons, List.length_nil, Nat.reduceAdd, Nat.reduceSub]
                    refine any_go (i := 0) (by rfl) (by decide +kernel) (by decide +kernel) noLate_nil (go_yields w_none (fun w hS => s_move)) ?_
                    try simp only [opv, n1, n2, n3, n4, Value.cells]
                    refine any_go (i := 1) (by rfl) (by decide +kernel) (by decide +kernel) noLate_nil (go_yields w_none (fun w hS => s_move)) ?_
                    try simp only [opv, n1, n2, n3, n4, Value.cells]
                    refine any_go (i := 2) (by rfl) (by decide +kernel) (by decide +kernel) noLate_nil (go_yields w_none (fun w hS => s_move)) ?_
                    try simp only [opv, n1, n2, n3, n4, Value.cells]
                    first | refine any_go (i := 3) (by rfl) (by decide +kernel) (by decide +kernel) noLate_nil (go_yields w_none (fun w hS => m_indexAddr_rd Try.underlying24 ti39 (hS := hS))) ?_ | refine any_go (i := 3) (by rfl) (by decide +kernel) (by decide +kernel) noLate_nil (go_yields w_none (fun w hS => m_indexAddr_vec Try.underlying24 ti39 (hS := hS))) ?_
                    try simp only [opv, n1, n2, n3, n4, Value.cells, Nat.mul_one, Nat.zero_add, Int.toNat_natCast, Int.reduceToNat]
                    first | refine any_go (i := 4) (by rfl) (by decide +kernel) (by decide +kernel) noLate_nil (go_yields w_none (fun w hS => m_fieldAddr Try.underlying39 (hi := ti34))) ?_ | refine any_go (i := 4) (by rfl) (by decide +kernel) (by decide +kernel) noLate_nil (go_yields w_none (fun w hS => m_fieldAddr_rd Try.underlying39 (hi := ti34) (hS := hS))) ?_ | refine any_go (i := 4) (by rfl) (by decide +kernel) (by decide +kernel) noLate_nil (go_yields w_none (fun w hS => m_fieldAddr_vec Try.underlying39 (hi := ti34) (hS := hS))) ?_
                    try simp only [opv, n1, n2, n3, n4, Value.cells, Nat.zero_add, Nat.add_zero, List.getElem_toArray, List.getElem_cons_zero, List.getElem_cons_succ]
                    first | refine any_go (i := 5) (by rfl) (by decide +kernel) (by decide +kernel) noLate_nil (go_yields w_none (fun w hS => m_load_row Try.underlying34 (hi := ti34) (hS := hS) (hfit := by rw [arows_len]; omega))) ?_ | refine any_go (i := 5) (by rfl) (by decide +kernel) (by decide +kernel) noLate_nil (go_yields w_none (fun w hS => m_loada_obj Try.underlying34 (hi := ti34) (hS := hS) (hfit := by rw [arows_len]; omega))) ?_ | refine any_go (i := 5) (by rfl) (by decide +kernel) (by decide +kernel) noLate_nil (go_yields w_none (fun w hS => m_loada_bx Try.underlying34 (hi := ti34) (hS := hS) (hfit := by rw [arows_len]; omega))) ?_ | refine any_go (i := 5) (by rfl) (by decide +kernel) (by decide +kernel) noLate_nil (go_yields w_none (fun w hS => m_loada_rd Try.underlying34 (hi := ti34) (hS := hS) (hfit := by rw [arows_len]; omega))) ?_ | refine any_go (i := 5) (by rfl) (by decide +kernel) (by decide +kernel) noLate_nil (go_yields w_none (fun w hS => m_loada_vec Try.underlying34 (hi := ti34) (hS := hS) (hfit := by rw [arows_len]; omega))) ?_
                    try simp only [opv, n1, n2, n3, n4, Value.cells, List.getElem_toArray, List.getElem_cons_zero, List.getElem_cons_succ]
                    rw [arow_key (by omega) hso, hx]
                    refine any_go (i := 6) (by rfl) (by decide +kernel) (by decide +kernel) noLate_nil (go_yields w_none (fun w hS => s_move)) ?_
                    try simp only [opv, n1, n2, n3, n4, Value.cells]
                    refine any_go (i := 7) (by rfl) (by decide +kernel) (by decide +kernel) noLate_nil (go_yields w_none (fun w hS => s_move)) ?_
                    try simp only [opv, n1, n2, n3, n4, Value.cells]
                    first | refine any_go (i := 8) (by rfl) (by decide +kernel) (by decide +kernel) noLate_nil (go_yields w_none (fun w hS => m_indexAddr_rd Try.underlying24 ti39 (hS := hS))) ?_ | refine any_go (i := 8) (by rfl) (by decide +kernel) (by decide +kernel) noLate_nil (go_yields w_none (fun w hS => m_indexAddr_vec Try.underlying24 ti39 (hS := hS))) ?_
                    try simp only [opv, n1, n2, n3, n4, Value.cells, Nat.mul_one, Nat.zero_add, Int.toNat_natCast, Int.reduceToNat]
                    first | refine any_go (i := 9) (by rfl) (by decide +kernel) (by decide +kernel) noLate_nil (go_yields w_none (fun w hS => m_fieldAddr Try.underlying39 (hi := ti37))) ?_ | refine any_go (i := 9) (by rfl) (by decide +kernel) (by decide +kernel) noLate_nil (go_yields w_none (fun w hS => m_fieldAddr_rd Try.underlying39 (hi := ti37) (hS := hS))) ?_ | refine any_go (i := 9) (by rfl) (by decide +kernel) (by decide +kernel) noLate_nil (go_yields w_none (fun w hS => m_fieldAddr_vec Try.underlying39 (hi := ti37) (hS := hS))) ?_
                    try simp only [opv, n1, n2, n3, n4, Value.cells, Nat.zero_add, Nat.add_zero, List.getElem_toArray, List.getElem_cons_zero, List.getElem_cons_succ]
                    first | refine any_go (i := 10) (by rfl) (by decide +kernel) (by decide +kernel) noLate_nil (go_yields w_none (fun w hS => m_load_row Try.underlying37 (hi := ti37) (hS := hS) (hfit := by rw [arows_len]; omega))) ?_ | refine any_go (i := 10) (by rfl) (by decide +kernel) (by decide +kernel) noLate_nil (go_yields w_none (fun w hS => m_loada_obj Try.underlying37 (hi := ti37) (hS := hS) (hfit := by rw [arows_len]; omega))) ?_ | refine any_go (i := 10) (by rfl) (by decide +kernel) (by decide +kernel) noLate_nil (go_yields w_none (fun w hS => m_loada_bx Try.underlying37 (hi := ti37) (hS := hS) (hfit := by rw [arows_len]; omega))) ?_ | refine any_go (i := 10) (by rfl) (by decide +kernel) (by decide +kernel) noLate_nil (go_yields w_none (fun w hS => m_loada_rd Try.underlying37 (hi := ti37) (hS := hS) (hfit := by rw [arows_len]; omega))) ?_ | refine any_go (i := 10) (by rfl) (by decide +kernel) (by decide +kernel) noLate_nil (go_yields w_none (fun w hS => m_loada_vec Try.underlying37 (hi := ti37) (hS := hS) (hfit := by rw [arows_len]; omega))) ?_
                    try simp only [opv, n1, n2, n3, n4, Value.cells, List.getElem_toArray, List.getElem_cons_zero, List.getElem_cons_succ]
                    rw [arow_val (by omega) hso, hx]
                    refine any_go (i := 11) (by rfl) (by decide +kernel) (by decide +kernel) noLate_nil (go_yields w_none (fun w hS => s_move)) ?_
                    try simp only [opv, n1, n2, n3, n4, Value.cells]
                    refine any_go (i := 12) (by rfl) (by decide +kernel) (by decide +kernel) noLate_nil (go_yields w_none (fun w hS => s_move)) ?_
                    try simp only [opv, n1, n2, n3, n4, Value.cells]
                    first | refine any_go (i := 13) (by rfl) (by decide +kernel) (by decide +kernel) noLate_nil (go_yields w_none (fun w hS => m_indexAddr_rd Try.underlying24 ti39 (hS := hS))) ?_ | refine any_go (i := 13) (by rfl) (by decide +kernel) (by decide +kernel) noLate_nil (go_yields w_none (fun w hS => m_indexAddr_vec Try.underlying24 ti39 (hS := hS))) ?_
                    try simp only [opv, n1, n2, n3, n4, Value.cells, Nat.mul_one, Nat.zero_add, Int.toNat_natCast, Int.reduceToNat]
                    first | refine any_go (i := 14) (by rfl) (by decide +kernel) (by decide +kernel) noLate_nil (go_yields w_none (fun w hS => m_fieldAddr Try.underlying39 (hi := ti37))) ?_ | refine any_go (i := 14) (by rfl) (by decide +kernel) (by decide +kernel) noLate_nil (go_yields w_none (fun w hS => m_fieldAddr_rd Try.underlying39 (hi := ti37) (hS := hS))) ?_ | refine any_go (i := 14) (by rfl) (by decide +kernel) (by decide +kernel) noLate_nil (go_yields w_none (fun w hS => m_fieldAddr_vec Try.underlying39 (hi := ti37) (hS := hS))) ?_
                    try simp only [opv, n1, n2, n3, n4, Value.cells, Nat.zero_add, Nat.add_zero, List.getElem_toArray, List.getElem_cons_zero, List.getElem_cons_succ]
                    first | refine any_go (i := 15) (by rfl) (by decide +kernel) (by decide +kernel) noLate_nil (go_yields w_none (fun w hS => m_load_row Try.underlying37 (hi := ti37) (hS := hS) (hfit := by rw [arows_len]; omega))) ?_ | refine any_go (i := 15) (by rfl) (by decide +kernel) (by decide +kernel) noLate_nil (go_yields w_none (fun w hS => m_loada_obj Try.underlying37 (hi := ti37) (hS := hS) (hfit := by rw [arows_len]; omega))) ?_ | refine any_go (i := 15) (by rfl) (by decide +kernel) (by decide +kernel) noLate_nil (go_yields w_none (fun w hS => m_loada_bx Try.underlying37 (hi := ti37) (hS := hS) (hfit := by rw [arows_len]; omega))) ?_ | refine any_go (i := 15) (by rfl) (by decide +kernel) (by decide +kernel) noLate_nil (go_yields w_none (fun w hS => m_loada_rd Try.underlying37 (hi := ti37) (hS := hS) (hfit := by rw [arows_len]; omega))) ?_ | refine any_go (i := 15) (by rfl) (by decide +kernel) (by decide +kernel) noLate_nil (go_yields w_none (fun w hS => m_loada_vec Try.underlying37 (hi := ti37) (hS := hS) (hfit := by rw [arows_len]; omega))) ?_
                    try simp only [opv, n1, n2, n3, n4, Value.cells, List.getElem_toArray, List.getElem_cons_zero, List.getElem_cons_succ]
                    rw [arow_val (by omega) hto, hy]
                    apply any_go (i := 16) (by rfl) (by decide +kernel) (by decide +kernel) noLate_nil (call_yields w_none en118 ?H4) ?K4
                    case H4 =>
                      intro w hS
                      try simp only [opv, n1, n2, n3, n4, List.map_toArray, List.map_cons, List.map_nil, List.append_toArray, List.cons_append, List.nil_append, Array.append_empty]
                      refine CallR.mono (c_ref09More (aval x) (aval y) hvx hvy _) ?_
                      rintro _ w1 ⟨rfl, hE⟩; exact ⟨rfl, hE⟩
                    try simp only [opv, n1, n2, n3, n4, Value.cells]
                    refine any_go (i := 17) (by rfl) (by decide +kernel) (by decide +kernel) noLate_nil (go_yields w_none (fun w hS => s_build_struct (cells := (AA (akey x ++ moreV (aval x) (aval y)))) Try.underlying39 ti39 bp39 (hc := by simp only [List.map_toArray, List.map_cons, List.map_nil, opv, n1, n2, n3, n4, Value.cells, List.toList_toArray]; exact fill_atom (by rfl) (by rfl) (by rfl) hk12 hml))) ?_
                    try simp only [opv, n1, n2, n3, n4, Value.cells]
                    refine any_step [18] (by kernel_rfl) (by decide) (fun w63 hE => ⟨fun _ => (hS.ext hE).sel (by repeat (first | exact Sel.nil | (refine Sel.cons (by repeat (first | exact Del.head | apply Del.tail)) ?_))), ?_⟩)
                    replace hS := hS.ext hE
                    intro i hi
                    simp only [List.mem_cons, List.not_mem_nil, or_false] at hi
                    subst hi
                    ·
                     refine any_op (by rfl) ?_
                     refine m_buildRow (cells := (AA (akey x ++ moreV (aval x) (aval y)))) Try.underlying24 ti39 (hc := by simp only [List.map_toArray, List.map_cons, List.map_nil, opv, n1, n2, n3, n4, Value.cells, List.toList_toArray]; exact fill_one (by rfl) (zi_size21 hzl) (by rfl)) (hS := hS) (h := fun w64 g64 hS => ?_)
                     try simp only [opv, n1, n2, n3, n4, Value.cells, Array.toArray_toList] at hS ⊢
                     replace hS := hS.obj_rd (sz := 21) (n := 1) (by exact zi_size21 hzl) .head
                     rw [arow_one hzl] at hS
                     refine x_nil ?_
                     refine any_step [19] (by kernel_rfl) (by decide) (fun w65 hE => ⟨fun _ => (hS.ext hE).sel (by repeat (first | exact Sel.nil | (refine Sel.cons (by repeat (first | exact Del.head | apply Del.tail)) ?_))), ?_⟩)
                     replace hS := hS.ext hE
                     intro i hi
                     simp only [List.mem_cons, List.not_mem_nil, or_false] at hi
                     subst hi
                     ·
                      refine any_op (by rfl) ?_
                      refine m_append Try.underlying24 ti39 (hS := hS) (h1 := rowsZ_cells _ _) (h := fun w66 A66 C66 hS => ?_)
                      try simp only [← List.map_append, ← List.map_drop, ← List.map_take, Nat.mul_one, Nat.zero_mul, Nat.sub_zero, List.drop_zero, List.nil_append, Nat.zero_add] at hS ⊢
                      try simp only [opv, n1, n2, n3, n4, Value.cells, Array.toArray_toList] at hS ⊢
                      rw [add_one] at hS
                      refine x_nil ?_
                      refine any_go (i := 20) (by rfl) (by decide +kernel) (by decide +kernel) noLate_nil (go_yields w_none (fun w hS => s_assign)) ?_
                      try simp only [opv, n1, n2, n3, n4, Value.cells]
                      refine any_nil (by kernel_rfl) (fun w67 hE => ?_)
                      replace hS := hS.ext hE
                      refine ⟨fun _ => hS.sel (by repeat (first | exact Sel.nil | (refine Sel.cons (by repeat (first | exact Del.head | apply Del.tail)) ?_))), ?_⟩
                      refine mix_leaf (by simp only [clob, List.foldl, n1, n2, n3, n4]) ?_
                      try simp only [n1, n2]
                      exact ⟨_, _, by first | trivial | rfl, hS.sel (by repeat (first | exact Sel.nil | (refine Sel.cons (by repeat (first | exact Del.head | apply Del.tail)) ?_)))⟩
                   intro fm4 w68 hM
                   obtain ⟨C2, e2, h5, hS⟩ := hM
                   simp only [clob, List.foldl, n3, n4, h5]
                   refine hK32 _ _ ?_
                   refine x_seq fun K33 hK33 => ?_
                   refine x_region ?_
                   refine s_go (s_move) ?_
                   try simp only [opv, n1, n2, n3, n4, Value.cells]
                   refine s_go (s_add (hc := by first | exact wr_i64 (by omega) (by omega) | rfl)) ?_
                   try simp only [opv, n1, n2, n3, n4, Value.cells]
                   refine s_go (s_assign) ?_
                   try simp only [opv, n1, n2, n3, n4, Value.cells]
                   refine x_nil ?_
                   refine hK33 _ _ ?_
                   refine x_region ?_
                   refine s_go (s_move) ?_
                   try simp only [opv, n1, n2, n3, n4, Value.cells]
                   refine s_go (s_add (hc := by first | exact wr_i64 (by omega) (by omega) | rfl)) ?_
                   try simp only [opv, n1, n2, n3, n4, Value.cells]
                   refine s_go (s_assign) ?_
                   try simp only [opv, n1, n2, n3, n4, Value.cells]
                   refine x_nil ?_
                   refine loop_back (m' := m1 - 1) (by simp only [clob, List.foldl, n1, n2, n3, n4]) ?_ ?_
                   · try simp only [opv, n1, n2, n3, n4, Value.cells]
                     exact ⟨_, _, _, _, _, by omega, by omega, by omega, by rfl, by rfl, by simp only [List.length_append, List.length_cons, List.length_nil, Nat.zero_add]; rfl, hnx, by simp only [List.length_append, List.length_cons, List.length_nil, Nat.zero_add]; omega, by simp only [List.length_append, List.length_cons, List.length_nil, Nat.zero_add]; exact hS.sel (by repeat (first | exact Sel.nil | (refine Sel.cons (by repeat (first | exact Del.head | apply Del.tail)) ?_)))⟩
                   · omega
    ·
     try simp only [decide_eq_true_eq, decide_eq_false_iff_not, Bool.not_eq_true', Bool.not_eq_false', Int.not_lt, Int.not_le, ne_eq, Decidable.not_not, bne_iff_ne, beq_iff_eq, not_true_eq_false, not_false_eq_true] at hc9
     first
     | (exfalso; omega)
     | skip
       obtain rfl : i = s.length := by omega
       obtain rfl : k = t.length := by omega
       rw [List.drop_of_length_le (Nat.le_refl _), List.drop_of_length_le (Nat.le_refl _), merge_nil, List.append_nil] at hmo
       rw [hmg0] at hmo
       refine x_exit (look_here ?_)
       refine hK5 _ _ ?_
       refine x_seq fun K34 hK34 => ?_
       refine x_region ?_
       refine s_go (s_move) ?_
       try simp only [opv, n1, n2, n3, n4, Value.cells]
       refine s_go (s_assign) ?_
       try simp only [opv, n1, n2, n3, n4, Value.cells]
       refine x_nil ?_
       refine hK34 _ _ ?_
       refine x_ret ?_
       refine r_tmp rfl ?_
       rw [← hmo]
       exact ⟨_, _, rfl, hS.sel (by repeat (first | exact Sel.nil | (refine Sel.cons (by repeat (first | exact Del.head | apply Del.tail)) ?_)))⟩
end Go.Proofs.Ytmgacmkikefpjaa
set_option linter.unusedSimpArgs false
set_option linter.unusedVariables false
set_option maxHeartbeats 1000000
set_option maxRecDepth 100000
namespace Go.Proofs.Ytmgacmkikefpjaa
open Go.RowKit

theorem leqA_val {t : List (List Int)} {x v : List Int} (h : fnd (akey x) t = some v) : leqA t x = overV v (aval x) := by rw [leqA, h]
theorem leqA_non {t : List (List Int)} {x : List Int} (h : fnd (akey x) t = none) : leqA t x = false := by rw [leqA, h]

theorem c_ref10Leq (w0 : World) (A : Option Addr) (c : Nat) (l : List (List Int)) (hr : Rd w0 A 21 l.length (arows l)) (hv : AOks l) (B : Option Addr) (d : Nat) (r : List (List Int)) (hr2 : Rd w0 B 21 r.length (arows r)) (hv2 : AOks r) (hn : l.length + r.length ≤ 1000000000)  :
    CallR Try.prog 38 #[.slice A l.length c, .slice B r.length d] w0 fun v w' => v = .bool (leqP (normP l) (normP r)) ∧ Ext w0 w' := by
 have hS := St.rd2 (S := NoB) hr hr2
 have h9l : v9.length = 9 := rfl
 refine c_enter (l := [.slice A l.length c, .slice B r.length d, undef, undef, undef, undef, undef, undef, undef, undef, undef, undef, undef, undef, undef, undef, undef, undef, undef, undef, undef, undef, undef, undef, undef, undef, undef, undef, undef, undef, undef, undef, undef, undef, undef, undef, undef, undef, undef, undef]) Try.func38 rfl (by simp only [Try.ntmps38, List.size_toArray, List.length_cons, List.length_nil, Nat.reduceAdd, Nat.reduceSub, Array.replicate_succ, Array.replicate_zero, List.push_toArray, List.append_toArray, List.nil_append, List.cons_append]) ?_
 refine x_seq fun K1 hK1 => ?_
 refine x_region ?_
 refine s_go (s_assign) ?_
 try simp only [opv, n1, n2, n3, n4, Value.cells]
 refine x_nil ?_
 refine hK1 _ _ ?_
 refine x_seq fun K2 hK2 => ?_
 refine x_region ?_
 refine s_go (s_move) ?_
 try simp only [opv, n1, n2, n3, n4, Value.cells]
 refine s_call en32 ?_
 try simp only [opv, n1, n2, n3, n4, Value.cells, List.map_toArray, List.map_cons, List.map_nil, List.append_toArray, List.cons_append, List.nil_append, Array.append_empty]
 refine CallR.mono (c_ref10Norm _ A c l (hS.hasRd (by repeat (first | exact Has.head | apply Has.tail))) hv (by omega)) ?_
 rintro _ w1 ⟨B1, d1, rfl, hR1⟩
 replace hS := hS.back hR1
 try simp only [opv, n1, n2, n3, n4, Value.cells]
 refine s_go (s_move) ?_
 try simp only [opv, n1, n2, n3, n4, Value.cells]
 refine s_call en32 ?_
 try simp only [opv, n1, n2, n3, n4, Value.cells, List.map_toArray, List.map_cons, List.map_nil, List.append_toArray, List.cons_append, List.nil_append, Array.append_empty]
 refine CallR.mono (c_ref10Norm _ B d r (hS.hasRd (by repeat (first | exact Has.head | apply Has.tail))) hv2 (by omega)) ?_
 rintro _ w2 ⟨B2, d2, rfl, hR2⟩
 replace hS := hS.back hR2
 try simp only [opv, n1, n2, n3, n4, Value.cells]
 try simp only [hsl]
 obtain ⟨s, hsl⟩ : ∃ s, normP l = s := ⟨_, rfl⟩
 obtain ⟨t, htl⟩ : ∃ t, normP r = t := ⟨_, rfl⟩
 have hsn := norm_len l
 have htn := norm_len r
 have hss := norm_sta hv
 have hts := norm_sta hv2
 have hmg0 := merge_norm hv hv2
 rw [hsl] at hS hsn hss hmg0
 rw [htl] at hS htn hts hmg0
 have hso := hss.ok
 have hto := hts.ok
 have hsl2 := arows_len s
 have htl2 := arows_len t
 try simp only [hsl, htl]
 refine s_go (s_assign) ?_
 try simp only [opv, n1, n2, n3, n4, Value.cells]
 refine s_go (s_assign) ?_
 try simp only [opv, n1, n2, n3, n4, Value.cells]
 refine x_nil ?_
 refine hK2 _ _ ?_
 refine x_seq fun K3 hK3 => ?_
 refine x_seq fun K4 hK4 => ?_
 refine x_region ?_
 refine s_go (s_assign) ?_
 try simp only [opv, n1, n2, n3, n4, Value.cells]
 refine x_nil ?_
 refine hK4 _ _ ?_
 refine x_block ?_
 refine x_loop [4, 5, 6, 7, 12, 13, 14, 15, 16, 17, 18, 19, 20, 21, 22, 23, 24, 25, 26, 27, 28, 29, 30, 31, 32, 33, 34, 35, 36, 37, 38, 39] (fun m f w => ∃ (k : Nat), k ≤ s.length ∧ m = s.length - k ∧ f 5 = .int .i64 (k : Int) ∧ leqP (s.take k) t = true ∧ St NoB w0 w [.rd B2 21 (t).length (arows (t)), .rd B1 21 (s).length (arows (s))]) (s.length) ?init1 (fun m1 f1 wl1 hI => ?_)
 case init1 =>
  try simp only [opv, n1, n2, n3, n4, Value.cells]
  exact ⟨0, by omega, rfl, rfl, rfl, hS.sel (by repeat (first | exact Sel.nil | (refine Sel.cons (by repeat (first | exact Del.head | apply Del.tail)) ?_)))⟩
 obtain ⟨k, hk0, hm, h5, hlq, hS⟩ := hI
 simp only [clob, List.foldl, n3, n4, h5]
 obtain ⟨x, hx⟩ : ∃ x, s.getD k [] = x := ⟨_, rfl⟩
 refine x_seq fun K5 hK5 => ?_
 refine x_seq fun K6 hK6 => ?_
 refine x_region ?_
 refine s_go (s_move) ?_
 try simp only [opv, n1, n2, n3, n4, Value.cells]
 refine s_go (s_move) ?_
 try simp only [opv, n1, n2, n3, n4, Value.cells]
 refine s_go (s_len_sl Try.underlying24) ?_
 try simp only [opv, n1, n2, n3, n4, Value.cells]
 refine s_go (s_lss) ?_
 try simp only [opv, n1, n2, n3, n4, Value.cells]
 refine x_nil ?_
 refine hK6 _ _ ?_
 refine x_cond (ht := fun hc1 => ?_) (hf := fun hc1 => ?_)
 ·
  try simp only [decide_eq_true_eq, decide_eq_false_iff_not, Bool.not_eq_true', Bool.not_eq_false', Int.not_lt, Int.not_le, ne_eq, Decidable.not_not, bne_iff_ne, beq_iff_eq, not_true_eq_false, not_false_eq_true] at hc1
  have hax : AtomOk x := by rw [← hx]; exact hso.get (by omega)
  have hxl := hax.len
  have hkx := hax.key
  have hvx := hax.val
  have hk12 := hkx.len
  refine x_skip ?_
  refine hK5 _ _ ?_
  refine x_seq fun K7 hK7 => ?_
  refine x_block ?_
  refine x_seq fun K8 hK8 => ?_
  refine x_region ?_
  refine s_go (s_move) ?_
  try simp only [opv, n1, n2, n3, n4, Value.cells]
  refine s_go (s_move) ?_
  try simp only [opv, n1, n2, n3, n4, Value.cells]
  refine s_go (s_move) ?_
  try simp only [opv, n1, n2, n3, n4, Value.cells]
  first | refine s_go (m_indexAddr_rd Try.underlying24 ti39 (hS := hS)) ?_ | refine s_go (m_indexAddr_vec Try.underlying24 ti39 (hS := hS)) ?_
  try simp only [opv, n1, n2, n3, n4, Value.cells, Nat.mul_one, Nat.zero_add, Int.toNat_natCast, Int.reduceToNat]
  first | refine s_go (m_fieldAddr Try.underlying39 (hi := ti34)) ?_ | refine s_go (m_fieldAddr_rd Try.underlying39 (hi := ti34) (hS := hS)) ?_ | refine s_go (m_fieldAddr_vec Try.underlying39 (hi := ti34) (hS := hS)) ?_
  try simp only [opv, n1, n2, n3, n4, Value.cells, Nat.zero_add, Nat.add_zero, List.getElem_toArray, List.getElem_cons_zero, List.getElem_cons_succ]
  first | refine s_go (m_load_row Try.underlying34 (hi := ti34) (hS := hS) (hfit := by rw [arows_len]; omega)) ?_ | refine s_go (m_loada_obj Try.underlying34 (hi := ti34) (hS := hS) (hfit := by rw [arows_len]; omega)) ?_ | refine s_go (m_loada_bx Try.underlying34 (hi := ti34) (hS := hS) (hfit := by rw [arows_len]; omega)) ?_ | refine s_go (m_loada_rd Try.underlying34 (hi := ti34) (hS := hS) (hfit := by rw [arows_len]; omega)) ?_ | refine s_go (m_loada_vec Try.underlying34 (hi := ti34) (hS := hS) (hfit := by rw [arows_len]; omega)) ?_
  try simp only [opv, n1, n2, n3, n4, Value.cells, List.getElem_toArray, List.getElem_cons_zero, List.getElem_cons_succ]
  rw [arow_key (by omega) hso, hx]
  refine s_call en113 ?_
  try simp only [opv, n1, n2, n3, n4, Value.cells, List.map_toArray, List.map_cons, List.map_nil, List.append_toArray, List.cons_append, List.nil_append, Array.append_empty]
  refine CallR.mono (c_ref10find _ B2 d2 t (hS.hasRd (by repeat (first | exact Has.head | apply Has.tail))) hto (by omega) (akey x) hkx) ?_
  rintro _ w3 ⟨rfl, hE3⟩
  replace hS := hS.ext hE3
  try simp only [opv, n1, n2, n3, n4, Value.cells]
  refine s_go (s_move) ?_
  try simp only [opv, n1, n2, n3, n4, Value.cells]
  refine s_go (s_extract (hv := rfl)) ?_
  try simp only [List.getElem_toArray, List.getElem_cons_zero, List.getElem_cons_succ]
  try simp only [opv, n1, n2, n3, n4, Value.cells]
  refine s_go (s_extract (hv := rfl)) ?_
  try simp only [List.getElem_toArray, List.getElem_cons_zero, List.getElem_cons_succ]
  try simp only [opv, n1, n2, n3, n4, Value.cells]
  refine m_alloc ti37 hS (fun w4 g4 hS => ?_)
  try simp only [opv, n1, n2, n3, n4, Value.cells, Array.toArray_toList] at hS ⊢
  have hfl9 := (fndD_ok (k := akey x) hto).len
  replace hS : St _ _ w4 (.obj g4 (.cells (VA v9) 37 (0, 0)) :: _) := hS
  first | refine m_store_obj ti37 (hS := hS) (hc := by first | exact zi_set rfl (by omega) | exact zi_whole (by omega) (by omega) | (first | exact splice_ic (by first | omega | (simp [*]; done) | (simp [*]; omega)) | exact splice_il (by first | omega | (simp [*]; done) | (simp [*]; omega)) | exact splice_whole (by first | (simp [opv, Value.cells, *]; done) | rfl) | (simp only [opv, n1, n2, Value.cells, splice, List.take_succ_cons, List.take_zero, List.drop_succ_cons, List.drop_zero, List.length_cons, List.length_nil, Nat.zero_add, Nat.reduceAdd, List.append_assoc, List.cons_append, List.nil_append]; rfl))) (hv := by first | rfl | (show (zi _ _).toArray.size = _; rw [zi_size (by omega)]; rfl) | (simp [opv, Value.cells, *]; done)) (hfit := by first | omega | (rw [zi_size (by omega)]; first | rfl | decide) | (simp only [ic_size, List.length_map, List.size_toArray]; first | omega | decide) | rfl | (simp [*]; done) | (simp [*]; omega)) (h1 := by first | exact zi_one _ _ | exact ic_one _ _ | simp [opv, Value.cells, Value.oneCell']) (h := fun w5 hS => ?_) | refine m_store_vec ti37 (hS := hS) (hc := by first | exact zi_set rfl (by omega) | exact zi_whole (by omega) (by omega) | (first | exact splice_ic (by first | omega | (simp [*]; done) | (simp [*]; omega)) | exact splice_il (by first | omega | (simp [*]; done) | (simp [*]; omega)) | exact splice_whole (by first | (simp [opv, Value.cells, *]; done) | rfl) | (simp only [opv, n1, n2, Value.cells, splice, List.take_succ_cons, List.take_zero, List.drop_succ_cons, List.drop_zero, List.length_cons, List.length_nil, Nat.zero_add, Nat.reduceAdd, List.append_assoc, List.cons_append, List.nil_append]; rfl))) (hv := by first | rfl | (show (zi _ _).toArray.size = _; rw [zi_size (by omega)]; rfl) | (simp [opv, Value.cells, *]; done)) (hfit := by first | omega | (rw [zi_size (by omega)]; first | rfl | decide) | (simp only [ic_size, List.length_map, List.size_toArray]; first | omega | decide) | rfl | (simp [*]; done) | (simp [*]; omega)) (h1 := by first | exact zi_one _ _ | exact ic_one _ _ | simp [opv, Value.cells, Value.oneCell']) (h := fun w5 hS => ?_)
  try simp only [opv, n1, n2, n3, n4, Value.cells, Array.toArray_toList] at hS ⊢
  refine s_go (s_assign) ?_
  try simp only [opv, n1, n2, n3, n4, Value.cells]
  have hwo : ValOk ((fnd (akey x) t).getD v9) := fndD_ok hto
  obtain ⟨u, hu⟩ : ∃ u, (fnd (akey x) t).getD v9 = u := ⟨_, rfl⟩
  rw [hu] at hwo hS
  have hul := hwo.len
  refine x_nil ?_
  refine hK8 _ _ ?_
  refine x_seq fun K9 hK9 => ?_
  refine x_quiet (by kernel_rfl) (by kernel_rfl) hS ?_
  refine q_go (fun w hS => s_move) ?_
  try simp only [opv, n1, n2, n3, n4, Value.cells]
  refine q_go (fun w hS => s_not) ?_
  try simp only [opv, n1, n2, n3, n4, Value.cells]
  refine q_go (fun w hS => s_move) ?_
  try simp only [opv, n1, n2, n3, n4, Value.cells]
  refine q_part 30 rfl (fun hp1 => ?_) (fun hp1 => ?_)
  ·
   try simp only [n3, n4]
   try simp only [decide_eq_true_eq, decide_eq_false_iff_not, Bool.not_eq_true', Bool.not_eq_false', Int.not_lt, Int.not_le, ne_eq, Decidable.not_not] at hp1
   have hlf : leqP s t = false := leq_no (k := k) (by omega) (by rw [hx, leqA_non (is_none (o := fnd (akey x) t) (by simpa using hp1))])
   refine q_off (yi (t := 30) rfl rfl) ?_
   try simp only [opv, n1, n2, n3, n4, Value.cells]
   refine q_off (yi (t := 30) rfl rfl) ?_
   try simp only [opv, n1, n2, n3, n4, Value.cells]
   refine q_off (yi (t := 30) rfl rfl) ?_
   try simp only [opv, n1, n2, n3, n4, Value.cells]
   refine q_off (yi (t := 30) rfl rfl) ?_
   try simp only [opv, n1, n2, n3, n4, Value.cells]
   refine q_off (yi (t := 30) rfl rfl) ?_
   try simp only [opv, n1, n2, n3, n4, Value.cells]
   refine q_off (yi (t := 30) rfl rfl) ?_
   try simp only [opv, n1, n2, n3, n4, Value.cells]
   refine q_off (yi (t := 30) rfl rfl) ?_
   try simp only [opv, n1, n2, n3, n4, Value.cells]
   refine q_off (yi (t := 30) rfl rfl) ?_
   try simp only [opv, n1, n2, n3, n4, Value.cells]
   first | refine q_go (fun w hS => s_pick_t) ?_ | refine q_go (fun w hS => s_pick_f) ?_
   try simp only [opv, n1, n2, n3, n4, Value.cells]
   clear hS
   refine q_nil fun w6 hS => ?_
   refine hK9 _ _ ?_
   refine x_cond_t (h := ?_)
   try have hlf : leqP s t = false := leq_no (k := k) (by omega) (by rw [hx, leqA_val hfs]; simpa using @c)
   refine x_seq fun K10 hK10 => ?_
   refine x_region ?_
   refine s_go (s_assign) ?_
   try simp only [opv, n1, n2, n3, n4, Value.cells]
   refine x_nil ?_
   refine hK10 _ _ ?_
   refine x_ret ?_
   refine r_tmp rfl ?_
   rw [hsl, htl]
   first | exact ⟨by rw [hlf]; rfl, hS.ext_of⟩ | exact ⟨by rw [hlq]; rfl, hS.ext_of⟩
  ·
   try simp only [n3, n4]
   try simp only [decide_eq_true_eq, decide_eq_false_iff_not, Bool.not_eq_true', Bool.not_eq_false', Int.not_lt, Int.not_le, ne_eq, Decidable.not_not] at hp1
   have hfs := is_some (d := v9) (show (fnd (akey x) t).isSome = true by simpa using hp1)
   rw [hu] at hfs
   refine q_on (yi (t := 30) rfl rfl) ?_
   first | refine q_go (fun w hS => m_load_row Try.underlying37 (hi := ti37) (hS := hS) (hfit := by first | omega | (rw [zi_size (by omega)]; first | rfl | decide) | (simp only [ic_size, List.length_map, List.size_toArray]; first | omega | decide) | rfl | (simp [*]; done) | (simp [*]; omega))) ?_ | refine q_go (fun w hS => m_loada_obj Try.underlying37 (hi := ti37) (hS := hS) (hfit := by first | omega | (rw [zi_size (by omega)]; first | rfl | decide) | (simp only [ic_size, List.length_map, List.size_toArray]; first | omega | decide) | rfl | (simp [*]; done) | (simp [*]; omega))) ?_ | refine q_go (fun w hS => m_loada_bx Try.underlying37 (hi := ti37) (hS := hS) (hfit := by first | omega | (rw [zi_size (by omega)]; first | rfl | decide) | (simp only [ic_size, List.length_map, List.size_toArray]; first | omega | decide) | rfl | (simp [*]; done) | (simp [*]; omega))) ?_ | refine q_go (fun w hS => m_loada_rd Try.underlying37 (hi := ti37) (hS := hS) (hfit := by first | omega | (rw [zi_size (by omega)]; first | rfl | decide) | (simp only [ic_size, List.length_map, List.size_toArray]; first | omega | decide) | rfl | (simp [*]; done) | (simp [*]; omega))) ?_ | refine q_go (fun w hS => m_loada_vec Try.underlying37 (hi := ti37) (hS := hS) (hfit := by first | omega | (rw [zi_size (by omega)]; first | rfl | decide) | (simp only [ic_size, List.length_map, List.size_toArray]; first | omega | decide) | rfl | (simp [*]; done) | (simp [*]; omega))) ?_
   try simp only [opv, n1, n2, n3, n4, Value.cells, List.getElem_toArray, List.getElem_cons_zero, List.getElem_cons_succ]
   refine q_on (yi (t := 30) rfl rfl) ?_
   refine q_go (fun w hS => s_move) ?_
   try simp only [opv, n1, n2, n3, n4, Value.cells]
   refine q_on (yi (t := 30) rfl rfl) ?_
   refine q_go (fun w hS => s_move) ?_
   try simp only [opv, n1, n2, n3, n4, Value.cells]
   refine q_on (yi (t := 30) rfl rfl) ?_
   first | refine q_go (fun w hS => m_indexAddr_rd Try.underlying24 ti39 (hS := hS)) ?_ | refine q_go (fun w hS => m_indexAddr_vec Try.underlying24 ti39 (hS := hS)) ?_
   try simp only [opv, n1, n2, n3, n4, Value.cells, Nat.mul_one, Nat.zero_add, Int.toNat_natCast, Int.reduceToNat]
   refine q_on (yi (t := 30) rfl rfl) ?_
   first | refine q_go (fun w hS => m_fieldAddr Try.underlying39 (hi := ti37)) ?_ | refine q_go (fun w hS => m_fieldAddr_rd Try.underlying39 (hi := ti37) (hS := hS)) ?_ | refine q_go (fun w hS => m_fieldAddr_vec Try.underlying39 (hi := ti37) (hS := hS)) ?_
   try simp only [opv, n1, n2, n3, n4, Value.cells, Nat.zero_add, Nat.add_zero, List.getElem_toArray, List.getElem_cons_zero, List.getElem_cons_succ]
   refine q_on (yi (t := 30) rfl rfl) ?_
   first | refine q_go (fun w hS => m_load_row Try.underlying37 (hi := ti37) (hS := hS) (hfit := by rw [arows_len]; omega)) ?_ | refine q_go (fun w hS => m_loada_obj Try.underlying37 (hi := ti37) (hS := hS) (hfit := by rw [arows_len]; omega)) ?_ | refine q_go (fun w hS => m_loada_bx Try.underlying37 (hi := ti37) (hS := hS) (hfit := by rw [arows_len]; omega)) ?_ | refine q_go (fun w hS => m_loada_rd Try.underlying37 (hi := ti37) (hS := hS) (hfit := by rw [arows_len]; omega)) ?_ | refine q_go (fun w hS => m_loada_vec Try.underlying37 (hi := ti37) (hS := hS) (hfit := by rw [arows_len]; omega)) ?_
   try simp only [opv, n1, n2, n3, n4, Value.cells, List.getElem_toArray, List.getElem_cons_zero, List.getElem_cons_succ]
   rw [arow_val (by omega) hso, hx]
   refine q_on (yi (t := 30) rfl rfl) ?_
   apply q_call en120
   case H =>
     intro w hS
     try simp only [opv, n1, n2, n3, n4, List.map_toArray, List.map_cons, List.map_nil, List.append_toArray, List.cons_append, List.nil_append, Array.append_empty]
     refine CallR.mono (c_ref09Over u (aval x) hwo hvx _) ?_
     rintro _ w1 ⟨rfl, hE⟩; exact ⟨rfl, hS.ext hE⟩
   try simp only [opv, n1, n2, n3, n4, Value.cells]
   refine q_on (yi (t := 30) rfl rfl) ?_
   refine q_go (fun w hS => s_not) ?_
   try simp only [opv, n1, n2, n3, n4, Value.cells]
   first | refine q_go (fun w hS => s_pick_t) ?_ | refine q_go (fun w hS => s_pick_f) ?_
   try simp only [opv, n1, n2, n3, n4, Value.cells]
   clear hS
   refine q_nil fun w7 hS => ?_
   refine hK9 _ _ ?_
   refine x_cond (ht := fun hc3 => ?_) (hf := fun hc3 => ?_)
   ·
    try simp only [decide_eq_true_eq, decide_eq_false_iff_not, Bool.not_eq_true', Bool.not_eq_false', Int.not_lt, Int.not_le, ne_eq, Decidable.not_not, bne_iff_ne, beq_iff_eq, not_true_eq_false, not_false_eq_true] at hc3
    try have hlf : leqP s t = false := leq_no (k := k) (by omega) (by rw [hx, leqA_val hfs]; simpa using hc3)
    refine x_seq fun K11 hK11 => ?_
    refine x_region ?_
    refine s_go (s_assign) ?_
    try simp only [opv, n1, n2, n3, n4, Value.cells]
    refine x_nil ?_
    refine hK11 _ _ ?_
    refine x_ret ?_
    refine r_tmp rfl ?_
    rw [hsl, htl]
    first | exact ⟨by rw [hlf]; rfl, hS.ext_of⟩ | exact ⟨by rw [hlq]; rfl, hS.ext_of⟩
   ·
    try simp only [decide_eq_true_eq, decide_eq_false_iff_not, Bool.not_eq_true', Bool.not_eq_false', Int.not_lt, Int.not_le, ne_eq, Decidable.not_not, bne_iff_ne, beq_iff_eq, not_true_eq_false, not_false_eq_true] at hc3
    try have hov : overV u (aval x) = true := by simpa using hc3
    refine x_skip ?_
    refine hK7 _ _ ?_
    refine x_region ?_
    refine s_go (s_move) ?_
    try simp only [opv, n1, n2, n3, n4, Value.cells]
    refine s_go (s_add (hc := by first | exact wr_i64 (by omega) (by omega) | rfl)) ?_
    try simp only [opv, n1, n2, n3, n4, Value.cells]
    refine s_go (s_assign) ?_
    try simp only [opv, n1, n2, n3, n4, Value.cells]
    refine x_nil ?_
    refine loop_back (m' := s.length - (k + 1)) (by simp only [clob, List.foldl, n1, n2, n3, n4]) ?_ ?_
    · try simp only [opv, n1, n2, n3, n4, Value.cells]
      exact ⟨k + 1, by omega, by omega, by rfl, leq_step (by omega) hx hlq (by rw [leqA_val hfs]; exact hov), hS.sel (by repeat (first | exact Sel.nil | (refine Sel.cons (by repeat (first | exact Del.head | apply Del.tail)) ?_)))⟩
    · omega
 ·
  try simp only [decide_eq_true_eq, decide_eq_false_iff_not, Bool.not_eq_true', Bool.not_eq_false', Int.not_lt, Int.not_le, ne_eq, Decidable.not_not, bne_iff_ne, beq_iff_eq, not_true_eq_false, not_false_eq_true] at hc1
  obtain rfl : k = s.length := by omega
  rw [List.take_of_length_le (Nat.le_refl _)] at hlq
  refine x_exit (look_here ?_)
  refine hK3 _ _ ?_
  refine x_seq fun K12 hK12 => ?_
  refine x_region ?_
  refine s_go (s_assign) ?_
  try simp only [opv, n1, n2, n3, n4, Value.cells]
  refine x_nil ?_
  refine hK12 _ _ ?_
  refine x_ret ?_
  refine r_tmp rfl ?_
  rw [hsl, htl]
  first | exact ⟨by rw [hlf]; rfl, hS.ext_of⟩ | exact ⟨by rw [hlq]; rfl, hS.ext_of⟩
end Go.Proofs.Ytmgacmkikefpjaa
set_option linter.unusedSimpArgs false
set_option linter.unusedVariables false
set_option maxHeartbeats 1000000
set_option maxRecDepth 100000
namespace Go.Proofs.Ytmgacmkikefpjaa
open Go.RowKit

def k10 : List Int := [1, 1, 97, 0, 0, 0, 0, 0, 0, 0, 2, 3]
def b10 : List Int := k10 ++ [2, 0, 0, 0, 0, 0, 0, 0, 0]
end Go.Proofs.Ytmgacmkikefpjaa
set_option linter.unusedSimpArgs false
set_option linter.unusedVariables false
set_option maxHeartbeats 1000000
set_option maxRecDepth 100000
namespace Go.Proofs.Ytmgacmkikefpjaa
open Go.RowKit

def noteK (c : Nat) : List Int := mkKey 4 c nm0 0 0
def noteV (l : List (List Int)) (c : Nat) : List Int := (fnd (noteK c) (normP l)).getD v9
def noteN (l : List (List Int)) (c : Nat) : Nat := kn (noteV l c) 0 / 256 % 4294967296
def noteE (l : List (List Int)) (r : Nat) (tx : List Int) (c : Nat) : Int := if 16 ≤ r ∨ (¬ tx = nm0 ∧ nright tx = false) then 1 else if noteN l c = 4294967295 then 8 else 0
end Go.Proofs.Ytmgacmkikefpjaa
set_option linter.unusedSimpArgs false
set_option linter.unusedVariables false
set_option maxHeartbeats 1000000
set_option maxRecDepth 100000
namespace Go.Proofs.Ytmgacmkikefpjaa
open Go.RowKit

theorem one_sta {a : List Int} (h : AtomOk a) (hr : atomR a = true) : StaR [a] := ⟨fun b hb => by rw [List.mem_singleton] at hb; rw [hb]; exact h, fun b hb => by rw [List.mem_singleton] at hb; rw [hb]; exact hr, List.pairwise_singleton _ _⟩
section
variable {l : List (List Int)} {r c : Nat} {tx : List Int} (hv : AOks l) (hr8 : r < 256) (hc : c < 65536) (h8 : tx.length = 8) (hb : Byt tx) (h : noteE l r tx c = 0)
include hv hr8 hc h8 hb h
end
end Go.Proofs.Ytmgacmkikefpjaa
set_option linter.unusedSimpArgs false
set_option linter.unusedVariables false
set_option maxHeartbeats 1000000
set_option maxRecDepth 100000
namespace Go.Proofs.Ytmgacmkikefpjaa
open Go.RowKit

section
variable {P : Program} {fn : Func} {t u : Nat} {T U : TypeId} {l : List Value} {w w0 : World} {S : Nat → Prop} {L : List Res} {R : Value → World → Prop} {dsc dsc2 : TypeDesc} {g g2 : Nat} {cs cs2 : Array Value} {ct ct2 : TypeId} {f f2 : Nat × Nat} {x y : Value}
theorem r_cell_cell_oo (h : fn.results = #[.cell t T, .cell u U]) (hu : P.underlying T = some dsc) (hu2 : P.underlying U = some dsc2) (hd : isAggD dsc = false := by rfl) (hd2 : isAggD dsc2 = false := by rfl) (hp : l.getD t undef = .pointer (some ⟨g, 0, none⟩) := by rfl) (hp2 : l.getD u undef = .pointer (some ⟨g2, 0, none⟩) := by rfl) (hS : St S w0 w L) (hm : Has L (.obj g (.cells cs ct f)) := by repeat (first | exact Has.head | apply Has.tail)) (hm2 : Has L (.obj g2 (.cells cs2 ct2 f2)) := by repeat (first | exact Has.head | apply Has.tail)) (hv : cs[0]? = some x := by rfl) (hv2 : cs2[0]? = some y := by rfl) (hR : R (.tuple #[x, y]) w) : Rt P fn R (fr l) w :=
  r_cell_cell h hp (obj_loads_one hu hd hS hm hv) hp2 (obj_loads_one hu2 hd2 hS hm2 hv2) hR
end
/-- what of a state another one lacks -/
def difS (t s : List (List Int)) : List (List Int) := s.filter fun a => !leqA t a
abbrev difP (l r : List (List Int)) : List (List Int) := difS (normP r) (normP l)
theorem dif_take {t s : List (List Int)} {k : Nat} {x : List Int} (hk : k < s.length) (hx : s.getD k [] = x) : (leqA t x = false → difS t (s.take (k + 1)) = difS t (s.take k) ++ [x]) ∧ (leqA t x = true → difS t (s.take (k + 1)) = difS t (s.take k)) := by
  rw [take_snoc hk, hx, difS, List.filter_append]
  refine ⟨fun h => ?_, fun h => ?_⟩
  · rw [List.filter_cons_of_pos (by rw [h]; rfl)]; rfl
  · rw [List.filter_cons_of_neg (by rw [h]; decide)]; simp [difS]
theorem dif_len (t s : List (List Int)) : (difS t s).length ≤ s.length := List.length_filter_le _ _
theorem lacks_one {r : List (List Int)} {x u : List Int} (hv2 : AOks r) (hx : AtomOk x) (hR : atomR x = true) (hf : fnd (akey x) (normP r) = some u) : AtomOk (akey x ++ u) ∧ leqP (normP [x]) (normP [akey x ++ u]) = overV u (aval x) := by
  obtain ⟨a, ha, hk, rfl⟩ := fnd_mem hf
  have e : akey x ++ aval a = a := by rw [← hk, kv_atom]
  have hs := norm_sta hv2
  rw [e, norm_id (one_sta hx hR), norm_id (one_sta (hs.ok a ha) (hs.right a ha))]
  refine ⟨hs.ok a ha, ?_⟩
  show (leqA [a] x && true) = _
  rw [leqA, fnd, if_pos hk, Bool.and_true]
theorem ok_one {a : List Int} (h : AtomOk a) : AOks [a] := fun b hb => by rw [List.mem_singleton] at hb; rw [hb]; exact h
end Go.Proofs.Ytmgacmkikefpjaa
