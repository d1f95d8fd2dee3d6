/- Rules, plain words and walks that the claim leans on: Gi, Gk, Na, Nb, Nc, Qt, Qa, Qb, Qc, Qd, Qe. -/
import Derived.Test.YtffmanidnlbjjaaZTagsWin4
set_option linter.unusedSimpArgs false
set_option linter.unusedVariables false
set_option linter.unusedSimpArgs false
set_option linter.unusedVariables false
set_option maxHeartbeats 1000000
set_option maxRecDepth 100000
namespace Go.Proofs.Ytffmanidnlbjjaa
open Go.RowKit
theorem c_ref10Join (w0 : World) (A : Option Addr) (c : Nat) (l : List (List Int)) (hr : Rd w0 A 21 l.length (arows l)) (hv : AOks l) (B : Option Addr) (d : Nat) (r : List (List Int)) (hr2 : Rd w0 B 21 r.length (arows r)) (hv2 : AOks r) (hn : l.length + r.length ≤ 1000000000)  :
    CallR Try.prog 17 #[.slice A l.length c, .slice B r.length d] w0 fun v w' => ∃ A c, v = .slice A (normP (l ++ r)).length c ∧ St NoB w0 w' [.vec A c 54 21 (normP (l ++ r)).length (arows (normP (l ++ r)))] := by
 have hS := St.rd2 (S := NoB) hr hr2
 refine c_enter (l := [.slice A l.length c, .slice B r.length d, undef, undef, undef, undef, undef, undef, undef, undef, undef, undef, undef, undef, undef, undef, undef, undef, undef, undef, undef, undef, undef, undef, undef, undef, undef, undef, undef, undef, undef, undef, undef, undef, undef, undef, undef, undef, undef, undef, undef, undef, undef, undef, undef, undef, undef, undef, undef, undef, undef, undef, undef, undef, undef, undef, undef, undef, undef, undef, undef, undef, undef, undef, undef, undef, undef, undef, undef, undef, undef, undef, undef, undef, undef, undef, undef, undef, undef, undef, undef, undef, undef, undef, undef, undef, undef, undef, undef, undef, undef, undef, undef, undef, undef, undef, undef, undef, undef, undef, undef, undef, undef, undef, undef, undef, undef]) Try.func17 rfl (by simp only [Try.ntmps17, List.size_toArray, List.length_cons, List.length_nil, Nat.reduceAdd, Nat.reduceSub, Array.replicate_succ, Array.replicate_zero, List.push_toArray, List.append_toArray, List.nil_append, List.cons_append]) ?_
 refine x_seq fun K1 hK1 => ?_
 refine x_region ?_
 refine s_go (s_assign) ?_
 try simp only [opv, nZ, Value.cells]
 refine x_nil ?_
 refine hK1 _ _ ?_
 refine x_seq fun K2 hK2 => ?_
 refine x_region ?_
 refine s_go (s_move) ?_
 try simp only [opv, nZ, Value.cells]
 refine s_call en27 ?_
 try simp only [opv, nZ, Value.cells, List.map_toArray, List.map_cons, List.map_nil, List.append_toArray, List.cons_append, List.nil_append, Array.append_empty]
 refine CallR.mono (c_ref10Norm _ A c l (hS.hasRd (by repeat (first | exact Has.head | apply Has.tail))) hv (by omega)) ?_
 rintro _ w1 ⟨B1, d1, rfl, hR1⟩
 replace hS := hS.back hR1
 try simp only [opv, nZ, Value.cells]
 refine s_go (s_move) ?_
 try simp only [opv, nZ, Value.cells]
 refine s_call en27 ?_
 try simp only [opv, nZ, Value.cells, List.map_toArray, List.map_cons, List.map_nil, List.append_toArray, List.cons_append, List.nil_append, Array.append_empty]
 refine CallR.mono (c_ref10Norm _ B d r (hS.hasRd (by repeat (first | exact Has.head | apply Has.tail))) hv2 (by omega)) ?_
 rintro _ w2 ⟨B2, d2, rfl, hR2⟩
 replace hS := hS.back hR2
 try simp only [opv, nZ, Value.cells]
 try simp only [hsl]
 obtain ⟨s, hsl⟩ : ∃ s, normP l = s := ⟨_, rfl⟩
 obtain ⟨t, htl⟩ : ∃ t, normP r = t := ⟨_, rfl⟩
 have hsn := norm_len l
 have htn := norm_len r
 have hss := norm_sta hv
 have hts := norm_sta hv2
 have hmg0 := merge_norm hv hv2
 rw [hsl] at hS hsn hss hmg0
 rw [htl] at hS htn hts hmg0
 have hso := hss.ok
 have hto := hts.ok
 have hsl2 := arows_len s
 have htl2 := arows_len t
 try simp only [hsl, htl]
 refine s_go (s_assign) ?_
 try simp only [opv, nZ, Value.cells]
 refine s_go (s_assign) ?_
 try simp only [opv, nZ, Value.cells]
 refine x_nil ?_
 refine hK2 _ _ ?_
 refine x_seq fun K3 hK3 => ?_
 refine x_region ?_
 replace hS := hS.nil_vec 54 21
 refine s_go (s_assign) ?_
 try simp only [opv, nZ, Value.cells]
 refine x_nil ?_
 refine hK3 _ _ ?_
 refine x_seq fun K4 hK4 => ?_
 refine x_region ?_
 refine s_go (s_assign) ?_
 try simp only [opv, nZ, Value.cells]
 refine s_go (s_assign) ?_
 try simp only [opv, nZ, Value.cells]
 refine x_nil ?_
 refine hK4 _ _ ?_
 refine x_seq fun K5 hK5 => ?_
 refine x_block ?_
 refine x_loop [5, 6, 7, 12, 13, 14, 15, 16, 17, 18, 19, 20, 21, 22, 23, 24, 25, 26, 27, 28, 29, 30, 31, 32, 33, 34, 35, 36, 37, 38, 39, 40, 41, 42, 43, 44, 45, 46, 47, 48, 49, 50, 51, 52, 53, 54, 55, 56, 57, 58, 59, 60, 61, 62, 63, 64, 65, 66, 67, 68, 69, 70, 71, 72, 73, 74, 75, 76, 77, 78, 79, 80, 81, 82, 83, 84, 85, 86, 87, 88, 89, 90, 91, 92, 93, 94, 95, 96, 97, 98, 99, 100, 101, 102, 103, 104, 105] (fun m f w => ∃ (i k : Nat) (C : Option Addr) (e : Nat) (o : List (List Int)), i ≤ s.length ∧ k ≤ t.length ∧ (s.length - i) + (t.length - k) ≤ m ∧ f 6 = .int .i64 (i : Int) ∧ f 7 = .int .i64 (k : Int) ∧ f 5 = .slice C o.length e ∧ o ++ mergeP (s.drop i) (t.drop k) = mergeP s t ∧ o.length ≤ i + k ∧ St NoB w0 w [.vec C e 54 21 (o).length (arows (o)), .rd B2 21 (t).length (arows (t)), .rd B1 21 (s).length (arows (s))]) (s.length + t.length) ?init1 (fun m1 f1 wl1 hI => ?_)
 case init1 =>
  try simp only [opv, nZ, Value.cells]
  exact ⟨0, 0, none, 0, [], by omega, by omega, by omega, rfl, rfl, rfl, rfl, by simp, hS.selA⟩
 obtain ⟨i, k, C, e, o, hi, hk, hmm, h6, h7, h5, hmo, hol, hS⟩ := hI
 simp only [clob, List.foldl, n3, n4, h6, h7, h5]
 obtain ⟨x, hx⟩ : ∃ x, s.getD i [] = x := ⟨_, rfl⟩
 obtain ⟨y, hy⟩ : ∃ y, t.getD k [] = y := ⟨_, rfl⟩
 refine x_seq fun K6 hK6 => ?_
 refine x_seq fun K7 hK7 => ?_
 refine x_region ?_
 refine s_go (s_move) ?_
 try simp only [opv, nZ, Value.cells]
 refine s_go (s_move) ?_
 try simp only [opv, nZ, Value.cells]
 refine s_go (s_len_sl Try.underlying22) ?_
 try simp only [opv, nZ, Value.cells]
 refine s_go (s_lss) ?_
 try simp only [opv, nZ, Value.cells]
 refine s_go (s_move) ?_
 try simp only [opv, nZ, Value.cells]
 refine s_part 16 rfl (fun hp1 => ?_) (fun hp1 => ?_)
 ·
  try simp only [n3, n4]
  try simp only [decide_eq_true_eq, decide_eq_false_iff_not, Bool.not_eq_true', Bool.not_eq_false', Int.not_lt, Int.not_le, ne_eq, Decidable.not_not] at hp1
  first
  | (exfalso; omega)
  | skip
    refine g_off (yi (t := 16) rfl rfl) ?_
    try simp only [opv, nZ, Value.cells]
    refine g_off (yi (t := 16) rfl rfl) ?_
    try simp only [opv, nZ, Value.cells]
    refine g_off (yi (t := 16) rfl rfl) ?_
    try simp only [opv, nZ, Value.cells]
    refine g_off (yi (t := 16) rfl rfl) ?_
    try simp only [opv, nZ, Value.cells]
    first | refine s_go (s_pick_t) ?_ | refine s_go (s_pick_f) ?_
    try simp only [opv, nZ, Value.cells]
    refine x_nil ?_
    refine hK7 _ _ ?_
    refine x_cond_t (h := ?_)
    refine x_skip ?_
    refine hK6 _ _ ?_
    refine x_block ?_
    refine x_block ?_
    refine x_seq fun K8 hK8 => ?_
    refine x_quiet (by kernel_rfl) (by kernel_rfl) hS ?_
    refine q_go (fun w hS => s_move) ?_
    try simp only [opv, nZ, Value.cells]
    refine q_go (fun w hS => s_move) ?_
    try simp only [opv, nZ, Value.cells]
    refine q_go (fun w hS => s_len_sl Try.underlying22) ?_
    try simp only [opv, nZ, Value.cells]
    refine q_go (fun w hS => s_eql) ?_
    try simp only [opv, nZ, Value.cells]
    refine q_go (fun w hS => s_move) ?_
    try simp only [opv, nZ, Value.cells]
    refine q_part 51 rfl (fun hp2 => ?_) (fun hp2 => ?_)
    ·
     try simp only [n3, n4]
     try simp only [decide_eq_true_eq, decide_eq_false_iff_not, Bool.not_eq_true', Bool.not_eq_false', Int.not_lt, Int.not_le, ne_eq, Decidable.not_not] at hp2
     first
     | (exfalso; omega)
     | skip
       have hax : AtomOk x := by rw [← hx]; exact hso.get (by omega)
       have hxl := hax.len
       have hkx := hax.key
       have hvx := hax.val
       have hmg := mg_l (s := s) (t := t) (i := i) (k := k) (by omega) hx (.inl (by omega))
       have hnx : (o ++ [x]) ++ mergeP (s.drop (i + 1)) (t.drop k) = mergeP s t := by rw [← hmo, hmg, List.append_assoc]; rfl
       refine q_off (yi (t := 51) rfl rfl) ?_
       try simp only [opv, nZ, Value.cells]
       refine q_off (yi (t := 51) rfl rfl) ?_
       try simp only [opv, nZ, Value.cells]
       refine q_off (yi (t := 51) rfl rfl) ?_
       try simp only [opv, nZ, Value.cells]
       refine q_off (yi (t := 51) rfl rfl) ?_
       try simp only [opv, nZ, Value.cells]
       refine q_off (yi (t := 51) rfl rfl) ?_
       try simp only [opv, nZ, Value.cells]
       refine q_un (yn (t := 56) rfl rfl) ?_
       try simp only [opv, nZ, Value.cells]
       refine q_un (yn (t := 56) rfl rfl) ?_
       try simp only [opv, nZ, Value.cells]
       refine q_un (yn (t := 56) rfl rfl) ?_
       try simp only [opv, nZ, Value.cells]
       refine q_un (yn (t := 56) rfl rfl) ?_
       try simp only [opv, nZ, Value.cells]
       refine q_un (yn (t := 56) rfl rfl) ?_
       try simp only [opv, nZ, Value.cells]
       refine q_un (yn (t := 56) rfl rfl) ?_
       try simp only [opv, nZ, Value.cells]
       refine q_un (yn (t := 56) rfl rfl) ?_
       try simp only [opv, nZ, Value.cells]
       refine q_un (yn (t := 56) rfl rfl) ?_
       try simp only [opv, nZ, Value.cells]
       refine q_un (yn (t := 56) rfl rfl) ?_
       try simp only [opv, nZ, Value.cells]
       refine q_un (yn (t := 56) rfl rfl) ?_
       try simp only [opv, nZ, Value.cells]
       refine q_un (yn (t := 56) rfl rfl) ?_
       try simp only [opv, nZ, Value.cells]
       refine q_off (yi (t := 51) rfl rfl) ?_
       try simp only [opv, nZ, Value.cells]
       first | refine q_go (fun w hS => s_pick_t) ?_ | refine q_go (fun w hS => s_pick_f) ?_
       try simp only [opv, nZ, Value.cells]
       refine q_go (fun w hS => s_assign) ?_
       try simp only [opv, nZ, Value.cells]
       clear hS
       refine q_nil fun w3 hS => ?_
       refine hK8 _ _ ?_
       refine x_cond_t (h := ?_)
       try (have hmg := mg_l (s := s) (t := t) (i := i) (k := k) (by omega) hx (.inr ⟨by omega, by rw [hy]; exact @c⟩))
       have hnx : (o ++ [x]) ++ mergeP (s.drop (i + 1)) (t.drop k) = mergeP s t := by rw [← hmo, hmg, List.append_assoc]; rfl
       refine x_seq fun K9 hK9 => ?_
       refine x_region ?_
       refine s_go (s_move) ?_
       try simp only [opv, nZ, Value.cells]
       refine s_go (s_move) ?_
       try simp only [opv, nZ, Value.cells]
       refine s_go (s_move) ?_
       try simp only [opv, nZ, Value.cells]
       first | refine s_go (m_indexAddr_rd Try.underlying22 ti54 (hS := hS)) ?_ | refine s_go (m_indexAddr_vec Try.underlying22 ti54 (hS := hS)) ?_
       try simp only [opv, nZ, Value.cells, Nat.mul_one, Nat.zero_add, Int.toNat_natCast, Int.reduceToNat]
       first | refine s_go (m_load_row Try.underlying54 (hi := ti54) (hS := hS) (hfit := by rw [arows_len]; omega)) ?_ | refine s_go (m_loada_obj Try.underlying54 (hi := ti54) (hS := hS) (hfit := by rw [arows_len]; omega)) ?_ | refine s_go (m_loada_bx Try.underlying54 (hi := ti54) (hS := hS) (hfit := by rw [arows_len]; omega)) ?_ | refine s_go (m_loada_rd Try.underlying54 (hi := ti54) (hS := hS) (hfit := by rw [arows_len]; omega)) ?_ | refine s_go (m_loada_vec Try.underlying54 (hi := ti54) (hS := hS) (hfit := by rw [arows_len]; omega)) ?_
       try simp only [opv, nZ, Value.cells, List.getElem_toArray, List.getElem_cons_zero, List.getElem_cons_succ]
       rw [arow_get (by omega) hso, hx]
       refine m_buildRow (cells := (AA x)) Try.underlying22 ti54 (hc := by simp only [List.map_toArray, List.map_cons, List.map_nil, opv, nZ, Value.cells, List.toList_toArray]; exact fill_one (by rfl) (zi_size21 hxl) (by rfl)) (hS := hS) (h := fun w4 g4 hS => ?_)
       try simp only [opv, nZ, Value.cells, Array.toArray_toList] at hS ⊢
       replace hS := hS.obj_rd (sz := 21) (n := 1) (by exact zi_size21 hxl) .head
       rw [arow_one hxl] at hS
       refine m_append Try.underlying22 ti54 (hS := hS) (h1 := rowsZ_cells _ _) (h := fun w5 A5 C5 hS => ?_)
       try simp only [← List.map_append, ← List.map_drop, ← List.map_take, Nat.mul_one, Nat.zero_mul, Nat.sub_zero, List.drop_zero, List.nil_append, Nat.zero_add] at hS ⊢
       try simp only [opv, nZ, Value.cells, Array.toArray_toList] at hS ⊢
       rw [add_one] at hS
       refine s_go (s_assign) ?_
       try simp only [opv, nZ, Value.cells]
       refine x_nil ?_
       refine hK9 _ _ ?_
       refine x_region ?_
       refine s_go (s_move) ?_
       try simp only [opv, nZ, Value.cells]
       refine s_go (s_add (hc := by first | exact wr_i64 (by omega) (by omega) | rfl)) ?_
       try simp only [opv, nZ, Value.cells]
       refine s_go (s_assign) ?_
       try simp only [opv, nZ, Value.cells]
       refine x_nil ?_
       refine loop_back (m' := m1 - 1) (by simp only [clob, List.foldl, nZ]) ?_ ?_
       · try simp only [opv, nZ, Value.cells]
         exact ⟨_, _, _, _, _, by omega, by omega, by omega, by rfl, by rfl, by simp only [List.length_append, List.length_cons, List.length_nil, Nat.zero_add]; rfl, hnx, by simp only [List.length_append, List.length_cons, List.length_nil, Nat.zero_add]; omega, by simp only [List.length_append, List.length_cons, List.length_nil, Nat.zero_add]; exact hS.selA⟩
       · omega
    ·
     try simp only [n3, n4]
     try simp only [decide_eq_true_eq, decide_eq_false_iff_not, Bool.not_eq_true', Bool.not_eq_false', Int.not_lt, Int.not_le, ne_eq, Decidable.not_not] at hp2
     first
     | (exfalso; omega)
     | skip
       have hay : AtomOk y := by rw [← hy]; exact hto.get (by omega)
       have hyl := hay.len
       have hky := hay.key
       have hvy := hay.val
       refine q_on (yi (t := 51) rfl rfl) ?_
       refine q_go (fun w hS => s_move) ?_
       try simp only [opv, nZ, Value.cells]
       refine q_on (yi (t := 51) rfl rfl) ?_
       refine q_go (fun w hS => s_move) ?_
       try simp only [opv, nZ, Value.cells]
       refine q_on (yi (t := 51) rfl rfl) ?_
       refine q_go (fun w hS => s_len_sl Try.underlying22) ?_
       try simp only [opv, nZ, Value.cells]
       refine q_on (yi (t := 51) rfl rfl) ?_
       refine q_go (fun w hS => s_lss) ?_
       try simp only [opv, nZ, Value.cells]
       refine q_on (yi (t := 51) rfl rfl) ?_
       refine q_go (fun w hS => s_move) ?_
       try simp only [opv, nZ, Value.cells]
       refine q_part 56 rfl (fun hp3 => ?_) (fun hp3 => ?_)
       ·
        try simp only [n3, n4]
        try simp only [decide_eq_true_eq, decide_eq_false_iff_not, Bool.not_eq_true', Bool.not_eq_false', Int.not_lt, Int.not_le, ne_eq, Decidable.not_not] at hp3
        first
        | (exfalso; omega)
        | skip
          have hax : AtomOk x := by rw [← hx]; exact hso.get (by omega)
          have hxl := hax.len
          have hkx := hax.key
          have hvx := hax.val
          refine q_on (yi (t := 56) rfl rfl) ?_
          refine q_go (fun w hS => s_move) ?_
          try simp only [opv, nZ, Value.cells]
          refine q_on (yi (t := 56) rfl rfl) ?_
          refine q_go (fun w hS => s_move) ?_
          try simp only [opv, nZ, Value.cells]
          refine q_on (yi (t := 56) rfl rfl) ?_
          first | refine q_go (fun w hS => m_indexAddr_rd Try.underlying22 ti54 (hS := hS)) ?_ | refine q_go (fun w hS => m_indexAddr_vec Try.underlying22 ti54 (hS := hS)) ?_
          try simp only [opv, nZ, Value.cells, Nat.mul_one, Nat.zero_add, Int.toNat_natCast, Int.reduceToNat]
          refine q_on (yi (t := 56) rfl rfl) ?_
          first | refine q_go (fun w hS => m_fieldAddr Try.underlying54 (hi := ti43)) ?_ | refine q_go (fun w hS => m_fieldAddr_rd Try.underlying54 (hi := ti43) (hS := hS)) ?_ | refine q_go (fun w hS => m_fieldAddr_vec Try.underlying54 (hi := ti43) (hS := hS)) ?_
          try simp only [opv, nZ, Value.cells, Nat.zero_add, Nat.add_zero, List.getElem_toArray, List.getElem_cons_zero, List.getElem_cons_succ]
          refine q_on (yi (t := 56) rfl rfl) ?_
          first | refine q_go (fun w hS => m_load_row Try.underlying43 (hi := ti43) (hS := hS) (hfit := by rw [arows_len]; omega)) ?_ | refine q_go (fun w hS => m_loada_obj Try.underlying43 (hi := ti43) (hS := hS) (hfit := by rw [arows_len]; omega)) ?_ | refine q_go (fun w hS => m_loada_bx Try.underlying43 (hi := ti43) (hS := hS) (hfit := by rw [arows_len]; omega)) ?_ | refine q_go (fun w hS => m_loada_rd Try.underlying43 (hi := ti43) (hS := hS) (hfit := by rw [arows_len]; omega)) ?_ | refine q_go (fun w hS => m_loada_vec Try.underlying43 (hi := ti43) (hS := hS) (hfit := by rw [arows_len]; omega)) ?_
          try simp only [opv, nZ, Value.cells, List.getElem_toArray, List.getElem_cons_zero, List.getElem_cons_succ]
          rw [arow_key (by omega) hso, hx]
          refine q_on (yi (t := 56) rfl rfl) ?_
          refine q_go (fun w hS => s_move) ?_
          try simp only [opv, nZ, Value.cells]
          refine q_on (yi (t := 56) rfl rfl) ?_
          refine q_go (fun w hS => s_move) ?_
          try simp only [opv, nZ, Value.cells]
          refine q_on (yi (t := 56) rfl rfl) ?_
          first | refine q_go (fun w hS => m_indexAddr_rd Try.underlying22 ti54 (hS := hS)) ?_ | refine q_go (fun w hS => m_indexAddr_vec Try.underlying22 ti54 (hS := hS)) ?_
          try simp only [opv, nZ, Value.cells, Nat.mul_one, Nat.zero_add, Int.toNat_natCast, Int.reduceToNat]
          refine q_on (yi (t := 56) rfl rfl) ?_
          first | refine q_go (fun w hS => m_fieldAddr Try.underlying54 (hi := ti43)) ?_ | refine q_go (fun w hS => m_fieldAddr_rd Try.underlying54 (hi := ti43) (hS := hS)) ?_ | refine q_go (fun w hS => m_fieldAddr_vec Try.underlying54 (hi := ti43) (hS := hS)) ?_
          try simp only [opv, nZ, Value.cells, Nat.zero_add, Nat.add_zero, List.getElem_toArray, List.getElem_cons_zero, List.getElem_cons_succ]
          refine q_on (yi (t := 56) rfl rfl) ?_
          first | refine q_go (fun w hS => m_load_row Try.underlying43 (hi := ti43) (hS := hS) (hfit := by rw [arows_len]; omega)) ?_ | refine q_go (fun w hS => m_loada_obj Try.underlying43 (hi := ti43) (hS := hS) (hfit := by rw [arows_len]; omega)) ?_ | refine q_go (fun w hS => m_loada_bx Try.underlying43 (hi := ti43) (hS := hS) (hfit := by rw [arows_len]; omega)) ?_ | refine q_go (fun w hS => m_loada_rd Try.underlying43 (hi := ti43) (hS := hS) (hfit := by rw [arows_len]; omega)) ?_ | refine q_go (fun w hS => m_loada_vec Try.underlying43 (hi := ti43) (hS := hS) (hfit := by rw [arows_len]; omega)) ?_
          try simp only [opv, nZ, Value.cells, List.getElem_toArray, List.getElem_cons_zero, List.getElem_cons_succ]
          rw [arow_key (by omega) hto, hy]
          refine q_on (yi (t := 56) rfl rfl) ?_
          apply q_call en56
          case H =>
            intro w hS
            try simp only [opv, nZ, List.map_toArray, List.map_cons, List.map_nil, List.append_toArray, List.cons_append, List.nil_append, Array.append_empty]
            refine CallR.mono (c_ref08Less (akey x) (akey y) hkx hky _) ?_
            rintro _ w1 ⟨rfl, hE⟩; exact ⟨rfl, hS.ext hE⟩
          try simp only [opv, nZ, Value.cells]
          refine q_on (yi (t := 51) rfl rfl) ?_
          first | refine q_go (fun w hS => s_pick_t) ?_ | refine q_go (fun w hS => s_pick_f) ?_
          try simp only [opv, nZ, Value.cells]
          first | refine q_go (fun w hS => s_pick_t) ?_ | refine q_go (fun w hS => s_pick_f) ?_
          try simp only [opv, nZ, Value.cells]
          refine q_go (fun w hS => s_assign) ?_
          try simp only [opv, nZ, Value.cells]
          clear hS
          refine q_nil fun w6 hS => ?_
          refine hK8 _ _ ?_
          refine x_cond (ht := fun hc3 => ?_) (hf := fun hc3 => ?_)
          ·
           try simp only [decide_eq_true_eq, decide_eq_false_iff_not, Bool.not_eq_true', Bool.not_eq_false', Int.not_lt, Int.not_le, ne_eq, Decidable.not_not, bne_iff_ne, beq_iff_eq, not_true_eq_false, not_false_eq_true] at hc3
           first
           | (exfalso; omega)
           | skip
             try (have hmg := mg_l (s := s) (t := t) (i := i) (k := k) (by omega) hx (.inr ⟨by omega, by rw [hy]; exact hc3⟩))
             have hnx : (o ++ [x]) ++ mergeP (s.drop (i + 1)) (t.drop k) = mergeP s t := by rw [← hmo, hmg, List.append_assoc]; rfl
             refine x_seq fun K10 hK10 => ?_
             refine x_region ?_
             refine s_go (s_move) ?_
             try simp only [opv, nZ, Value.cells]
             refine s_go (s_move) ?_
             try simp only [opv, nZ, Value.cells]
             refine s_go (s_move) ?_
             try simp only [opv, nZ, Value.cells]
             first | refine s_go (m_indexAddr_rd Try.underlying22 ti54 (hS := hS)) ?_ | refine s_go (m_indexAddr_vec Try.underlying22 ti54 (hS := hS)) ?_
             try simp only [opv, nZ, Value.cells, Nat.mul_one, Nat.zero_add, Int.toNat_natCast, Int.reduceToNat]
             first | refine s_go (m_load_row Try.underlying54 (hi := ti54) (hS := hS) (hfit := by rw [arows_len]; omega)) ?_ | refine s_go (m_loada_obj Try.underlying54 (hi := ti54) (hS := hS) (hfit := by rw [arows_len]; omega)) ?_ | refine s_go (m_loada_bx Try.underlying54 (hi := ti54) (hS := hS) (hfit := by rw [arows_len]; omega)) ?_ | refine s_go (m_loada_rd Try.underlying54 (hi := ti54) (hS := hS) (hfit := by rw [arows_len]; omega)) ?_ | refine s_go (m_loada_vec Try.underlying54 (hi := ti54) (hS := hS) (hfit := by rw [arows_len]; omega)) ?_
             try simp only [opv, nZ, Value.cells, List.getElem_toArray, List.getElem_cons_zero, List.getElem_cons_succ]
             rw [arow_get (by omega) hso, hx]
             refine m_buildRow (cells := (AA x)) Try.underlying22 ti54 (hc := by simp only [List.map_toArray, List.map_cons, List.map_nil, opv, nZ, Value.cells, List.toList_toArray]; exact fill_one (by rfl) (zi_size21 hxl) (by rfl)) (hS := hS) (h := fun w7 g7 hS => ?_)
             try simp only [opv, nZ, Value.cells, Array.toArray_toList] at hS ⊢
             replace hS := hS.obj_rd (sz := 21) (n := 1) (by exact zi_size21 hxl) .head
             rw [arow_one hxl] at hS
             refine m_append Try.underlying22 ti54 (hS := hS) (h1 := rowsZ_cells _ _) (h := fun w8 A8 C8 hS => ?_)
             try simp only [← List.map_append, ← List.map_drop, ← List.map_take, Nat.mul_one, Nat.zero_mul, Nat.sub_zero, List.drop_zero, List.nil_append, Nat.zero_add] at hS ⊢
             try simp only [opv, nZ, Value.cells, Array.toArray_toList] at hS ⊢
             rw [add_one] at hS
             refine s_go (s_assign) ?_
             try simp only [opv, nZ, Value.cells]
             refine x_nil ?_
             refine hK10 _ _ ?_
             refine x_region ?_
             refine s_go (s_move) ?_
             try simp only [opv, nZ, Value.cells]
             refine s_go (s_add (hc := by first | exact wr_i64 (by omega) (by omega) | rfl)) ?_
             try simp only [opv, nZ, Value.cells]
             refine s_go (s_assign) ?_
             try simp only [opv, nZ, Value.cells]
             refine x_nil ?_
             refine loop_back (m' := m1 - 1) (by simp only [clob, List.foldl, nZ]) ?_ ?_
             · try simp only [opv, nZ, Value.cells]
               exact ⟨_, _, _, _, _, by omega, by omega, by omega, by rfl, by rfl, by simp only [List.length_append, List.length_cons, List.length_nil, Nat.zero_add]; rfl, hnx, by simp only [List.length_append, List.length_cons, List.length_nil, Nat.zero_add]; omega, by simp only [List.length_append, List.length_cons, List.length_nil, Nat.zero_add]; exact hS.selA⟩
             · omega
          ·
           try simp only [decide_eq_true_eq, decide_eq_false_iff_not, Bool.not_eq_true', Bool.not_eq_false', Int.not_lt, Int.not_le, ne_eq, Decidable.not_not, bne_iff_ne, beq_iff_eq, not_true_eq_false, not_false_eq_true] at hc3
           first
           | (exfalso; omega)
           | skip
             try have hl1 := hc3
             refine x_seq fun K11 hK11 => ?_
             refine x_quiet (by kernel_rfl) (by kernel_rfl) hS ?_
             refine q_go (fun w hS => s_move) ?_
             try simp only [opv, nZ, Value.cells]
             refine q_go (fun w hS => s_move) ?_
             try simp only [opv, nZ, Value.cells]
             refine q_go (fun w hS => s_len_sl Try.underlying22) ?_
             try simp only [opv, nZ, Value.cells]
             refine q_go (fun w hS => s_eql) ?_
             try simp only [opv, nZ, Value.cells]
             refine q_go (fun w hS => s_move) ?_
             try simp only [opv, nZ, Value.cells]
             refine q_part 84 rfl (fun hp4 => ?_) (fun hp4 => ?_)
             ·
              try simp only [n3, n4]
              try simp only [decide_eq_true_eq, decide_eq_false_iff_not, Bool.not_eq_true', Bool.not_eq_false', Int.not_lt, Int.not_le, ne_eq, Decidable.not_not] at hp4
              first
              | (exfalso; omega)
              | skip
                refine q_off (yi (t := 84) rfl rfl) ?_
                try simp only [opv, nZ, Value.cells]
                refine q_off (yi (t := 84) rfl rfl) ?_
                try simp only [opv, nZ, Value.cells]
                refine q_off (yi (t := 84) rfl rfl) ?_
                try simp only [opv, nZ, Value.cells]
                refine q_off (yi (t := 84) rfl rfl) ?_
                try simp only [opv, nZ, Value.cells]
                refine q_off (yi (t := 84) rfl rfl) ?_
                try simp only [opv, nZ, Value.cells]
                refine q_off (yi (t := 84) rfl rfl) ?_
                try simp only [opv, nZ, Value.cells]
                refine q_off (yi (t := 84) rfl rfl) ?_
                try simp only [opv, nZ, Value.cells]
                refine q_off (yi (t := 84) rfl rfl) ?_
                try simp only [opv, nZ, Value.cells]
                refine q_off (yi (t := 84) rfl rfl) ?_
                try simp only [opv, nZ, Value.cells]
                refine q_off (yi (t := 84) rfl rfl) ?_
                try simp only [opv, nZ, Value.cells]
                refine q_off (yi (t := 84) rfl rfl) ?_
                try simp only [opv, nZ, Value.cells]
                first | refine q_go (fun w hS => s_pick_t) ?_ | refine q_go (fun w hS => s_pick_f) ?_
                try simp only [opv, nZ, Value.cells]
                refine q_go (fun w hS => s_assign) ?_
                try simp only [opv, nZ, Value.cells]
                clear hS
                refine q_nil fun w9 hS => ?_
                refine hK11 _ _ ?_
                refine x_cond_t (h := ?_)
                try (have hmg := mg_r (s := s) (t := t) (i := i) (k := k) (by omega) hy (.inr ⟨by omega, by rw [hx]; exact hl1, by rw [hx]; exact @c⟩))
                have hnx : (o ++ [y]) ++ mergeP (s.drop i) (t.drop (k + 1)) = mergeP s t := by rw [← hmo, hmg, List.append_assoc]; rfl
                refine x_seq fun K12 hK12 => ?_
                refine x_region ?_
                refine s_go (s_move) ?_
                try simp only [opv, nZ, Value.cells]
                refine s_go (s_move) ?_
                try simp only [opv, nZ, Value.cells]
                refine s_go (s_move) ?_
                try simp only [opv, nZ, Value.cells]
                first | refine s_go (m_indexAddr_rd Try.underlying22 ti54 (hS := hS)) ?_ | refine s_go (m_indexAddr_vec Try.underlying22 ti54 (hS := hS)) ?_
                try simp only [opv, nZ, Value.cells, Nat.mul_one, Nat.zero_add, Int.toNat_natCast, Int.reduceToNat]
                first | refine s_go (m_load_row Try.underlying54 (hi := ti54) (hS := hS) (hfit := by rw [arows_len]; omega)) ?_ | refine s_go (m_loada_obj Try.underlying54 (hi := ti54) (hS := hS) (hfit := by rw [arows_len]; omega)) ?_ | refine s_go (m_loada_bx Try.underlying54 (hi := ti54) (hS := hS) (hfit := by rw [arows_len]; omega)) ?_ | refine s_go (m_loada_rd Try.underlying54 (hi := ti54) (hS := hS) (hfit := by rw [arows_len]; omega)) ?_ | refine s_go (m_loada_vec Try.underlying54 (hi := ti54) (hS := hS) (hfit := by rw [arows_len]; omega)) ?_
                try simp only [opv, nZ, Value.cells, List.getElem_toArray, List.getElem_cons_zero, List.getElem_cons_succ]
                rw [arow_get (by omega) hto, hy]
                refine m_buildRow (cells := (AA y)) Try.underlying22 ti54 (hc := by simp only [List.map_toArray, List.map_cons, List.map_nil, opv, nZ, Value.cells, List.toList_toArray]; exact fill_one (by rfl) (zi_size21 hyl) (by rfl)) (hS := hS) (h := fun w10 g10 hS => ?_)
                try simp only [opv, nZ, Value.cells, Array.toArray_toList] at hS ⊢
                replace hS := hS.obj_rd (sz := 21) (n := 1) (by exact zi_size21 hyl) .head
                rw [arow_one hyl] at hS
                refine m_append Try.underlying22 ti54 (hS := hS) (h1 := rowsZ_cells _ _) (h := fun w11 A11 C11 hS => ?_)
                try simp only [← List.map_append, ← List.map_drop, ← List.map_take, Nat.mul_one, Nat.zero_mul, Nat.sub_zero, List.drop_zero, List.nil_append, Nat.zero_add] at hS ⊢
                try simp only [opv, nZ, Value.cells, Array.toArray_toList] at hS ⊢
                rw [add_one] at hS
                refine s_go (s_assign) ?_
                try simp only [opv, nZ, Value.cells]
                refine x_nil ?_
                refine hK12 _ _ ?_
                refine x_region ?_
                refine s_go (s_move) ?_
                try simp only [opv, nZ, Value.cells]
                refine s_go (s_add (hc := by first | exact wr_i64 (by omega) (by omega) | rfl)) ?_
                try simp only [opv, nZ, Value.cells]
                refine s_go (s_assign) ?_
                try simp only [opv, nZ, Value.cells]
                refine x_nil ?_
                refine loop_back (m' := m1 - 1) (by simp only [clob, List.foldl, nZ]) ?_ ?_
                · try simp only [opv, nZ, Value.cells]
                  exact ⟨_, _, _, _, _, by omega, by omega, by omega, by rfl, by rfl, by simp only [List.length_append, List.length_cons, List.length_nil, Nat.zero_add]; rfl, hnx, by simp only [List.length_append, List.length_cons, List.length_nil, Nat.zero_add]; omega, by simp only [List.length_append, List.length_cons, List.length_nil, Nat.zero_add]; exact hS.selA⟩
                · omega
             ·
              try simp only [n3, n4]
              try simp only [decide_eq_true_eq, decide_eq_false_iff_not, Bool.not_eq_true', Bool.not_eq_false', Int.not_lt, Int.not_le, ne_eq, Decidable.not_not] at hp4
              first
              | (exfalso; omega)
              | skip
                refine q_on (yi (t := 84) rfl rfl) ?_
                refine q_go (fun w hS => s_move) ?_
                try simp only [opv, nZ, Value.cells]
                refine q_on (yi (t := 84) rfl rfl) ?_
                refine q_go (fun w hS => s_move) ?_
                try simp only [opv, nZ, Value.cells]
                refine q_on (yi (t := 84) rfl rfl) ?_
                first | refine q_go (fun w hS => m_indexAddr_rd Try.underlying22 ti54 (hS := hS)) ?_ | refine q_go (fun w hS => m_indexAddr_vec Try.underlying22 ti54 (hS := hS)) ?_
                try simp only [opv, nZ, Value.cells, Nat.mul_one, Nat.zero_add, Int.toNat_natCast, Int.reduceToNat]
                refine q_on (yi (t := 84) rfl rfl) ?_
                first | refine q_go (fun w hS => m_fieldAddr Try.underlying54 (hi := ti43)) ?_ | refine q_go (fun w hS => m_fieldAddr_rd Try.underlying54 (hi := ti43) (hS := hS)) ?_ | refine q_go (fun w hS => m_fieldAddr_vec Try.underlying54 (hi := ti43) (hS := hS)) ?_
                try simp only [opv, nZ, Value.cells, Nat.zero_add, Nat.add_zero, List.getElem_toArray, List.getElem_cons_zero, List.getElem_cons_succ]
                refine q_on (yi (t := 84) rfl rfl) ?_
                first | refine q_go (fun w hS => m_load_row Try.underlying43 (hi := ti43) (hS := hS) (hfit := by rw [arows_len]; omega)) ?_ | refine q_go (fun w hS => m_loada_obj Try.underlying43 (hi := ti43) (hS := hS) (hfit := by rw [arows_len]; omega)) ?_ | refine q_go (fun w hS => m_loada_bx Try.underlying43 (hi := ti43) (hS := hS) (hfit := by rw [arows_len]; omega)) ?_ | refine q_go (fun w hS => m_loada_rd Try.underlying43 (hi := ti43) (hS := hS) (hfit := by rw [arows_len]; omega)) ?_ | refine q_go (fun w hS => m_loada_vec Try.underlying43 (hi := ti43) (hS := hS) (hfit := by rw [arows_len]; omega)) ?_
                try simp only [opv, nZ, Value.cells, List.getElem_toArray, List.getElem_cons_zero, List.getElem_cons_succ]
                rw [arow_key (by omega) hto, hy]
                refine q_on (yi (t := 84) rfl rfl) ?_
                refine q_go (fun w hS => s_move) ?_
                try simp only [opv, nZ, Value.cells]
                refine q_on (yi (t := 84) rfl rfl) ?_
                refine q_go (fun w hS => s_move) ?_
                try simp only [opv, nZ, Value.cells]
                refine q_on (yi (t := 84) rfl rfl) ?_
                first | refine q_go (fun w hS => m_indexAddr_rd Try.underlying22 ti54 (hS := hS)) ?_ | refine q_go (fun w hS => m_indexAddr_vec Try.underlying22 ti54 (hS := hS)) ?_
                try simp only [opv, nZ, Value.cells, Nat.mul_one, Nat.zero_add, Int.toNat_natCast, Int.reduceToNat]
                refine q_on (yi (t := 84) rfl rfl) ?_
                first | refine q_go (fun w hS => m_fieldAddr Try.underlying54 (hi := ti43)) ?_ | refine q_go (fun w hS => m_fieldAddr_rd Try.underlying54 (hi := ti43) (hS := hS)) ?_ | refine q_go (fun w hS => m_fieldAddr_vec Try.underlying54 (hi := ti43) (hS := hS)) ?_
                try simp only [opv, nZ, Value.cells, Nat.zero_add, Nat.add_zero, List.getElem_toArray, List.getElem_cons_zero, List.getElem_cons_succ]
                refine q_on (yi (t := 84) rfl rfl) ?_
                first | refine q_go (fun w hS => m_load_row Try.underlying43 (hi := ti43) (hS := hS) (hfit := by rw [arows_len]; omega)) ?_ | refine q_go (fun w hS => m_loada_obj Try.underlying43 (hi := ti43) (hS := hS) (hfit := by rw [arows_len]; omega)) ?_ | refine q_go (fun w hS => m_loada_bx Try.underlying43 (hi := ti43) (hS := hS) (hfit := by rw [arows_len]; omega)) ?_ | refine q_go (fun w hS => m_loada_rd Try.underlying43 (hi := ti43) (hS := hS) (hfit := by rw [arows_len]; omega)) ?_ | refine q_go (fun w hS => m_loada_vec Try.underlying43 (hi := ti43) (hS := hS) (hfit := by rw [arows_len]; omega)) ?_
                try simp only [opv, nZ, Value.cells, List.getElem_toArray, List.getElem_cons_zero, List.getElem_cons_succ]
                rw [arow_key (by omega) hso, hx]
                refine q_on (yi (t := 84) rfl rfl) ?_
                apply q_call en56
                case H =>
                  intro w hS
                  try simp only [opv, nZ, List.map_toArray, List.map_cons, List.map_nil, List.append_toArray, List.cons_append, List.nil_append, Array.append_empty]
                  refine CallR.mono (c_ref08Less (akey y) (akey x) hky hkx _) ?_
                  rintro _ w1 ⟨rfl, hE⟩; exact ⟨rfl, hS.ext hE⟩
                try simp only [opv, nZ, Value.cells]
                first | refine q_go (fun w hS => s_pick_t) ?_ | refine q_go (fun w hS => s_pick_f) ?_
                try simp only [opv, nZ, Value.cells]
                refine q_go (fun w hS => s_assign) ?_
                try simp only [opv, nZ, Value.cells]
                clear hS
                refine q_nil fun w12 hS => ?_
                refine hK11 _ _ ?_
                refine x_cond (ht := fun hc5 => ?_) (hf := fun hc5 => ?_)
                ·
                 try simp only [decide_eq_true_eq, decide_eq_false_iff_not, Bool.not_eq_true', Bool.not_eq_false', Int.not_lt, Int.not_le, ne_eq, Decidable.not_not, bne_iff_ne, beq_iff_eq, not_true_eq_false, not_false_eq_true] at hc5
                 first
                 | (exfalso; omega)
                 | skip
                   try (have hmg := mg_r (s := s) (t := t) (i := i) (k := k) (by omega) hy (.inr ⟨by omega, by rw [hx]; exact hl1, by rw [hx]; exact hc5⟩))
                   have hnx : (o ++ [y]) ++ mergeP (s.drop i) (t.drop (k + 1)) = mergeP s t := by rw [← hmo, hmg, List.append_assoc]; rfl
                   refine x_seq fun K13 hK13 => ?_
                   refine x_region ?_
                   refine s_go (s_move) ?_
                   try simp only [opv, nZ, Value.cells]
                   refine s_go (s_move) ?_
                   try simp only [opv, nZ, Value.cells]
                   refine s_go (s_move) ?_
                   try simp only [opv, nZ, Value.cells]
                   first | refine s_go (m_indexAddr_rd Try.underlying22 ti54 (hS := hS)) ?_ | refine s_go (m_indexAddr_vec Try.underlying22 ti54 (hS := hS)) ?_
                   try simp only [opv, nZ, Value.cells, Nat.mul_one, Nat.zero_add, Int.toNat_natCast, Int.reduceToNat]
                   first | refine s_go (m_load_row Try.underlying54 (hi := ti54) (hS := hS) (hfit := by rw [arows_len]; omega)) ?_ | refine s_go (m_loada_obj Try.underlying54 (hi := ti54) (hS := hS) (hfit := by rw [arows_len]; omega)) ?_ | refine s_go (m_loada_bx Try.underlying54 (hi := ti54) (hS := hS) (hfit := by rw [arows_len]; omega)) ?_ | refine s_go (m_loada_rd Try.underlying54 (hi := ti54) (hS := hS) (hfit := by rw [arows_len]; omega)) ?_ | refine s_go (m_loada_vec Try.underlying54 (hi := ti54) (hS := hS) (hfit := by rw [arows_len]; omega)) ?_
                   try simp only [opv, nZ, Value.cells, List.getElem_toArray, List.getElem_cons_zero, List.getElem_cons_succ]
                   rw [arow_get (by omega) hto, hy]
                   refine m_buildRow (cells := (AA y)) Try.underlying22 ti54 (hc := by simp only [List.map_toArray, List.map_cons, List.map_nil, opv, nZ, Value.cells, List.toList_toArray]; exact fill_one (by rfl) (zi_size21 hyl) (by rfl)) (hS := hS) (h := fun w13 g13 hS => ?_)
                   try simp only [opv, nZ, Value.cells, Array.toArray_toList] at hS ⊢
                   replace hS := hS.obj_rd (sz := 21) (n := 1) (by exact zi_size21 hyl) .head
                   rw [arow_one hyl] at hS
                   refine m_append Try.underlying22 ti54 (hS := hS) (h1 := rowsZ_cells _ _) (h := fun w14 A14 C14 hS => ?_)
                   try simp only [← List.map_append, ← List.map_drop, ← List.map_take, Nat.mul_one, Nat.zero_mul, Nat.sub_zero, List.drop_zero, List.nil_append, Nat.zero_add] at hS ⊢
                   try simp only [opv, nZ, Value.cells, Array.toArray_toList] at hS ⊢
                   rw [add_one] at hS
                   refine s_go (s_assign) ?_
                   try simp only [opv, nZ, Value.cells]
                   refine x_nil ?_
                   refine hK13 _ _ ?_
                   refine x_region ?_
                   refine s_go (s_move) ?_
                   try simp only [opv, nZ, Value.cells]
                   refine s_go (s_add (hc := by first | exact wr_i64 (by omega) (by omega) | rfl)) ?_
                   try simp only [opv, nZ, Value.cells]
                   refine s_go (s_assign) ?_
                   try simp only [opv, nZ, Value.cells]
                   refine x_nil ?_
                   refine loop_back (m' := m1 - 1) (by simp only [clob, List.foldl, nZ]) ?_ ?_
                   · try simp only [opv, nZ, Value.cells]
                     exact ⟨_, _, _, _, _, by omega, by omega, by omega, by rfl, by rfl, by simp only [List.length_append, List.length_cons, List.length_nil, Nat.zero_add]; rfl, hnx, by simp only [List.length_append, List.length_cons, List.length_nil, Nat.zero_add]; omega, by simp only [List.length_append, List.length_cons, List.length_nil, Nat.zero_add]; exact hS.selA⟩
                   · omega
                ·
                 try simp only [decide_eq_true_eq, decide_eq_false_iff_not, Bool.not_eq_true', Bool.not_eq_false', Int.not_lt, Int.not_le, ne_eq, Decidable.not_not, bne_iff_ne, beq_iff_eq, not_true_eq_false, not_false_eq_true] at hc5
                 first
                 | (exfalso; omega)
                 | skip
                   have hmg := mg_e (s := s) (t := t) (i := i) (k := k) (by omega) hx (by omega) hy hl1 hc5
                   have hnx : (o ++ [(akey x ++ moreV (aval x) (aval y))]) ++ mergeP (s.drop (i + 1)) (t.drop (k + 1)) = mergeP s t := by rw [← hmo, hmg, List.append_assoc]; rfl
                   have hmo9 := more_ok hvx hvy
                   have hml := hmo9.len
                   have hk12 := hkx.len
                   have hzl : (akey x ++ moreV (aval x) (aval y)).length = 21 := (kv_ok hkx hmo9).len
                   refine x_seq fun K14 hK14 => ?_
                   refine x_mixed_c (Lc := [.rd B2 21 (t).length (arows (t)), .rd B1 21 (s).length (arows (s))]) [] 0 [5, 22, 23, 24, 25, 26, 27, 28, 29, 30, 31, 32, 33, 34, 35, 36, 37, 38, 39, 40, 41] (fun f w => ∃ (C2 : Option Addr) (e2 : Nat), f 5 = .slice C2 (o.length + 1) e2 ∧ St NoB w0 w [.vec C2 e2 54 21 (o.length + 1) (arows (o ++ [(akey x ++ moreV (aval x) (aval y))])), .rd B2 21 (t).length (arows (t)), .rd B1 21 (s).length (arows (s))]) (by kernel_rfl) (by kernel_rfl) (by kernel_rfl) (by decide) hS (fun w15 hS => ?mixpre501) ?mixrest501
                   case mixpre501 =>
                    refine p_nil ?_
                    simp only [List.length_cons, List.length_nil, Nat.reduceAdd, Nat.reduceSub]
                    refine any_go (i := 0) (by rfl) (by decide +kernel) (by decide +kernel) noLate_nil (go_yields w_none (fun w hS => s_move)) ?_
                    try simp only [opv, nZ, Value.cells]
                    refine any_go (i := 1) (by rfl) (by decide +kernel) (by decide +kernel) noLate_nil (go_yields w_none (fun w hS => s_move)) ?_
                    try simp only [opv, nZ, Value.cells]
                    refine any_go (i := 2) (by rfl) (by decide +kernel) (by decide +kernel) noLate_nil (go_yields w_none (fun w hS => s_move)) ?_
                    try simp only [opv, nZ, Value.cells]
                    first | refine any_go (i := 3) (by rfl) (by decide +kernel) (by decide +kernel) noLate_nil (go_yields w_none (fun w hS => m_indexAddr_rd Try.underlying22 ti54 (hS := hS))) ?_ | refine any_go (i := 3) (by rfl) (by decide +kernel) (by decide +kernel) noLate_nil (go_yields w_none (fun w hS => m_indexAddr_vec Try.underlying22 ti54 (hS := hS))) ?_
                    try simp only [opv, nZ, Value.cells, Nat.mul_one, Nat.zero_add, Int.toNat_natCast, Int.reduceToNat]
                    first | refine any_go (i := 4) (by rfl) (by decide +kernel) (by decide +kernel) noLate_nil (go_yields w_none (fun w hS => m_fieldAddr Try.underlying54 (hi := ti43))) ?_ | refine any_go (i := 4) (by rfl) (by decide +kernel) (by decide +kernel) noLate_nil (go_yields w_none (fun w hS => m_fieldAddr_rd Try.underlying54 (hi := ti43) (hS := hS))) ?_ | refine any_go (i := 4) (by rfl) (by decide +kernel) (by decide +kernel) noLate_nil (go_yields w_none (fun w hS => m_fieldAddr_vec Try.underlying54 (hi := ti43) (hS := hS))) ?_
                    try simp only [opv, nZ, Value.cells, Nat.zero_add, Nat.add_zero, List.getElem_toArray, List.getElem_cons_zero, List.getElem_cons_succ]
                    first | refine any_go (i := 5) (by rfl) (by decide +kernel) (by decide +kernel) noLate_nil (go_yields w_none (fun w hS => m_load_row Try.underlying43 (hi := ti43) (hS := hS) (hfit := by rw [arows_len]; omega))) ?_ | refine any_go (i := 5) (by rfl) (by decide +kernel) (by decide +kernel) noLate_nil (go_yields w_none (fun w hS => m_loada_obj Try.underlying43 (hi := ti43) (hS := hS) (hfit := by rw [arows_len]; omega))) ?_ | refine any_go (i := 5) (by rfl) (by decide +kernel) (by decide +kernel) noLate_nil (go_yields w_none (fun w hS => m_loada_bx Try.underlying43 (hi := ti43) (hS := hS) (hfit := by rw [arows_len]; omega))) ?_ | refine any_go (i := 5) (by rfl) (by decide +kernel) (by decide +kernel) noLate_nil (go_yields w_none (fun w hS => m_loada_rd Try.underlying43 (hi := ti43) (hS := hS) (hfit := by rw [arows_len]; omega))) ?_ | refine any_go (i := 5) (by rfl) (by decide +kernel) (by decide +kernel) noLate_nil (go_yields w_none (fun w hS => m_loada_vec Try.underlying43 (hi := ti43) (hS := hS) (hfit := by rw [arows_len]; omega))) ?_
                    try simp only [opv, nZ, Value.cells, List.getElem_toArray, List.getElem_cons_zero, List.getElem_cons_succ]
                    rw [arow_key (by omega) hso, hx]
                    refine any_go (i := 6) (by rfl) (by decide +kernel) (by decide +kernel) noLate_nil (go_yields w_none (fun w hS => s_move)) ?_
                    try simp only [opv, nZ, Value.cells]
                    refine any_go (i := 7) (by rfl) (by decide +kernel) (by decide +kernel) noLate_nil (go_yields w_none (fun w hS => s_move)) ?_
                    try simp only [opv, nZ, Value.cells]
                    first | refine any_go (i := 8) (by rfl) (by decide +kernel) (by decide +kernel) noLate_nil (go_yields w_none (fun w hS => m_indexAddr_rd Try.underlying22 ti54 (hS := hS))) ?_ | refine any_go (i := 8) (by rfl) (by decide +kernel) (by decide +kernel) noLate_nil (go_yields w_none (fun w hS => m_indexAddr_vec Try.underlying22 ti54 (hS := hS))) ?_
                    try simp only [opv, nZ, Value.cells, Nat.mul_one, Nat.zero_add, Int.toNat_natCast, Int.reduceToNat]
                    first | refine any_go (i := 9) (by rfl) (by decide +kernel) (by decide +kernel) noLate_nil (go_yields w_none (fun w hS => m_fieldAddr Try.underlying54 (hi := ti50))) ?_ | refine any_go (i := 9) (by rfl) (by decide +kernel) (by decide +kernel) noLate_nil (go_yields w_none (fun w hS => m_fieldAddr_rd Try.underlying54 (hi := ti50) (hS := hS))) ?_ | refine any_go (i := 9) (by rfl) (by decide +kernel) (by decide +kernel) noLate_nil (go_yields w_none (fun w hS => m_fieldAddr_vec Try.underlying54 (hi := ti50) (hS := hS))) ?_
                    try simp only [opv, nZ, Value.cells, Nat.zero_add, Nat.add_zero, List.getElem_toArray, List.getElem_cons_zero, List.getElem_cons_succ]
                    first | refine any_go (i := 10) (by rfl) (by decide +kernel) (by decide +kernel) noLate_nil (go_yields w_none (fun w hS => m_load_row Try.underlying50 (hi := ti50) (hS := hS) (hfit := by rw [arows_len]; omega))) ?_ | refine any_go (i := 10) (by rfl) (by decide +kernel) (by decide +kernel) noLate_nil (go_yields w_none (fun w hS => m_loada_obj Try.underlying50 (hi := ti50) (hS := hS) (hfit := by rw [arows_len]; omega))) ?_ | refine any_go (i := 10) (by rfl) (by decide +kernel) (by decide +kernel) noLate_nil (go_yields w_none (fun w hS => m_loada_bx Try.underlying50 (hi := ti50) (hS := hS) (hfit := by rw [arows_len]; omega))) ?_ | refine any_go (i := 10) (by rfl) (by decide +kernel) (by decide +kernel) noLate_nil (go_yields w_none (fun w hS => m_loada_rd Try.underlying50 (hi := ti50) (hS := hS) (hfit := by rw [arows_len]; omega))) ?_ | refine any_go (i := 10) (by rfl) (by decide +kernel) (by decide +kernel) noLate_nil (go_yields w_none (fun w hS => m_loada_vec Try.underlying50 (hi := ti50) (hS := hS) (hfit := by rw [arows_len]; omega))) ?_
                    try simp only [opv, nZ, Value.cells, List.getElem_toArray, List.getElem_cons_zero, List.getElem_cons_succ]
                    rw [arow_val (by omega) hso, hx]
                    refine any_go (i := 11) (by rfl) (by decide +kernel) (by decide +kernel) noLate_nil (go_yields w_none (fun w hS => s_move)) ?_
                    try simp only [opv, nZ, Value.cells]
                    refine any_go (i := 12) (by rfl) (by decide +kernel) (by decide +kernel) noLate_nil (go_yields w_none (fun w hS => s_move)) ?_
                    try simp only [opv, nZ, Value.cells]
                    first | refine any_go (i := 13) (by rfl) (by decide +kernel) (by decide +kernel) noLate_nil (go_yields w_none (fun w hS => m_indexAddr_rd Try.underlying22 ti54 (hS := hS))) ?_ | refine any_go (i := 13) (by rfl) (by decide +kernel) (by decide +kernel) noLate_nil (go_yields w_none (fun w hS => m_indexAddr_vec Try.underlying22 ti54 (hS := hS))) ?_
                    try simp only [opv, nZ, Value.cells, Nat.mul_one, Nat.zero_add, Int.toNat_natCast, Int.reduceToNat]
                    first | refine any_go (i := 14) (by rfl) (by decide +kernel) (by decide +kernel) noLate_nil (go_yields w_none (fun w hS => m_fieldAddr Try.underlying54 (hi := ti50))) ?_ | refine any_go (i := 14) (by rfl) (by decide +kernel) (by decide +kernel) noLate_nil (go_yields w_none (fun w hS => m_fieldAddr_rd Try.underlying54 (hi := ti50) (hS := hS))) ?_ | refine any_go (i := 14) (by rfl) (by decide +kernel) (by decide +kernel) noLate_nil (go_yields w_none (fun w hS => m_fieldAddr_vec Try.underlying54 (hi := ti50) (hS := hS))) ?_
                    try simp only [opv, nZ, Value.cells, Nat.zero_add, Nat.add_zero, List.getElem_toArray, List.getElem_cons_zero, List.getElem_cons_succ]
                    first | refine any_go (i := 15) (by rfl) (by decide +kernel) (by decide +kernel) noLate_nil (go_yields w_none (fun w hS => m_load_row Try.underlying50 (hi := ti50) (hS := hS) (hfit := by rw [arows_len]; omega))) ?_ | refine any_go (i := 15) (by rfl) (by decide +kernel) (by decide +kernel) noLate_nil (go_yields w_none (fun w hS => m_loada_obj Try.underlying50 (hi := ti50) (hS := hS) (hfit := by rw [arows_len]; omega))) ?_ | refine any_go (i := 15) (by rfl) (by decide +kernel) (by decide +kernel) noLate_nil (go_yields w_none (fun w hS => m_loada_bx Try.underlying50 (hi := ti50) (hS := hS) (hfit := by rw [arows_len]; omega))) ?_ | refine any_go (i := 15) (by rfl) (by decide +kernel) (by decide +kernel) noLate_nil (go_yields w_none (fun w hS => m_loada_rd Try.underlying50 (hi := ti50) (hS := hS) (hfit := by rw [arows_len]; omega))) ?_ | refine any_go (i := 15) (by rfl) (by decide +kernel) (by decide +kernel) noLate_nil (go_yields w_none (fun w hS => m_loada_vec Try.underlying50 (hi := ti50) (hS := hS) (hfit := by rw [arows_len]; omega))) ?_
                    try simp only [opv, nZ, Value.cells, List.getElem_toArray, List.getElem_cons_zero, List.getElem_cons_succ]
                    rw [arow_val (by omega) hto, hy]
                    apply any_go (i := 16) (by rfl) (by decide +kernel) (by decide +kernel) noLate_nil (call_yields w_none en57 ?H1) ?K1
                    case H1 =>
                      intro w hS
                      try simp only [opv, nZ, List.map_toArray, List.map_cons, List.map_nil, List.append_toArray, List.cons_append, List.nil_append, Array.append_empty]
                      refine CallR.mono (c_ref09More (aval x) (aval y) hvx hvy _) ?_
                      rintro _ w1 ⟨rfl, hE⟩; exact ⟨rfl, hE⟩
                    try simp only [opv, nZ, Value.cells]
                    refine any_go (i := 17) (by rfl) (by decide +kernel) (by decide +kernel) noLate_nil (go_yields w_none (fun w hS => s_build_struct (cells := (AA (akey x ++ moreV (aval x) (aval y)))) Try.underlying54 ti54 bp54 (hc := by simp only [List.map_toArray, List.map_cons, List.map_nil, opv, nZ, Value.cells, List.toList_toArray]; exact fill_atom (by rfl) (by rfl) (by rfl) hk12 hml))) ?_
                    try simp only [opv, nZ, Value.cells]
                    refine any_step [18] (by kernel_rfl) (by decide) (fun w16 hE => ⟨fun _ => (hS.ext hE).sel (by repeat (first | exact Sel.nil | (refine Sel.cons (by repeat (first | exact Del.head | apply Del.tail)) ?_))), ?_⟩)
                    replace hS := hS.ext hE
                    intro i hi
                    simp only [List.mem_cons, List.not_mem_nil, or_false] at hi
                    subst hi
                    ·
                     refine any_op (by rfl) ?_
                     refine m_buildRow (cells := (AA (akey x ++ moreV (aval x) (aval y)))) Try.underlying22 ti54 (hc := by simp only [List.map_toArray, List.map_cons, List.map_nil, opv, nZ, Value.cells, List.toList_toArray]; exact fill_one (by rfl) (zi_size21 hzl) (by rfl)) (hS := hS) (h := fun w17 g17 hS => ?_)
                     try simp only [opv, nZ, Value.cells, Array.toArray_toList] at hS ⊢
                     replace hS := hS.obj_rd (sz := 21) (n := 1) (by exact zi_size21 hzl) .head
                     rw [arow_one hzl] at hS
                     refine x_nil ?_
                     refine any_step [19] (by kernel_rfl) (by decide) (fun w18 hE => ⟨fun _ => (hS.ext hE).sel (by repeat (first | exact Sel.nil | (refine Sel.cons (by repeat (first | exact Del.head | apply Del.tail)) ?_))), ?_⟩)
                     replace hS := hS.ext hE
                     intro i hi
                     simp only [List.mem_cons, List.not_mem_nil, or_false] at hi
                     subst hi
                     ·
                      refine any_op (by rfl) ?_
                      refine m_append Try.underlying22 ti54 (hS := hS) (h1 := rowsZ_cells _ _) (h := fun w19 A19 C19 hS => ?_)
                      try simp only [← List.map_append, ← List.map_drop, ← List.map_take, Nat.mul_one, Nat.zero_mul, Nat.sub_zero, List.drop_zero, List.nil_append, Nat.zero_add] at hS ⊢
                      try simp only [opv, nZ, Value.cells, Array.toArray_toList] at hS ⊢
                      rw [add_one] at hS
                      refine x_nil ?_
                      refine any_go (i := 20) (by rfl) (by decide +kernel) (by decide +kernel) noLate_nil (go_yields w_none (fun w hS => s_assign)) ?_
                      try simp only [opv, nZ, Value.cells]
                      refine any_nil (by kernel_rfl) (fun w20 hE => ?_)
                      replace hS := hS.ext hE
                      refine ⟨fun _ => hS.selA, ?_⟩
                      refine mix_leaf (by simp only [clob, List.foldl, nZ]) ?_
                      try simp only [n1, n2]
                      exact ⟨_, _, by first | trivial | rfl, hS.selA⟩
                   intro fm1 w21 hM
                   obtain ⟨C2, e2, h5, hS⟩ := hM
                   simp only [clob, List.foldl, n3, n4, h5]
                   refine hK14 _ _ ?_
                   refine x_seq fun K15 hK15 => ?_
                   refine x_region ?_
                   refine s_go (s_move) ?_
                   try simp only [opv, nZ, Value.cells]
                   refine s_go (s_add (hc := by first | exact wr_i64 (by omega) (by omega) | rfl)) ?_
                   try simp only [opv, nZ, Value.cells]
                   refine s_go (s_assign) ?_
                   try simp only [opv, nZ, Value.cells]
                   refine x_nil ?_
                   refine hK15 _ _ ?_
                   refine x_region ?_
                   refine s_go (s_move) ?_
                   try simp only [opv, nZ, Value.cells]
                   refine s_go (s_add (hc := by first | exact wr_i64 (by omega) (by omega) | rfl)) ?_
                   try simp only [opv, nZ, Value.cells]
                   refine s_go (s_assign) ?_
                   try simp only [opv, nZ, Value.cells]
                   refine x_nil ?_
                   refine loop_back (m' := m1 - 1) (by simp only [clob, List.foldl, nZ]) ?_ ?_
                   · try simp only [opv, nZ, Value.cells]
                     exact ⟨_, _, _, _, _, by omega, by omega, by omega, by rfl, by rfl, by simp only [List.length_append, List.length_cons, List.length_nil, Nat.zero_add]; rfl, hnx, by simp only [List.length_append, List.length_cons, List.length_nil, Nat.zero_add]; omega, by simp only [List.length_append, List.length_cons, List.length_nil, Nat.zero_add]; exact hS.selA⟩
                   · omega
       ·
        try simp only [n3, n4]
        try simp only [decide_eq_true_eq, decide_eq_false_iff_not, Bool.not_eq_true', Bool.not_eq_false', Int.not_lt, Int.not_le, ne_eq, Decidable.not_not] at hp3
        first
        | (exfalso; omega)
        | skip
          have hmg := mg_r (s := s) (t := t) (i := i) (k := k) (by omega) hy (.inl (by omega))
          have hnx : (o ++ [y]) ++ mergeP (s.drop i) (t.drop (k + 1)) = mergeP s t := by rw [← hmo, hmg, List.append_assoc]; rfl
          refine q_off (yi (t := 56) rfl rfl) ?_
          try simp only [opv, nZ, Value.cells]
          refine q_off (yi (t := 56) rfl rfl) ?_
          try simp only [opv, nZ, Value.cells]
          refine q_off (yi (t := 56) rfl rfl) ?_
          try simp only [opv, nZ, Value.cells]
          refine q_off (yi (t := 56) rfl rfl) ?_
          try simp only [opv, nZ, Value.cells]
          refine q_off (yi (t := 56) rfl rfl) ?_
          try simp only [opv, nZ, Value.cells]
          refine q_off (yi (t := 56) rfl rfl) ?_
          try simp only [opv, nZ, Value.cells]
          refine q_off (yi (t := 56) rfl rfl) ?_
          try simp only [opv, nZ, Value.cells]
          refine q_off (yi (t := 56) rfl rfl) ?_
          try simp only [opv, nZ, Value.cells]
          refine q_off (yi (t := 56) rfl rfl) ?_
          try simp only [opv, nZ, Value.cells]
          refine q_off (yi (t := 56) rfl rfl) ?_
          try simp only [opv, nZ, Value.cells]
          refine q_off (yi (t := 56) rfl rfl) ?_
          try simp only [opv, nZ, Value.cells]
          refine q_on (yi (t := 51) rfl rfl) ?_
          first | refine q_go (fun w hS => s_pick_t) ?_ | refine q_go (fun w hS => s_pick_f) ?_
          try simp only [opv, nZ, Value.cells]
          first | refine q_go (fun w hS => s_pick_t) ?_ | refine q_go (fun w hS => s_pick_f) ?_
          try simp only [opv, nZ, Value.cells]
          refine q_go (fun w hS => s_assign) ?_
          try simp only [opv, nZ, Value.cells]
          clear hS
          refine q_nil fun w22 hS => ?_
          refine hK8 _ _ ?_
          refine x_cond_f (h := ?_)
          try have hl1 := @c
          refine x_seq fun K16 hK16 => ?_
          refine x_quiet (by kernel_rfl) (by kernel_rfl) hS ?_
          refine q_go (fun w hS => s_move) ?_
          try simp only [opv, nZ, Value.cells]
          refine q_go (fun w hS => s_move) ?_
          try simp only [opv, nZ, Value.cells]
          refine q_go (fun w hS => s_len_sl Try.underlying22) ?_
          try simp only [opv, nZ, Value.cells]
          refine q_go (fun w hS => s_eql) ?_
          try simp only [opv, nZ, Value.cells]
          refine q_go (fun w hS => s_move) ?_
          try simp only [opv, nZ, Value.cells]
          refine q_part 84 rfl (fun hp5 => ?_) (fun hp5 => ?_)
          ·
           try simp only [n3, n4]
           try simp only [decide_eq_true_eq, decide_eq_false_iff_not, Bool.not_eq_true', Bool.not_eq_false', Int.not_lt, Int.not_le, ne_eq, Decidable.not_not] at hp5
           first
           | (exfalso; omega)
           | skip
             refine q_off (yi (t := 84) rfl rfl) ?_
             try simp only [opv, nZ, Value.cells]
             refine q_off (yi (t := 84) rfl rfl) ?_
             try simp only [opv, nZ, Value.cells]
             refine q_off (yi (t := 84) rfl rfl) ?_
             try simp only [opv, nZ, Value.cells]
             refine q_off (yi (t := 84) rfl rfl) ?_
             try simp only [opv, nZ, Value.cells]
             refine q_off (yi (t := 84) rfl rfl) ?_
             try simp only [opv, nZ, Value.cells]
             refine q_off (yi (t := 84) rfl rfl) ?_
             try simp only [opv, nZ, Value.cells]
             refine q_off (yi (t := 84) rfl rfl) ?_
             try simp only [opv, nZ, Value.cells]
             refine q_off (yi (t := 84) rfl rfl) ?_
             try simp only [opv, nZ, Value.cells]
             refine q_off (yi (t := 84) rfl rfl) ?_
             try simp only [opv, nZ, Value.cells]
             refine q_off (yi (t := 84) rfl rfl) ?_
             try simp only [opv, nZ, Value.cells]
             refine q_off (yi (t := 84) rfl rfl) ?_
             try simp only [opv, nZ, Value.cells]
             first | refine q_go (fun w hS => s_pick_t) ?_ | refine q_go (fun w hS => s_pick_f) ?_
             try simp only [opv, nZ, Value.cells]
             refine q_go (fun w hS => s_assign) ?_
             try simp only [opv, nZ, Value.cells]
             clear hS
             refine q_nil fun w23 hS => ?_
             refine hK16 _ _ ?_
             refine x_cond_t (h := ?_)
             try (have hmg := mg_r (s := s) (t := t) (i := i) (k := k) (by omega) hy (.inr ⟨by omega, by rw [hx]; exact hl1, by rw [hx]; exact @c⟩))
             have hnx : (o ++ [y]) ++ mergeP (s.drop i) (t.drop (k + 1)) = mergeP s t := by rw [← hmo, hmg, List.append_assoc]; rfl
             refine x_seq fun K17 hK17 => ?_
             refine x_region ?_
             refine s_go (s_move) ?_
             try simp only [opv, nZ, Value.cells]
             refine s_go (s_move) ?_
             try simp only [opv, nZ, Value.cells]
             refine s_go (s_move) ?_
             try simp only [opv, nZ, Value.cells]
             first | refine s_go (m_indexAddr_rd Try.underlying22 ti54 (hS := hS)) ?_ | refine s_go (m_indexAddr_vec Try.underlying22 ti54 (hS := hS)) ?_
             try simp only [opv, nZ, Value.cells, Nat.mul_one, Nat.zero_add, Int.toNat_natCast, Int.reduceToNat]
             first | refine s_go (m_load_row Try.underlying54 (hi := ti54) (hS := hS) (hfit := by rw [arows_len]; omega)) ?_ | refine s_go (m_loada_obj Try.underlying54 (hi := ti54) (hS := hS) (hfit := by rw [arows_len]; omega)) ?_ | refine s_go (m_loada_bx Try.underlying54 (hi := ti54) (hS := hS) (hfit := by rw [arows_len]; omega)) ?_ | refine s_go (m_loada_rd Try.underlying54 (hi := ti54) (hS := hS) (hfit := by rw [arows_len]; omega)) ?_ | refine s_go (m_loada_vec Try.underlying54 (hi := ti54) (hS := hS) (hfit := by rw [arows_len]; omega)) ?_
             try simp only [opv, nZ, Value.cells, List.getElem_toArray, List.getElem_cons_zero, List.getElem_cons_succ]
             rw [arow_get (by omega) hto, hy]
             refine m_buildRow (cells := (AA y)) Try.underlying22 ti54 (hc := by simp only [List.map_toArray, List.map_cons, List.map_nil, opv, nZ, Value.cells, List.toList_toArray]; exact fill_one (by rfl) (zi_size21 hyl) (by rfl)) (hS := hS) (h := fun w24 g24 hS => ?_)
             try simp only [opv, nZ, Value.cells, Array.toArray_toList] at hS ⊢
             replace hS := hS.obj_rd (sz := 21) (n := 1) (by exact zi_size21 hyl) .head
             rw [arow_one hyl] at hS
             refine m_append Try.underlying22 ti54 (hS := hS) (h1 := rowsZ_cells _ _) (h := fun w25 A25 C25 hS => ?_)
             try simp only [← List.map_append, ← List.map_drop, ← List.map_take, Nat.mul_one, Nat.zero_mul, Nat.sub_zero, List.drop_zero, List.nil_append, Nat.zero_add] at hS ⊢
             try simp only [opv, nZ, Value.cells, Array.toArray_toList] at hS ⊢
             rw [add_one] at hS
             refine s_go (s_assign) ?_
             try simp only [opv, nZ, Value.cells]
             refine x_nil ?_
             refine hK17 _ _ ?_
             refine x_region ?_
             refine s_go (s_move) ?_
             try simp only [opv, nZ, Value.cells]
             refine s_go (s_add (hc := by first | exact wr_i64 (by omega) (by omega) | rfl)) ?_
             try simp only [opv, nZ, Value.cells]
             refine s_go (s_assign) ?_
             try simp only [opv, nZ, Value.cells]
             refine x_nil ?_
             refine loop_back (m' := m1 - 1) (by simp only [clob, List.foldl, nZ]) ?_ ?_
             · try simp only [opv, nZ, Value.cells]
               exact ⟨_, _, _, _, _, by omega, by omega, by omega, by rfl, by rfl, by simp only [List.length_append, List.length_cons, List.length_nil, Nat.zero_add]; rfl, hnx, by simp only [List.length_append, List.length_cons, List.length_nil, Nat.zero_add]; omega, by simp only [List.length_append, List.length_cons, List.length_nil, Nat.zero_add]; exact hS.selA⟩
             · omega
          ·
           try simp only [n3, n4]
           try simp only [decide_eq_true_eq, decide_eq_false_iff_not, Bool.not_eq_true', Bool.not_eq_false', Int.not_lt, Int.not_le, ne_eq, Decidable.not_not] at hp5
           first
           | (exfalso; omega)
           | skip
             refine q_on (yi (t := 84) rfl rfl) ?_
             refine q_go (fun w hS => s_move) ?_
             try simp only [opv, nZ, Value.cells]
             refine q_on (yi (t := 84) rfl rfl) ?_
             refine q_go (fun w hS => s_move) ?_
             try simp only [opv, nZ, Value.cells]
             refine q_on (yi (t := 84) rfl rfl) ?_
             first | refine q_go (fun w hS => m_indexAddr_rd Try.underlying22 ti54 (hS := hS)) ?_ | refine q_go (fun w hS => m_indexAddr_vec Try.underlying22 ti54 (hS := hS)) ?_
             try simp only [opv, nZ, Value.cells, Nat.mul_one, Nat.zero_add, Int.toNat_natCast, Int.reduceToNat]
             refine q_on (yi (t := 84) rfl rfl) ?_
             first | refine q_go (fun w hS => m_fieldAddr Try.underlying54 (hi := ti43)) ?_ | refine q_go (fun w hS => m_fieldAddr_rd Try.underlying54 (hi := ti43) (hS := hS)) ?_ | refine q_go (fun w hS => m_fieldAddr_vec Try.underlying54 (hi := ti43) (hS := hS)) ?_
             try simp only [opv, nZ, Value.cells, Nat.zero_add, Nat.add_zero, List.getElem_toArray, List.getElem_cons_zero, List.getElem_cons_succ]
             refine q_on (yi (t := 84) rfl rfl) ?_
             first | refine q_go (fun w hS => m_load_row Try.underlying43 (hi := ti43) (hS := hS) (hfit := by rw [arows_len]; omega)) ?_ | refine q_go (fun w hS => m_loada_obj Try.underlying43 (hi := ti43) (hS := hS) (hfit := by rw [arows_len]; omega)) ?_ | refine q_go (fun w hS => m_loada_bx Try.underlying43 (hi := ti43) (hS := hS) (hfit := by rw [arows_len]; omega)) ?_ | refine q_go (fun w hS => m_loada_rd Try.underlying43 (hi := ti43) (hS := hS) (hfit := by rw [arows_len]; omega)) ?_ | refine q_go (fun w hS => m_loada_vec Try.underlying43 (hi := ti43) (hS := hS) (hfit := by rw [arows_len]; omega)) ?_
             try simp only [opv, nZ, Value.cells, List.getElem_toArray, List.getElem_cons_zero, List.getElem_cons_succ]
             rw [arow_key (by omega) hto, hy]
             refine q_on (yi (t := 84) rfl rfl) ?_
             refine q_go (fun w hS => s_move) ?_
             try simp only [opv, nZ, Value.cells]
             refine q_on (yi (t := 84) rfl rfl) ?_
             refine q_go (fun w hS => s_move) ?_
             try simp only [opv, nZ, Value.cells]
             refine q_on (yi (t := 84) rfl rfl) ?_
             first | refine q_go (fun w hS => m_indexAddr_rd Try.underlying22 ti54 (hS := hS)) ?_ | refine q_go (fun w hS => m_indexAddr_vec Try.underlying22 ti54 (hS := hS)) ?_
             try simp only [opv, nZ, Value.cells, Nat.mul_one, Nat.zero_add, Int.toNat_natCast, Int.reduceToNat]
             refine q_on (yi (t := 84) rfl rfl) ?_
             first | refine q_go (fun w hS => m_fieldAddr Try.underlying54 (hi := ti43)) ?_ | refine q_go (fun w hS => m_fieldAddr_rd Try.underlying54 (hi := ti43) (hS := hS)) ?_ | refine q_go (fun w hS => m_fieldAddr_vec Try.underlying54 (hi := ti43) (hS := hS)) ?_
             try simp only [opv, nZ, Value.cells, Nat.zero_add, Nat.add_zero, List.getElem_toArray, List.getElem_cons_zero, List.getElem_cons_succ]
             refine q_on (yi (t := 84) rfl rfl) ?_
             first | refine q_go (fun w hS => m_load_row Try.underlying43 (hi := ti43) (hS := hS) (hfit := by rw [arows_len]; omega)) ?_ | refine q_go (fun w hS => m_loada_obj Try.underlying43 (hi := ti43) (hS := hS) (hfit := by rw [arows_len]; omega)) ?_ | refine q_go (fun w hS => m_loada_bx Try.underlying43 (hi := ti43) (hS := hS) (hfit := by rw [arows_len]; omega)) ?_ | refine q_go (fun w hS => m_loada_rd Try.underlying43 (hi := ti43) (hS := hS) (hfit := by rw [arows_len]; omega)) ?_ | refine q_go (fun w hS => m_loada_vec Try.underlying43 (hi := ti43) (hS := hS) (hfit := by rw [arows_len]; omega)) ?_
             try simp only [opv, nZ, Value.cells, List.getElem_toArray, List.getElem_cons_zero, List.getElem_cons_succ]
             rw [arow_key (by omega) hso, hx]
             refine q_on (yi (t := 84) rfl rfl) ?_
             apply q_call en56
             case H =>
               intro w hS
               try simp only [opv, nZ, List.map_toArray, List.map_cons, List.map_nil, List.append_toArray, List.cons_append, List.nil_append, Array.append_empty]
               refine CallR.mono (c_ref08Less (akey y) (akey x) hky hkx _) ?_
               rintro _ w1 ⟨rfl, hE⟩; exact ⟨rfl, hS.ext hE⟩
             try simp only [opv, nZ, Value.cells]
             first | refine q_go (fun w hS => s_pick_t) ?_ | refine q_go (fun w hS => s_pick_f) ?_
             try simp only [opv, nZ, Value.cells]
             refine q_go (fun w hS => s_assign) ?_
             try simp only [opv, nZ, Value.cells]
             clear hS
             refine q_nil fun w26 hS => ?_
             refine hK16 _ _ ?_
             refine x_cond (ht := fun hc8 => ?_) (hf := fun hc8 => ?_)
             ·
              try simp only [decide_eq_true_eq, decide_eq_false_iff_not, Bool.not_eq_true', Bool.not_eq_false', Int.not_lt, Int.not_le, ne_eq, Decidable.not_not, bne_iff_ne, beq_iff_eq, not_true_eq_false, not_false_eq_true] at hc8
              first
              | (exfalso; omega)
              | skip
                try (have hmg := mg_r (s := s) (t := t) (i := i) (k := k) (by omega) hy (.inr ⟨by omega, by rw [hx]; exact hl1, by rw [hx]; exact hc8⟩))
                have hnx : (o ++ [y]) ++ mergeP (s.drop i) (t.drop (k + 1)) = mergeP s t := by rw [← hmo, hmg, List.append_assoc]; rfl
                refine x_seq fun K18 hK18 => ?_
                refine x_region ?_
                refine s_go (s_move) ?_
                try simp only [opv, nZ, Value.cells]
                refine s_go (s_move) ?_
                try simp only [opv, nZ, Value.cells]
                refine s_go (s_move) ?_
                try simp only [opv, nZ, Value.cells]
                first | refine s_go (m_indexAddr_rd Try.underlying22 ti54 (hS := hS)) ?_ | refine s_go (m_indexAddr_vec Try.underlying22 ti54 (hS := hS)) ?_
                try simp only [opv, nZ, Value.cells, Nat.mul_one, Nat.zero_add, Int.toNat_natCast, Int.reduceToNat]
                first | refine s_go (m_load_row Try.underlying54 (hi := ti54) (hS := hS) (hfit := by rw [arows_len]; omega)) ?_ | refine s_go (m_loada_obj Try.underlying54 (hi := ti54) (hS := hS) (hfit := by rw [arows_len]; omega)) ?_ | refine s_go (m_loada_bx Try.underlying54 (hi := ti54) (hS := hS) (hfit := by rw [arows_len]; omega)) ?_ | refine s_go (m_loada_rd Try.underlying54 (hi := ti54) (hS := hS) (hfit := by rw [arows_len]; omega)) ?_ | refine s_go (m_loada_vec Try.underlying54 (hi := ti54) (hS := hS) (hfit := by rw [arows_len]; omega)) ?_
                try simp only [opv, nZ, Value.cells, List.getElem_toArray, List.getElem_cons_zero, List.getElem_cons_succ]
                rw [arow_get (by omega) hto, hy]
                refine m_buildRow (cells := (AA y)) Try.underlying22 ti54 (hc := by simp only [List.map_toArray, List.map_cons, List.map_nil, opv, nZ, Value.cells, List.toList_toArray]; exact fill_one (by rfl) (zi_size21 hyl) (by rfl)) (hS := hS) (h := fun w27 g27 hS => ?_)
                try simp only [opv, nZ, Value.cells, Array.toArray_toList] at hS ⊢
                replace hS := hS.obj_rd (sz := 21) (n := 1) (by exact zi_size21 hyl) .head
                rw [arow_one hyl] at hS
                refine m_append Try.underlying22 ti54 (hS := hS) (h1 := rowsZ_cells _ _) (h := fun w28 A28 C28 hS => ?_)
                try simp only [← List.map_append, ← List.map_drop, ← List.map_take, Nat.mul_one, Nat.zero_mul, Nat.sub_zero, List.drop_zero, List.nil_append, Nat.zero_add] at hS ⊢
                try simp only [opv, nZ, Value.cells, Array.toArray_toList] at hS ⊢
                rw [add_one] at hS
                refine s_go (s_assign) ?_
                try simp only [opv, nZ, Value.cells]
                refine x_nil ?_
                refine hK18 _ _ ?_
                refine x_region ?_
                refine s_go (s_move) ?_
                try simp only [opv, nZ, Value.cells]
                refine s_go (s_add (hc := by first | exact wr_i64 (by omega) (by omega) | rfl)) ?_
                try simp only [opv, nZ, Value.cells]
                refine s_go (s_assign) ?_
                try simp only [opv, nZ, Value.cells]
                refine x_nil ?_
                refine loop_back (m' := m1 - 1) (by simp only [clob, List.foldl, nZ]) ?_ ?_
                · try simp only [opv, nZ, Value.cells]
                  exact ⟨_, _, _, _, _, by omega, by omega, by omega, by rfl, by rfl, by simp only [List.length_append, List.length_cons, List.length_nil, Nat.zero_add]; rfl, hnx, by simp only [List.length_append, List.length_cons, List.length_nil, Nat.zero_add]; omega, by simp only [List.length_append, List.length_cons, List.length_nil, Nat.zero_add]; exact hS.selA⟩
                · omega
             ·
              try simp only [decide_eq_true_eq, decide_eq_false_iff_not, Bool.not_eq_true', Bool.not_eq_false', Int.not_lt, Int.not_le, ne_eq, Decidable.not_not, bne_iff_ne, beq_iff_eq, not_true_eq_false, not_false_eq_true] at hc8
              first
              | (exfalso; omega)
              | skip
                have hmg := mg_e (s := s) (t := t) (i := i) (k := k) (by omega) hx (by omega) hy hl1 hc8
                have hnx : (o ++ [(akey x ++ moreV (aval x) (aval y))]) ++ mergeP (s.drop (i + 1)) (t.drop (k + 1)) = mergeP s t := by rw [← hmo, hmg, List.append_assoc]; rfl
                have hmo9 := more_ok hvx hvy
                have hml := hmo9.len
                have hk12 := hkx.len
                have hzl : (akey x ++ moreV (aval x) (aval y)).length = 21 := (kv_ok hkx hmo9).len
                refine x_seq fun K19 hK19 => ?_
                refine x_mixed_c (Lc := [.rd B2 21 (t).length (arows (t)), .rd B1 21 (s).length (arows (s))]) [] 0 [5, 22, 23, 24, 25, 26, 27, 28, 29, 30, 31, 32, 33, 34, 35, 36, 37, 38, 39, 40, 41] (fun f w => ∃ (C2 : Option Addr) (e2 : Nat), f 5 = .slice C2 (o.length + 1) e2 ∧ St NoB w0 w [.vec C2 e2 54 21 (o.length + 1) (arows (o ++ [(akey x ++ moreV (aval x) (aval y))])), .rd B2 21 (t).length (arows (t)), .rd B1 21 (s).length (arows (s))]) (by kernel_rfl) (by kernel_rfl) (by kernel_rfl) (by decide) hS (fun w29 hS => ?mixpre502) ?mixrest502
                case mixpre502 =>
                 refine p_nil ?_
                 simp only [List.length_cons, List.length_nil, Nat.reduceAdd, Nat.reduceSub]
                 refine any_go (i := 0) (by rfl) (by decide +kernel) (by decide +kernel) noLate_nil (go_yields w_none (fun w hS => s_move)) ?_
                 try simp only [opv, nZ, Value.cells]
                 refine any_go (i := 1) (by rfl) (by decide +kernel) (by decide +kernel) noLate_nil (go_yields w_none (fun w hS => s_move)) ?_
                 try simp only [opv, nZ, Value.cells]
                 refine any_go (i := 2) (by rfl) (by decide +kernel) (by decide +kernel) noLate_nil (go_yields w_none (fun w hS => s_move)) ?_
                 try simp only [opv, nZ, Value.cells]
                 first | refine any_go (i := 3) (by rfl) (by decide +kernel) (by decide +kernel) noLate_nil (go_yields w_none (fun w hS => m_indexAddr_rd Try.underlying22 ti54 (hS := hS))) ?_ | refine any_go (i := 3) (by rfl) (by decide +kernel) (by decide +kernel) noLate_nil (go_yields w_none (fun w hS => m_indexAddr_vec Try.underlying22 ti54 (hS := hS))) ?_
                 try simp only [opv, nZ, Value.cells, Nat.mul_one, Nat.zero_add, Int.toNat_natCast, Int.reduceToNat]
                 first | refine any_go (i := 4) (by rfl) (by decide +kernel) (by decide +kernel) noLate_nil (go_yields w_none (fun w hS => m_fieldAddr Try.underlying54 (hi := ti43))) ?_ | refine any_go (i := 4) (by rfl) (by decide +kernel) (by decide +kernel) noLate_nil (go_yields w_none (fun w hS => m_fieldAddr_rd Try.underlying54 (hi := ti43) (hS := hS))) ?_ | refine any_go (i := 4) (by rfl) (by decide +kernel) (by decide +kernel) noLate_nil (go_yields w_none (fun w hS => m_fieldAddr_vec Try.underlying54 (hi := ti43) (hS := hS))) ?_
                 try simp only [opv, nZ, Value.cells, Nat.zero_add, Nat.add_zero, List.getElem_toArray, List.getElem_cons_zero, List.getElem_cons_succ]
                 first | refine any_go (i := 5) (by rfl) (by decide +kernel) (by decide +kernel) noLate_nil (go_yields w_none (fun w hS => m_load_row Try.underlying43 (hi := ti43) (hS := hS) (hfit := by rw [arows_len]; omega))) ?_ | refine any_go (i := 5) (by rfl) (by decide +kernel) (by decide +kernel) noLate_nil (go_yields w_none (fun w hS => m_loada_obj Try.underlying43 (hi := ti43) (hS := hS) (hfit := by rw [arows_len]; omega))) ?_ | refine any_go (i := 5) (by rfl) (by decide +kernel) (by decide +kernel) noLate_nil (go_yields w_none (fun w hS => m_loada_bx Try.underlying43 (hi := ti43) (hS := hS) (hfit := by rw [arows_len]; omega))) ?_ | refine any_go (i := 5) (by rfl) (by decide +kernel) (by decide +kernel) noLate_nil (go_yields w_none (fun w hS => m_loada_rd Try.underlying43 (hi := ti43) (hS := hS) (hfit := by rw [arows_len]; omega))) ?_ | refine any_go (i := 5) (by rfl) (by decide +kernel) (by decide +kernel) noLate_nil (go_yields w_none (fun w hS => m_loada_vec Try.underlying43 (hi := ti43) (hS := hS) (hfit := by rw [arows_len]; omega))) ?_
                 try simp only [opv, nZ, Value.cells, List.getElem_toArray, List.getElem_cons_zero, List.getElem_cons_succ]
                 rw [arow_key (by omega) hso, hx]
                 refine any_go (i := 6) (by rfl) (by decide +kernel) (by decide +kernel) noLate_nil (go_yields w_none (fun w hS => s_move)) ?_
                 try simp only [opv, nZ, Value.cells]
                 refine any_go (i := 7) (by rfl) (by decide +kernel) (by decide +kernel) noLate_nil (go_yields w_none (fun w hS => s_move)) ?_
                 try simp only [opv, nZ, Value.cells]
                 first | refine any_go (i := 8) (by rfl) (by decide +kernel) (by decide +kernel) noLate_nil (go_yields w_none (fun w hS => m_indexAddr_rd Try.underlying22 ti54 (hS := hS))) ?_ | refine any_go (i := 8) (by rfl) (by decide +kernel) (by decide +kernel) noLate_nil (go_yields w_none (fun w hS => m_indexAddr_vec Try.underlying22 ti54 (hS := hS))) ?_
                 try simp only [opv, nZ, Value.cells, Nat.mul_one, Nat.zero_add, Int.toNat_natCast, Int.reduceToNat]
                 first | refine any_go (i := 9) (by rfl) (by decide +kernel) (by decide +kernel) noLate_nil (go_yields w_none (fun w hS => m_fieldAddr Try.underlying54 (hi := ti50))) ?_ | refine any_go (i := 9) (by rfl) (by decide +kernel) (by decide +kernel) noLate_nil (go_yields w_none (fun w hS => m_fieldAddr_rd Try.underlying54 (hi := ti50) (hS := hS))) ?_ | refine any_go (i := 9) (by rfl) (by decide +kernel) (by decide +kernel) noLate_nil (go_yields w_none (fun w hS => m_fieldAddr_vec Try.underlying54 (hi := ti50) (hS := hS))) ?_
                 try simp only [opv, nZ, Value.cells, Nat.zero_add, Nat.add_zero, List.getElem_toArray, List.getElem_cons_zero, List.getElem_cons_succ]
                 first | refine any_go (i := 10) (by rfl) (by decide +kernel) (by decide +kernel) noLate_nil (go_yields w_none (fun w hS => m_load_row Try.underlying50 (hi := ti50) (hS := hS) (hfit := by rw [arows_len]; omega))) ?_ | refine any_go (i := 10) (by rfl) (by decide +kernel) (by decide +kernel) noLate_nil (go_yields w_none (fun w hS => m_loada_obj Try.underlying50 (hi := ti50) (hS := hS) (hfit := by rw [arows_len]; omega))) ?_ | refine any_go (i := 10) (by rfl) (by decide +kernel) (by decide +kernel) noLate_nil (go_yields w_none (fun w hS => m_loada_bx Try.underlying50 (hi := ti50) (hS := hS) (hfit := by rw [arows_len]; omega))) ?_ | refine any_go (i := 10) (by rfl) (by decide +kernel) (by decide +kernel) noLate_nil (go_yields w_none (fun w hS => m_loada_rd Try.underlying50 (hi := ti50) (hS := hS) (hfit := by rw [arows_len]; omega))) ?_ | refine any_go (i := 10) (by rfl) (by decide +kernel) (by decide +kernel) noLate_nil (go_yields w_none (fun w hS => m_loada_vec Try.underlying50 (hi := ti50) (hS := hS) (hfit := by rw [arows_len]; omega))) ?_
                 try simp only [opv, nZ, Value.cells, List.getElem_toArray, List.getElem_cons_zero, List.getElem_cons_succ]
                 rw [arow_val (by omega) hso, hx]
                 refine any_go (i := 11) (by rfl) (by decide +kernel) (by decide +kernel) noLate_nil (go_yields w_none (fun w hS => s_move)) ?_
                 try simp only [opv, nZ, Value.cells]
                 refine any_go (i := 12) (by rfl) (by decide +kernel) (by decide +kernel) noLate_nil (go_yields w_none (fun w hS => s_move)) ?_
                 try simp only [opv, nZ, Value.cells]
                 first | refine any_go (i := 13) (by rfl) (by decide +kernel) (by decide +kernel) noLate_nil (go_yields w_none (fun w hS => m_indexAddr_rd Try.underlying22 ti54 (hS := hS))) ?_ | refine any_go (i := 13) (by rfl) (by decide +kernel) (by decide +kernel) noLate_nil (go_yields w_none (fun w hS => m_indexAddr_vec Try.underlying22 ti54 (hS := hS))) ?_
                 try simp only [opv, nZ, Value.cells, Nat.mul_one, Nat.zero_add, Int.toNat_natCast, Int.reduceToNat]
                 first | refine any_go (i := 14) (by rfl) (by decide +kernel) (by decide +kernel) noLate_nil (go_yields w_none (fun w hS => m_fieldAddr Try.underlying54 (hi := ti50))) ?_ | refine any_go (i := 14) (by rfl) (by decide +kernel) (by decide +kernel) noLate_nil (go_yields w_none (fun w hS => m_fieldAddr_rd Try.underlying54 (hi := ti50) (hS := hS))) ?_ | refine any_go (i := 14) (by rfl) (by decide +kernel) (by decide +kernel) noLate_nil (go_yields w_none (fun w hS => m_fieldAddr_vec Try.underlying54 (hi := ti50) (hS := hS))) ?_
                 try simp only [opv, nZ, Value.cells, Nat.zero_add, Nat.add_zero, List.getElem_toArray, List.getElem_cons_zero, List.getElem_cons_succ]
                 first | refine any_go (i := 15) (by rfl) (by decide +kernel) (by decide +kernel) noLate_nil (go_yields w_none (fun w hS => m_load_row Try.underlying50 (hi := ti50) (hS := hS) (hfit := by rw [arows_len]; omega))) ?_ | refine any_go (i := 15) (by rfl) (by decide +kernel) (by decide +kernel) noLate_nil (go_yields w_none (fun w hS => m_loada_obj Try.underlying50 (hi := ti50) (hS := hS) (hfit := by rw [arows_len]; omega))) ?_ | refine any_go (i := 15) (by rfl) (by decide +kernel) (by decide +kernel) noLate_nil (go_yields w_none (fun w hS => m_loada_bx Try.underlying50 (hi := ti50) (hS := hS) (hfit := by rw [arows_len]; omega))) ?_ | refine any_go (i := 15) (by rfl) (by decide +kernel) (by decide +kernel) noLate_nil (go_yields w_none (fun w hS => m_loada_rd Try.underlying50 (hi := ti50) (hS := hS) (hfit := by rw [arows_len]; omega))) ?_ | refine any_go (i := 15) (by rfl) (by decide +kernel) (by decide +kernel) noLate_nil (go_yields w_none (fun w hS => m_loada_vec Try.underlying50 (hi := ti50) (hS := hS) (hfit := by rw [arows_len]; omega))) ?_
                 try simp only [opv, nZ, Value.cells, List.getElem_toArray, List.getElem_cons_zero, List.getElem_cons_succ]
                 rw [arow_val (by omega) hto, hy]
                 apply any_go (i := 16) (by rfl) (by decide +kernel) (by decide +kernel) noLate_nil (call_yields w_none en57 ?H2) ?K2
                 case H2 =>
                   intro w hS
                   try simp only [opv, nZ, List.map_toArray, List.map_cons, List.map_nil, List.append_toArray, List.cons_append, List.nil_append, Array.append_empty]
                   refine CallR.mono (c_ref09More (aval x) (aval y) hvx hvy _) ?_
                   rintro _ w1 ⟨rfl, hE⟩; exact ⟨rfl, hE⟩
                 try simp only [opv, nZ, Value.cells]
                 refine any_go (i := 17) (by rfl) (by decide +kernel) (by decide +kernel) noLate_nil (go_yields w_none (fun w hS => s_build_struct (cells := (AA (akey x ++ moreV (aval x) (aval y)))) Try.underlying54 ti54 bp54 (hc := by simp only [List.map_toArray, List.map_cons, List.map_nil, opv, nZ, Value.cells, List.toList_toArray]; exact fill_atom (by rfl) (by rfl) (by rfl) hk12 hml))) ?_
                 try simp only [opv, nZ, Value.cells]
                 refine any_step [18] (by kernel_rfl) (by decide) (fun w30 hE => ⟨fun _ => (hS.ext hE).sel (by repeat (first | exact Sel.nil | (refine Sel.cons (by repeat (first | exact Del.head | apply Del.tail)) ?_))), ?_⟩)
                 replace hS := hS.ext hE
                 intro i hi
                 simp only [List.mem_cons, List.not_mem_nil, or_false] at hi
                 subst hi
                 ·
                  refine any_op (by rfl) ?_
                  refine m_buildRow (cells := (AA (akey x ++ moreV (aval x) (aval y)))) Try.underlying22 ti54 (hc := by simp only [List.map_toArray, List.map_cons, List.map_nil, opv, nZ, Value.cells, List.toList_toArray]; exact fill_one (by rfl) (zi_size21 hzl) (by rfl)) (hS := hS) (h := fun w31 g31 hS => ?_)
                  try simp only [opv, nZ, Value.cells, Array.toArray_toList] at hS ⊢
                  replace hS := hS.obj_rd (sz := 21) (n := 1) (by exact zi_size21 hzl) .head
                  rw [arow_one hzl] at hS
                  refine x_nil ?_
                  refine any_step [19] (by kernel_rfl) (by decide) (fun w32 hE => ⟨fun _ => (hS.ext hE).sel (by repeat (first | exact Sel.nil | (refine Sel.cons (by repeat (first | exact Del.head | apply Del.tail)) ?_))), ?_⟩)
                  replace hS := hS.ext hE
                  intro i hi
                  simp only [List.mem_cons, List.not_mem_nil, or_false] at hi
                  subst hi
                  ·
                   refine any_op (by rfl) ?_
                   refine m_append Try.underlying22 ti54 (hS := hS) (h1 := rowsZ_cells _ _) (h := fun w33 A33 C33 hS => ?_)
                   try simp only [← List.map_append, ← List.map_drop, ← List.map_take, Nat.mul_one, Nat.zero_mul, Nat.sub_zero, List.drop_zero, List.nil_append, Nat.zero_add] at hS ⊢
                   try simp only [opv, nZ, Value.cells, Array.toArray_toList] at hS ⊢
                   rw [add_one] at hS
                   refine x_nil ?_
                   refine any_go (i := 20) (by rfl) (by decide +kernel) (by decide +kernel) noLate_nil (go_yields w_none (fun w hS => s_assign)) ?_
                   try simp only [opv, nZ, Value.cells]
                   refine any_nil (by kernel_rfl) (fun w34 hE => ?_)
                   replace hS := hS.ext hE
                   refine ⟨fun _ => hS.selA, ?_⟩
                   refine mix_leaf (by simp only [clob, List.foldl, nZ]) ?_
                   try simp only [n1, n2]
                   exact ⟨_, _, by first | trivial | rfl, hS.selA⟩
                intro fm2 w35 hM
                obtain ⟨C2, e2, h5, hS⟩ := hM
                simp only [clob, List.foldl, n3, n4, h5]
                refine hK19 _ _ ?_
                refine x_seq fun K20 hK20 => ?_
                refine x_region ?_
                refine s_go (s_move) ?_
                try simp only [opv, nZ, Value.cells]
                refine s_go (s_add (hc := by first | exact wr_i64 (by omega) (by omega) | rfl)) ?_
                try simp only [opv, nZ, Value.cells]
                refine s_go (s_assign) ?_
                try simp only [opv, nZ, Value.cells]
                refine x_nil ?_
                refine hK20 _ _ ?_
                refine x_region ?_
                refine s_go (s_move) ?_
                try simp only [opv, nZ, Value.cells]
                refine s_go (s_add (hc := by first | exact wr_i64 (by omega) (by omega) | rfl)) ?_
                try simp only [opv, nZ, Value.cells]
                refine s_go (s_assign) ?_
                try simp only [opv, nZ, Value.cells]
                refine x_nil ?_
                refine loop_back (m' := m1 - 1) (by simp only [clob, List.foldl, nZ]) ?_ ?_
                · try simp only [opv, nZ, Value.cells]
                  exact ⟨_, _, _, _, _, by omega, by omega, by omega, by rfl, by rfl, by simp only [List.length_append, List.length_cons, List.length_nil, Nat.zero_add]; rfl, hnx, by simp only [List.length_append, List.length_cons, List.length_nil, Nat.zero_add]; omega, by simp only [List.length_append, List.length_cons, List.length_nil, Nat.zero_add]; exact hS.selA⟩
                · omega
 ·
  try simp only [n3, n4]
  try simp only [decide_eq_true_eq, decide_eq_false_iff_not, Bool.not_eq_true', Bool.not_eq_false', Int.not_lt, Int.not_le, ne_eq, Decidable.not_not] at hp1
  first
  | (exfalso; omega)
  | skip
    refine g_on (yi (t := 16) rfl rfl) ?_
    refine s_go (s_move) ?_
    try simp only [opv, nZ, Value.cells]
    refine g_on (yi (t := 16) rfl rfl) ?_
    refine s_go (s_move) ?_
    try simp only [opv, nZ, Value.cells]
    refine g_on (yi (t := 16) rfl rfl) ?_
    refine s_go (s_len_sl Try.underlying22) ?_
    try simp only [opv, nZ, Value.cells]
    refine g_on (yi (t := 16) rfl rfl) ?_
    refine s_go (s_lss) ?_
    try simp only [opv, nZ, Value.cells]
    first | refine s_go (s_pick_t) ?_ | refine s_go (s_pick_f) ?_
    try simp only [opv, nZ, Value.cells]
    refine x_nil ?_
    refine hK7 _ _ ?_
    refine x_cond (ht := fun hc9 => ?_) (hf := fun hc9 => ?_)
    ·
     try simp only [decide_eq_true_eq, decide_eq_false_iff_not, Bool.not_eq_true', Bool.not_eq_false', Int.not_lt, Int.not_le, ne_eq, Decidable.not_not, bne_iff_ne, beq_iff_eq, not_true_eq_false, not_false_eq_true] at hc9
     first
     | (exfalso; omega)
     | skip
       refine x_skip ?_
       refine hK6 _ _ ?_
       refine x_block ?_
       refine x_block ?_
       refine x_seq fun K21 hK21 => ?_
       refine x_quiet (by kernel_rfl) (by kernel_rfl) hS ?_
       refine q_go (fun w hS => s_move) ?_
       try simp only [opv, nZ, Value.cells]
       refine q_go (fun w hS => s_move) ?_
       try simp only [opv, nZ, Value.cells]
       refine q_go (fun w hS => s_len_sl Try.underlying22) ?_
       try simp only [opv, nZ, Value.cells]
       refine q_go (fun w hS => s_eql) ?_
       try simp only [opv, nZ, Value.cells]
       refine q_go (fun w hS => s_move) ?_
       try simp only [opv, nZ, Value.cells]
       refine q_part 51 rfl (fun hp6 => ?_) (fun hp6 => ?_)
       ·
        try simp only [n3, n4]
        try simp only [decide_eq_true_eq, decide_eq_false_iff_not, Bool.not_eq_true', Bool.not_eq_false', Int.not_lt, Int.not_le, ne_eq, Decidable.not_not] at hp6
        first
        | (exfalso; omega)
        | skip
          have hax : AtomOk x := by rw [← hx]; exact hso.get (by omega)
          have hxl := hax.len
          have hkx := hax.key
          have hvx := hax.val
          have hmg := mg_l (s := s) (t := t) (i := i) (k := k) (by omega) hx (.inl (by omega))
          have hnx : (o ++ [x]) ++ mergeP (s.drop (i + 1)) (t.drop k) = mergeP s t := by rw [← hmo, hmg, List.append_assoc]; rfl
          refine q_off (yi (t := 51) rfl rfl) ?_
          try simp only [opv, nZ, Value.cells]
          refine q_off (yi (t := 51) rfl rfl) ?_
          try simp only [opv, nZ, Value.cells]
          refine q_off (yi (t := 51) rfl rfl) ?_
          try simp only [opv, nZ, Value.cells]
          refine q_off (yi (t := 51) rfl rfl) ?_
          try simp only [opv, nZ, Value.cells]
          refine q_off (yi (t := 51) rfl rfl) ?_
          try simp only [opv, nZ, Value.cells]
          refine q_un (yn (t := 56) rfl rfl) ?_
          try simp only [opv, nZ, Value.cells]
          refine q_un (yn (t := 56) rfl rfl) ?_
          try simp only [opv, nZ, Value.cells]
          refine q_un (yn (t := 56) rfl rfl) ?_
          try simp only [opv, nZ, Value.cells]
          refine q_un (yn (t := 56) rfl rfl) ?_
          try simp only [opv, nZ, Value.cells]
          refine q_un (yn (t := 56) rfl rfl) ?_
          try simp only [opv, nZ, Value.cells]
          refine q_un (yn (t := 56) rfl rfl) ?_
          try simp only [opv, nZ, Value.cells]
          refine q_un (yn (t := 56) rfl rfl) ?_
          try simp only [opv, nZ, Value.cells]
          refine q_un (yn (t := 56) rfl rfl) ?_
          try simp only [opv, nZ, Value.cells]
          refine q_un (yn (t := 56) rfl rfl) ?_
          try simp only [opv, nZ, Value.cells]
          refine q_un (yn (t := 56) rfl rfl) ?_
          try simp only [opv, nZ, Value.cells]
          refine q_un (yn (t := 56) rfl rfl) ?_
          try simp only [opv, nZ, Value.cells]
          refine q_off (yi (t := 51) rfl rfl) ?_
          try simp only [opv, nZ, Value.cells]
          first | refine q_go (fun w hS => s_pick_t) ?_ | refine q_go (fun w hS => s_pick_f) ?_
          try simp only [opv, nZ, Value.cells]
          refine q_go (fun w hS => s_assign) ?_
          try simp only [opv, nZ, Value.cells]
          clear hS
          refine q_nil fun w36 hS => ?_
          refine hK21 _ _ ?_
          refine x_cond_t (h := ?_)
          try (have hmg := mg_l (s := s) (t := t) (i := i) (k := k) (by omega) hx (.inr ⟨by omega, by rw [hy]; exact @c⟩))
          have hnx : (o ++ [x]) ++ mergeP (s.drop (i + 1)) (t.drop k) = mergeP s t := by rw [← hmo, hmg, List.append_assoc]; rfl
          refine x_seq fun K22 hK22 => ?_
          refine x_region ?_
          refine s_go (s_move) ?_
          try simp only [opv, nZ, Value.cells]
          refine s_go (s_move) ?_
          try simp only [opv, nZ, Value.cells]
          refine s_go (s_move) ?_
          try simp only [opv, nZ, Value.cells]
          first | refine s_go (m_indexAddr_rd Try.underlying22 ti54 (hS := hS)) ?_ | refine s_go (m_indexAddr_vec Try.underlying22 ti54 (hS := hS)) ?_
          try simp only [opv, nZ, Value.cells, Nat.mul_one, Nat.zero_add, Int.toNat_natCast, Int.reduceToNat]
          first | refine s_go (m_load_row Try.underlying54 (hi := ti54) (hS := hS) (hfit := by rw [arows_len]; omega)) ?_ | refine s_go (m_loada_obj Try.underlying54 (hi := ti54) (hS := hS) (hfit := by rw [arows_len]; omega)) ?_ | refine s_go (m_loada_bx Try.underlying54 (hi := ti54) (hS := hS) (hfit := by rw [arows_len]; omega)) ?_ | refine s_go (m_loada_rd Try.underlying54 (hi := ti54) (hS := hS) (hfit := by rw [arows_len]; omega)) ?_ | refine s_go (m_loada_vec Try.underlying54 (hi := ti54) (hS := hS) (hfit := by rw [arows_len]; omega)) ?_
          try simp only [opv, nZ, Value.cells, List.getElem_toArray, List.getElem_cons_zero, List.getElem_cons_succ]
          rw [arow_get (by omega) hso, hx]
          refine m_buildRow (cells := (AA x)) Try.underlying22 ti54 (hc := by simp only [List.map_toArray, List.map_cons, List.map_nil, opv, nZ, Value.cells, List.toList_toArray]; exact fill_one (by rfl) (zi_size21 hxl) (by rfl)) (hS := hS) (h := fun w37 g37 hS => ?_)
          try simp only [opv, nZ, Value.cells, Array.toArray_toList] at hS ⊢
          replace hS := hS.obj_rd (sz := 21) (n := 1) (by exact zi_size21 hxl) .head
          rw [arow_one hxl] at hS
          refine m_append Try.underlying22 ti54 (hS := hS) (h1 := rowsZ_cells _ _) (h := fun w38 A38 C38 hS => ?_)
          try simp only [← List.map_append, ← List.map_drop, ← List.map_take, Nat.mul_one, Nat.zero_mul, Nat.sub_zero, List.drop_zero, List.nil_append, Nat.zero_add] at hS ⊢
          try simp only [opv, nZ, Value.cells, Array.toArray_toList] at hS ⊢
          rw [add_one] at hS
          refine s_go (s_assign) ?_
          try simp only [opv, nZ, Value.cells]
          refine x_nil ?_
          refine hK22 _ _ ?_
          refine x_region ?_
          refine s_go (s_move) ?_
          try simp only [opv, nZ, Value.cells]
          refine s_go (s_add (hc := by first | exact wr_i64 (by omega) (by omega) | rfl)) ?_
          try simp only [opv, nZ, Value.cells]
          refine s_go (s_assign) ?_
          try simp only [opv, nZ, Value.cells]
          refine x_nil ?_
          refine loop_back (m' := m1 - 1) (by simp only [clob, List.foldl, nZ]) ?_ ?_
          · try simp only [opv, nZ, Value.cells]
            exact ⟨_, _, _, _, _, by omega, by omega, by omega, by rfl, by rfl, by simp only [List.length_append, List.length_cons, List.length_nil, Nat.zero_add]; rfl, hnx, by simp only [List.length_append, List.length_cons, List.length_nil, Nat.zero_add]; omega, by simp only [List.length_append, List.length_cons, List.length_nil, Nat.zero_add]; exact hS.selA⟩
          · omega
       ·
        try simp only [n3, n4]
        try simp only [decide_eq_true_eq, decide_eq_false_iff_not, Bool.not_eq_true', Bool.not_eq_false', Int.not_lt, Int.not_le, ne_eq, Decidable.not_not] at hp6
        first
        | (exfalso; omega)
        | skip
          have hay : AtomOk y := by rw [← hy]; exact hto.get (by omega)
          have hyl := hay.len
          have hky := hay.key
          have hvy := hay.val
          refine q_on (yi (t := 51) rfl rfl) ?_
          refine q_go (fun w hS => s_move) ?_
          try simp only [opv, nZ, Value.cells]
          refine q_on (yi (t := 51) rfl rfl) ?_
          refine q_go (fun w hS => s_move) ?_
          try simp only [opv, nZ, Value.cells]
          refine q_on (yi (t := 51) rfl rfl) ?_
          refine q_go (fun w hS => s_len_sl Try.underlying22) ?_
          try simp only [opv, nZ, Value.cells]
          refine q_on (yi (t := 51) rfl rfl) ?_
          refine q_go (fun w hS => s_lss) ?_
          try simp only [opv, nZ, Value.cells]
          refine q_on (yi (t := 51) rfl rfl) ?_
          refine q_go (fun w hS => s_move) ?_
          try simp only [opv, nZ, Value.cells]
          refine q_part 56 rfl (fun hp7 => ?_) (fun hp7 => ?_)
          ·
           try simp only [n3, n4]
           try simp only [decide_eq_true_eq, decide_eq_false_iff_not, Bool.not_eq_true', Bool.not_eq_false', Int.not_lt, Int.not_le, ne_eq, Decidable.not_not] at hp7
           first
           | (exfalso; omega)
           | skip
             have hax : AtomOk x := by rw [← hx]; exact hso.get (by omega)
             have hxl := hax.len
             have hkx := hax.key
             have hvx := hax.val
             refine q_on (yi (t := 56) rfl rfl) ?_
             refine q_go (fun w hS => s_move) ?_
             try simp only [opv, nZ, Value.cells]
             refine q_on (yi (t := 56) rfl rfl) ?_
             refine q_go (fun w hS => s_move) ?_
             try simp only [opv, nZ, Value.cells]
             refine q_on (yi (t := 56) rfl rfl) ?_
             first | refine q_go (fun w hS => m_indexAddr_rd Try.underlying22 ti54 (hS := hS)) ?_ | refine q_go (fun w hS => m_indexAddr_vec Try.underlying22 ti54 (hS := hS)) ?_
             try simp only [opv, nZ, Value.cells, Nat.mul_one, Nat.zero_add, Int.toNat_natCast, Int.reduceToNat]
             refine q_on (yi (t := 56) rfl rfl) ?_
             first | refine q_go (fun w hS => m_fieldAddr Try.underlying54 (hi := ti43)) ?_ | refine q_go (fun w hS => m_fieldAddr_rd Try.underlying54 (hi := ti43) (hS := hS)) ?_ | refine q_go (fun w hS => m_fieldAddr_vec Try.underlying54 (hi := ti43) (hS := hS)) ?_
             try simp only [opv, nZ, Value.cells, Nat.zero_add, Nat.add_zero, List.getElem_toArray, List.getElem_cons_zero, List.getElem_cons_succ]
             refine q_on (yi (t := 56) rfl rfl) ?_
             first | refine q_go (fun w hS => m_load_row Try.underlying43 (hi := ti43) (hS := hS) (hfit := by rw [arows_len]; omega)) ?_ | refine q_go (fun w hS => m_loada_obj Try.underlying43 (hi := ti43) (hS := hS) (hfit := by rw [arows_len]; omega)) ?_ | refine q_go (fun w hS => m_loada_bx Try.underlying43 (hi := ti43) (hS := hS) (hfit := by rw [arows_len]; omega)) ?_ | refine q_go (fun w hS => m_loada_rd Try.underlying43 (hi := ti43) (hS := hS) (hfit := by rw [arows_len]; omega)) ?_ | refine q_go (fun w hS => m_loada_vec Try.underlying43 (hi := ti43) (hS := hS) (hfit := by rw [arows_len]; omega)) ?_
             try simp only [opv, nZ, Value.cells, List.getElem_toArray, List.getElem_cons_zero, List.getElem_cons_succ]
             rw [arow_key (by omega) hso, hx]
             refine q_on (yi (t := 56) rfl rfl) ?_
             refine q_go (fun w hS => s_move) ?_
             try simp only [opv, nZ, Value.cells]
             refine q_on (yi (t := 56) rfl rfl) ?_
             refine q_go (fun w hS => s_move) ?_
             try simp only [opv, nZ, Value.cells]
             refine q_on (yi (t := 56) rfl rfl) ?_
             first | refine q_go (fun w hS => m_indexAddr_rd Try.underlying22 ti54 (hS := hS)) ?_ | refine q_go (fun w hS => m_indexAddr_vec Try.underlying22 ti54 (hS := hS)) ?_
             try simp only [opv, nZ, Value.cells, Nat.mul_one, Nat.zero_add, Int.toNat_natCast, Int.reduceToNat]
             refine q_on (yi (t := 56) rfl rfl) ?_
             first | refine q_go (fun w hS => m_fieldAddr Try.underlying54 (hi := ti43)) ?_ | refine q_go (fun w hS => m_fieldAddr_rd Try.underlying54 (hi := ti43) (hS := hS)) ?_ | refine q_go (fun w hS => m_fieldAddr_vec Try.underlying54 (hi := ti43) (hS := hS)) ?_
             try simp only [opv, nZ, Value.cells, Nat.zero_add, Nat.add_zero, List.getElem_toArray, List.getElem_cons_zero, List.getElem_cons_succ]
             refine q_on (yi (t := 56) rfl rfl) ?_
             first | refine q_go (fun w hS => m_load_row Try.underlying43 (hi := ti43) (hS := hS) (hfit := by rw [arows_len]; omega)) ?_ | refine q_go (fun w hS => m_loada_obj Try.underlying43 (hi := ti43) (hS := hS) (hfit := by rw [arows_len]; omega)) ?_ | refine q_go (fun w hS => m_loada_bx Try.underlying43 (hi := ti43) (hS := hS) (hfit := by rw [arows_len]; omega)) ?_ | refine q_go (fun w hS => m_loada_rd Try.underlying43 (hi := ti43) (hS := hS) (hfit := by rw [arows_len]; omega)) ?_ | refine q_go (fun w hS => m_loada_vec Try.underlying43 (hi := ti43) (hS := hS) (hfit := by rw [arows_len]; omega)) ?_
             try simp only [opv, nZ, Value.cells, List.getElem_toArray, List.getElem_cons_zero, List.getElem_cons_succ]
             rw [arow_key (by omega) hto, hy]
             refine q_on (yi (t := 56) rfl rfl) ?_
             apply q_call en56
             case H =>
               intro w hS
               try simp only [opv, nZ, List.map_toArray, List.map_cons, List.map_nil, List.append_toArray, List.cons_append, List.nil_append, Array.append_empty]
               refine CallR.mono (c_ref08Less (akey x) (akey y) hkx hky _) ?_
               rintro _ w1 ⟨rfl, hE⟩; exact ⟨rfl, hS.ext hE⟩
             try simp only [opv, nZ, Value.cells]
             refine q_on (yi (t := 51) rfl rfl) ?_
             first | refine q_go (fun w hS => s_pick_t) ?_ | refine q_go (fun w hS => s_pick_f) ?_
             try simp only [opv, nZ, Value.cells]
             first | refine q_go (fun w hS => s_pick_t) ?_ | refine q_go (fun w hS => s_pick_f) ?_
             try simp only [opv, nZ, Value.cells]
             refine q_go (fun w hS => s_assign) ?_
             try simp only [opv, nZ, Value.cells]
             clear hS
             refine q_nil fun w39 hS => ?_
             refine hK21 _ _ ?_
             refine x_cond (ht := fun hc11 => ?_) (hf := fun hc11 => ?_)
             ·
              try simp only [decide_eq_true_eq, decide_eq_false_iff_not, Bool.not_eq_true', Bool.not_eq_false', Int.not_lt, Int.not_le, ne_eq, Decidable.not_not, bne_iff_ne, beq_iff_eq, not_true_eq_false, not_false_eq_true] at hc11
              first
              | (exfalso; omega)
              | skip
                try (have hmg := mg_l (s := s) (t := t) (i := i) (k := k) (by omega) hx (.inr ⟨by omega, by rw [hy]; exact hc11⟩))
                have hnx : (o ++ [x]) ++ mergeP (s.drop (i + 1)) (t.drop k) = mergeP s t := by rw [← hmo, hmg, List.append_assoc]; rfl
                refine x_seq fun K23 hK23 => ?_
                refine x_region ?_
                refine s_go (s_move) ?_
                try simp only [opv, nZ, Value.cells]
                refine s_go (s_move) ?_
                try simp only [opv, nZ, Value.cells]
                refine s_go (s_move) ?_
                try simp only [opv, nZ, Value.cells]
                first | refine s_go (m_indexAddr_rd Try.underlying22 ti54 (hS := hS)) ?_ | refine s_go (m_indexAddr_vec Try.underlying22 ti54 (hS := hS)) ?_
                try simp only [opv, nZ, Value.cells, Nat.mul_one, Nat.zero_add, Int.toNat_natCast, Int.reduceToNat]
                first | refine s_go (m_load_row Try.underlying54 (hi := ti54) (hS := hS) (hfit := by rw [arows_len]; omega)) ?_ | refine s_go (m_loada_obj Try.underlying54 (hi := ti54) (hS := hS) (hfit := by rw [arows_len]; omega)) ?_ | refine s_go (m_loada_bx Try.underlying54 (hi := ti54) (hS := hS) (hfit := by rw [arows_len]; omega)) ?_ | refine s_go (m_loada_rd Try.underlying54 (hi := ti54) (hS := hS) (hfit := by rw [arows_len]; omega)) ?_ | refine s_go (m_loada_vec Try.underlying54 (hi := ti54) (hS := hS) (hfit := by rw [arows_len]; omega)) ?_
                try simp only [opv, nZ, Value.cells, List.getElem_toArray, List.getElem_cons_zero, List.getElem_cons_succ]
                rw [arow_get (by omega) hso, hx]
                refine m_buildRow (cells := (AA x)) Try.underlying22 ti54 (hc := by simp only [List.map_toArray, List.map_cons, List.map_nil, opv, nZ, Value.cells, List.toList_toArray]; exact fill_one (by rfl) (zi_size21 hxl) (by rfl)) (hS := hS) (h := fun w40 g40 hS => ?_)
                try simp only [opv, nZ, Value.cells, Array.toArray_toList] at hS ⊢
                replace hS := hS.obj_rd (sz := 21) (n := 1) (by exact zi_size21 hxl) .head
                rw [arow_one hxl] at hS
                refine m_append Try.underlying22 ti54 (hS := hS) (h1 := rowsZ_cells _ _) (h := fun w41 A41 C41 hS => ?_)
                try simp only [← List.map_append, ← List.map_drop, ← List.map_take, Nat.mul_one, Nat.zero_mul, Nat.sub_zero, List.drop_zero, List.nil_append, Nat.zero_add] at hS ⊢
                try simp only [opv, nZ, Value.cells, Array.toArray_toList] at hS ⊢
                rw [add_one] at hS
                refine s_go (s_assign) ?_
                try simp only [opv, nZ, Value.cells]
                refine x_nil ?_
                refine hK23 _ _ ?_
                refine x_region ?_
                refine s_go (s_move) ?_
                try simp only [opv, nZ, Value.cells]
                refine s_go (s_add (hc := by first | exact wr_i64 (by omega) (by omega) | rfl)) ?_
                try simp only [opv, nZ, Value.cells]
                refine s_go (s_assign) ?_
                try simp only [opv, nZ, Value.cells]
                refine x_nil ?_
                refine loop_back (m' := m1 - 1) (by simp only [clob, List.foldl, nZ]) ?_ ?_
                · try simp only [opv, nZ, Value.cells]
                  exact ⟨_, _, _, _, _, by omega, by omega, by omega, by rfl, by rfl, by simp only [List.length_append, List.length_cons, List.length_nil, Nat.zero_add]; rfl, hnx, by simp only [List.length_append, List.length_cons, List.length_nil, Nat.zero_add]; omega, by simp only [List.length_append, List.length_cons, List.length_nil, Nat.zero_add]; exact hS.selA⟩
                · omega
             ·
              try simp only [decide_eq_true_eq, decide_eq_false_iff_not, Bool.not_eq_true', Bool.not_eq_false', Int.not_lt, Int.not_le, ne_eq, Decidable.not_not, bne_iff_ne, beq_iff_eq, not_true_eq_false, not_false_eq_true] at hc11
              first
              | (exfalso; omega)
              | skip
                try have hl1 := hc11
                refine x_seq fun K24 hK24 => ?_
                refine x_quiet (by kernel_rfl) (by kernel_rfl) hS ?_
                refine q_go (fun w hS => s_move) ?_
                try simp only [opv, nZ, Value.cells]
                refine q_go (fun w hS => s_move) ?_
                try simp only [opv, nZ, Value.cells]
                refine q_go (fun w hS => s_len_sl Try.underlying22) ?_
                try simp only [opv, nZ, Value.cells]
                refine q_go (fun w hS => s_eql) ?_
                try simp only [opv, nZ, Value.cells]
                refine q_go (fun w hS => s_move) ?_
                try simp only [opv, nZ, Value.cells]
                refine q_part 84 rfl (fun hp8 => ?_) (fun hp8 => ?_)
                ·
                 try simp only [n3, n4]
                 try simp only [decide_eq_true_eq, decide_eq_false_iff_not, Bool.not_eq_true', Bool.not_eq_false', Int.not_lt, Int.not_le, ne_eq, Decidable.not_not] at hp8
                 first
                 | (exfalso; omega)
                 | skip
                   refine q_off (yi (t := 84) rfl rfl) ?_
                   try simp only [opv, nZ, Value.cells]
                   refine q_off (yi (t := 84) rfl rfl) ?_
                   try simp only [opv, nZ, Value.cells]
                   refine q_off (yi (t := 84) rfl rfl) ?_
                   try simp only [opv, nZ, Value.cells]
                   refine q_off (yi (t := 84) rfl rfl) ?_
                   try simp only [opv, nZ, Value.cells]
                   refine q_off (yi (t := 84) rfl rfl) ?_
                   try simp only [opv, nZ, Value.cells]
                   refine q_off (yi (t := 84) rfl rfl) ?_
                   try simp only [opv, nZ, Value.cells]
                   refine q_off (yi (t := 84) rfl rfl) ?_
                   try simp only [opv, nZ, Value.cells]
                   refine q_off (yi (t := 84) rfl rfl) ?_
                   try simp only [opv, nZ, Value.cells]
                   refine q_off (yi (t := 84) rfl rfl) ?_
                   try simp only [opv, nZ, Value.cells]
                   refine q_off (yi (t := 84) rfl rfl) ?_
                   try simp only [opv, nZ, Value.cells]
                   refine q_off (yi (t := 84) rfl rfl) ?_
                   try simp only [opv, nZ, Value.cells]
                   first | refine q_go (fun w hS => s_pick_t) ?_ | refine q_go (fun w hS => s_pick_f) ?_
                   try simp only [opv, nZ, Value.cells]
                   refine q_go (fun w hS => s_assign) ?_
                   try simp only [opv, nZ, Value.cells]
                   clear hS
                   refine q_nil fun w42 hS => ?_
                   refine hK24 _ _ ?_
                   refine x_cond_t (h := ?_)
                   try (have hmg := mg_r (s := s) (t := t) (i := i) (k := k) (by omega) hy (.inr ⟨by omega, by rw [hx]; exact hl1, by rw [hx]; exact @c⟩))
                   have hnx : (o ++ [y]) ++ mergeP (s.drop i) (t.drop (k + 1)) = mergeP s t := by rw [← hmo, hmg, List.append_assoc]; rfl
                   refine x_seq fun K25 hK25 => ?_
                   refine x_region ?_
                   refine s_go (s_move) ?_
                   try simp only [opv, nZ, Value.cells]
                   refine s_go (s_move) ?_
                   try simp only [opv, nZ, Value.cells]
                   refine s_go (s_move) ?_
                   try simp only [opv, nZ, Value.cells]
                   first | refine s_go (m_indexAddr_rd Try.underlying22 ti54 (hS := hS)) ?_ | refine s_go (m_indexAddr_vec Try.underlying22 ti54 (hS := hS)) ?_
                   try simp only [opv, nZ, Value.cells, Nat.mul_one, Nat.zero_add, Int.toNat_natCast, Int.reduceToNat]
                   first | refine s_go (m_load_row Try.underlying54 (hi := ti54) (hS := hS) (hfit := by rw [arows_len]; omega)) ?_ | refine s_go (m_loada_obj Try.underlying54 (hi := ti54) (hS := hS) (hfit := by rw [arows_len]; omega)) ?_ | refine s_go (m_loada_bx Try.underlying54 (hi := ti54) (hS := hS) (hfit := by rw [arows_len]; omega)) ?_ | refine s_go (m_loada_rd Try.underlying54 (hi := ti54) (hS := hS) (hfit := by rw [arows_len]; omega)) ?_ | refine s_go (m_loada_vec Try.underlying54 (hi := ti54) (hS := hS) (hfit := by rw [arows_len]; omega)) ?_
                   try simp only [opv, nZ, Value.cells, List.getElem_toArray, List.getElem_cons_zero, List.getElem_cons_succ]
                   rw [arow_get (by omega) hto, hy]
                   refine m_buildRow (cells := (AA y)) Try.underlying22 ti54 (hc := by simp only [List.map_toArray, List.map_cons, List.map_nil, opv, nZ, Value.cells, List.toList_toArray]; exact fill_one (by rfl) (zi_size21 hyl) (by rfl)) (hS := hS) (h := fun w43 g43 hS => ?_)
                   try simp only [opv, nZ, Value.cells, Array.toArray_toList] at hS ⊢
                   replace hS := hS.obj_rd (sz := 21) (n := 1) (by exact zi_size21 hyl) .head
                   rw [arow_one hyl] at hS
                   refine m_append Try.underlying22 ti54 (hS := hS) (h1 := rowsZ_cells _ _) (h := fun w44 A44 C44 hS => ?_)
                   try simp only [← List.map_append, ← List.map_drop, ← List.map_take, Nat.mul_one, Nat.zero_mul, Nat.sub_zero, List.drop_zero, List.nil_append, Nat.zero_add] at hS ⊢
                   try simp only [opv, nZ, Value.cells, Array.toArray_toList] at hS ⊢
                   rw [add_one] at hS
                   refine s_go (s_assign) ?_
                   try simp only [opv, nZ, Value.cells]
                   refine x_nil ?_
                   refine hK25 _ _ ?_
                   refine x_region ?_
                   refine s_go (s_move) ?_
                   try simp only [opv, nZ, Value.cells]
                   refine s_go (s_add (hc := by first | exact wr_i64 (by omega) (by omega) | rfl)) ?_
                   try simp only [opv, nZ, Value.cells]
                   refine s_go (s_assign) ?_
                   try simp only [opv, nZ, Value.cells]
                   refine x_nil ?_
                   refine loop_back (m' := m1 - 1) (by simp only [clob, List.foldl, nZ]) ?_ ?_
                   · try simp only [opv, nZ, Value.cells]
                     exact ⟨_, _, _, _, _, by omega, by omega, by omega, by rfl, by rfl, by simp only [List.length_append, List.length_cons, List.length_nil, Nat.zero_add]; rfl, hnx, by simp only [List.length_append, List.length_cons, List.length_nil, Nat.zero_add]; omega, by simp only [List.length_append, List.length_cons, List.length_nil, Nat.zero_add]; exact hS.selA⟩
                   · omega
                ·
                 try simp only [n3, n4]
                 try simp only [decide_eq_true_eq, decide_eq_false_iff_not, Bool.not_eq_true', Bool.not_eq_false', Int.not_lt, Int.not_le, ne_eq, Decidable.not_not] at hp8
                 first
                 | (exfalso; omega)
                 | skip
                   refine q_on (yi (t := 84) rfl rfl) ?_
                   refine q_go (fun w hS => s_move) ?_
                   try simp only [opv, nZ, Value.cells]
                   refine q_on (yi (t := 84) rfl rfl) ?_
                   refine q_go (fun w hS => s_move) ?_
                   try simp only [opv, nZ, Value.cells]
                   refine q_on (yi (t := 84) rfl rfl) ?_
                   first | refine q_go (fun w hS => m_indexAddr_rd Try.underlying22 ti54 (hS := hS)) ?_ | refine q_go (fun w hS => m_indexAddr_vec Try.underlying22 ti54 (hS := hS)) ?_
                   try simp only [opv, nZ, Value.cells, Nat.mul_one, Nat.zero_add, Int.toNat_natCast, Int.reduceToNat]
                   refine q_on (yi (t := 84) rfl rfl) ?_
                   first | refine q_go (fun w hS => m_fieldAddr Try.underlying54 (hi := ti43)) ?_ | refine q_go (fun w hS => m_fieldAddr_rd Try.underlying54 (hi := ti43) (hS := hS)) ?_ | refine q_go (fun w hS => m_fieldAddr_vec Try.underlying54 (hi := ti43) (hS := hS)) ?_
                   try simp only [opv, nZ, Value.cells, Nat.zero_add, Nat.add_zero, List.getElem_toArray, List.getElem_cons_zero, List.getElem_cons_succ]
                   refine q_on (yi (t := 84) rfl rfl) ?_
                   first | refine q_go (fun w hS => m_load_row Try.underlying43 (hi := ti43) (hS := hS) (hfit := by rw [arows_len]; omega)) ?_ | refine q_go (fun w hS => m_loada_obj Try.underlying43 (hi := ti43) (hS := hS) (hfit := by rw [arows_len]; omega)) ?_ | refine q_go (fun w hS => m_loada_bx Try.underlying43 (hi := ti43) (hS := hS) (hfit := by rw [arows_len]; omega)) ?_ | refine q_go (fun w hS => m_loada_rd Try.underlying43 (hi := ti43) (hS := hS) (hfit := by rw [arows_len]; omega)) ?_ | refine q_go (fun w hS => m_loada_vec Try.underlying43 (hi := ti43) (hS := hS) (hfit := by rw [arows_len]; omega)) ?_
                   try simp only [opv, nZ, Value.cells, List.getElem_toArray, List.getElem_cons_zero, List.getElem_cons_succ]
                   rw [arow_key (by omega) hto, hy]
                   refine q_on (yi (t := 84) rfl rfl) ?_
                   refine q_go (fun w hS => s_move) ?_
                   try simp only [opv, nZ, Value.cells]
                   refine q_on (yi (t := 84) rfl rfl) ?_
                   refine q_go (fun w hS => s_move) ?_
                   try simp only [opv, nZ, Value.cells]
                   refine q_on (yi (t := 84) rfl rfl) ?_
                   first | refine q_go (fun w hS => m_indexAddr_rd Try.underlying22 ti54 (hS := hS)) ?_ | refine q_go (fun w hS => m_indexAddr_vec Try.underlying22 ti54 (hS := hS)) ?_
                   try simp only [opv, nZ, Value.cells, Nat.mul_one, Nat.zero_add, Int.toNat_natCast, Int.reduceToNat]
                   refine q_on (yi (t := 84) rfl rfl) ?_
                   first | refine q_go (fun w hS => m_fieldAddr Try.underlying54 (hi := ti43)) ?_ | refine q_go (fun w hS => m_fieldAddr_rd Try.underlying54 (hi := ti43) (hS := hS)) ?_ | refine q_go (fun w hS => m_fieldAddr_vec Try.underlying54 (hi := ti43) (hS := hS)) ?_
                   try simp only [opv, nZ, Value.cells, Nat.zero_add, Nat.add_zero, List.getElem_toArray, List.getElem_cons_zero, List.getElem_cons_succ]
                   refine q_on (yi (t := 84) rfl rfl) ?_
                   first | refine q_go (fun w hS => m_load_row Try.underlying43 (hi := ti43) (hS := hS) (hfit := by rw [arows_len]; omega)) ?_ | refine q_go (fun w hS => m_loada_obj Try.underlying43 (hi := ti43) (hS := hS) (hfit := by rw [arows_len]; omega)) ?_ | refine q_go (fun w hS => m_loada_bx Try.underlying43 (hi := ti43) (hS := hS) (hfit := by rw [arows_len]; omega)) ?_ | refine q_go (fun w hS => m_loada_rd Try.underlying43 (hi := ti43) (hS := hS) (hfit := by rw [arows_len]; omega)) ?_ | refine q_go (fun w hS => m_loada_vec Try.underlying43 (hi := ti43) (hS := hS) (hfit := by rw [arows_len]; omega)) ?_
                   try simp only [opv, nZ, Value.cells, List.getElem_toArray, List.getElem_cons_zero, List.getElem_cons_succ]
                   rw [arow_key (by omega) hso, hx]
                   refine q_on (yi (t := 84) rfl rfl) ?_
                   apply q_call en56
                   case H =>
                     intro w hS
                     try simp only [opv, nZ, List.map_toArray, List.map_cons, List.map_nil, List.append_toArray, List.cons_append, List.nil_append, Array.append_empty]
                     refine CallR.mono (c_ref08Less (akey y) (akey x) hky hkx _) ?_
                     rintro _ w1 ⟨rfl, hE⟩; exact ⟨rfl, hS.ext hE⟩
                   try simp only [opv, nZ, Value.cells]
                   first | refine q_go (fun w hS => s_pick_t) ?_ | refine q_go (fun w hS => s_pick_f) ?_
                   try simp only [opv, nZ, Value.cells]
                   refine q_go (fun w hS => s_assign) ?_
                   try simp only [opv, nZ, Value.cells]
                   clear hS
                   refine q_nil fun w45 hS => ?_
                   refine hK24 _ _ ?_
                   refine x_cond (ht := fun hc13 => ?_) (hf := fun hc13 => ?_)
                   ·
                    try simp only [decide_eq_true_eq, decide_eq_false_iff_not, Bool.not_eq_true', Bool.not_eq_false', Int.not_lt, Int.not_le, ne_eq, Decidable.not_not, bne_iff_ne, beq_iff_eq, not_true_eq_false, not_false_eq_true] at hc13
                    first
                    | (exfalso; omega)
                    | skip
                      try (have hmg := mg_r (s := s) (t := t) (i := i) (k := k) (by omega) hy (.inr ⟨by omega, by rw [hx]; exact hl1, by rw [hx]; exact hc13⟩))
                      have hnx : (o ++ [y]) ++ mergeP (s.drop i) (t.drop (k + 1)) = mergeP s t := by rw [← hmo, hmg, List.append_assoc]; rfl
                      refine x_seq fun K26 hK26 => ?_
                      refine x_region ?_
                      refine s_go (s_move) ?_
                      try simp only [opv, nZ, Value.cells]
                      refine s_go (s_move) ?_
                      try simp only [opv, nZ, Value.cells]
                      refine s_go (s_move) ?_
                      try simp only [opv, nZ, Value.cells]
                      first | refine s_go (m_indexAddr_rd Try.underlying22 ti54 (hS := hS)) ?_ | refine s_go (m_indexAddr_vec Try.underlying22 ti54 (hS := hS)) ?_
                      try simp only [opv, nZ, Value.cells, Nat.mul_one, Nat.zero_add, Int.toNat_natCast, Int.reduceToNat]
                      first | refine s_go (m_load_row Try.underlying54 (hi := ti54) (hS := hS) (hfit := by rw [arows_len]; omega)) ?_ | refine s_go (m_loada_obj Try.underlying54 (hi := ti54) (hS := hS) (hfit := by rw [arows_len]; omega)) ?_ | refine s_go (m_loada_bx Try.underlying54 (hi := ti54) (hS := hS) (hfit := by rw [arows_len]; omega)) ?_ | refine s_go (m_loada_rd Try.underlying54 (hi := ti54) (hS := hS) (hfit := by rw [arows_len]; omega)) ?_ | refine s_go (m_loada_vec Try.underlying54 (hi := ti54) (hS := hS) (hfit := by rw [arows_len]; omega)) ?_
                      try simp only [opv, nZ, Value.cells, List.getElem_toArray, List.getElem_cons_zero, List.getElem_cons_succ]
                      rw [arow_get (by omega) hto, hy]
                      refine m_buildRow (cells := (AA y)) Try.underlying22 ti54 (hc := by simp only [List.map_toArray, List.map_cons, List.map_nil, opv, nZ, Value.cells, List.toList_toArray]; exact fill_one (by rfl) (zi_size21 hyl) (by rfl)) (hS := hS) (h := fun w46 g46 hS => ?_)
                      try simp only [opv, nZ, Value.cells, Array.toArray_toList] at hS ⊢
                      replace hS := hS.obj_rd (sz := 21) (n := 1) (by exact zi_size21 hyl) .head
                      rw [arow_one hyl] at hS
                      refine m_append Try.underlying22 ti54 (hS := hS) (h1 := rowsZ_cells _ _) (h := fun w47 A47 C47 hS => ?_)
                      try simp only [← List.map_append, ← List.map_drop, ← List.map_take, Nat.mul_one, Nat.zero_mul, Nat.sub_zero, List.drop_zero, List.nil_append, Nat.zero_add] at hS ⊢
                      try simp only [opv, nZ, Value.cells, Array.toArray_toList] at hS ⊢
                      rw [add_one] at hS
                      refine s_go (s_assign) ?_
                      try simp only [opv, nZ, Value.cells]
                      refine x_nil ?_
                      refine hK26 _ _ ?_
                      refine x_region ?_
                      refine s_go (s_move) ?_
                      try simp only [opv, nZ, Value.cells]
                      refine s_go (s_add (hc := by first | exact wr_i64 (by omega) (by omega) | rfl)) ?_
                      try simp only [opv, nZ, Value.cells]
                      refine s_go (s_assign) ?_
                      try simp only [opv, nZ, Value.cells]
                      refine x_nil ?_
                      refine loop_back (m' := m1 - 1) (by simp only [clob, List.foldl, nZ]) ?_ ?_
                      · try simp only [opv, nZ, Value.cells]
                        exact ⟨_, _, _, _, _, by omega, by omega, by omega, by rfl, by rfl, by simp only [List.length_append, List.length_cons, List.length_nil, Nat.zero_add]; rfl, hnx, by simp only [List.length_append, List.length_cons, List.length_nil, Nat.zero_add]; omega, by simp only [List.length_append, List.length_cons, List.length_nil, Nat.zero_add]; exact hS.selA⟩
                      · omega
                   ·
                    try simp only [decide_eq_true_eq, decide_eq_false_iff_not, Bool.not_eq_true', Bool.not_eq_false', Int.not_lt, Int.not_le, ne_eq, Decidable.not_not, bne_iff_ne, beq_iff_eq, not_true_eq_false, not_false_eq_true] at hc13
                    first
                    | (exfalso; omega)
                    | skip
                      have hmg := mg_e (s := s) (t := t) (i := i) (k := k) (by omega) hx (by omega) hy hl1 hc13
                      have hnx : (o ++ [(akey x ++ moreV (aval x) (aval y))]) ++ mergeP (s.drop (i + 1)) (t.drop (k + 1)) = mergeP s t := by rw [← hmo, hmg, List.append_assoc]; rfl
                      have hmo9 := more_ok hvx hvy
                      have hml := hmo9.len
                      have hk12 := hkx.len
                      have hzl : (akey x ++ moreV (aval x) (aval y)).length = 21 := (kv_ok hkx hmo9).len
                      refine x_seq fun K27 hK27 => ?_
                      refine x_mixed_c (Lc := [.rd B2 21 (t).length (arows (t)), .rd B1 21 (s).length (arows (s))]) [] 0 [5, 22, 23, 24, 25, 26, 27, 28, 29, 30, 31, 32, 33, 34, 35, 36, 37, 38, 39, 40, 41] (fun f w => ∃ (C2 : Option Addr) (e2 : Nat), f 5 = .slice C2 (o.length + 1) e2 ∧ St NoB w0 w [.vec C2 e2 54 21 (o.length + 1) (arows (o ++ [(akey x ++ moreV (aval x) (aval y))])), .rd B2 21 (t).length (arows (t)), .rd B1 21 (s).length (arows (s))]) (by kernel_rfl) (by kernel_rfl) (by kernel_rfl) (by decide) hS (fun w48 hS => ?mixpre503) ?mixrest503
                      case mixpre503 =>
                       refine p_nil ?_
                       simp only [List.length_cons, List.length_nil, Nat.reduceAdd, Nat.reduceSub]
                       refine any_go (i := 0) (by rfl) (by decide +kernel) (by decide +kernel) noLate_nil (go_yields w_none (fun w hS => s_move)) ?_
                       try simp only [opv, nZ, Value.cells]
                       refine any_go (i := 1) (by rfl) (by decide +kernel) (by decide +kernel) noLate_nil (go_yields w_none (fun w hS => s_move)) ?_
                       try simp only [opv, nZ, Value.cells]
                       refine any_go (i := 2) (by rfl) (by decide +kernel) (by decide +kernel) noLate_nil (go_yields w_none (fun w hS => s_move)) ?_
                       try simp only [opv, nZ, Value.cells]
                       first | refine any_go (i := 3) (by rfl) (by decide +kernel) (by decide +kernel) noLate_nil (go_yields w_none (fun w hS => m_indexAddr_rd Try.underlying22 ti54 (hS := hS))) ?_ | refine any_go (i := 3) (by rfl) (by decide +kernel) (by decide +kernel) noLate_nil (go_yields w_none (fun w hS => m_indexAddr_vec Try.underlying22 ti54 (hS := hS))) ?_
                       try simp only [opv, nZ, Value.cells, Nat.mul_one, Nat.zero_add, Int.toNat_natCast, Int.reduceToNat]
                       first | refine any_go (i := 4) (by rfl) (by decide +kernel) (by decide +kernel) noLate_nil (go_yields w_none (fun w hS => m_fieldAddr Try.underlying54 (hi := ti43))) ?_ | refine any_go (i := 4) (by rfl) (by decide +kernel) (by decide +kernel) noLate_nil (go_yields w_none (fun w hS => m_fieldAddr_rd Try.underlying54 (hi := ti43) (hS := hS))) ?_ | refine any_go (i := 4) (by rfl) (by decide +kernel) (by decide +kernel) noLate_nil (go_yields w_none (fun w hS => m_fieldAddr_vec Try.underlying54 (hi := ti43) (hS := hS))) ?_
                       try simp only [opv, nZ, Value.cells, Nat.zero_add, Nat.add_zero, List.getElem_toArray, List.getElem_cons_zero, List.getElem_cons_succ]
                       first | refine any_go (i := 5) (by rfl) (by decide +kernel) (by decide +kernel) noLate_nil (go_yields w_none (fun w hS => m_load_row Try.underlying43 (hi := ti43) (hS := hS) (hfit := by rw [arows_len]; omega))) ?_ | refine any_go (i := 5) (by rfl) (by decide +kernel) (by decide +kernel) noLate_nil (go_yields w_none (fun w hS => m_loada_obj Try.underlying43 (hi := ti43) (hS := hS) (hfit := by rw [arows_len]; omega))) ?_ | refine any_go (i := 5) (by rfl) (by decide +kernel) (by decide +kernel) noLate_nil (go_yields w_none (fun w hS => m_loada_bx Try.underlying43 (hi := ti43) (hS := hS) (hfit := by rw [arows_len]; omega))) ?_ | refine any_go (i := 5) (by rfl) (by decide +kernel) (by decide +kernel) noLate_nil (go_yields w_none (fun w hS => m_loada_rd Try.underlying43 (hi := ti43) (hS := hS) (hfit := by rw [arows_len]; omega))) ?_ | refine any_go (i := 5) (by rfl) (by decide +kernel) (by decide +kernel) noLate_nil (go_yields w_none (fun w hS => m_loada_vec Try.underlying43 (hi := ti43) (hS := hS) (hfit := by rw [arows_len]; omega))) ?_
                       try simp only [opv, nZ, Value.cells, List.getElem_toArray, List.getElem_cons_zero, List.getElem_cons_succ]
                       rw [arow_key (by omega) hso, hx]
                       refine any_go (i := 6) (by rfl) (by decide +kernel) (by decide +kernel) noLate_nil (go_yields w_none (fun w hS => s_move)) ?_
                       try simp only [opv, nZ, Value.cells]
                       refine any_go (i := 7) (by rfl) (by decide +kernel) (by decide +kernel) noLate_nil (go_yields w_none (fun w hS => s_move)) ?_
                       try simp only [opv, nZ, Value.cells]
                       first | refine any_go (i := 8) (by rfl) (by decide +kernel) (by decide +kernel) noLate_nil (go_yields w_none (fun w hS => m_indexAddr_rd Try.underlying22 ti54 (hS := hS))) ?_ | refine any_go (i := 8) (by rfl) (by decide +kernel) (by decide +kernel) noLate_nil (go_yields w_none (fun w hS => m_indexAddr_vec Try.underlying22 ti54 (hS := hS))) ?_
                       try simp only [opv, nZ, Value.cells, Nat.mul_one, Nat.zero_add, Int.toNat_natCast, Int.reduceToNat]
                       first | refine any_go (i := 9) (by rfl) (by decide +kernel) (by decide +kernel) noLate_nil (go_yields w_none (fun w hS => m_fieldAddr Try.underlying54 (hi := ti50))) ?_ | refine any_go (i := 9) (by rfl) (by decide +kernel) (by decide +kernel) noLate_nil (go_yields w_none (fun w hS => m_fieldAddr_rd Try.underlying54 (hi := ti50) (hS := hS))) ?_ | refine any_go (i := 9) (by rfl) (by decide +kernel) (by decide +kernel) noLate_nil (go_yields w_none (fun w hS => m_fieldAddr_vec Try.underlying54 (hi := ti50) (hS := hS))) ?_
                       try simp only [opv, nZ, Value.cells, Nat.zero_add, Nat.add_zero, List.getElem_toArray, List.getElem_cons_zero, List.getElem_cons_succ]
                       first | refine any_go (i := 10) (by rfl) (by decide +kernel) (by decide +kernel) noLate_nil (go_yields w_none (fun w hS => m_load_row Try.underlying50 (hi := ti50) (hS := hS) (hfit := by rw [arows_len]; omega))) ?_ | refine any_go (i := 10) (by rfl) (by decide +kernel) (by decide +kernel) noLate_nil (go_yields w_none (fun w hS => m_loada_obj Try.underlying50 (hi := ti50) (hS := hS) (hfit := by rw [arows_len]; omega))) ?_ | refine any_go (i := 10) (by rfl) (by decide +kernel) (by decide +kernel) noLate_nil (go_yields w_none (fun w hS => m_loada_bx Try.underlying50 (hi := ti50) (hS := hS) (hfit := by rw [arows_len]; omega))) ?_ | refine any_go (i := 10) (by rfl) (by decide +kernel) (by decide +kernel) noLate_nil (go_yields w_none (fun w hS => m_loada_rd Try.underlying50 (hi := ti50) (hS := hS) (hfit := by rw [arows_len]; omega))) ?_ | refine any_go (i := 10) (by rfl) (by decide +kernel) (by decide +kernel) noLate_nil (go_yields w_none (fun w hS => m_loada_vec Try.underlying50 (hi := ti50) (hS := hS) (hfit := by rw [arows_len]; omega))) ?_
                       try simp only [opv, nZ, Value.cells, List.getElem_toArray, List.getElem_cons_zero, List.getElem_cons_succ]
                       rw [arow_val (by omega) hso, hx]
                       refine any_go (i := 11) (by rfl) (by decide +kernel) (by decide +kernel) noLate_nil (go_yields w_none (fun w hS => s_move)) ?_
                       try simp only [opv, nZ, Value.cells]
                       refine any_go (i := 12) (by rfl) (by decide +kernel) (by decide +kernel) noLate_nil (go_yields w_none (fun w hS => s_move)) ?_
                       try simp only [opv, nZ, Value.cells]
                       first | refine any_go (i := 13) (by rfl) (by decide +kernel) (by decide +kernel) noLate_nil (go_yields w_none (fun w hS => m_indexAddr_rd Try.underlying22 ti54 (hS := hS))) ?_ | refine any_go (i := 13) (by rfl) (by decide +kernel) (by decide +kernel) noLate_nil (go_yields w_none (fun w hS => m_indexAddr_vec Try.underlying22 ti54 (hS := hS))) ?_
                       try simp only [opv, nZ, Value.cells, Nat.mul_one, Nat.zero_add, Int.toNat_natCast, Int.reduceToNat]
                       first | refine any_go (i := 14) (by rfl) (by decide +kernel) (by decide +kernel) noLate_nil (go_yields w_none (fun w hS => m_fieldAddr Try.underlying54 (hi := ti50))) ?_ | refine any_go (i := 14) (by rfl) (by decide +kernel) (by decide +kernel) noLate_nil (go_yields w_none (fun w hS => m_fieldAddr_rd Try.underlying54 (hi := ti50) (hS := hS))) ?_ | refine any_go (i := 14) (by rfl) (by decide +kernel) (by decide +kernel) noLate_nil (go_yields w_none (fun w hS => m_fieldAddr_vec Try.underlying54 (hi := ti50) (hS := hS))) ?_
                       try simp only [opv, nZ, Value.cells, Nat.zero_add, Nat.add_zero, List.getElem_toArray, List.getElem_cons_zero, List.getElem_cons_succ]
                       first | refine any_go (i := 15) (by rfl) (by decide +kernel) (by decide +kernel) noLate_nil (go_yields w_none (fun w hS => m_load_row Try.underlying50 (hi := ti50) (hS := hS) (hfit := by rw [arows_len]; omega))) ?_ | refine any_go (i := 15) (by rfl) (by decide +kernel) (by decide +kernel) noLate_nil (go_yields w_none (fun w hS => m_loada_obj Try.underlying50 (hi := ti50) (hS := hS) (hfit := by rw [arows_len]; omega))) ?_ | refine any_go (i := 15) (by rfl) (by decide +kernel) (by decide +kernel) noLate_nil (go_yields w_none (fun w hS => m_loada_bx Try.underlying50 (hi := ti50) (hS := hS) (hfit := by rw [arows_len]; omega))) ?_ | refine any_go (i := 15) (by rfl) (by decide +kernel) (by decide +kernel) noLate_nil (go_yields w_none (fun w hS => m_loada_rd Try.underlying50 (hi := ti50) (hS := hS) (hfit := by rw [arows_len]; omega))) ?_ | refine any_go (i := 15) (by rfl) (by decide +kernel) (by decide +kernel) noLate_nil (go_yields w_none (fun w hS => m_loada_vec Try.underlying50 (hi := ti50) (hS := hS) (hfit := by rw [arows_len]; omega))) ?_
                       try simp only [opv, nZ, Value.cells, List.getElem_toArray, List.getElem_cons_zero, List.getElem_cons_succ]
                       rw [arow_val (by omega) hto, hy]
                       apply any_go (i := 16) (by rfl) (by decide +kernel) (by decide +kernel) noLate_nil (call_yields w_none en57 ?H3) ?K3
                       case H3 =>
                         intro w hS
                         try simp only [opv, nZ, List.map_toArray, List.map_cons, List.map_nil, List.append_toArray, List.cons_append, List.nil_append, Array.append_empty]
                         refine CallR.mono (c_ref09More (aval x) (aval y) hvx hvy _) ?_
                         rintro _ w1 ⟨rfl, hE⟩; exact ⟨rfl, hE⟩
                       try simp only [opv, nZ, Value.cells]
                       refine any_go (i := 17) (by rfl) (by decide +kernel) (by decide +kernel) noLate_nil (go_yields w_none (fun w hS => s_build_struct (cells := (AA (akey x ++ moreV (aval x) (aval y)))) Try.underlying54 ti54 bp54 (hc := by simp only [List.map_toArray, List.map_cons, List.map_nil, opv, nZ, Value.cells, List.toList_toArray]; exact fill_atom (by rfl) (by rfl) (by rfl) hk12 hml))) ?_
                       try simp only [opv, nZ, Value.cells]
                       refine any_step [18] (by kernel_rfl) (by decide) (fun w49 hE => ⟨fun _ => (hS.ext hE).sel (by repeat (first | exact Sel.nil | (refine Sel.cons (by repeat (first | exact Del.head | apply Del.tail)) ?_))), ?_⟩)
                       replace hS := hS.ext hE
                       intro i hi
                       simp only [List.mem_cons, List.not_mem_nil, or_false] at hi
                       subst hi
                       ·
                        refine any_op (by rfl) ?_
                        refine m_buildRow (cells := (AA (akey x ++ moreV (aval x) (aval y)))) Try.underlying22 ti54 (hc := by simp only [List.map_toArray, List.map_cons, List.map_nil, opv, nZ, Value.cells, List.toList_toArray]; exact fill_one (by rfl) (zi_size21 hzl) (by rfl)) (hS := hS) (h := fun w50 g50 hS => ?_)
                        try simp only [opv, nZ, Value.cells, Array.toArray_toList] at hS ⊢
                        replace hS := hS.obj_rd (sz := 21) (n := 1) (by exact zi_size21 hzl) .head
                        rw [arow_one hzl] at hS
                        refine x_nil ?_
                        refine any_step [19] (by kernel_rfl) (by decide) (fun w51 hE => ⟨fun _ => (hS.ext hE).sel (by repeat (first | exact Sel.nil | (refine Sel.cons (by repeat (first | exact Del.head | apply Del.tail)) ?_))), ?_⟩)
                        replace hS := hS.ext hE
                        intro i hi
                        simp only [List.mem_cons, List.not_mem_nil, or_false] at hi
                        subst hi
                        ·
                         refine any_op (by rfl) ?_
                         refine m_append Try.underlying22 ti54 (hS := hS) (h1 := rowsZ_cells _ _) (h := fun w52 A52 C52 hS => ?_)
                         try simp only [← List.map_append, ← List.map_drop, ← List.map_take, Nat.mul_one, Nat.zero_mul, Nat.sub_zero, List.drop_zero, List.nil_append, Nat.zero_add] at hS ⊢
                         try simp only [opv, nZ, Value.cells, Array.toArray_toList] at hS ⊢
                         rw [add_one] at hS
                         refine x_nil ?_
                         refine any_go (i := 20) (by rfl) (by decide +kernel) (by decide +kernel) noLate_nil (go_yields w_none (fun w hS => s_assign)) ?_
                         try simp only [opv, nZ, Value.cells]
                         refine any_nil (by kernel_rfl) (fun w53 hE => ?_)
                         replace hS := hS.ext hE
                         refine ⟨fun _ => hS.selA, ?_⟩
                         refine mix_leaf (by simp only [clob, List.foldl, nZ]) ?_
                         try simp only [n1, n2]
                         exact ⟨_, _, by first | trivial | rfl, hS.selA⟩
                      intro fm3 w54 hM
                      obtain ⟨C2, e2, h5, hS⟩ := hM
                      simp only [clob, List.foldl, n3, n4, h5]
                      refine hK27 _ _ ?_
                      refine x_seq fun K28 hK28 => ?_
                      refine x_region ?_
                      refine s_go (s_move) ?_
                      try simp only [opv, nZ, Value.cells]
                      refine s_go (s_add (hc := by first | exact wr_i64 (by omega) (by omega) | rfl)) ?_
                      try simp only [opv, nZ, Value.cells]
                      refine s_go (s_assign) ?_
                      try simp only [opv, nZ, Value.cells]
                      refine x_nil ?_
                      refine hK28 _ _ ?_
                      refine x_region ?_
                      refine s_go (s_move) ?_
                      try simp only [opv, nZ, Value.cells]
                      refine s_go (s_add (hc := by first | exact wr_i64 (by omega) (by omega) | rfl)) ?_
                      try simp only [opv, nZ, Value.cells]
                      refine s_go (s_assign) ?_
                      try simp only [opv, nZ, Value.cells]
                      refine x_nil ?_
                      refine loop_back (m' := m1 - 1) (by simp only [clob, List.foldl, nZ]) ?_ ?_
                      · try simp only [opv, nZ, Value.cells]
                        exact ⟨_, _, _, _, _, by omega, by omega, by omega, by rfl, by rfl, by simp only [List.length_append, List.length_cons, List.length_nil, Nat.zero_add]; rfl, hnx, by simp only [List.length_append, List.length_cons, List.length_nil, Nat.zero_add]; omega, by simp only [List.length_append, List.length_cons, List.length_nil, Nat.zero_add]; exact hS.selA⟩
                      · omega
          ·
           try simp only [n3, n4]
           try simp only [decide_eq_true_eq, decide_eq_false_iff_not, Bool.not_eq_true', Bool.not_eq_false', Int.not_lt, Int.not_le, ne_eq, Decidable.not_not] at hp7
           first
           | (exfalso; omega)
           | skip
             have hmg := mg_r (s := s) (t := t) (i := i) (k := k) (by omega) hy (.inl (by omega))
             have hnx : (o ++ [y]) ++ mergeP (s.drop i) (t.drop (k + 1)) = mergeP s t := by rw [← hmo, hmg, List.append_assoc]; rfl
             refine q_off (yi (t := 56) rfl rfl) ?_
             try simp only [opv, nZ, Value.cells]
             refine q_off (yi (t := 56) rfl rfl) ?_
             try simp only [opv, nZ, Value.cells]
             refine q_off (yi (t := 56) rfl rfl) ?_
             try simp only [opv, nZ, Value.cells]
             refine q_off (yi (t := 56) rfl rfl) ?_
             try simp only [opv, nZ, Value.cells]
             refine q_off (yi (t := 56) rfl rfl) ?_
             try simp only [opv, nZ, Value.cells]
             refine q_off (yi (t := 56) rfl rfl) ?_
             try simp only [opv, nZ, Value.cells]
             refine q_off (yi (t := 56) rfl rfl) ?_
             try simp only [opv, nZ, Value.cells]
             refine q_off (yi (t := 56) rfl rfl) ?_
             try simp only [opv, nZ, Value.cells]
             refine q_off (yi (t := 56) rfl rfl) ?_
             try simp only [opv, nZ, Value.cells]
             refine q_off (yi (t := 56) rfl rfl) ?_
             try simp only [opv, nZ, Value.cells]
             refine q_off (yi (t := 56) rfl rfl) ?_
             try simp only [opv, nZ, Value.cells]
             refine q_on (yi (t := 51) rfl rfl) ?_
             first | refine q_go (fun w hS => s_pick_t) ?_ | refine q_go (fun w hS => s_pick_f) ?_
             try simp only [opv, nZ, Value.cells]
             first | refine q_go (fun w hS => s_pick_t) ?_ | refine q_go (fun w hS => s_pick_f) ?_
             try simp only [opv, nZ, Value.cells]
             refine q_go (fun w hS => s_assign) ?_
             try simp only [opv, nZ, Value.cells]
             clear hS
             refine q_nil fun w55 hS => ?_
             refine hK21 _ _ ?_
             refine x_cond_f (h := ?_)
             try have hl1 := @c
             refine x_seq fun K29 hK29 => ?_
             refine x_quiet (by kernel_rfl) (by kernel_rfl) hS ?_
             refine q_go (fun w hS => s_move) ?_
             try simp only [opv, nZ, Value.cells]
             refine q_go (fun w hS => s_move) ?_
             try simp only [opv, nZ, Value.cells]
             refine q_go (fun w hS => s_len_sl Try.underlying22) ?_
             try simp only [opv, nZ, Value.cells]
             refine q_go (fun w hS => s_eql) ?_
             try simp only [opv, nZ, Value.cells]
             refine q_go (fun w hS => s_move) ?_
             try simp only [opv, nZ, Value.cells]
             refine q_part 84 rfl (fun hp9 => ?_) (fun hp9 => ?_)
             ·
              try simp only [n3, n4]
              try simp only [decide_eq_true_eq, decide_eq_false_iff_not, Bool.not_eq_true', Bool.not_eq_false', Int.not_lt, Int.not_le, ne_eq, Decidable.not_not] at hp9
              first
              | (exfalso; omega)
              | skip
                refine q_off (yi (t := 84) rfl rfl) ?_
                try simp only [opv, nZ, Value.cells]
                refine q_off (yi (t := 84) rfl rfl) ?_
                try simp only [opv, nZ, Value.cells]
                refine q_off (yi (t := 84) rfl rfl) ?_
                try simp only [opv, nZ, Value.cells]
                refine q_off (yi (t := 84) rfl rfl) ?_
                try simp only [opv, nZ, Value.cells]
                refine q_off (yi (t := 84) rfl rfl) ?_
                try simp only [opv, nZ, Value.cells]
                refine q_off (yi (t := 84) rfl rfl) ?_
                try simp only [opv, nZ, Value.cells]
                refine q_off (yi (t := 84) rfl rfl) ?_
                try simp only [opv, nZ, Value.cells]
                refine q_off (yi (t := 84) rfl rfl) ?_
                try simp only [opv, nZ, Value.cells]
                refine q_off (yi (t := 84) rfl rfl) ?_
                try simp only [opv, nZ, Value.cells]
                refine q_off (yi (t := 84) rfl rfl) ?_
                try simp only [opv, nZ, Value.cells]
                refine q_off (yi (t := 84) rfl rfl) ?_
                try simp only [opv, nZ, Value.cells]
                first | refine q_go (fun w hS => s_pick_t) ?_ | refine q_go (fun w hS => s_pick_f) ?_
                try simp only [opv, nZ, Value.cells]
                refine q_go (fun w hS => s_assign) ?_
                try simp only [opv, nZ, Value.cells]
                clear hS
                refine q_nil fun w56 hS => ?_
                refine hK29 _ _ ?_
                refine x_cond_t (h := ?_)
                try (have hmg := mg_r (s := s) (t := t) (i := i) (k := k) (by omega) hy (.inr ⟨by omega, by rw [hx]; exact hl1, by rw [hx]; exact @c⟩))
                have hnx : (o ++ [y]) ++ mergeP (s.drop i) (t.drop (k + 1)) = mergeP s t := by rw [← hmo, hmg, List.append_assoc]; rfl
                refine x_seq fun K30 hK30 => ?_
                refine x_region ?_
                refine s_go (s_move) ?_
                try simp only [opv, nZ, Value.cells]
                refine s_go (s_move) ?_
                try simp only [opv, nZ, Value.cells]
                refine s_go (s_move) ?_
                try simp only [opv, nZ, Value.cells]
                first | refine s_go (m_indexAddr_rd Try.underlying22 ti54 (hS := hS)) ?_ | refine s_go (m_indexAddr_vec Try.underlying22 ti54 (hS := hS)) ?_
                try simp only [opv, nZ, Value.cells, Nat.mul_one, Nat.zero_add, Int.toNat_natCast, Int.reduceToNat]
                first | refine s_go (m_load_row Try.underlying54 (hi := ti54) (hS := hS) (hfit := by rw [arows_len]; omega)) ?_ | refine s_go (m_loada_obj Try.underlying54 (hi := ti54) (hS := hS) (hfit := by rw [arows_len]; omega)) ?_ | refine s_go (m_loada_bx Try.underlying54 (hi := ti54) (hS := hS) (hfit := by rw [arows_len]; omega)) ?_ | refine s_go (m_loada_rd Try.underlying54 (hi := ti54) (hS := hS) (hfit := by rw [arows_len]; omega)) ?_ | refine s_go (m_loada_vec Try.underlying54 (hi := ti54) (hS := hS) (hfit := by rw [arows_len]; omega)) ?_
                try simp only [opv, nZ, Value.cells, List.getElem_toArray, List.getElem_cons_zero, List.getElem_cons_succ]
                rw [arow_get (by omega) hto, hy]
                refine m_buildRow (cells := (AA y)) Try.underlying22 ti54 (hc := by simp only [List.map_toArray, List.map_cons, List.map_nil, opv, nZ, Value.cells, List.toList_toArray]; exact fill_one (by rfl) (zi_size21 hyl) (by rfl)) (hS := hS) (h := fun w57 g57 hS => ?_)
                try simp only [opv, nZ, Value.cells, Array.toArray_toList] at hS ⊢
                replace hS := hS.obj_rd (sz := 21) (n := 1) (by exact zi_size21 hyl) .head
                rw [arow_one hyl] at hS
                refine m_append Try.underlying22 ti54 (hS := hS) (h1 := rowsZ_cells _ _) (h := fun w58 A58 C58 hS => ?_)
                try simp only [← List.map_append, ← List.map_drop, ← List.map_take, Nat.mul_one, Nat.zero_mul, Nat.sub_zero, List.drop_zero, List.nil_append, Nat.zero_add] at hS ⊢
                try simp only [opv, nZ, Value.cells, Array.toArray_toList] at hS ⊢
                rw [add_one] at hS
                refine s_go (s_assign) ?_
                try simp only [opv, nZ, Value.cells]
                refine x_nil ?_
                refine hK30 _ _ ?_
                refine x_region ?_
                refine s_go (s_move) ?_
                try simp only [opv, nZ, Value.cells]
                refine s_go (s_add (hc := by first | exact wr_i64 (by omega) (by omega) | rfl)) ?_
                try simp only [opv, nZ, Value.cells]
                refine s_go (s_assign) ?_
                try simp only [opv, nZ, Value.cells]
                refine x_nil ?_
                refine loop_back (m' := m1 - 1) (by simp only [clob, List.foldl, nZ]) ?_ ?_
                · try simp only [opv, nZ, Value.cells]
                  exact ⟨_, _, _, _, _, by omega, by omega, by omega, by rfl, by rfl, by simp only [List.length_append, List.length_cons, List.length_nil, Nat.zero_add]; rfl, hnx, by simp only [List.length_append, List.length_cons, List.length_nil, Nat.zero_add]; omega, by simp only [List.length_append, List.length_cons, List.length_nil, Nat.zero_add]; exact hS.selA⟩
                · omega
             ·
              try simp only [n3, n4]
              try simp only [decide_eq_true_eq, decide_eq_false_iff_not, Bool.not_eq_true', Bool.not_eq_false', Int.not_lt, Int.not_le, ne_eq, Decidable.not_not] at hp9
              first
              | (exfalso; omega)
              | skip
                refine q_on (yi (t := 84) rfl rfl) ?_
                refine q_go (fun w hS => s_move) ?_
                try simp only [opv, nZ, Value.cells]
                refine q_on (yi (t := 84) rfl rfl) ?_
                refine q_go (fun w hS => s_move) ?_
                try simp only [opv, nZ, Value.cells]
                refine q_on (yi (t := 84) rfl rfl) ?_
                first | refine q_go (fun w hS => m_indexAddr_rd Try.underlying22 ti54 (hS := hS)) ?_ | refine q_go (fun w hS => m_indexAddr_vec Try.underlying22 ti54 (hS := hS)) ?_
                try simp only [opv, nZ, Value.cells, Nat.mul_one, Nat.zero_add, Int.toNat_natCast, Int.reduceToNat]
                refine q_on (yi (t := 84) rfl rfl) ?_
                first | refine q_go (fun w hS => m_fieldAddr Try.underlying54 (hi := ti43)) ?_ | refine q_go (fun w hS => m_fieldAddr_rd Try.underlying54 (hi := ti43) (hS := hS)) ?_ | refine q_go (fun w hS => m_fieldAddr_vec Try.underlying54 (hi := ti43) (hS := hS)) ?_
                try simp only [opv, nZ, Value.cells, Nat.zero_add, Nat.add_zero, List.getElem_toArray, List.getElem_cons_zero, List.getElem_cons_succ]
                refine q_on (yi (t := 84) rfl rfl) ?_
                first | refine q_go (fun w hS => m_load_row Try.underlying43 (hi := ti43) (hS := hS) (hfit := by rw [arows_len]; omega)) ?_ | refine q_go (fun w hS => m_loada_obj Try.underlying43 (hi := ti43) (hS := hS) (hfit := by rw [arows_len]; omega)) ?_ | refine q_go (fun w hS => m_loada_bx Try.underlying43 (hi := ti43) (hS := hS) (hfit := by rw [arows_len]; omega)) ?_ | refine q_go (fun w hS => m_loada_rd Try.underlying43 (hi := ti43) (hS := hS) (hfit := by rw [arows_len]; omega)) ?_ | refine q_go (fun w hS => m_loada_vec Try.underlying43 (hi := ti43) (hS := hS) (hfit := by rw [arows_len]; omega)) ?_
                try simp only [opv, nZ, Value.cells, List.getElem_toArray, List.getElem_cons_zero, List.getElem_cons_succ]
                rw [arow_key (by omega) hto, hy]
                refine q_on (yi (t := 84) rfl rfl) ?_
                refine q_go (fun w hS => s_move) ?_
                try simp only [opv, nZ, Value.cells]
                refine q_on (yi (t := 84) rfl rfl) ?_
                refine q_go (fun w hS => s_move) ?_
                try simp only [opv, nZ, Value.cells]
                refine q_on (yi (t := 84) rfl rfl) ?_
                first | refine q_go (fun w hS => m_indexAddr_rd Try.underlying22 ti54 (hS := hS)) ?_ | refine q_go (fun w hS => m_indexAddr_vec Try.underlying22 ti54 (hS := hS)) ?_
                try simp only [opv, nZ, Value.cells, Nat.mul_one, Nat.zero_add, Int.toNat_natCast, Int.reduceToNat]
                refine q_on (yi (t := 84) rfl rfl) ?_
                first | refine q_go (fun w hS => m_fieldAddr Try.underlying54 (hi := ti43)) ?_ | refine q_go (fun w hS => m_fieldAddr_rd Try.underlying54 (hi := ti43) (hS := hS)) ?_ | refine q_go (fun w hS => m_fieldAddr_vec Try.underlying54 (hi := ti43) (hS := hS)) ?_
                try simp only [opv, nZ, Value.cells, Nat.zero_add, Nat.add_zero, List.getElem_toArray, List.getElem_cons_zero, List.getElem_cons_succ]
                refine q_on (yi (t := 84) rfl rfl) ?_
                first | refine q_go (fun w hS => m_load_row Try.underlying43 (hi := ti43) (hS := hS) (hfit := by rw [arows_len]; omega)) ?_ | refine q_go (fun w hS => m_loada_obj Try.underlying43 (hi := ti43) (hS := hS) (hfit := by rw [arows_len]; omega)) ?_ | refine q_go (fun w hS => m_loada_bx Try.underlying43 (hi := ti43) (hS := hS) (hfit := by rw [arows_len]; omega)) ?_ | refine q_go (fun w hS => m_loada_rd Try.underlying43 (hi := ti43) (hS := hS) (hfit := by rw [arows_len]; omega)) ?_ | refine q_go (fun w hS => m_loada_vec Try.underlying43 (hi := ti43) (hS := hS) (hfit := by rw [arows_len]; omega)) ?_
                try simp only [opv, nZ, Value.cells, List.getElem_toArray, List.getElem_cons_zero, List.getElem_cons_succ]
                rw [arow_key (by omega) hso, hx]
                refine q_on (yi (t := 84) rfl rfl) ?_
                apply q_call en56
                case H =>
                  intro w hS
                  try simp only [opv, nZ, List.map_toArray, List.map_cons, List.map_nil, List.append_toArray, List.cons_append, List.nil_append, Array.append_empty]
                  refine CallR.mono (c_ref08Less (akey y) (akey x) hky hkx _) ?_
                  rintro _ w1 ⟨rfl, hE⟩; exact ⟨rfl, hS.ext hE⟩
                try simp only [opv, nZ, Value.cells]
                first | refine q_go (fun w hS => s_pick_t) ?_ | refine q_go (fun w hS => s_pick_f) ?_
                try simp only [opv, nZ, Value.cells]
                refine q_go (fun w hS => s_assign) ?_
                try simp only [opv, nZ, Value.cells]
                clear hS
                refine q_nil fun w59 hS => ?_
                refine hK29 _ _ ?_
                refine x_cond (ht := fun hc16 => ?_) (hf := fun hc16 => ?_)
                ·
                 try simp only [decide_eq_true_eq, decide_eq_false_iff_not, Bool.not_eq_true', Bool.not_eq_false', Int.not_lt, Int.not_le, ne_eq, Decidable.not_not, bne_iff_ne, beq_iff_eq, not_true_eq_false, not_false_eq_true] at hc16
                 first
                 | (exfalso; omega)
                 | skip
                   try (have hmg := mg_r (s := s) (t := t) (i := i) (k := k) (by omega) hy (.inr ⟨by omega, by rw [hx]; exact hl1, by rw [hx]; exact hc16⟩))
                   have hnx : (o ++ [y]) ++ mergeP (s.drop i) (t.drop (k + 1)) = mergeP s t := by rw [← hmo, hmg, List.append_assoc]; rfl
                   refine x_seq fun K31 hK31 => ?_
                   refine x_region ?_
                   refine s_go (s_move) ?_
                   try simp only [opv, nZ, Value.cells]
                   refine s_go (s_move) ?_
                   try simp only [opv, nZ, Value.cells]
                   refine s_go (s_move) ?_
                   try simp only [opv, nZ, Value.cells]
                   first | refine s_go (m_indexAddr_rd Try.underlying22 ti54 (hS := hS)) ?_ | refine s_go (m_indexAddr_vec Try.underlying22 ti54 (hS := hS)) ?_
                   try simp only [opv, nZ, Value.cells, Nat.mul_one, Nat.zero_add, Int.toNat_natCast, Int.reduceToNat]
                   first | refine s_go (m_load_row Try.underlying54 (hi := ti54) (hS := hS) (hfit := by rw [arows_len]; omega)) ?_ | refine s_go (m_loada_obj Try.underlying54 (hi := ti54) (hS := hS) (hfit := by rw [arows_len]; omega)) ?_ | refine s_go (m_loada_bx Try.underlying54 (hi := ti54) (hS := hS) (hfit := by rw [arows_len]; omega)) ?_ | refine s_go (m_loada_rd Try.underlying54 (hi := ti54) (hS := hS) (hfit := by rw [arows_len]; omega)) ?_ | refine s_go (m_loada_vec Try.underlying54 (hi := ti54) (hS := hS) (hfit := by rw [arows_len]; omega)) ?_
                   try simp only [opv, nZ, Value.cells, List.getElem_toArray, List.getElem_cons_zero, List.getElem_cons_succ]
                   rw [arow_get (by omega) hto, hy]
                   refine m_buildRow (cells := (AA y)) Try.underlying22 ti54 (hc := by simp only [List.map_toArray, List.map_cons, List.map_nil, opv, nZ, Value.cells, List.toList_toArray]; exact fill_one (by rfl) (zi_size21 hyl) (by rfl)) (hS := hS) (h := fun w60 g60 hS => ?_)
                   try simp only [opv, nZ, Value.cells, Array.toArray_toList] at hS ⊢
                   replace hS := hS.obj_rd (sz := 21) (n := 1) (by exact zi_size21 hyl) .head
                   rw [arow_one hyl] at hS
                   refine m_append Try.underlying22 ti54 (hS := hS) (h1 := rowsZ_cells _ _) (h := fun w61 A61 C61 hS => ?_)
                   try simp only [← List.map_append, ← List.map_drop, ← List.map_take, Nat.mul_one, Nat.zero_mul, Nat.sub_zero, List.drop_zero, List.nil_append, Nat.zero_add] at hS ⊢
                   try simp only [opv, nZ, Value.cells, Array.toArray_toList] at hS ⊢
                   rw [add_one] at hS
                   refine s_go (s_assign) ?_
                   try simp only [opv, nZ, Value.cells]
                   refine x_nil ?_
                   refine hK31 _ _ ?_
                   refine x_region ?_
                   refine s_go (s_move) ?_
                   try simp only [opv, nZ, Value.cells]
                   refine s_go (s_add (hc := by first | exact wr_i64 (by omega) (by omega) | rfl)) ?_
                   try simp only [opv, nZ, Value.cells]
                   refine s_go (s_assign) ?_
                   try simp only [opv, nZ, Value.cells]
                   refine x_nil ?_
                   refine loop_back (m' := m1 - 1) (by simp only [clob, List.foldl, nZ]) ?_ ?_
                   · try simp only [opv, nZ, Value.cells]
                     exact ⟨_, _, _, _, _, by omega, by omega, by omega, by rfl, by rfl, by simp only [List.length_append, List.length_cons, List.length_nil, Nat.zero_add]; rfl, hnx, by simp only [List.length_append, List.length_cons, List.length_nil, Nat.zero_add]; omega, by simp only [List.length_append, List.length_cons, List.length_nil, Nat.zero_add]; exact hS.selA⟩
                   · omega
                ·
                 try simp only [decide_eq_true_eq, decide_eq_false_iff_not, Bool.not_eq_true', Bool.not_eq_false', Int.not_lt, Int.not_le, ne_eq, Decidable.not_not, bne_iff_ne, beq_iff_eq, not_true_eq_false, not_false_eq_true] at hc16
                 first
                 | (exfalso; omega)
                 | skip
                   have hmg := mg_e (s := s) (t := t) (i := i) (k := k) (by omega) hx (by omega) hy hl1 hc16
                   have hnx : (o ++ [(akey x ++ moreV (aval x) (aval y))]) ++ mergeP (s.drop (i + 1)) (t.drop (k + 1)) = mergeP s t := by rw [← hmo, hmg, List.append_assoc]; rfl
                   have hmo9 := more_ok hvx hvy
                   have hml := hmo9.len
                   have hk12 := hkx.len
                   have hzl : (akey x ++ moreV (aval x) (aval y)).length = 21 := (kv_ok hkx hmo9).len
                   refine x_seq fun K32 hK32 => ?_
                   refine x_mixed_c (Lc := [.rd B2 21 (t).length (arows (t)), .rd B1 21 (s).length (arows (s))]) [] 0 [5, 22, 23, 24, 25, 26, 27, 28, 29, 30, 31, 32, 33, 34, 35, 36, 37, 38, 39, 40, 41] (fun f w => ∃ (C2 : Option Addr) (e2 : Nat), f 5 = .slice C2 (o.length + 1) e2 ∧ St NoB w0 w [.vec C2 e2 54 21 (o.length + 1) (arows (o ++ [(akey x ++ moreV (aval x) (aval y))])), .rd B2 21 (t).length (arows (t)), .rd B1 21 (s).length (arows (s))]) (by kernel_rfl) (by kernel_rfl) (by kernel_rfl) (by decide) hS (fun w62 hS => ?mixpre504) ?mixrest504
                   case mixpre504 =>
                    refine p_nil ?_
                    simp only [List.length_cons, List.length_nil, Nat.reduceAdd, Nat.reduceSub]
                    refine any_go (i := 0) (by rfl) (by decide +kernel) (by decide +kernel) noLate_nil (go_yields w_none (fun w hS => s_move)) ?_
                    try simp only [opv, nZ, Value.cells]
                    refine any_go (i := 1) (by rfl) (by decide +kernel) (by decide +kernel) noLate_nil (go_yields w_none (fun w hS => s_move)) ?_
                    try simp only [opv, nZ, Value.cells]
                    refine any_go (i := 2) (by rfl) (by decide +kernel) (by decide +kernel) noLate_nil (go_yields w_none (fun w hS => s_move)) ?_
                    try simp only [opv, nZ, Value.cells]
                    first | refine any_go (i := 3) (by rfl) (by decide +kernel) (by decide +kernel) noLate_nil (go_yields w_none (fun w hS => m_indexAddr_rd Try.underlying22 ti54 (hS := hS))) ?_ | refine any_go (i := 3) (by rfl) (by decide +kernel) (by decide +kernel) noLate_nil (go_yields w_none (fun w hS => m_indexAddr_vec Try.underlying22 ti54 (hS := hS))) ?_
                    try simp only [opv, nZ, Value.cells, Nat.mul_one, Nat.zero_add, Int.toNat_natCast, Int.reduceToNat]
                    first | refine any_go (i := 4) (by rfl) (by decide +kernel) (by decide +kernel) noLate_nil (go_yields w_none (fun w hS => m_fieldAddr Try.underlying54 (hi := ti43))) ?_ | refine any_go (i := 4) (by rfl) (by decide +kernel) (by decide +kernel) noLate_nil (go_yields w_none (fun w hS => m_fieldAddr_rd Try.underlying54 (hi := ti43) (hS := hS))) ?_ | refine any_go (i := 4) (by rfl) (by decide +kernel) (by decide +kernel) noLate_nil (go_yields w_none (fun w hS => m_fieldAddr_vec Try.underlying54 (hi := ti43) (hS := hS))) ?_
                    try simp only [opv, nZ, Value.cells, Nat.zero_add, Nat.add_zero, List.getElem_toArray, List.getElem_cons_zero, List.getElem_cons_succ]
                    first | refine any_go (i := 5) (by rfl) (by decide +kernel) (by decide +kernel) noLate_nil (go_yields w_none (fun w hS => m_load_row Try.underlying43 (hi := ti43) (hS := hS) (hfit := by rw [arows_len]; omega))) ?_ | refine any_go (i := 5) (by rfl) (by decide +kernel) (by decide +kernel) noLate_nil (go_yields w_none (fun w hS => m_loada_obj Try.underlying43 (hi := ti43) (hS := hS) (hfit := by rw [arows_len]; omega))) ?_ | refine any_go (i := 5) (by rfl) (by decide +kernel) (by decide +kernel) noLate_nil (go_yields w_none (fun w hS => m_loada_bx Try.underlying43 (hi := ti43) (hS := hS) (hfit := by rw [arows_len]; omega))) ?_ | refine any_go (i := 5) (by rfl) (by decide +kernel) (by decide +kernel) noLate_nil (go_yields w_none (fun w hS => m_loada_rd Try.underlying43 (hi := ti43) (hS := hS) (hfit := by rw [arows_len]; omega))) ?_ | refine any_go (i := 5) (by rfl) (by decide +kernel) (by decide +kernel) noLate_nil (go_yields w_none (fun w hS => m_loada_vec Try.underlying43 (hi := ti43) (hS := hS) (hfit := by rw [arows_len]; omega))) ?_
                    try simp only [opv, nZ, Value.cells, List.getElem_toArray, List.getElem_cons_zero, List.getElem_cons_succ]
                    rw [arow_key (by omega) hso, hx]
                    refine any_go (i := 6) (by rfl) (by decide +kernel) (by decide +kernel) noLate_nil (go_yields w_none (fun w hS => s_move)) ?_
                    try simp only [opv, nZ, Value.cells]
                    refine any_go (i := 7) (by rfl) (by decide +kernel) (by decide +kernel) noLate_nil (go_yields w_none (fun w hS => s_move)) ?_
                    try simp only [opv, nZ, Value.cells]
                    first | refine any_go (i := 8) (by rfl) (by decide +kernel) (by decide +kernel) noLate_nil (go_yields w_none (fun w hS => m_indexAddr_rd Try.underlying22 ti54 (hS := hS))) ?_ | refine any_go (i := 8) (by rfl) (by decide +kernel) (by decide +kernel) noLate_nil (go_yields w_none (fun w hS => m_indexAddr_vec Try.underlying22 ti54 (hS := hS))) ?_
                    try simp only [opv, nZ, Value.cells, Nat.mul_one, Nat.zero_add, Int.toNat_natCast, Int.reduceToNat]
                    first | refine any_go (i := 9) (by rfl) (by decide +kernel) (by decide +kernel) noLate_nil (go_yields w_none (fun w hS => m_fieldAddr Try.underlying54 (hi := ti50))) ?_ | refine any_go (i := 9) (by rfl) (by decide +kernel) (by decide +kernel) noLate_nil (go_yields w_none (fun w hS => m_fieldAddr_rd Try.underlying54 (hi := ti50) (hS := hS))) ?_ | refine any_go (i := 9) (by rfl) (by decide +kernel) (by decide +kernel) noLate_nil (go_yields w_none (fun w hS => m_fieldAddr_vec Try.underlying54 (hi := ti50) (hS := hS))) ?_
                    try simp only [opv, nZ, Value.cells, Nat.zero_add, Nat.add_zero, List.getElem_toArray, List.getElem_cons_zero, List.getElem_cons_succ]
                    first | refine any_go (i := 10) (by rfl) (by decide +kernel) (by decide +kernel) noLate_nil (go_yields w_none (fun w hS => m_load_row Try.underlying50 (hi := ti50) (hS := hS) (hfit := by rw [arows_len]; omega))) ?_ | refine any_go (i := 10) (by rfl) (by decide +kernel) (by decide +kernel) noLate_nil (go_yields w_none (fun w hS => m_loada_obj Try.underlying50 (hi := ti50) (hS := hS) (hfit := by rw [arows_len]; omega))) ?_ | refine any_go (i := 10) (by rfl) (by decide +kernel) (by decide +kernel) noLate_nil (go_yields w_none (fun w hS => m_loada_bx Try.underlying50 (hi := ti50) (hS := hS) (hfit := by rw [arows_len]; omega))) ?_ | refine any_go (i := 10) (by rfl) (by decide +kernel) (by decide +kernel) noLate_nil (go_yields w_none (fun w hS => m_loada_rd Try.underlying50 (hi := ti50) (hS := hS) (hfit := by rw [arows_len]; omega))) ?_ | refine any_go (i := 10) (by rfl) (by decide +kernel) (by decide +kernel) noLate_nil (go_yields w_none (fun w hS => m_loada_vec Try.underlying50 (hi := ti50) (hS := hS) (hfit := by rw [arows_len]; omega))) ?_
                    try simp only [opv, nZ, Value.cells, List.getElem_toArray, List.getElem_cons_zero, List.getElem_cons_succ]
                    rw [arow_val (by omega) hso, hx]
                    refine any_go (i := 11) (by rfl) (by decide +kernel) (by decide +kernel) noLate_nil (go_yields w_none (fun w hS => s_move)) ?_
                    try simp only [opv, nZ, Value.cells]
                    refine any_go (i := 12) (by rfl) (by decide +kernel) (by decide +kernel) noLate_nil (go_yields w_none (fun w hS => s_move)) ?_
                    try simp only [opv, nZ, Value.cells]
                    first | refine any_go (i := 13) (by rfl) (by decide +kernel) (by decide +kernel) noLate_nil (go_yields w_none (fun w hS => m_indexAddr_rd Try.underlying22 ti54 (hS := hS))) ?_ | refine any_go (i := 13) (by rfl) (by decide +kernel) (by decide +kernel) noLate_nil (go_yields w_none (fun w hS => m_indexAddr_vec Try.underlying22 ti54 (hS := hS))) ?_
                    try simp only [opv, nZ, Value.cells, Nat.mul_one, Nat.zero_add, Int.toNat_natCast, Int.reduceToNat]
                    first | refine any_go (i := 14) (by rfl) (by decide +kernel) (by decide +kernel) noLate_nil (go_yields w_none (fun w hS => m_fieldAddr Try.underlying54 (hi := ti50))) ?_ | refine any_go (i := 14) (by rfl) (by decide +kernel) (by decide +kernel) noLate_nil (go_yields w_none (fun w hS => m_fieldAddr_rd Try.underlying54 (hi := ti50) (hS := hS))) ?_ | refine any_go (i := 14) (by rfl) (by decide +kernel) (by decide +kernel) noLate_nil (go_yields w_none (fun w hS => m_fieldAddr_vec Try.underlying54 (hi := ti50) (hS := hS))) ?_
                    try simp only [opv, nZ, Value.cells, Nat.zero_add, Nat.add_zero, List.getElem_toArray, List.getElem_cons_zero, List.getElem_cons_succ]
                    first | refine any_go (i := 15) (by rfl) (by decide +kernel) (by decide +kernel) noLate_nil (go_yields w_none (fun w hS => m_load_row Try.underlying50 (hi := ti50) (hS := hS) (hfit := by rw [arows_len]; omega))) ?_ | refine any_go (i := 15) (by rfl) (by decide +kernel) (by decide +kernel) noLate_nil (go_yields w_none (fun w hS => m_loada_obj Try.underlying50 (hi := ti50) (hS := hS) (hfit := by rw [arows_len]; omega))) ?_ | refine any_go (i := 15) (by rfl) (by decide +kernel) (by decide +kernel) noLate_nil (go_yields w_none (fun w hS => m_loada_bx Try.underlying50 (hi := ti50) (hS := hS) (hfit := by rw [arows_len]; omega))) ?_ | refine any_go (i := 15) (by rfl) (by decide +kernel) (by decide +kernel) noLate_nil (go_yields w_none (fun w hS => m_loada_rd Try.underlying50 (hi := ti50) (hS := hS) (hfit := by rw [arows_len]; omega))) ?_ | refine any_go (i := 15) (by rfl) (by decide +kernel) (by decide +kernel) noLate_nil (go_yields w_none (fun w hS => m_loada_vec Try.underlying50 (hi := ti50) (hS := hS) (hfit := by rw [arows_len]; omega))) ?_
                    try simp only [opv, nZ, Value.cells, List.getElem_toArray, List.getElem_cons_zero, List.getElem_cons_succ]
                    rw [arow_val (by omega) hto, hy]
                    apply any_go (i := 16) (by rfl) (by decide +kernel) (by decide +kernel) noLate_nil (call_yields w_none en57 ?H4) ?K4
                    case H4 =>
                      intro w hS
                      try simp only [opv, nZ, List.map_toArray, List.map_cons, List.map_nil, List.append_toArray, List.cons_append, List.nil_append, Array.append_empty]
                      refine CallR.mono (c_ref09More (aval x) (aval y) hvx hvy _) ?_
                      rintro _ w1 ⟨rfl, hE⟩; exact ⟨rfl, hE⟩
                    try simp only [opv, nZ, Value.cells]
                    refine any_go (i := 17) (by rfl) (by decide +kernel) (by decide +kernel) noLate_nil (go_yields w_none (fun w hS => s_build_struct (cells := (AA (akey x ++ moreV (aval x) (aval y)))) Try.underlying54 ti54 bp54 (hc := by simp only [List.map_toArray, List.map_cons, List.map_nil, opv, nZ, Value.cells, List.toList_toArray]; exact fill_atom (by rfl) (by rfl) (by rfl) hk12 hml))) ?_
                    try simp only [opv, nZ, Value.cells]
                    refine any_step [18] (by kernel_rfl) (by decide) (fun w63 hE => ⟨fun _ => (hS.ext hE).sel (by repeat (first | exact Sel.nil | (refine Sel.cons (by repeat (first | exact Del.head | apply Del.tail)) ?_))), ?_⟩)
                    replace hS := hS.ext hE
                    intro i hi
                    simp only [List.mem_cons, List.not_mem_nil, or_false] at hi
                    subst hi
                    ·
                     refine any_op (by rfl) ?_
                     refine m_buildRow (cells := (AA (akey x ++ moreV (aval x) (aval y)))) Try.underlying22 ti54 (hc := by simp only [List.map_toArray, List.map_cons, List.map_nil, opv, nZ, Value.cells, List.toList_toArray]; exact fill_one (by rfl) (zi_size21 hzl) (by rfl)) (hS := hS) (h := fun w64 g64 hS => ?_)
                     try simp only [opv, nZ, Value.cells, Array.toArray_toList] at hS ⊢
                     replace hS := hS.obj_rd (sz := 21) (n := 1) (by exact zi_size21 hzl) .head
                     rw [arow_one hzl] at hS
                     refine x_nil ?_
                     refine any_step [19] (by kernel_rfl) (by decide) (fun w65 hE => ⟨fun _ => (hS.ext hE).sel (by repeat (first | exact Sel.nil | (refine Sel.cons (by repeat (first | exact Del.head | apply Del.tail)) ?_))), ?_⟩)
                     replace hS := hS.ext hE
                     intro i hi
                     simp only [List.mem_cons, List.not_mem_nil, or_false] at hi
                     subst hi
                     ·
                      refine any_op (by rfl) ?_
                      refine m_append Try.underlying22 ti54 (hS := hS) (h1 := rowsZ_cells _ _) (h := fun w66 A66 C66 hS => ?_)
                      try simp only [← List.map_append, ← List.map_drop, ← List.map_take, Nat.mul_one, Nat.zero_mul, Nat.sub_zero, List.drop_zero, List.nil_append, Nat.zero_add] at hS ⊢
                      try simp only [opv, nZ, Value.cells, Array.toArray_toList] at hS ⊢
                      rw [add_one] at hS
                      refine x_nil ?_
                      refine any_go (i := 20) (by rfl) (by decide +kernel) (by decide +kernel) noLate_nil (go_yields w_none (fun w hS => s_assign)) ?_
                      try simp only [opv, nZ, Value.cells]
                      refine any_nil (by kernel_rfl) (fun w67 hE => ?_)
                      replace hS := hS.ext hE
                      refine ⟨fun _ => hS.selA, ?_⟩
                      refine mix_leaf (by simp only [clob, List.foldl, nZ]) ?_
                      try simp only [n1, n2]
                      exact ⟨_, _, by first | trivial | rfl, hS.selA⟩
                   intro fm4 w68 hM
                   obtain ⟨C2, e2, h5, hS⟩ := hM
                   simp only [clob, List.foldl, n3, n4, h5]
                   refine hK32 _ _ ?_
                   refine x_seq fun K33 hK33 => ?_
                   refine x_region ?_
                   refine s_go (s_move) ?_
                   try simp only [opv, nZ, Value.cells]
                   refine s_go (s_add (hc := by first | exact wr_i64 (by omega) (by omega) | rfl)) ?_
                   try simp only [opv, nZ, Value.cells]
                   refine s_go (s_assign) ?_
                   try simp only [opv, nZ, Value.cells]
                   refine x_nil ?_
                   refine hK33 _ _ ?_
                   refine x_region ?_
                   refine s_go (s_move) ?_
                   try simp only [opv, nZ, Value.cells]
                   refine s_go (s_add (hc := by first | exact wr_i64 (by omega) (by omega) | rfl)) ?_
                   try simp only [opv, nZ, Value.cells]
                   refine s_go (s_assign) ?_
                   try simp only [opv, nZ, Value.cells]
                   refine x_nil ?_
                   refine loop_back (m' := m1 - 1) (by simp only [clob, List.foldl, nZ]) ?_ ?_
                   · try simp only [opv, nZ, Value.cells]
                     exact ⟨_, _, _, _, _, by omega, by omega, by omega, by rfl, by rfl, by simp only [List.length_append, List.length_cons, List.length_nil, Nat.zero_add]; rfl, hnx, by simp only [List.length_append, List.length_cons, List.length_nil, Nat.zero_add]; omega, by simp only [List.length_append, List.length_cons, List.length_nil, Nat.zero_add]; exact hS.selA⟩
                   · omega
    ·
     try simp only [decide_eq_true_eq, decide_eq_false_iff_not, Bool.not_eq_true', Bool.not_eq_false', Int.not_lt, Int.not_le, ne_eq, Decidable.not_not, bne_iff_ne, beq_iff_eq, not_true_eq_false, not_false_eq_true] at hc9
     first
     | (exfalso; omega)
     | skip
       obtain rfl : i = s.length := by omega
       obtain rfl : k = t.length := by omega
       rw [List.drop_of_length_le (Nat.le_refl _), List.drop_of_length_le (Nat.le_refl _), merge_nil, List.append_nil] at hmo
       rw [hmg0] at hmo
       refine x_exit (look_here ?_)
       refine hK5 _ _ ?_
       refine x_seq fun K34 hK34 => ?_
       refine x_region ?_
       refine s_go (s_move) ?_
       try simp only [opv, nZ, Value.cells]
       refine s_go (s_assign) ?_
       try simp only [opv, nZ, Value.cells]
       refine x_nil ?_
       refine hK34 _ _ ?_
       refine x_ret ?_
       refine r_tmp rfl ?_
       rw [← hmo]
       exact ⟨_, _, rfl, hS.selA⟩
end Go.Proofs.Ytffmanidnlbjjaa
set_option linter.unusedSimpArgs false
set_option linter.unusedVariables false
set_option maxHeartbeats 1000000
set_option maxRecDepth 100000
namespace Go.Proofs.Ytffmanidnlbjjaa
open Go.RowKit

def k10 : List Int := [1, 1, 97, 0, 0, 0, 0, 0, 0, 0, 2, 3]
def b10 : List Int := k10 ++ [2, 0, 0, 0, 0, 0, 0, 0, 0]
end Go.Proofs.Ytffmanidnlbjjaa
set_option linter.unusedSimpArgs false
set_option linter.unusedVariables false
set_option maxHeartbeats 1000000
set_option maxRecDepth 100000
namespace Go.Proofs.Ytffmanidnlbjjaa
open Go.RowKit

def noteK (c : Nat) : List Int := mkKey 4 c nm0 0 0
def noteV (l : List (List Int)) (c : Nat) : List Int := (fnd (noteK c) (normP l)).getD v9
def noteN (l : List (List Int)) (c : Nat) : Nat := kn (noteV l c) 0 / 256 % 4294967296
def noteE (l : List (List Int)) (r : Nat) (tx : List Int) (c : Nat) : Int := if 16 ≤ r ∨ (¬ tx = nm0 ∧ nright tx = false) then 1 else if noteN l c = 4294967295 then 8 else 0
end Go.Proofs.Ytffmanidnlbjjaa
set_option linter.unusedSimpArgs false
set_option linter.unusedVariables false
set_option maxHeartbeats 1000000
set_option maxRecDepth 100000
namespace Go.Proofs.Ytffmanidnlbjjaa
open Go.RowKit

theorem akey_k {a : List Int} (h : a.length = 21) : kn (akey a) 0 = kn a 0 ∧ kn (akey a) 1 = kn a 1 := by
  match a, h with
  | _ :: _ :: _, _ => exact ⟨rfl, rfl⟩
end Go.Proofs.Ytffmanidnlbjjaa
set_option linter.unusedSimpArgs false
set_option linter.unusedVariables false
set_option maxHeartbeats 1000000
set_option maxRecDepth 100000
namespace Go.Proofs.Ytffmanidnlbjjaa
open Go.RowKit

def hi8 : List Int := [104, 105, 0, 0, 0, 0, 0, 0]
end Go.Proofs.Ytffmanidnlbjjaa
set_option linter.unusedSimpArgs false
set_option linter.unusedVariables false
set_option maxHeartbeats 1000000
set_option maxRecDepth 100000
namespace Go.Proofs.Ytffmanidnlbjjaa
open Go.RowKit

theorem akey_kk {a : List Int} (h : a.length = 21) : kn (akey a) 10 = kn a 10 ∧ kn (akey a) 11 = kn a 11 := by
  match a, h with
  | [_, _, _, _, _, _, _, _, _, _, _, _, _, _, _, _, _, _, _, _, _], _ => exact ⟨rfl, rfl⟩
/-- a state's vector -/
def ofStep (v a : List Int) : List Int := if kn a 0 = 1 then v.set (kn a 10) (max (v.getD (kn a 10) 0) (kn a 11 : Int)) else v
def ofV (s : List (List Int)) : List Int := s.foldl ofStep (List.replicate 16 0)
structure VOk (v : List Int) : Prop where
  len : v.length = 16
  nat : ∀ i, 0 ≤ v.getD i 0 ∧ v.getD i 0 ≤ 4294967295
theorem VOk.zero : VOk (List.replicate 16 0) := ⟨rfl, fun i => by
  rw [List.getD_eq_getElem?_getD, List.getElem?_replicate]
  split <;> simp⟩
theorem VOk.set {v : List Int} (h : VOk v) {r : Nat} {n : Int} (h0 : 0 ≤ n) (h1 : n ≤ 4294967295) : VOk (v.set r n) := ⟨by rw [List.length_set]; exact h.len, fun i => by
  by_cases e : r = i
  · subst e
    by_cases hr : r < v.length
    · rw [List.getD_eq_getElem?_getD, List.getElem?_set_self hr]; exact ⟨h0, h1⟩
    · rw [List.set_eq_of_length_le (by omega)]; exact h.nat r
  · rw [List.getD_eq_getElem?_getD, List.getElem?_set_ne e, ← List.getD_eq_getElem?_getD]; exact h.nat i⟩
theorem VOk.step {v a : List Int} (h : VOk v) (ha : AtomOk a) : VOk (ofStep v a) := by
  unfold ofStep
  split
  · have h1 := h.nat (kn a 10)
    have h2 := ha.key.b11
    rw [(akey_kk ha.len).2] at h2
    exact h.set (by omega) (by omega)
  · exact h
theorem ofV_ok : ∀ {s : List (List Int)} {v : List Int}, AOks s → VOk v → VOk (s.foldl ofStep v)
  | [], _, _, h => h
  | a :: s, v, hs, h => ofV_ok (s := s) (v := ofStep v a) (fun b hb => hs b (by simp [hb])) (h.step (hs a (by simp)))
theorem ofV_take {s : List (List Int)} {k : Nat} {x : List Int} (hk : k < s.length) (hx : s.getD k [] = x) : ofV (s.take (k + 1)) = ofStep (ofV (s.take k)) x := by
  rw [take_snoc hk, hx, ofV, List.foldl_append]; rfl
theorem right_rep {x : List Int} (h : atomR x = true) (ha : AtomOk x) (h1 : kn x 0 = 1) : kn x 10 < 16 := by
  rw [atomR, Bool.and_eq_true] at h
  have hk := h.1
  have e := (akey_k ha.len).1
  have e2 := (akey_kk ha.len).1
  rw [keyR, if_neg (by omega), if_pos (by omega), Bool.and_eq_true, decide_eq_true_eq, e2] at hk
  exact hk.2
theorem ofS_no {v x : List Int} (h : ¬ kn x 0 = 1) : ofStep v x = v := if_neg h
def bumpE (v : List Int) (r : Nat) : Int := if 16 ≤ r then 1 else if v.getD r 0 = 4294967295 then 8 else 0
def bumpV (v : List Int) (r : Nat) : List Int := if bumpE v r = 0 then v.set r (v.getD r 0 + 1) else List.replicate 16 0
end Go.Proofs.Ytffmanidnlbjjaa
set_option linter.unusedSimpArgs false
set_option linter.unusedVariables false
set_option maxHeartbeats 2000000
set_option maxRecDepth 100000
namespace Go.Proofs.Ytffmanidnlbjjaa
open Go.RowKit
theorem c_vecBump (x : List Int) (hv : VOk x) (r : Nat) (h8 : r < 256)  (w0 : World) :
    CallR Try.prog 51 #[.agg (ic .u32 x), .int .u8 (r : Int)] w0 fun v w' => v = .tuple #[.agg (ic .u32 (bumpV x r)), .int .i64 (bumpE x r)] ∧ Ext w0 w' := by
 have hS : St NoB w0 w0 [] := St.start w0
 refine c_enter (l := [.agg (ic .u32 x), .int .u8 (r : Int), undef, undef, undef, undef, undef, undef, undef, undef, undef, undef, undef, undef, undef, undef, undef, undef, undef, undef, undef, undef, undef]) Try.func51 rfl (by simp only [Try.ntmps51, List.size_toArray, List.length_cons, List.length_nil, Nat.reduceAdd, Nat.reduceSub, Array.replicate_succ, Array.replicate_zero, List.push_toArray, List.append_toArray, List.nil_append, List.cons_append]) ?_
 refine x_seq fun K1 hK1 => ?_
 refine x_region ?_
 have hxl := hv.len
 have hxr := hv.nat r
 refine m_box hS (fun w1 g1 hS => ?_)
 try simp only [opv, nZ, Value.cells, Array.toArray_toList] at hS ⊢
 refine m_alloc ti70 hS (fun w2 g2 hS => ?_)
 try simp only [opv, nZ, Value.cells, Array.toArray_toList] at hS ⊢
 replace hS : St NoB w0 w2 (.obj g2 (.cells (ic .u32 (List.replicate 16 0)) 70 (0, 0)) :: _) := hS
 obtain ⟨gr, hgr⟩ : ∃ z, z = g2 := ⟨_, rfl⟩
 rw [← hgr] at hS ⊢
 refine s_go (s_assign) ?_
 try simp only [opv, nZ, Value.cells]
 refine x_nil ?_
 refine hK1 _ _ ?_
 refine x_seq fun K2 hK2 => ?_
 refine x_block ?_
 refine x_seq fun K3 hK3 => ?_
 refine x_region ?_
 refine s_go (s_move) ?_
 try simp only [opv, nZ, Value.cells]
 refine s_go (s_conv Try.underlying5 Try.underlying3 (hc := cv_i64 (by omega))) ?_
 try simp only [opv, nZ, Value.cells]
 refine s_go (s_geq) ?_
 try simp only [opv, nZ, Value.cells]
 refine s_go (s_assign) ?_
 try simp only [opv, nZ, Value.cells]
 refine x_nil ?_
 refine hK3 _ _ ?_
 refine x_cond (ht := fun hc1 => ?_) (hf := fun hc1 => ?_)
 ·
  try simp only [decide_eq_true_eq, decide_eq_false_iff_not, Bool.not_eq_true', Bool.not_eq_false', Int.not_lt, Int.not_le, ne_eq, Decidable.not_not, bne_iff_ne, beq_iff_eq, not_true_eq_false, not_false_eq_true] at hc1
  have hE : bumpE x r = 1 := if_pos (by omega)
  refine x_seq fun K4 hK4 => ?_
  refine x_region ?_
  refine s_go (s_build_arr (cells := #[.int .u32 0, .int .u32 0, .int .u32 0, .int .u32 0, .int .u32 0, .int .u32 0, .int .u32 0, .int .u32 0, .int .u32 0, .int .u32 0, .int .u32 0, .int .u32 0, .int .u32 0, .int .u32 0, .int .u32 0, .int .u32 0]) Try.underlying70 ti70 ti29 (hc := by simp only [List.map_toArray, List.map_cons, List.map_nil, opv, nZ, Value.cells, List.toList_toArray]; (repeat (refine fill_cons rfl rfl (Nat.le_of_ble_eq_true rfl) ?_)); rfl)) ?_
  try simp only [opv, nZ, Value.cells]
  first | refine m_store_obj ti70 (hS := hS) (hc := by first | exact zi_set rfl (by omega) | exact zi_whole (by omega) (by omega) | (first | exact splice_ic (by first | omega | (simp [*]; done) | (simp [*]; omega)) | exact splice_il (by first | omega | (simp [*]; done) | (simp [*]; omega)) | exact splice_whole (by first | (simp [opv, Value.cells, *]; done) | rfl) | (simp only [opv, n1, n2, Value.cells, splice, List.take_succ_cons, List.take_zero, List.drop_succ_cons, List.drop_zero, List.length_cons, List.length_nil, Nat.zero_add, Nat.reduceAdd, List.append_assoc, List.cons_append, List.nil_append]; rfl))) (hv := by first | rfl | (show (zi _ _).toArray.size = _; rw [zi_size (by omega)]; rfl) | (simp [opv, Value.cells, *]; done)) (hfit := by first | omega | (rw [zi_size (by omega)]; first | rfl | decide) | (simp only [ic_size, List.length_map, List.size_toArray]; first | omega | decide) | rfl | (simp [*]; done) | (simp [*]; omega)) (h1 := by first | exact zi_one _ _ | exact ic_one _ _ | simp [opv, Value.cells, Value.oneCell']) (h := fun w3 hS => ?_) | refine m_store_vec ti70 (hS := hS) (hc := by first | exact zi_set rfl (by omega) | exact zi_whole (by omega) (by omega) | (first | exact splice_ic (by first | omega | (simp [*]; done) | (simp [*]; omega)) | exact splice_il (by first | omega | (simp [*]; done) | (simp [*]; omega)) | exact splice_whole (by first | (simp [opv, Value.cells, *]; done) | rfl) | (simp only [opv, n1, n2, Value.cells, splice, List.take_succ_cons, List.take_zero, List.drop_succ_cons, List.drop_zero, List.length_cons, List.length_nil, Nat.zero_add, Nat.reduceAdd, List.append_assoc, List.cons_append, List.nil_append]; rfl))) (hv := by first | rfl | (show (zi _ _).toArray.size = _; rw [zi_size (by omega)]; rfl) | (simp [opv, Value.cells, *]; done)) (hfit := by first | omega | (rw [zi_size (by omega)]; first | rfl | decide) | (simp only [ic_size, List.length_map, List.size_toArray]; first | omega | decide) | rfl | (simp [*]; done) | (simp [*]; omega)) (h1 := by first | exact zi_one _ _ | exact ic_one _ _ | simp [opv, Value.cells, Value.oneCell']) (h := fun w3 hS => ?_)
  try simp only [opv, nZ, Value.cells, Array.toArray_toList] at hS ⊢
  refine s_go (s_assign) ?_
  try simp only [opv, nZ, Value.cells]
  refine x_nil ?_
  refine hK4 _ _ ?_
  refine x_ret ?_
  refine r_cell_tmp_agg rfl Try.underlying70 ti70 (hS := hS) (hfit := by first | omega | (rw [zi_size (by omega)]; first | rfl | decide) | (simp only [ic_size, List.length_map, List.size_toArray]; first | omega | decide) | rfl | (simp [*]; done) | (simp [*]; omega)) (hR := ?_)
  first | exact ⟨by rw [bumpV, hE]; rfl, hS.ext_of⟩ | exact ⟨by rw [bumpV, hE, if_neg (by decide)]; rfl, hS.ext_of⟩
 ·
  try simp only [decide_eq_true_eq, decide_eq_false_iff_not, Bool.not_eq_true', Bool.not_eq_false', Int.not_lt, Int.not_le, ne_eq, Decidable.not_not, bne_iff_ne, beq_iff_eq, not_true_eq_false, not_false_eq_true] at hc1
  have hr16 : r < 16 := by omega
  refine x_seq fun K5 hK5 => ?_
  refine x_region ?_
  refine s_go (s_move) ?_
  try simp only [opv, nZ, Value.cells]
  refine s_go (m_indexAddr_arr Try.underlying70 ti29) ?_
  try simp only [opv, nZ, Value.cells, Nat.mul_one, Nat.zero_add, Int.toNat_natCast, Int.reduceToNat]
  first | refine s_go (m_load_obj Try.underlying29 (hS := hS) (hv := ic_get (by omega))) ?_ | refine s_go (m_load_bx Try.underlying29 (hS := hS) (hv := ic_get (by omega))) ?_ | refine s_go (m_load_rd Try.underlying29 (hS := hS) (hv := ic_get (by omega))) ?_ | refine s_go (m_load_vec Try.underlying29 (hS := hS) (hv := ic_get (by omega))) ?_
  try simp only [opv, nZ, Value.cells, List.getElem_toArray, List.getElem_cons_zero, List.getElem_cons_succ]
  refine s_go (s_eql) ?_
  try simp only [opv, nZ, Value.cells]
  refine s_go (s_assign) ?_
  try simp only [opv, nZ, Value.cells]
  refine x_nil ?_
  refine hK5 _ _ ?_
  refine x_cond (ht := fun hc2 => ?_) (hf := fun hc2 => ?_)
  ·
   try simp only [decide_eq_true_eq, decide_eq_false_iff_not, Bool.not_eq_true', Bool.not_eq_false', Int.not_lt, Int.not_le, ne_eq, Decidable.not_not, bne_iff_ne, beq_iff_eq, not_true_eq_false, not_false_eq_true] at hc2
   have hE : bumpE x r = 8 := by rw [bumpE, if_neg (by omega), if_pos (by omega)]
   refine x_seq fun K6 hK6 => ?_
   refine x_region ?_
   refine s_go (s_build_arr (cells := #[.int .u32 0, .int .u32 0, .int .u32 0, .int .u32 0, .int .u32 0, .int .u32 0, .int .u32 0, .int .u32 0, .int .u32 0, .int .u32 0, .int .u32 0, .int .u32 0, .int .u32 0, .int .u32 0, .int .u32 0, .int .u32 0]) Try.underlying70 ti70 ti29 (hc := by simp only [List.map_toArray, List.map_cons, List.map_nil, opv, nZ, Value.cells, List.toList_toArray]; (repeat (refine fill_cons rfl rfl (Nat.le_of_ble_eq_true rfl) ?_)); rfl)) ?_
   try simp only [opv, nZ, Value.cells]
   first | refine m_store_obj ti70 (hS := hS) (hc := by first | exact zi_set rfl (by omega) | exact zi_whole (by omega) (by omega) | (first | exact splice_ic (by first | omega | (simp [*]; done) | (simp [*]; omega)) | exact splice_il (by first | omega | (simp [*]; done) | (simp [*]; omega)) | exact splice_whole (by first | (simp [opv, Value.cells, *]; done) | rfl) | (simp only [opv, n1, n2, Value.cells, splice, List.take_succ_cons, List.take_zero, List.drop_succ_cons, List.drop_zero, List.length_cons, List.length_nil, Nat.zero_add, Nat.reduceAdd, List.append_assoc, List.cons_append, List.nil_append]; rfl))) (hv := by first | rfl | (show (zi _ _).toArray.size = _; rw [zi_size (by omega)]; rfl) | (simp [opv, Value.cells, *]; done)) (hfit := by first | omega | (rw [zi_size (by omega)]; first | rfl | decide) | (simp only [ic_size, List.length_map, List.size_toArray]; first | omega | decide) | rfl | (simp [*]; done) | (simp [*]; omega)) (h1 := by first | exact zi_one _ _ | exact ic_one _ _ | simp [opv, Value.cells, Value.oneCell']) (h := fun w4 hS => ?_) | refine m_store_vec ti70 (hS := hS) (hc := by first | exact zi_set rfl (by omega) | exact zi_whole (by omega) (by omega) | (first | exact splice_ic (by first | omega | (simp [*]; done) | (simp [*]; omega)) | exact splice_il (by first | omega | (simp [*]; done) | (simp [*]; omega)) | exact splice_whole (by first | (simp [opv, Value.cells, *]; done) | rfl) | (simp only [opv, n1, n2, Value.cells, splice, List.take_succ_cons, List.take_zero, List.drop_succ_cons, List.drop_zero, List.length_cons, List.length_nil, Nat.zero_add, Nat.reduceAdd, List.append_assoc, List.cons_append, List.nil_append]; rfl))) (hv := by first | rfl | (show (zi _ _).toArray.size = _; rw [zi_size (by omega)]; rfl) | (simp [opv, Value.cells, *]; done)) (hfit := by first | omega | (rw [zi_size (by omega)]; first | rfl | decide) | (simp only [ic_size, List.length_map, List.size_toArray]; first | omega | decide) | rfl | (simp [*]; done) | (simp [*]; omega)) (h1 := by first | exact zi_one _ _ | exact ic_one _ _ | simp [opv, Value.cells, Value.oneCell']) (h := fun w4 hS => ?_)
   try simp only [opv, nZ, Value.cells, Array.toArray_toList] at hS ⊢
   refine s_go (s_assign) ?_
   try simp only [opv, nZ, Value.cells]
   refine x_nil ?_
   refine hK6 _ _ ?_
   refine x_ret ?_
   refine r_cell_tmp_agg rfl Try.underlying70 ti70 (hS := hS) (hfit := by first | omega | (rw [zi_size (by omega)]; first | rfl | decide) | (simp only [ic_size, List.length_map, List.size_toArray]; first | omega | decide) | rfl | (simp [*]; done) | (simp [*]; omega)) (hR := ?_)
   first | exact ⟨by rw [bumpV, hE]; rfl, hS.ext_of⟩ | exact ⟨by rw [bumpV, hE, if_neg (by decide)]; rfl, hS.ext_of⟩
  ·
   try simp only [decide_eq_true_eq, decide_eq_false_iff_not, Bool.not_eq_true', Bool.not_eq_false', Int.not_lt, Int.not_le, ne_eq, Decidable.not_not, bne_iff_ne, beq_iff_eq, not_true_eq_false, not_false_eq_true] at hc2
   have hE : bumpE x r = 0 := by rw [bumpE, if_neg (by omega), if_neg (by omega)]
   refine x_skip ?_
   refine hK2 _ _ ?_
   refine x_seq fun K7 hK7 => ?_
   refine x_region ?_
   refine s_go (s_move) ?_
   try simp only [opv, nZ, Value.cells]
   refine s_go (m_indexAddr_arr Try.underlying70 ti29) ?_
   try simp only [opv, nZ, Value.cells, Nat.mul_one, Nat.zero_add, Int.toNat_natCast, Int.reduceToNat]
   first | refine s_go (m_load_obj Try.underlying29 (hS := hS) (hv := ic_get (by omega))) ?_ | refine s_go (m_load_bx Try.underlying29 (hS := hS) (hv := ic_get (by omega))) ?_ | refine s_go (m_load_rd Try.underlying29 (hS := hS) (hv := ic_get (by omega))) ?_ | refine s_go (m_load_vec Try.underlying29 (hS := hS) (hv := ic_get (by omega))) ?_
   try simp only [opv, nZ, Value.cells, List.getElem_toArray, List.getElem_cons_zero, List.getElem_cons_succ]
   refine s_go (s_add (hc := wr_u32 (by omega) (by omega))) ?_
   try simp only [opv, nZ, Value.cells]
   refine s_go (m_indexAddr_arr Try.underlying70 ti29) ?_
   try simp only [opv, nZ, Value.cells, Nat.mul_one, Nat.zero_add, Int.toNat_natCast, Int.reduceToNat]
   first | refine m_store_obj ti29 (hS := hS) (hc := by first | exact zi_set rfl (by omega) | exact zi_whole (by omega) (by omega) | (first | exact splice_ic (by first | omega | (simp [*]; done) | (simp [*]; omega)) | exact splice_il (by first | omega | (simp [*]; done) | (simp [*]; omega)) | exact splice_whole (by first | (simp [opv, Value.cells, *]; done) | rfl) | (simp only [opv, n1, n2, Value.cells, splice, List.take_succ_cons, List.take_zero, List.drop_succ_cons, List.drop_zero, List.length_cons, List.length_nil, Nat.zero_add, Nat.reduceAdd, List.append_assoc, List.cons_append, List.nil_append]; rfl))) (hv := by first | rfl | (show (zi _ _).toArray.size = _; rw [zi_size (by omega)]; rfl) | (simp [opv, Value.cells, *]; done)) (hfit := by first | omega | (rw [zi_size (by omega)]; first | rfl | decide) | (simp only [ic_size, List.length_map, List.size_toArray]; first | omega | decide) | rfl | (simp [*]; done) | (simp [*]; omega)) (h1 := by first | exact zi_one _ _ | exact ic_one _ _ | simp [opv, Value.cells, Value.oneCell']) (h := fun w5 hS => ?_) | refine m_store_vec ti29 (hS := hS) (hc := by first | exact zi_set rfl (by omega) | exact zi_whole (by omega) (by omega) | (first | exact splice_ic (by first | omega | (simp [*]; done) | (simp [*]; omega)) | exact splice_il (by first | omega | (simp [*]; done) | (simp [*]; omega)) | exact splice_whole (by first | (simp [opv, Value.cells, *]; done) | rfl) | (simp only [opv, n1, n2, Value.cells, splice, List.take_succ_cons, List.take_zero, List.drop_succ_cons, List.drop_zero, List.length_cons, List.length_nil, Nat.zero_add, Nat.reduceAdd, List.append_assoc, List.cons_append, List.nil_append]; rfl))) (hv := by first | rfl | (show (zi _ _).toArray.size = _; rw [zi_size (by omega)]; rfl) | (simp [opv, Value.cells, *]; done)) (hfit := by first | omega | (rw [zi_size (by omega)]; first | rfl | decide) | (simp only [ic_size, List.length_map, List.size_toArray]; first | omega | decide) | rfl | (simp [*]; done) | (simp [*]; omega)) (h1 := by first | exact zi_one _ _ | exact ic_one _ _ | simp [opv, Value.cells, Value.oneCell']) (h := fun w5 hS => ?_)
   try simp only [opv, nZ, Value.cells, Array.toArray_toList] at hS ⊢
   refine x_nil ?_
   refine hK7 _ _ ?_
   refine x_seq fun K8 hK8 => ?_
   refine x_region ?_
   first | refine s_go (m_load_row Try.underlying70 (hi := ti70) (hS := hS) (hfit := by first | omega | (rw [zi_size (by omega)]; first | rfl | decide) | (simp only [ic_size, List.length_map, List.size_toArray]; first | omega | decide) | rfl | (simp [*]; done) | (simp [*]; omega))) ?_ | refine s_go (m_loada_obj Try.underlying70 (hi := ti70) (hS := hS) (hfit := by first | omega | (rw [zi_size (by omega)]; first | rfl | decide) | (simp only [ic_size, List.length_map, List.size_toArray]; first | omega | decide) | rfl | (simp [*]; done) | (simp [*]; omega))) ?_ | refine s_go (m_loada_bx Try.underlying70 (hi := ti70) (hS := hS) (hfit := by first | omega | (rw [zi_size (by omega)]; first | rfl | decide) | (simp only [ic_size, List.length_map, List.size_toArray]; first | omega | decide) | rfl | (simp [*]; done) | (simp [*]; omega))) ?_ | refine s_go (m_loada_rd Try.underlying70 (hi := ti70) (hS := hS) (hfit := by first | omega | (rw [zi_size (by omega)]; first | rfl | decide) | (simp only [ic_size, List.length_map, List.size_toArray]; first | omega | decide) | rfl | (simp [*]; done) | (simp [*]; omega))) ?_ | refine s_go (m_loada_vec Try.underlying70 (hi := ti70) (hS := hS) (hfit := by first | omega | (rw [zi_size (by omega)]; first | rfl | decide) | (simp only [ic_size, List.length_map, List.size_toArray]; first | omega | decide) | rfl | (simp [*]; done) | (simp [*]; omega))) ?_
   try simp only [opv, nZ, Value.cells, List.getElem_toArray, List.getElem_cons_zero, List.getElem_cons_succ]
   first | refine m_store_obj ti70 (hS := hS) (hc := by first | exact zi_set rfl (by omega) | exact zi_whole (by omega) (by omega) | (first | exact splice_ic (by first | omega | (simp [*]; done) | (simp [*]; omega)) | exact splice_il (by first | omega | (simp [*]; done) | (simp [*]; omega)) | exact splice_whole (by first | (simp [opv, Value.cells, *]; done) | rfl) | (simp only [opv, n1, n2, Value.cells, splice, List.take_succ_cons, List.take_zero, List.drop_succ_cons, List.drop_zero, List.length_cons, List.length_nil, Nat.zero_add, Nat.reduceAdd, List.append_assoc, List.cons_append, List.nil_append]; rfl))) (hv := by first | rfl | (show (zi _ _).toArray.size = _; rw [zi_size (by omega)]; rfl) | (simp [opv, Value.cells, *]; done)) (hfit := by first | omega | (rw [zi_size (by omega)]; first | rfl | decide) | (simp only [ic_size, List.length_map, List.size_toArray]; first | omega | decide) | rfl | (simp [*]; done) | (simp [*]; omega)) (h1 := by first | exact zi_one _ _ | exact ic_one _ _ | simp [opv, Value.cells, Value.oneCell']) (h := fun w6 hS => ?_) | refine m_store_vec ti70 (hS := hS) (hc := by first | exact zi_set rfl (by omega) | exact zi_whole (by omega) (by omega) | (first | exact splice_ic (by first | omega | (simp [*]; done) | (simp [*]; omega)) | exact splice_il (by first | omega | (simp [*]; done) | (simp [*]; omega)) | exact splice_whole (by first | (simp [opv, Value.cells, *]; done) | rfl) | (simp only [opv, n1, n2, Value.cells, splice, List.take_succ_cons, List.take_zero, List.drop_succ_cons, List.drop_zero, List.length_cons, List.length_nil, Nat.zero_add, Nat.reduceAdd, List.append_assoc, List.cons_append, List.nil_append]; rfl))) (hv := by first | rfl | (show (zi _ _).toArray.size = _; rw [zi_size (by omega)]; rfl) | (simp [opv, Value.cells, *]; done)) (hfit := by first | omega | (rw [zi_size (by omega)]; first | rfl | decide) | (simp only [ic_size, List.length_map, List.size_toArray]; first | omega | decide) | rfl | (simp [*]; done) | (simp [*]; omega)) (h1 := by first | exact zi_one _ _ | exact ic_one _ _ | simp [opv, Value.cells, Value.oneCell']) (h := fun w6 hS => ?_)
   try simp only [opv, nZ, Value.cells, Array.toArray_toList] at hS ⊢
   refine s_go (s_assign) ?_
   try simp only [opv, nZ, Value.cells]
   refine x_nil ?_
   refine hK8 _ _ ?_
   refine x_ret ?_
   refine r_cell_tmp_agg rfl Try.underlying70 ti70 (hS := hS) (hfit := by first | omega | (rw [zi_size (by omega)]; first | rfl | decide) | (simp only [ic_size, List.length_map, List.size_toArray]; first | omega | decide) | rfl | (simp [*]; done) | (simp [*]; omega)) (hR := ?_)
   first | exact ⟨by rw [bumpV, hE]; rfl, hS.ext_of⟩ | exact ⟨by rw [bumpV, hE, if_neg (by decide)]; rfl, hS.ext_of⟩
theorem c_vecOf (w0 : World) (A : Option Addr) (c : Nat) (l : List (List Int)) (hr : Rd w0 A 21 l.length (arows l)) (hv : AOks l) (hn : l.length ≤ 1000000000)  :
    CallR Try.prog 52 #[.slice A l.length c] w0 fun v w' => v = .agg (ic .u32 (ofV (normP l))) ∧ Ext w0 w' := by
 have hS := St.rd1 (S := NoB) hr
 have hno := (norm_sta hv).ok
 have hkn := (norm_sta hv).knd
 have hnl := arows_len (normP l)
 have hnb := norm_len l
 have hsn := norm_sta hv
 refine y_enter (l := [.slice A l.length c, undef, undef, undef, undef, undef, undef, undef, undef, undef, undef, undef, undef, undef, undef, undef, undef, undef, undef, undef, undef, undef]) Try.func52 rfl (by simp only [Try.ntmps52, List.size_toArray, List.length_cons, List.length_nil, Nat.reduceAdd, Nat.reduceSub, Array.replicate_succ, Array.replicate_zero, List.push_toArray, List.append_toArray, List.nil_append, List.cons_append]) ?_
 refine y_seq fun K1 hK1 => ?_
 refine y_region (by kernel_rfl) ?_
 refine m_alloc ti70 hS (fun w1 g1 hS => ?_)
 try simp only [opv, nZ, Value.cells, Array.toArray_toList] at hS ⊢
 replace hS : St NoB w0 w1 (.obj g1 (.cells (ic .u32 (List.replicate 16 0)) 70 (0, 0)) :: _) := hS
 obtain ⟨gv, hgv⟩ : ∃ z, z = g1 := ⟨_, rfl⟩
 rw [← hgv] at hS ⊢
 refine y_nilf ?_
 refine hK1 _ _ ?_
 refine y_seq fun K2 hK2 => ?_
 refine y_seq fun K3 hK3 => ?_
 refine y_region (by kernel_rfl) ?_
 refine s_go (s_move) ?_
 try simp only [opv, nZ, Value.cells]
 refine s_call en88 ?_
 try simp only [opv, nZ, Value.cells, List.map_toArray, List.map_cons, List.map_nil, List.append_toArray, List.cons_append, List.nil_append, Array.append_empty]
 refine CallR.mono (c_latEach A c l _) ?_
 rintro _ w2 ⟨b, rfl, hC2⟩
 replace hS := hS.call hC2
 simp only [List.cons_append, List.nil_append] at hS
 try simp only [opv, nZ, Value.cells]
 refine y_nilf ?_
 refine hK3 _ _ ?_
 refine y_block ?_
 refine y_range rfl en110 (i_latEach b A c l hv hn) (fun _ => rfl) hS (by repeat (first | exact Spl.nil | (apply Spl.cons (by repeat (first | exact Del.head | apply Del.tail))))) (fun k L => k ≤ (normP l).length ∧ L = [.obj gv (.cells (ic .u32 (ofV ((normP l).take k))) 70 (0, 0))]) (fun L => False) [] ?rfh1 ?rfr1 (fun D1 T1 w3 R1 hC hS => ?rfd1) (fun D1 T1 w4 R1 hX hS => ?rft1) ?rfe1
 case rfh1 =>
  exact ⟨Nat.zero_le _, rfl⟩
 case rfr1 =>
  intro k1 w5 R1 T1 lr1 hk1 hC hS
  obtain ⟨hk0, rfl⟩ := hC
  simp only [List.cons_append, List.nil_append] at hS
  simp only [List.toList_toArray, entL, List.zip_cons_cons, List.zip_nil_left, List.foldl_cons, List.foldl_nil, n3, n4]
  obtain ⟨x, hx⟩ : ∃ x, (normP l).getD k1 [] = x := ⟨_, rfl⟩
  have ha : AtomOk x := by rw [← hx]; exact hno.get (by omega)
  have hal := ha.len
  have hk12 := ha.key.len
  have hvx := ha.val
  have hx9 := hvx.len
  simp only [hx]
  have hkx := ha.key
  have hk01 := akey_k hal
  have hkk := akey_kk hal
  have hRx : atomR x = true := hsn.right x (by rw [← hx]; exact getD_mem' hk1)
  have hot := ofV_take hk1 hx
  have hvk : VOk (ofV ((normP l).take k1)) := ofV_ok (hno.take _) VOk.zero
  have hvkl := hvk.len
  have hvkr := hvk.nat (kn x 10)
  refine y_region (by kernel_rfl) ?_
  refine m_alloc ti43 hS (fun w6 g6 hS => ?_)
  try simp only [opv, nZ, Value.cells, Array.toArray_toList] at hS ⊢
  have h0l : key0.length = 12 := rfl
  replace hS : St _ _ w6 (.obj g6 (.cells (KA key0) 43 (0, 0)) :: _) := hS
  obtain ⟨gk, hgk⟩ : ∃ z, z = g6 := ⟨_, rfl⟩
  rw [← hgk] at hS ⊢
  first | refine m_store_obj ti43 (hS := hS) (hc := by first | exact zi_set rfl (by omega) | exact zi_whole (by omega) (by omega) | (first | exact splice_ic (by first | omega | (simp [*]; done) | (simp [*]; omega)) | exact splice_il (by first | omega | (simp [*]; done) | (simp [*]; omega)) | exact splice_whole (by first | (simp [opv, Value.cells, *]; done) | rfl) | (simp only [opv, n1, n2, Value.cells, splice, List.take_succ_cons, List.take_zero, List.drop_succ_cons, List.drop_zero, List.length_cons, List.length_nil, Nat.zero_add, Nat.reduceAdd, List.append_assoc, List.cons_append, List.nil_append]; rfl))) (hv := by first | rfl | (show (zi _ _).toArray.size = _; rw [zi_size (by omega)]; rfl) | (simp [opv, Value.cells, *]; done)) (hfit := by first | omega | (rw [zi_size (by omega)]; first | rfl | decide) | (simp only [ic_size, List.length_map, List.size_toArray]; first | omega | decide) | rfl | (simp [*]; done) | (simp [*]; omega)) (h1 := by first | exact zi_one _ _ | exact ic_one _ _ | simp [opv, Value.cells, Value.oneCell']) (h := fun w7 hS => ?_) | refine m_store_vec ti43 (hS := hS) (hc := by first | exact zi_set rfl (by omega) | exact zi_whole (by omega) (by omega) | (first | exact splice_ic (by first | omega | (simp [*]; done) | (simp [*]; omega)) | exact splice_il (by first | omega | (simp [*]; done) | (simp [*]; omega)) | exact splice_whole (by first | (simp [opv, Value.cells, *]; done) | rfl) | (simp only [opv, n1, n2, Value.cells, splice, List.take_succ_cons, List.take_zero, List.drop_succ_cons, List.drop_zero, List.length_cons, List.length_nil, Nat.zero_add, Nat.reduceAdd, List.append_assoc, List.cons_append, List.nil_append]; rfl))) (hv := by first | rfl | (show (zi _ _).toArray.size = _; rw [zi_size (by omega)]; rfl) | (simp [opv, Value.cells, *]; done)) (hfit := by first | omega | (rw [zi_size (by omega)]; first | rfl | decide) | (simp only [ic_size, List.length_map, List.size_toArray]; first | omega | decide) | rfl | (simp [*]; done) | (simp [*]; omega)) (h1 := by first | exact zi_one _ _ | exact ic_one _ _ | simp [opv, Value.cells, Value.oneCell']) (h := fun w7 hS => ?_)
  try simp only [opv, nZ, Value.cells, Array.toArray_toList] at hS ⊢
  refine y_nilf ?_
  refine round_open hS (by repeat (first | exact App.nil | apply App.cons)) (fun w8 T2 hS => ?_)
  simp only [List.cons_append, List.nil_append] at hS
  refine y_block ?_
  refine y_seq fun K4 hK4 => ?_
  refine y_region (by kernel_rfl) ?_
  first | refine s_go (m_fieldAddr Try.underlying43 (hi := ti5)) ?_ | refine s_go (m_fieldAddr_rd Try.underlying43 (hi := ti5) (hS := hS)) ?_ | refine s_go (m_fieldAddr_vec Try.underlying43 (hi := ti5) (hS := hS)) ?_
  try simp only [opv, nZ, Value.cells, Nat.zero_add, Nat.add_zero, List.getElem_toArray, List.getElem_cons_zero, List.getElem_cons_succ]
  first | refine s_go (m_load_obj Try.underlying5 (hS := hS) (hv := by first | rfl | exact zi_get rfl (by omega) | exact ic_get (by omega) | exact il_get (by omega))) ?_ | refine s_go (m_load_bx Try.underlying5 (hS := hS) (hv := by first | rfl | exact zi_get rfl (by omega) | exact ic_get (by omega) | exact il_get (by omega))) ?_ | refine s_go (m_load_rd Try.underlying5 (hS := hS) (hv := by first | rfl | exact zi_get rfl (by omega) | exact ic_get (by omega) | exact il_get (by omega))) ?_ | refine s_go (m_load_vec Try.underlying5 (hS := hS) (hv := by first | rfl | exact zi_get rfl (by omega) | exact ic_get (by omega) | exact il_get (by omega))) ?_
  try simp only [opv, nZ, Value.cells, List.getElem_toArray, List.getElem_cons_zero, List.getElem_cons_succ]
  rw [hkx.e0, hk01.1]
  refine s_go (s_eql) ?_
  try simp only [opv, nZ, Value.cells]
  refine y_nilf ?_
  refine hK4 _ _ ?_
  refine y_cond (ht := fun hc1 => ?_) (hf := fun hc1 => ?_)
  ·
   try simp only [decide_eq_true_eq, decide_eq_false_iff_not, Bool.not_eq_true', Bool.not_eq_false', Int.not_lt, Int.not_le, ne_eq, Decidable.not_not, bne_iff_ne, beq_iff_eq, not_true_eq_false, not_false_eq_true] at hc1
   have h1 : kn x 0 = 1 := by omega
   have hr16 := right_rep hRx ha h1
   have hst := hot.trans (if_pos h1)
   refine y_mixed_c (Lc := [.obj gk (.cells (KA (akey x)) 43 (0, 0)), .obj gv (.cells (ic .u32 (ofV ((normP l).take k1))) 70 (0, 0))]) [10] 0 [11, 12, 13, 14, 15, 16, 17, 18, 19, 20] (fun f w => St NoB w0 w (.obj gv (.cells (ic .u32 (ofV ((normP l).take (k1 + 1)))) 70 (0, 0)) :: T2)) (by kernel_rfl) (by kernel_rfl) (by kernel_rfl) (by decide) (by kernel_rfl) hS (fun w9 hS => ?mixpre401) ?mixrest401
   case mixpre401 =>
    refine p_nil ?_
    simp only [List.length_cons, List.length_nil, Nat.reduceAdd, Nat.reduceSub]
    first | refine any_go (i := 0) (by rfl) (by decide +kernel) (by decide +kernel) (by unfold noLate; decide) (go_yields w_none (fun w hS => m_fieldAddr Try.underlying43 (hi := ti5))) ?_ | refine any_go (i := 0) (by rfl) (by decide +kernel) (by decide +kernel) (by unfold noLate; decide) (go_yields w_none (fun w hS => m_fieldAddr_rd Try.underlying43 (hi := ti5) (hS := hS))) ?_ | refine any_go (i := 0) (by rfl) (by decide +kernel) (by decide +kernel) (by unfold noLate; decide) (go_yields w_none (fun w hS => m_fieldAddr_vec Try.underlying43 (hi := ti5) (hS := hS))) ?_
    try simp only [opv, nZ, Value.cells, Nat.zero_add, Nat.add_zero, List.getElem_toArray, List.getElem_cons_zero, List.getElem_cons_succ]
    first | refine any_go (i := 1) (by rfl) (by decide +kernel) (by decide +kernel) (by unfold noLate; decide) (go_yields w_none (fun w hS => m_load_obj Try.underlying5 (hS := hS) (hv := by first | rfl | exact zi_get rfl (by omega) | exact ic_get (by omega) | exact il_get (by omega)))) ?_ | refine any_go (i := 1) (by rfl) (by decide +kernel) (by decide +kernel) (by unfold noLate; decide) (go_yields w_none (fun w hS => m_load_bx Try.underlying5 (hS := hS) (hv := by first | rfl | exact zi_get rfl (by omega) | exact ic_get (by omega) | exact il_get (by omega)))) ?_ | refine any_go (i := 1) (by rfl) (by decide +kernel) (by decide +kernel) (by unfold noLate; decide) (go_yields w_none (fun w hS => m_load_rd Try.underlying5 (hS := hS) (hv := by first | rfl | exact zi_get rfl (by omega) | exact ic_get (by omega) | exact il_get (by omega)))) ?_ | refine any_go (i := 1) (by rfl) (by decide +kernel) (by decide +kernel) (by unfold noLate; decide) (go_yields w_none (fun w hS => m_load_vec Try.underlying5 (hS := hS) (hv := by first | rfl | exact zi_get rfl (by omega) | exact ic_get (by omega) | exact il_get (by omega)))) ?_
    try simp only [opv, nZ, Value.cells, List.getElem_toArray, List.getElem_cons_zero, List.getElem_cons_succ]
    rw [hkx.e10, hkk.1]
    first | refine any_go (i := 2) (by rfl) (by decide +kernel) (by decide +kernel) (by unfold noLate; decide) (go_yields w_none (fun w hS => m_fieldAddr Try.underlying43 (hi := ti5))) ?_ | refine any_go (i := 2) (by rfl) (by decide +kernel) (by decide +kernel) (by unfold noLate; decide) (go_yields w_none (fun w hS => m_fieldAddr_rd Try.underlying43 (hi := ti5) (hS := hS))) ?_ | refine any_go (i := 2) (by rfl) (by decide +kernel) (by decide +kernel) (by unfold noLate; decide) (go_yields w_none (fun w hS => m_fieldAddr_vec Try.underlying43 (hi := ti5) (hS := hS))) ?_
    try simp only [opv, nZ, Value.cells, Nat.zero_add, Nat.add_zero, List.getElem_toArray, List.getElem_cons_zero, List.getElem_cons_succ]
    first | refine any_go (i := 3) (by rfl) (by decide +kernel) (by decide +kernel) (by unfold noLate; decide) (go_yields w_none (fun w hS => m_load_obj Try.underlying5 (hS := hS) (hv := by first | rfl | exact zi_get rfl (by omega) | exact ic_get (by omega) | exact il_get (by omega)))) ?_ | refine any_go (i := 3) (by rfl) (by decide +kernel) (by decide +kernel) (by unfold noLate; decide) (go_yields w_none (fun w hS => m_load_bx Try.underlying5 (hS := hS) (hv := by first | rfl | exact zi_get rfl (by omega) | exact ic_get (by omega) | exact il_get (by omega)))) ?_ | refine any_go (i := 3) (by rfl) (by decide +kernel) (by decide +kernel) (by unfold noLate; decide) (go_yields w_none (fun w hS => m_load_rd Try.underlying5 (hS := hS) (hv := by first | rfl | exact zi_get rfl (by omega) | exact ic_get (by omega) | exact il_get (by omega)))) ?_ | refine any_go (i := 3) (by rfl) (by decide +kernel) (by decide +kernel) (by unfold noLate; decide) (go_yields w_none (fun w hS => m_load_vec Try.underlying5 (hS := hS) (hv := by first | rfl | exact zi_get rfl (by omega) | exact ic_get (by omega) | exact il_get (by omega)))) ?_
    try simp only [opv, nZ, Value.cells, List.getElem_toArray, List.getElem_cons_zero, List.getElem_cons_succ]
    rw [hkx.e10, hkk.1]
    refine any_go (i := 4) (by rfl) (by decide +kernel) (by decide +kernel) (by unfold noLate; decide) (go_yields w_none (fun w hS => m_indexAddr_arr Try.underlying70 ti29)) ?_
    try simp only [opv, nZ, Value.cells, Nat.mul_one, Nat.zero_add, Int.toNat_natCast, Int.reduceToNat]
    first | refine any_go (i := 5) (by rfl) (by decide +kernel) (by decide +kernel) (by unfold noLate; decide) (go_yields w_none (fun w hS => m_load_obj Try.underlying29 (hS := hS) (hv := ic_get (by omega)))) ?_ | refine any_go (i := 5) (by rfl) (by decide +kernel) (by decide +kernel) (by unfold noLate; decide) (go_yields w_none (fun w hS => m_load_bx Try.underlying29 (hS := hS) (hv := ic_get (by omega)))) ?_ | refine any_go (i := 5) (by rfl) (by decide +kernel) (by decide +kernel) (by unfold noLate; decide) (go_yields w_none (fun w hS => m_load_rd Try.underlying29 (hS := hS) (hv := ic_get (by omega)))) ?_ | refine any_go (i := 5) (by rfl) (by decide +kernel) (by decide +kernel) (by unfold noLate; decide) (go_yields w_none (fun w hS => m_load_vec Try.underlying29 (hS := hS) (hv := ic_get (by omega)))) ?_
    try simp only [opv, nZ, Value.cells, List.getElem_toArray, List.getElem_cons_zero, List.getElem_cons_succ]
    first | refine any_go (i := 6) (by rfl) (by decide +kernel) (by decide +kernel) (by unfold noLate; decide) (go_yields w_none (fun w hS => m_fieldAddr Try.underlying43 (hi := ti29))) ?_ | refine any_go (i := 6) (by rfl) (by decide +kernel) (by decide +kernel) (by unfold noLate; decide) (go_yields w_none (fun w hS => m_fieldAddr_rd Try.underlying43 (hi := ti29) (hS := hS))) ?_ | refine any_go (i := 6) (by rfl) (by decide +kernel) (by decide +kernel) (by unfold noLate; decide) (go_yields w_none (fun w hS => m_fieldAddr_vec Try.underlying43 (hi := ti29) (hS := hS))) ?_
    try simp only [opv, nZ, Value.cells, Nat.zero_add, Nat.add_zero, List.getElem_toArray, List.getElem_cons_zero, List.getElem_cons_succ]
    first | refine any_go (i := 7) (by rfl) (by decide +kernel) (by decide +kernel) (by unfold noLate; decide) (go_yields w_none (fun w hS => m_load_obj Try.underlying29 (hS := hS) (hv := by first | rfl | exact zi_get rfl (by omega) | exact ic_get (by omega) | exact il_get (by omega)))) ?_ | refine any_go (i := 7) (by rfl) (by decide +kernel) (by decide +kernel) (by unfold noLate; decide) (go_yields w_none (fun w hS => m_load_bx Try.underlying29 (hS := hS) (hv := by first | rfl | exact zi_get rfl (by omega) | exact ic_get (by omega) | exact il_get (by omega)))) ?_ | refine any_go (i := 7) (by rfl) (by decide +kernel) (by decide +kernel) (by unfold noLate; decide) (go_yields w_none (fun w hS => m_load_rd Try.underlying29 (hS := hS) (hv := by first | rfl | exact zi_get rfl (by omega) | exact ic_get (by omega) | exact il_get (by omega)))) ?_ | refine any_go (i := 7) (by rfl) (by decide +kernel) (by decide +kernel) (by unfold noLate; decide) (go_yields w_none (fun w hS => m_load_vec Try.underlying29 (hS := hS) (hv := by first | rfl | exact zi_get rfl (by omega) | exact ic_get (by omega) | exact il_get (by omega)))) ?_
    try simp only [opv, nZ, Value.cells, List.getElem_toArray, List.getElem_cons_zero, List.getElem_cons_succ]
    rw [hkx.e11, hkk.2]
    refine any_go (i := 8) (by rfl) (by decide +kernel) (by decide +kernel) (by unfold noLate; decide) (go_yields w_none (fun w hS => s_max)) ?_
    try simp only [opv, nZ, Value.cells]
    refine any_go (i := 9) (by rfl) (by decide +kernel) (by decide +kernel) (by unfold noLate; decide) (go_yields w_none (fun w hS => m_indexAddr_arr Try.underlying70 ti29)) ?_
    try simp only [opv, nZ, Value.cells, Nat.mul_one, Nat.zero_add, Int.toNat_natCast, Int.reduceToNat]
    refine any_step [10] (by kernel_rfl) (by decide) (fun w10 hE => ⟨fun _ => (hS.ext hE).sel (by repeat (first | exact Sel.nil | exact Sel.self | (refine Sel.cons (by repeat (first | exact Del.head | apply Del.tail)) ?_) | apply Sel.skip)), ?_⟩)
    replace hS := hS.ext hE
    intro i hi
    simp only [List.mem_cons, List.not_mem_nil, or_false] at hi
    subst hi
    ·
     refine any_op (by rfl) ?_
     first | refine m_store_obj ti29 (hS := hS) (hc := by first | exact zi_set rfl (by omega) | exact zi_whole (by omega) (by omega) | (first | exact splice_ic (by first | omega | (simp [*]; done) | (simp [*]; omega)) | exact splice_il (by first | omega | (simp [*]; done) | (simp [*]; omega)) | exact splice_whole (by first | (simp [opv, Value.cells, *]; done) | rfl) | (simp only [opv, n1, n2, Value.cells, splice, List.take_succ_cons, List.take_zero, List.drop_succ_cons, List.drop_zero, List.length_cons, List.length_nil, Nat.zero_add, Nat.reduceAdd, List.append_assoc, List.cons_append, List.nil_append]; rfl))) (hv := by first | rfl | (show (zi _ _).toArray.size = _; rw [zi_size (by omega)]; rfl) | (simp [opv, Value.cells, *]; done)) (hfit := by first | omega | (rw [zi_size (by omega)]; first | rfl | decide) | (simp only [ic_size, List.length_map, List.size_toArray]; first | omega | decide) | rfl | (simp [*]; done) | (simp [*]; omega)) (h1 := by first | exact zi_one _ _ | exact ic_one _ _ | simp [opv, Value.cells, Value.oneCell']) (h := fun w11 hS => ?_) | refine m_store_vec ti29 (hS := hS) (hc := by first | exact zi_set rfl (by omega) | exact zi_whole (by omega) (by omega) | (first | exact splice_ic (by first | omega | (simp [*]; done) | (simp [*]; omega)) | exact splice_il (by first | omega | (simp [*]; done) | (simp [*]; omega)) | exact splice_whole (by first | (simp [opv, Value.cells, *]; done) | rfl) | (simp only [opv, n1, n2, Value.cells, splice, List.take_succ_cons, List.take_zero, List.drop_succ_cons, List.drop_zero, List.length_cons, List.length_nil, Nat.zero_add, Nat.reduceAdd, List.append_assoc, List.cons_append, List.nil_append]; rfl))) (hv := by first | rfl | (show (zi _ _).toArray.size = _; rw [zi_size (by omega)]; rfl) | (simp [opv, Value.cells, *]; done)) (hfit := by first | omega | (rw [zi_size (by omega)]; first | rfl | decide) | (simp only [ic_size, List.length_map, List.size_toArray]; first | omega | decide) | rfl | (simp [*]; done) | (simp [*]; omega)) (h1 := by first | exact zi_one _ _ | exact ic_one _ _ | simp [opv, Value.cells, Value.oneCell']) (h := fun w11 hS => ?_)
     try simp only [opv, nZ, Value.cells, Array.toArray_toList] at hS ⊢
     refine x_nil ?_
     refine any_nil (by kernel_rfl) (fun w12 hE => ?_)
     replace hS := hS.ext hE
     refine ⟨fun hl => absurd (hl 10 (by decide)) (by decide +kernel), ?_⟩
     refine mix_leaf (by simp only [clob, List.foldl, nZ]) ?_
     try simp only [n1, n2]
     rw [hst]; exact hS.sel (by repeat (first | exact Sel.self | (refine Sel.cons (by repeat (first | exact Del.head | apply Del.tail)) ?_) | apply Sel.skip))
   intro fm1 w13 hM
   replace hS := hM
   simp only [clob, List.foldl, n3, n4]
   first | (rw [← hst] at hS; exact ⟨_, ⟨by omega, rfl⟩, hS.sel (by repeat (first | exact Sel.self | (refine Sel.cons (by repeat (first | exact Del.head | apply Del.tail)) ?_) | apply Sel.skip))⟩) | exact ⟨_, ⟨by omega, rfl⟩, hS.sel (by repeat (first | exact Sel.self | (refine Sel.cons (by repeat (first | exact Del.head | apply Del.tail)) ?_) | apply Sel.skip))⟩
  ·
   try simp only [decide_eq_true_eq, decide_eq_false_iff_not, Bool.not_eq_true', Bool.not_eq_false', Int.not_lt, Int.not_le, ne_eq, Decidable.not_not, bne_iff_ne, beq_iff_eq, not_true_eq_false, not_false_eq_true] at hc1
   have hst := hot.trans (ofS_no (by omega))
   refine y_skip ?_
   first | (rw [← hst] at hS; exact ⟨_, ⟨by omega, rfl⟩, hS.sel (by repeat (first | exact Sel.self | (refine Sel.cons (by repeat (first | exact Del.head | apply Del.tail)) ?_) | apply Sel.skip))⟩) | exact ⟨_, ⟨by omega, rfl⟩, hS.sel (by repeat (first | exact Sel.self | (refine Sel.cons (by repeat (first | exact Del.head | apply Del.tail)) ?_) | apply Sel.skip))⟩
 case rfd1 =>
  obtain ⟨hk0, rfl⟩ := hC
  simp only [List.cons_append, List.nil_append] at hS
  have hvf : VOk (ofV (normP l)) := ofV_ok hno VOk.zero
  have hvfl := hvf.len
  rw [List.take_of_length_le (Nat.le_refl _)] at hS
  refine hK2 _ _ ?_
  refine y_seq fun K5 hK5 => ?_
  refine y_region (by kernel_rfl) ?_
  first | refine s_go (m_load_row Try.underlying70 (hi := ti70) (hS := hS) (hfit := by first | omega | (rw [zi_size (by omega)]; first | rfl | decide) | (simp only [ic_size, List.length_map, List.size_toArray]; first | omega | decide) | rfl | (simp [*]; done) | (simp [*]; omega))) ?_ | refine s_go (m_loada_obj Try.underlying70 (hi := ti70) (hS := hS) (hfit := by first | omega | (rw [zi_size (by omega)]; first | rfl | decide) | (simp only [ic_size, List.length_map, List.size_toArray]; first | omega | decide) | rfl | (simp [*]; done) | (simp [*]; omega))) ?_ | refine s_go (m_loada_bx Try.underlying70 (hi := ti70) (hS := hS) (hfit := by first | omega | (rw [zi_size (by omega)]; first | rfl | decide) | (simp only [ic_size, List.length_map, List.size_toArray]; first | omega | decide) | rfl | (simp [*]; done) | (simp [*]; omega))) ?_ | refine s_go (m_loada_rd Try.underlying70 (hi := ti70) (hS := hS) (hfit := by first | omega | (rw [zi_size (by omega)]; first | rfl | decide) | (simp only [ic_size, List.length_map, List.size_toArray]; first | omega | decide) | rfl | (simp [*]; done) | (simp [*]; omega))) ?_ | refine s_go (m_loada_vec Try.underlying70 (hi := ti70) (hS := hS) (hfit := by first | omega | (rw [zi_size (by omega)]; first | rfl | decide) | (simp only [ic_size, List.length_map, List.size_toArray]; first | omega | decide) | rfl | (simp [*]; done) | (simp [*]; omega))) ?_
  try simp only [opv, nZ, Value.cells, List.getElem_toArray, List.getElem_cons_zero, List.getElem_cons_succ]
  first | refine m_store_obj ti70 (hS := hS) (hc := by first | exact zi_set rfl (by omega) | exact zi_whole (by omega) (by omega) | (first | exact splice_ic (by first | omega | (simp [*]; done) | (simp [*]; omega)) | exact splice_il (by first | omega | (simp [*]; done) | (simp [*]; omega)) | exact splice_whole (by first | (simp [opv, Value.cells, *]; done) | rfl) | (simp only [opv, n1, n2, Value.cells, splice, List.take_succ_cons, List.take_zero, List.drop_succ_cons, List.drop_zero, List.length_cons, List.length_nil, Nat.zero_add, Nat.reduceAdd, List.append_assoc, List.cons_append, List.nil_append]; rfl))) (hv := by first | rfl | (show (zi _ _).toArray.size = _; rw [zi_size (by omega)]; rfl) | (simp [opv, Value.cells, *]; done)) (hfit := by first | omega | (rw [zi_size (by omega)]; first | rfl | decide) | (simp only [ic_size, List.length_map, List.size_toArray]; first | omega | decide) | rfl | (simp [*]; done) | (simp [*]; omega)) (h1 := by first | exact zi_one _ _ | exact ic_one _ _ | simp [opv, Value.cells, Value.oneCell']) (h := fun w14 hS => ?_) | refine m_store_vec ti70 (hS := hS) (hc := by first | exact zi_set rfl (by omega) | exact zi_whole (by omega) (by omega) | (first | exact splice_ic (by first | omega | (simp [*]; done) | (simp [*]; omega)) | exact splice_il (by first | omega | (simp [*]; done) | (simp [*]; omega)) | exact splice_whole (by first | (simp [opv, Value.cells, *]; done) | rfl) | (simp only [opv, n1, n2, Value.cells, splice, List.take_succ_cons, List.take_zero, List.drop_succ_cons, List.drop_zero, List.length_cons, List.length_nil, Nat.zero_add, Nat.reduceAdd, List.append_assoc, List.cons_append, List.nil_append]; rfl))) (hv := by first | rfl | (show (zi _ _).toArray.size = _; rw [zi_size (by omega)]; rfl) | (simp [opv, Value.cells, *]; done)) (hfit := by first | omega | (rw [zi_size (by omega)]; first | rfl | decide) | (simp only [ic_size, List.length_map, List.size_toArray]; first | omega | decide) | rfl | (simp [*]; done) | (simp [*]; omega)) (h1 := by first | exact zi_one _ _ | exact ic_one _ _ | simp [opv, Value.cells, Value.oneCell']) (h := fun w14 hS => ?_)
  try simp only [opv, nZ, Value.cells, Array.toArray_toList] at hS ⊢
  refine y_nilf ?_
  refine hK5 _ _ ?_
  refine y_ret ?_
  refine rm_mark hS (by repeat (first | exact Upd.head | apply Upd.tail)) (fun w15 hS => ?_)
  refine rm_nil ?_
  refine r_cell_agg rfl Try.underlying70 ti70 (hS := hS) (hfit := by first | omega | (rw [zi_size (by omega)]; first | rfl | decide) | (simp only [ic_size, List.length_map, List.size_toArray]; first | omega | decide) | rfl | (simp [*]; done) | (simp [*]; omega)) (hR := ?_)
  exact ⟨rfl, hS.ext_of⟩
 case rft1 =>
  exact hX.elim
 case rfe1 =>
  exact y_ex_nil
end Go.Proofs.Ytffmanidnlbjjaa
set_option linter.unusedSimpArgs false
set_option linter.unusedVariables false
set_option maxHeartbeats 2000000
set_option maxRecDepth 100000
namespace Go.Proofs.Ytffmanidnlbjjaa
open Go.RowKit

def nextN (l : List (List Int)) (r : Nat) : Int := if bumpE (ofV (normP l)) r = 0 then (ofV (normP l)).getD r 0 + 1 else 0
theorem bump_len {v : List Int} (h : VOk v) (r : Nat) : (bumpV v r).length = 16 := by
  unfold bumpV; split
  · rw [List.length_set]; exact h.len
  · rfl
theorem bump_16 {v : List Int} {r : Nat} (h : bumpE v r = 0) : r < 16 ∧ ¬ v.getD r 0 = 4294967295 := by
  unfold bumpE at h
  split at h
  · cases h
  · split at h
    · cases h
    · exact ⟨by omega, by assumption⟩
theorem bump_get {v : List Int} (hv : VOk v) {r : Nat} (h : bumpE v r = 0) : (bumpV v r).getD r 0 = v.getD r 0 + 1 := by
  have h1 := (bump_16 h).1
  have h2 := hv.len
  rw [bumpV, if_pos h, List.getD_eq_getElem?_getD, List.getElem?_set_self (by omega)]; rfl

theorem c_tagsNext (w0 : World) (A : Option Addr) (c : Nat) (l : List (List Int)) (hr : Rd w0 A 21 l.length (arows l)) (hv : AOks l) (hn : l.length ≤ 1000000000) (r : Nat) (h8 : r < 256)  :
    CallR Try.prog 10 #[.slice A l.length c, .int .u8 (r : Int)] w0 fun v w' => v = .tuple #[.int .u32 (nextN l r), .int .i64 (bumpE (ofV (normP l)) r)] ∧ Ext w0 w' := by
 have hS := St.rd1 (S := NoB) hr
 have hvo : VOk (ofV (normP l)) := ofV_ok (norm_sta hv).ok VOk.zero
 have hvol := hvo.len
 have hvor := hvo.nat r
 have hbl := bump_len hvo r
 refine c_enter (l := [.slice A l.length c, .int .u8 (r : Int), undef, undef, undef, undef, undef, undef, undef, undef, undef, undef, undef, undef, undef, undef, undef, undef, undef, undef, undef]) Try.func10 rfl (by simp only [Try.ntmps10, List.size_toArray, List.length_cons, List.length_nil, Nat.reduceAdd, Nat.reduceSub, Array.replicate_succ, Array.replicate_zero, List.push_toArray, List.append_toArray, List.nil_append, List.cons_append]) ?_
 refine x_seq fun K1 hK1 => ?_
 refine x_region ?_
 refine s_go (s_assign) ?_
 try simp only [opv, nZ, Value.cells]
 refine s_go (s_assign) ?_
 try simp only [opv, nZ, Value.cells]
 refine x_nil ?_
 refine hK1 _ _ ?_
 refine x_seq fun K2 hK2 => ?_
 refine x_region ?_
 refine s_go (s_move) ?_
 try simp only [opv, nZ, Value.cells]
 refine s_call en52 ?_
 try simp only [opv, nZ, Value.cells, List.map_toArray, List.map_cons, List.map_nil, List.append_toArray, List.cons_append, List.nil_append, Array.append_empty]
 refine CallR.mono (c_vecOf _ A c l (hS.hasRd (by repeat (first | exact Has.head | apply Has.tail))) hv hn) ?_
 rintro _ w1 ⟨rfl, hE1⟩
 replace hS := hS.ext hE1
 try simp only [opv, nZ, Value.cells]
 refine s_go (s_move) ?_
 try simp only [opv, nZ, Value.cells]
 refine s_call en51 ?_
 try simp only [opv, nZ, Value.cells, List.map_toArray, List.map_cons, List.map_nil, List.append_toArray, List.cons_append, List.nil_append, Array.append_empty]
 refine CallR.mono (c_vecBump (ofV (normP l)) hvo r h8 _) ?_
 rintro _ w2 ⟨rfl, hE2⟩
 replace hS := hS.ext hE2
 try simp only [opv, nZ, Value.cells]
 refine s_go (s_move) ?_
 try simp only [opv, nZ, Value.cells]
 refine s_go (s_extract (hv := rfl)) ?_
 try simp only [List.getElem_toArray, List.getElem_cons_zero, List.getElem_cons_succ]
 try simp only [opv, nZ, Value.cells]
 refine s_go (s_extract (hv := rfl)) ?_
 try simp only [List.getElem_toArray, List.getElem_cons_zero, List.getElem_cons_succ]
 try simp only [opv, nZ, Value.cells]
 refine m_alloc ti70 hS (fun w3 g3 hS => ?_)
 try simp only [opv, nZ, Value.cells, Array.toArray_toList] at hS ⊢
 replace hS : St NoB w0 w3 (.obj g3 (.cells (ic .u32 (List.replicate 16 0)) 70 (0, 0)) :: _) := hS
 first | refine m_store_obj ti70 (hS := hS) (hc := by first | exact zi_set rfl (by omega) | exact zi_whole (by omega) (by omega) | (first | exact splice_ic (by first | omega | (simp [*]; done) | (simp [*]; omega)) | exact splice_il (by first | omega | (simp [*]; done) | (simp [*]; omega)) | exact splice_whole (by first | (simp [opv, Value.cells, *]; done) | rfl) | (simp only [opv, n1, n2, Value.cells, splice, List.take_succ_cons, List.take_zero, List.drop_succ_cons, List.drop_zero, List.length_cons, List.length_nil, Nat.zero_add, Nat.reduceAdd, List.append_assoc, List.cons_append, List.nil_append]; rfl))) (hv := by first | rfl | (show (zi _ _).toArray.size = _; rw [zi_size (by omega)]; rfl) | (simp [opv, Value.cells, *]; done)) (hfit := by first | omega | (rw [zi_size (by omega)]; first | rfl | decide) | (simp only [ic_size, List.length_map, List.size_toArray]; first | omega | decide) | rfl | (simp [*]; done) | (simp [*]; omega)) (h1 := by first | exact zi_one _ _ | exact ic_one _ _ | simp [opv, Value.cells, Value.oneCell']) (h := fun w4 hS => ?_) | refine m_store_vec ti70 (hS := hS) (hc := by first | exact zi_set rfl (by omega) | exact zi_whole (by omega) (by omega) | (first | exact splice_ic (by first | omega | (simp [*]; done) | (simp [*]; omega)) | exact splice_il (by first | omega | (simp [*]; done) | (simp [*]; omega)) | exact splice_whole (by first | (simp [opv, Value.cells, *]; done) | rfl) | (simp only [opv, n1, n2, Value.cells, splice, List.take_succ_cons, List.take_zero, List.drop_succ_cons, List.drop_zero, List.length_cons, List.length_nil, Nat.zero_add, Nat.reduceAdd, List.append_assoc, List.cons_append, List.nil_append]; rfl))) (hv := by first | rfl | (show (zi _ _).toArray.size = _; rw [zi_size (by omega)]; rfl) | (simp [opv, Value.cells, *]; done)) (hfit := by first | omega | (rw [zi_size (by omega)]; first | rfl | decide) | (simp only [ic_size, List.length_map, List.size_toArray]; first | omega | decide) | rfl | (simp [*]; done) | (simp [*]; omega)) (h1 := by first | exact zi_one _ _ | exact ic_one _ _ | simp [opv, Value.cells, Value.oneCell']) (h := fun w4 hS => ?_)
 try simp only [opv, nZ, Value.cells, Array.toArray_toList] at hS ⊢
 refine s_go (s_assign) ?_
 try simp only [opv, nZ, Value.cells]
 refine x_nil ?_
 refine hK2 _ _ ?_
 refine x_seq fun K3 hK3 => ?_
 refine x_seq fun K4 hK4 => ?_
 refine x_region ?_
 refine s_go (s_move) ?_
 try simp only [opv, nZ, Value.cells]
 refine s_go (s_neq) ?_
 try simp only [opv, nZ, Value.cells]
 refine x_nil ?_
 refine hK4 _ _ ?_
 refine x_cond (ht := fun hc1 => ?_) (hf := fun hc1 => ?_)
 ·
  try simp only [decide_eq_true_eq, decide_eq_false_iff_not, Bool.not_eq_true', Bool.not_eq_false', Int.not_lt, Int.not_le, ne_eq, Decidable.not_not, bne_iff_ne, beq_iff_eq, not_true_eq_false, not_false_eq_true] at hc1
  have hE : ¬ bumpE (ofV (normP l)) r = 0 := hc1
  refine x_seq fun K5 hK5 => ?_
  refine x_region ?_
  refine s_go (s_move) ?_
  try simp only [opv, nZ, Value.cells]
  refine s_go (s_assign) ?_
  try simp only [opv, nZ, Value.cells]
  refine s_go (s_assign) ?_
  try simp only [opv, nZ, Value.cells]
  refine x_nil ?_
  refine hK5 _ _ ?_
  refine x_ret ?_
  refine r_tmp2 rfl ?_
  first | exact ⟨by rw [nextN, if_neg hE]; rfl, hS.ext_of⟩ | exact ⟨by rw [nextN, if_pos hE, hE]; rfl, hS.ext_of⟩
 ·
  try simp only [decide_eq_true_eq, decide_eq_false_iff_not, Bool.not_eq_true', Bool.not_eq_false', Int.not_lt, Int.not_le, ne_eq, Decidable.not_not, bne_iff_ne, beq_iff_eq, not_true_eq_false, not_false_eq_true] at hc1
  have hE : bumpE (ofV (normP l)) r = 0 := by simpa using hc1
  have hr16 := (bump_16 hE).1
  have hbg := bump_get hvo hE
  refine x_skip ?_
  refine hK3 _ _ ?_
  refine x_seq fun K6 hK6 => ?_
  refine x_region ?_
  refine s_go (s_move) ?_
  try simp only [opv, nZ, Value.cells]
  refine s_go (m_indexAddr_arr Try.underlying70 ti29) ?_
  try simp only [opv, nZ, Value.cells, Nat.mul_one, Nat.zero_add, Int.toNat_natCast, Int.reduceToNat]
  first | refine s_go (m_load_obj Try.underlying29 (hS := hS) (hv := ic_get (by omega))) ?_ | refine s_go (m_load_bx Try.underlying29 (hS := hS) (hv := ic_get (by omega))) ?_ | refine s_go (m_load_rd Try.underlying29 (hS := hS) (hv := ic_get (by omega))) ?_ | refine s_go (m_load_vec Try.underlying29 (hS := hS) (hv := ic_get (by omega))) ?_
  try simp only [opv, nZ, Value.cells, List.getElem_toArray, List.getElem_cons_zero, List.getElem_cons_succ]
  rw [hbg]
  refine s_go (s_assign) ?_
  try simp only [opv, nZ, Value.cells]
  refine s_go (s_assign) ?_
  try simp only [opv, nZ, Value.cells]
  refine x_nil ?_
  refine hK6 _ _ ?_
  refine x_ret ?_
  refine r_tmp2 rfl ?_
  first | exact ⟨by rw [nextN, if_neg hE]; rfl, hS.ext_of⟩ | exact ⟨by rw [nextN, if_pos hE, hE]; rfl, hS.ext_of⟩
end Go.Proofs.Ytffmanidnlbjjaa
set_option linter.unusedSimpArgs false
set_option linter.unusedVariables false
set_option maxHeartbeats 2000000
set_option maxRecDepth 100000
namespace Go.Proofs.Ytffmanidnlbjjaa
open Go.RowKit

def addE (l : List (List Int)) (r : Nat) (it : List Int) : Int := if 16 ≤ r ∨ nright it = false then 1 else bumpE (ofV (normP l)) r
def addA (l : List (List Int)) (r c : Nat) (it : List Int) : List Int := mkKey 1 c it r (nextN l r).toNat ++ mkV 1 nm0
def addP (l : List (List Int)) (r c : Nat) (it : List Int) : List (List Int) := if addE l r it = 0 then [addA l r c it] else []
theorem next_le {l : List (List Int)} (hv : AOks l) (r : Nat) : 0 ≤ nextN l r ∧ nextN l r ≤ 4294967295 := by
  have h := (ofV_ok (norm_sta hv).ok VOk.zero).nat r
  have h : 0 ≤ (ofV (normP l)).getD r 0 ∧ (ofV (normP l)).getD r 0 ≤ 4294967295 := h
  unfold nextN
  split
  · next he => have := (bump_16 he).2; omega
  · omega
theorem addA_ok {l : List (List Int)} (hv : AOks l) {r c : Nat} {it : List Int} (hr : r < 256) (hc : c < 65536) (h8 : it.length = 8) (hb : Byt it) : AtomOk (addA l r c it) := by
  have := next_le hv r
  exact kv_ok (mkKey_ok h8 hb (by decide) hc hr (by omega)) ⟨rfl, by decide, by decide, nm0_byt⟩
theorem addP_no {l : List (List Int)} {r c : Nat} {it : List Int} (h : ¬ addE l r it = 0) : addP l r c it = [] := if_neg h
theorem addP_yes {l : List (List Int)} {r c : Nat} {it : List Int} (h : addE l r it = 0) : addP l r c it = [addA l r c it] := if_pos h
theorem addE_1 {l : List (List Int)} {r : Nat} {it : List Int} (h : 16 ≤ r ∨ nright it = false) : addE l r it = 1 := if_pos h
theorem addE_b {l : List (List Int)} {r : Nat} {it : List Int} (h : ¬ (16 ≤ r ∨ nright it = false)) : addE l r it = bumpE (ofV (normP l)) r := if_neg h
theorem fill_key5 {pl : Nat → Option (Nat × Nat)} {it : List Int} {s c r q : Int} (h0 : pl 0 = some (0, 1)) (h1 : pl 1 = some (1, 1)) (h2 : pl 2 = some (2, 8)) (h3 : pl 3 = some (10, 1)) (h4 : pl 4 = some (11, 1)) (hl : it.length = 8) :
    Instr.fill pl #[.int .u8 0, .int .u16 0, .int .u8 0, .int .u8 0, .int .u8 0, .int .u8 0, .int .u8 0, .int .u8 0, .int .u8 0, .int .u8 0, .int .u8 0, .int .u32 0] [(0, .int .u8 s), (1, .int .u16 c), (2, .agg (ic .u8 it)), (3, .int .u8 r), (4, .int .u32 q)] = some (KA ([s, c] ++ it ++ [r, q])) := by
  match it, hl with
  | [_, _, _, _, _, _, _, _], _ =>
    refine fill_cons h0 rfl (Nat.le_of_ble_eq_true rfl) ?_
    refine fill_cons h1 rfl (Nat.le_of_ble_eq_true rfl) ?_
    refine fill_cons h2 rfl (Nat.le_of_ble_eq_true rfl) ?_
    refine fill_cons h3 rfl (Nat.le_of_ble_eq_true rfl) ?_
    refine fill_cons h4 rfl (Nat.le_of_ble_eq_true rfl) ?_
    rfl

theorem c_tagsAdd (w0 : World) (A : Option Addr) (c : Nat) (l : List (List Int)) (hr : Rd w0 A 21 l.length (arows l)) (hv : AOks l) (hn : l.length ≤ 1000000000) (r : Nat) (hr8 : r < 256) (ct : Nat) (hct : ct < 65536) (it : List Int) (h8 : it.length = 8) (hbt : Byt it)  :
    CallR Try.prog 12 #[.slice A l.length c, .int .u8 (r : Int), .int .u16 (ct : Int), .agg (ic .u8 it)] w0 fun v w' => ∃ A c, v = .tuple #[.slice A (addP l r ct it).length c, .int .i64 (addE l r it)] ∧ St NoB w0 w' [.vec A c 54 21 (addP l r ct it).length (arows (addP l r ct it))] := by
 have hS := St.rd1 (S := NoB) hr
 obtain ⟨q, hq⟩ : ∃ q : Nat, nextN l r = (q : Int) := ⟨(nextN l r).toNat, by have := next_le hv r; omega⟩
 have hAl : (addA l r ct it).length = 21 := (addA_ok hv hr8 hct h8 hbt).len
 have hAe : addA l r ct it = mkKey 1 ct it r q ++ mkV 1 nm0 := by rw [addA, hq]; rfl
 have hkl : (mkKey 1 ct it r q).length = 12 := mkKey_len h8
 have hn0l : nm0.length = 8 := rfl
 refine c_enter (l := [.slice A l.length c, .int .u8 (r : Int), .int .u16 (ct : Int), .agg (ic .u8 it), undef, undef, undef, undef, undef, undef, undef, undef, undef, undef, undef, undef, undef, undef, undef, undef, undef, undef, undef, undef, undef, undef, undef, undef, undef, undef, undef, undef, undef, undef, undef, undef, undef, undef, undef, undef]) Try.func12 rfl (by simp only [Try.ntmps12, List.size_toArray, List.length_cons, List.length_nil, Nat.reduceAdd, Nat.reduceSub, Array.replicate_succ, Array.replicate_zero, List.push_toArray, List.append_toArray, List.nil_append, List.cons_append]) ?_
 refine x_seq fun K1 hK1 => ?_
 refine x_region ?_
 refine m_box hS (fun w1 g1 hS => ?_)
 try simp only [opv, nZ, Value.cells, Array.toArray_toList] at hS ⊢
 refine s_go (s_assign) ?_
 try simp only [opv, nZ, Value.cells]
 refine s_go (s_assign) ?_
 try simp only [opv, nZ, Value.cells]
 refine x_nil ?_
 refine hK1 _ _ ?_
 refine x_seq fun K2 hK2 => ?_
 refine x_region ?_
 refine s_go (s_move) ?_
 try simp only [opv, nZ, Value.cells]
 refine s_go (s_move) ?_
 try simp only [opv, nZ, Value.cells]
 refine s_call en10 ?_
 try simp only [opv, nZ, Value.cells, List.map_toArray, List.map_cons, List.map_nil, List.append_toArray, List.cons_append, List.nil_append, Array.append_empty]
 refine CallR.mono (c_tagsNext _ A c l (hS.hasRd (by repeat (first | exact Has.head | apply Has.tail))) hv hn r hr8) ?_
 rintro _ w2 ⟨rfl, hE2⟩
 replace hS := hS.ext hE2
 try simp only [opv, nZ, Value.cells]
 rw [hq]
 refine s_go (s_move) ?_
 try simp only [opv, nZ, Value.cells]
 refine s_go (s_extract (hv := rfl)) ?_
 try simp only [List.getElem_toArray, List.getElem_cons_zero, List.getElem_cons_succ]
 try simp only [opv, nZ, Value.cells]
 refine s_go (s_extract (hv := rfl)) ?_
 try simp only [List.getElem_toArray, List.getElem_cons_zero, List.getElem_cons_succ]
 try simp only [opv, nZ, Value.cells]
 refine s_go (s_assign) ?_
 try simp only [opv, nZ, Value.cells]
 refine s_go (s_assign) ?_
 try simp only [opv, nZ, Value.cells]
 refine x_nil ?_
 refine hK2 _ _ ?_
 refine x_seq fun K3 hK3 => ?_
 refine x_block ?_
 refine x_seq fun K4 hK4 => ?_
 refine x_region ?_
 refine s_go (s_move) ?_
 try simp only [opv, nZ, Value.cells]
 refine s_go (s_geq) ?_
 try simp only [opv, nZ, Value.cells]
 refine s_go (s_move) ?_
 try simp only [opv, nZ, Value.cells]
 refine s_part 22 rfl (fun hp1 => ?_) (fun hp1 => ?_)
 ·
  try simp only [n3, n4]
  try simp only [decide_eq_true_eq, decide_eq_false_iff_not, Bool.not_eq_true', Bool.not_eq_false', Int.not_lt, Int.not_le, ne_eq, Decidable.not_not] at hp1
  first
  | (exfalso; omega)
  | skip
    have hE : addE l r it = 1 := addE_1 (.inl (by omega))
    refine g_off (yi (t := 22) rfl rfl) ?_
    try simp only [opv, nZ, Value.cells]
    refine g_off (yi (t := 22) rfl rfl) ?_
    try simp only [opv, nZ, Value.cells]
    refine g_off (yi (t := 22) rfl rfl) ?_
    try simp only [opv, nZ, Value.cells]
    first | refine s_go (s_pick_t) ?_ | refine s_go (s_pick_f) ?_
    try simp only [opv, nZ, Value.cells]
    refine s_go (s_assign) ?_
    try simp only [opv, nZ, Value.cells]
    refine x_nil ?_
    refine hK4 _ _ ?_
    refine x_cond_t (h := ?_)
    try have hE : addE l r it = 1 := addE_1 (.inr (by simpa using @c))
    refine x_seq fun K5 hK5 => ?_
    refine x_region ?_
    refine s_go (s_assign) ?_
    try simp only [opv, nZ, Value.cells]
    refine s_go (s_assign) ?_
    try simp only [opv, nZ, Value.cells]
    refine x_nil ?_
    refine hK5 _ _ ?_
    refine x_ret ?_
    refine r_tmp2 rfl ?_
    first
    | (rw [addP_no (by rw [hE]; first | decide | exact hB), hE]; replace hS := hS.nil_vec 54 21; exact ⟨none, 0, rfl, hS.selA⟩)
    | (rw [addP_yes hE, hE]; exact ⟨_, _, rfl, hS.selA⟩)
 ·
  try simp only [n3, n4]
  try simp only [decide_eq_true_eq, decide_eq_false_iff_not, Bool.not_eq_true', Bool.not_eq_false', Int.not_lt, Int.not_le, ne_eq, Decidable.not_not] at hp1
  first
  | (exfalso; omega)
  | skip
    refine g_on (yi (t := 22) rfl rfl) ?_
    first | refine s_go (m_load_row Try.underlying25 (hi := ti25) (hS := hS) (hfit := by first | omega | (rw [zi_size (by omega)]; first | rfl | decide) | (simp only [ic_size, List.length_map, List.size_toArray]; first | omega | decide) | rfl | (simp [*]; done) | (simp [*]; omega))) ?_ | refine s_go (m_loada_obj Try.underlying25 (hi := ti25) (hS := hS) (hfit := by first | omega | (rw [zi_size (by omega)]; first | rfl | decide) | (simp only [ic_size, List.length_map, List.size_toArray]; first | omega | decide) | rfl | (simp [*]; done) | (simp [*]; omega))) ?_ | refine s_go (m_loada_bx Try.underlying25 (hi := ti25) (hS := hS) (hfit := by first | omega | (rw [zi_size (by omega)]; first | rfl | decide) | (simp only [ic_size, List.length_map, List.size_toArray]; first | omega | decide) | rfl | (simp [*]; done) | (simp [*]; omega))) ?_ | refine s_go (m_loada_rd Try.underlying25 (hi := ti25) (hS := hS) (hfit := by first | omega | (rw [zi_size (by omega)]; first | rfl | decide) | (simp only [ic_size, List.length_map, List.size_toArray]; first | omega | decide) | rfl | (simp [*]; done) | (simp [*]; omega))) ?_ | refine s_go (m_loada_vec Try.underlying25 (hi := ti25) (hS := hS) (hfit := by first | omega | (rw [zi_size (by omega)]; first | rfl | decide) | (simp only [ic_size, List.length_map, List.size_toArray]; first | omega | decide) | rfl | (simp [*]; done) | (simp [*]; omega))) ?_
    try simp only [opv, nZ, Value.cells, List.getElem_toArray, List.getElem_cons_zero, List.getElem_cons_succ]
    refine g_on (yi (t := 22) rfl rfl) ?_
    refine s_call en54 ?_
    try simp only [opv, nZ, Value.cells, List.map_toArray, List.map_cons, List.map_nil, List.append_toArray, List.cons_append, List.nil_append, Array.append_empty]
    refine CallR.mono (c_nameRight it h8 hbt _) ?_
    rintro _ w3 ⟨rfl, hE3⟩
    replace hS := hS.ext hE3
    try simp only [opv, nZ, Value.cells]
    refine g_on (yi (t := 22) rfl rfl) ?_
    refine s_go (s_not) ?_
    try simp only [opv, nZ, Value.cells]
    first | refine s_go (s_pick_t) ?_ | refine s_go (s_pick_f) ?_
    try simp only [opv, nZ, Value.cells]
    refine s_go (s_assign) ?_
    try simp only [opv, nZ, Value.cells]
    refine x_nil ?_
    refine hK4 _ _ ?_
    refine x_cond (ht := fun hc2 => ?_) (hf := fun hc2 => ?_)
    ·
     try simp only [decide_eq_true_eq, decide_eq_false_iff_not, Bool.not_eq_true', Bool.not_eq_false', Int.not_lt, Int.not_le, ne_eq, Decidable.not_not, bne_iff_ne, beq_iff_eq, not_true_eq_false, not_false_eq_true] at hc2
     first
     | (exfalso; omega)
     | skip
       try have hE : addE l r it = 1 := addE_1 (.inr (by simpa using hc2))
       refine x_seq fun K6 hK6 => ?_
       refine x_region ?_
       refine s_go (s_assign) ?_
       try simp only [opv, nZ, Value.cells]
       refine s_go (s_assign) ?_
       try simp only [opv, nZ, Value.cells]
       refine x_nil ?_
       refine hK6 _ _ ?_
       refine x_ret ?_
       refine r_tmp2 rfl ?_
       first
       | (rw [addP_no (by rw [hE]; first | decide | exact hB), hE]; replace hS := hS.nil_vec 54 21; exact ⟨none, 0, rfl, hS.selA⟩)
       | (rw [addP_yes hE, hE]; exact ⟨_, _, rfl, hS.selA⟩)
    ·
     try simp only [decide_eq_true_eq, decide_eq_false_iff_not, Bool.not_eq_true', Bool.not_eq_false', Int.not_lt, Int.not_le, ne_eq, Decidable.not_not, bne_iff_ne, beq_iff_eq, not_true_eq_false, not_false_eq_true] at hc2
     first
     | (exfalso; omega)
     | skip
       have hok := addE_b (l := l) (r := r) (it := it) (fun z => z.elim (fun z => by omega) (fun z => by simp [z] at hc2))
       refine x_seq fun K7 hK7 => ?_
       refine x_region ?_
       refine s_go (s_move) ?_
       try simp only [opv, nZ, Value.cells]
       refine s_go (s_neq) ?_
       try simp only [opv, nZ, Value.cells]
       refine s_go (s_assign) ?_
       try simp only [opv, nZ, Value.cells]
       refine x_nil ?_
       refine hK7 _ _ ?_
       refine x_cond (ht := fun hc3 => ?_) (hf := fun hc3 => ?_)
       ·
        try simp only [decide_eq_true_eq, decide_eq_false_iff_not, Bool.not_eq_true', Bool.not_eq_false', Int.not_lt, Int.not_le, ne_eq, Decidable.not_not, bne_iff_ne, beq_iff_eq, not_true_eq_false, not_false_eq_true] at hc3
        first
        | (exfalso; omega)
        | skip
          have hB : ¬ bumpE (ofV (normP l)) r = 0 := by simpa using hc3
          have hE := hok
          refine x_seq fun K8 hK8 => ?_
          refine x_region ?_
          refine s_go (s_move) ?_
          try simp only [opv, nZ, Value.cells]
          refine s_go (s_assign) ?_
          try simp only [opv, nZ, Value.cells]
          refine s_go (s_assign) ?_
          try simp only [opv, nZ, Value.cells]
          refine x_nil ?_
          refine hK8 _ _ ?_
          refine x_ret ?_
          refine r_tmp2 rfl ?_
          first
          | (rw [addP_no (by rw [hE]; first | decide | exact hB), hE]; replace hS := hS.nil_vec 54 21; exact ⟨none, 0, rfl, hS.selA⟩)
          | (rw [addP_yes hE, hE]; exact ⟨_, _, rfl, hS.selA⟩)
       ·
        try simp only [decide_eq_true_eq, decide_eq_false_iff_not, Bool.not_eq_true', Bool.not_eq_false', Int.not_lt, Int.not_le, ne_eq, Decidable.not_not, bne_iff_ne, beq_iff_eq, not_true_eq_false, not_false_eq_true] at hc3
        first
        | (exfalso; omega)
        | skip
          have hE : addE l r it = 0 := by rw [hok]; simpa using hc3
          refine x_skip ?_
          refine hK3 _ _ ?_
          refine x_seq fun K9 hK9 => ?_
          refine x_region ?_
          refine s_go (s_move) ?_
          try simp only [opv, nZ, Value.cells]
          first | refine s_go (m_load_row Try.underlying25 (hi := ti25) (hS := hS) (hfit := by first | omega | (rw [zi_size (by omega)]; first | rfl | decide) | (simp only [ic_size, List.length_map, List.size_toArray]; first | omega | decide) | rfl | (simp [*]; done) | (simp [*]; omega))) ?_ | refine s_go (m_loada_obj Try.underlying25 (hi := ti25) (hS := hS) (hfit := by first | omega | (rw [zi_size (by omega)]; first | rfl | decide) | (simp only [ic_size, List.length_map, List.size_toArray]; first | omega | decide) | rfl | (simp [*]; done) | (simp [*]; omega))) ?_ | refine s_go (m_loada_bx Try.underlying25 (hi := ti25) (hS := hS) (hfit := by first | omega | (rw [zi_size (by omega)]; first | rfl | decide) | (simp only [ic_size, List.length_map, List.size_toArray]; first | omega | decide) | rfl | (simp [*]; done) | (simp [*]; omega))) ?_ | refine s_go (m_loada_rd Try.underlying25 (hi := ti25) (hS := hS) (hfit := by first | omega | (rw [zi_size (by omega)]; first | rfl | decide) | (simp only [ic_size, List.length_map, List.size_toArray]; first | omega | decide) | rfl | (simp [*]; done) | (simp [*]; omega))) ?_ | refine s_go (m_loada_vec Try.underlying25 (hi := ti25) (hS := hS) (hfit := by first | omega | (rw [zi_size (by omega)]; first | rfl | decide) | (simp only [ic_size, List.length_map, List.size_toArray]; first | omega | decide) | rfl | (simp [*]; done) | (simp [*]; omega))) ?_
          try simp only [opv, nZ, Value.cells, List.getElem_toArray, List.getElem_cons_zero, List.getElem_cons_succ]
          refine s_go (s_move) ?_
          try simp only [opv, nZ, Value.cells]
          refine s_go (s_move) ?_
          try simp only [opv, nZ, Value.cells]
          refine s_go (s_build_struct (cells := (KA (mkKey 1 ct it r q))) Try.underlying43 ti43 bp43 (hc := by simp only [List.map_toArray, List.map_cons, List.map_nil, opv, nZ, Value.cells, List.toList_toArray]; exact fill_key5 (by rfl) (by rfl) (by rfl) (by rfl) (by rfl) h8)) ?_
          try simp only [opv, nZ, Value.cells]
          refine m_alloc ti43 hS (fun w4 g4 hS => ?_)
          try simp only [opv, nZ, Value.cells, Array.toArray_toList] at hS ⊢
          have h0l : key0.length = 12 := rfl
          replace hS : St _ _ w4 (.obj g4 (.cells (KA key0) 43 (0, 0)) :: _) := hS
          first | refine m_store_obj ti43 (hS := hS) (hc := by first | exact zi_set rfl (by omega) | exact zi_whole (by omega) (by omega) | (first | exact splice_ic (by first | omega | (simp [*]; done) | (simp [*]; omega)) | exact splice_il (by first | omega | (simp [*]; done) | (simp [*]; omega)) | exact splice_whole (by first | (simp [opv, Value.cells, *]; done) | rfl) | (simp only [opv, n1, n2, Value.cells, splice, List.take_succ_cons, List.take_zero, List.drop_succ_cons, List.drop_zero, List.length_cons, List.length_nil, Nat.zero_add, Nat.reduceAdd, List.append_assoc, List.cons_append, List.nil_append]; rfl))) (hv := by first | rfl | (show (zi _ _).toArray.size = _; rw [zi_size (by omega)]; rfl) | (simp [opv, Value.cells, *]; done)) (hfit := by first | omega | (rw [zi_size (by omega)]; first | rfl | decide) | (simp only [ic_size, List.length_map, List.size_toArray]; first | omega | decide) | rfl | (simp [*]; done) | (simp [*]; omega)) (h1 := by first | exact zi_one _ _ | exact ic_one _ _ | simp [opv, Value.cells, Value.oneCell']) (h := fun w5 hS => ?_) | refine m_store_vec ti43 (hS := hS) (hc := by first | exact zi_set rfl (by omega) | exact zi_whole (by omega) (by omega) | (first | exact splice_ic (by first | omega | (simp [*]; done) | (simp [*]; omega)) | exact splice_il (by first | omega | (simp [*]; done) | (simp [*]; omega)) | exact splice_whole (by first | (simp [opv, Value.cells, *]; done) | rfl) | (simp only [opv, n1, n2, Value.cells, splice, List.take_succ_cons, List.take_zero, List.drop_succ_cons, List.drop_zero, List.length_cons, List.length_nil, Nat.zero_add, Nat.reduceAdd, List.append_assoc, List.cons_append, List.nil_append]; rfl))) (hv := by first | rfl | (show (zi _ _).toArray.size = _; rw [zi_size (by omega)]; rfl) | (simp [opv, Value.cells, *]; done)) (hfit := by first | omega | (rw [zi_size (by omega)]; first | rfl | decide) | (simp only [ic_size, List.length_map, List.size_toArray]; first | omega | decide) | rfl | (simp [*]; done) | (simp [*]; omega)) (h1 := by first | exact zi_one _ _ | exact ic_one _ _ | simp [opv, Value.cells, Value.oneCell']) (h := fun w5 hS => ?_)
          try simp only [opv, nZ, Value.cells, Array.toArray_toList] at hS ⊢
          refine x_nil ?_
          refine hK9 _ _ ?_
          refine x_seq fun K10 hK10 => ?_
          refine x_region ?_
          first | refine s_go (m_load_row Try.underlying43 (hi := ti43) (hS := hS) (hfit := by first | omega | (rw [zi_size (by omega)]; first | rfl | decide) | (simp only [ic_size, List.length_map, List.size_toArray]; first | omega | decide) | rfl | (simp [*]; done) | (simp [*]; omega))) ?_ | refine s_go (m_loada_obj Try.underlying43 (hi := ti43) (hS := hS) (hfit := by first | omega | (rw [zi_size (by omega)]; first | rfl | decide) | (simp only [ic_size, List.length_map, List.size_toArray]; first | omega | decide) | rfl | (simp [*]; done) | (simp [*]; omega))) ?_ | refine s_go (m_loada_bx Try.underlying43 (hi := ti43) (hS := hS) (hfit := by first | omega | (rw [zi_size (by omega)]; first | rfl | decide) | (simp only [ic_size, List.length_map, List.size_toArray]; first | omega | decide) | rfl | (simp [*]; done) | (simp [*]; omega))) ?_ | refine s_go (m_loada_rd Try.underlying43 (hi := ti43) (hS := hS) (hfit := by first | omega | (rw [zi_size (by omega)]; first | rfl | decide) | (simp only [ic_size, List.length_map, List.size_toArray]; first | omega | decide) | rfl | (simp [*]; done) | (simp [*]; omega))) ?_ | refine s_go (m_loada_vec Try.underlying43 (hi := ti43) (hS := hS) (hfit := by first | omega | (rw [zi_size (by omega)]; first | rfl | decide) | (simp only [ic_size, List.length_map, List.size_toArray]; first | omega | decide) | rfl | (simp [*]; done) | (simp [*]; omega))) ?_
          try simp only [opv, nZ, Value.cells, List.getElem_toArray, List.getElem_cons_zero, List.getElem_cons_succ]
          refine s_go (s_build_struct (cells := (VA (mkV 1 nm0))) Try.underlying50 ti50 bp50 (hc := by simp only [List.map_toArray, List.map_cons, List.map_nil, opv, nZ, Value.cells, List.toList_toArray]; (repeat (refine fill_cons rfl rfl (Nat.le_of_ble_eq_true rfl) ?_)); rfl)) ?_
          try simp only [opv, nZ, Value.cells]
          refine s_go (s_build_struct (cells := (AA (addA l r ct it))) Try.underlying54 ti54 bp54 (hc := by simp only [List.map_toArray, List.map_cons, List.map_nil, opv, nZ, Value.cells, List.toList_toArray]; rw [hAe]; exact fill_atom (by rfl) (by rfl) (by rfl) hkl (mkV_len hn0l))) ?_
          try simp only [opv, nZ, Value.cells]
          refine m_buildRow (cells := (AA (addA l r ct it))) Try.underlying22 ti54 (hc := by simp only [List.map_toArray, List.map_cons, List.map_nil, opv, nZ, Value.cells, List.toList_toArray]; exact fill_one (by rfl) (zi_size21 hAl) (by rfl)) (hS := hS) (h := fun w6 g6 hS => ?_)
          try simp only [opv, nZ, Value.cells, Array.toArray_toList] at hS ⊢
          replace hS := hS.obj_vec (sz := 21) (n := 1) (by exact zi_size21 hAl) (by decide) .head
          rw [arow_one hAl] at hS
          refine s_go (s_assign) ?_
          try simp only [opv, nZ, Value.cells]
          refine s_go (s_assign) ?_
          try simp only [opv, nZ, Value.cells]
          refine x_nil ?_
          refine hK10 _ _ ?_
          refine x_ret ?_
          refine r_tmp2 rfl ?_
          first
          | (rw [addP_no (by rw [hE]; first | decide | exact hB), hE]; replace hS := hS.nil_vec 54 21; exact ⟨none, 0, rfl, hS.selA⟩)
          | (rw [addP_yes hE, hE]; exact ⟨_, _, rfl, hS.selA⟩)
end Go.Proofs.Ytffmanidnlbjjaa
set_option linter.unusedSimpArgs false
set_option linter.unusedVariables false
set_option maxHeartbeats 2000000
set_option maxRecDepth 100000
namespace Go.Proofs.Ytffmanidnlbjjaa
open Go.RowKit

def tagQ (c : Nat) (it : List Int) (n : Nat) (a : List Int) : Bool := decide (kn a 0 = 1) && decide (kn a 1 = c) && decide (kitem (akey a) = it) && (decide (n = 0) || decide (kn (aval a) 0 = n))
def tagS (s : List (List Int)) (c : Nat) (it : List Int) (n : Nat) : List (List Int) := s.filter (tagQ c it n)
theorem tag_take {s : List (List Int)} {c n : Nat} {it : List Int} {k : Nat} {x : List Int} (hk : k < s.length) (hx : s.getD k [] = x) : (tagQ c it n x = true → tagS (s.take (k + 1)) c it n = tagS (s.take k) c it n ++ [x]) ∧ (tagQ c it n x = false → tagS (s.take (k + 1)) c it n = tagS (s.take k) c it n) := by
  rw [take_snoc hk, hx, tagS, List.filter_append]
  refine ⟨fun h => ?_, fun h => ?_⟩
  · rw [List.filter_cons_of_pos h]; rfl
  · rw [List.filter_cons_of_neg (by rw [h]; decide)]; simp [tagS]
theorem tag_len (s : List (List Int)) (c : Nat) (it : List Int) (n : Nat) : (tagS s c it n).length ≤ s.length := List.length_filter_le _ _
end Go.Proofs.Ytffmanidnlbjjaa
set_option linter.unusedSimpArgs false
set_option linter.unusedVariables false
set_option maxHeartbeats 2000000
set_option maxRecDepth 100000
namespace Go.Proofs.Ytffmanidnlbjjaa
open Go.RowKit

def dropA (a : List Int) : List Int := akey a ++ mkV 2 nm0
theorem dropA_ok {a : List Int} (h : AtomOk a) : AtomOk (dropA a) := kv_ok h.key ⟨rfl, by decide, by decide, nm0_byt⟩
def drpS (s : List (List Int)) (c : Nat) (it : List Int) : List (List Int) := (tagS s c it 1).map dropA
theorem drop_take {t : List (List Int)} {k : Nat} {x : List Int} (hk : k < t.length) (hx : t.getD k [] = x) : (t.take (k + 1)).map dropA = (t.take k).map dropA ++ [dropA x] := by rw [take_snoc hk, hx, List.map_append]; rfl
theorem tag_ok {s : List (List Int)} (h : AOks s) (c : Nat) (it : List Int) (n : Nat) : AOks (tagS s c it n) := fun a ha => h a (List.mem_filter.1 ha).1

end Go.Proofs.Ytffmanidnlbjjaa
