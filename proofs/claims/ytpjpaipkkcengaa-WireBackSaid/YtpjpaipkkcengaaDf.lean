/- Contracts of functions, printed by a program of this seat (wip/tools/gen.py) out of its specs. -/
import Derived.Test.YtpjpaipkkcengaaDe
import Derived.Test.YtpjpaipkkcengaaVy
import Derived.Test.YtpjpaipkkcengaaPread2
set_option linter.unusedSimpArgs false
set_option linter.unusedVariables false
set_option maxHeartbeats 800000
set_option maxRecDepth 100000
namespace Go.Proofs.Ytpjpaipkkcengaa
open Go.RowKit


theorem RdIn.trans {w0 w1 : World} {M M1 L R : List Res} {A : Option Addr} {n : Nat} (_hM : St (OwnB M) w0 w0 M) (hS : St (OwnB M) w0 w1 L) (hs : Spl M1 L R) (h : RdIn w1 M1 A n) (hm : ∀ s ∈ M1, ∀ b, s.reads = some b → w0.heap.size ≤ b ∨ ∃ s ∈ M, s.own = some b ∨ s.reads = some b) : RdIn w0 M A n := fun b hb => by
  have hz := hS.keep.size
  rcases h b hb with h1 | ⟨s, h1, h2 | h2⟩
  · exact .inl (by omega)
  · rcases hS.own s (hs.mem h1) b h2 with ⟨r, hr, ho⟩ | h3
    · exact .inr ⟨r, hr, .inl ho⟩
    · exact .inl h3
  · exact hm s h1 b h2
theorem RdIn.self {w0 : World} {M : List Res} {A : Option Addr} {n : Nat} {xs : List Value} (hm : Res.rd A 1 n xs ∈ M) : RdIn w0 M A n := fun b hb => .inr ⟨_, hm, .inr hb⟩
theorem errE0 (x : Int) : errE 0 x = x := rfl
theorem errX0 {x : Int} {xs : List Int} (h : ¬ x = 0) : errX 0 x xs = [] := by simp [errX, errE, h]
theorem numS_bad {m : Nat} {e : Int} {xs : List Int} (h : ¬ (numS m e xs).2.1 = 0) : (numS m e xs).1 = 0 := by
  unfold numS at h ⊢
  repeat' split
  all_goals first | rfl | (exfalso; simp_all)
theorem namS_bad {e : Int} {xs : List Int} (h : ¬ (namS e xs).2.1 = 0) : (namS e xs).1 = nm0 := by
  unfold namS at h ⊢
  repeat' split
  all_goals first | rfl | (exfalso; simp_all)
theorem oneS_bad {e : Int} {xs : List Int} (h : ¬ (oneS e xs).2.1 = 0) : (oneS e xs).1 = 0 := by
  unfold oneS at h ⊢
  repeat' split
  all_goals first | rfl | (exfalso; simp_all)
theorem bytS_bad {m : Nat} {e : Int} {xs : List Int} (h : ¬ (bytS m e xs).2.1 = 0) : (bytS m e xs).1 = [] := by
  unfold bytS at h ⊢
  repeat' split
  all_goals first | rfl | (exfalso; simp_all)
theorem oneS_take (xs : List Int) : oneS 0 xs = (oneV xs, takeE 0 xs 1, takeX 0 xs 1) := by
  unfold oneS oneV takeE takeX
  simp only [if_true]
  split
  · rfl
  · rw [errE0, errX0 (by decide)]
/-- a text as a name -/
def ofN (ns : List Int) : List Int × Int := if isN ns then (padN ns, 0) else (nm0, 3)
theorem padN_le {ns : List Int} (h : ns.length ≤ 8) : padN ns = ns ++ nm0.drop ns.length := by
  rw [padN, List.take_of_length_le h, nm0, List.drop_replicate]
theorem nsz_pad : ∀ {ns : List Int} {k : Nat}, (∀ x ∈ ns, ¬ x = 0) → nsz (ns ++ List.replicate k 0) = ns.length
  | [], 0, _ => rfl
  | [], k + 1, _ => by simp [List.replicate_succ, nsz]
  | x :: ns, k, h => by
    have h1 := h x (by simp)
    have := nsz_pad (ns := ns) (k := k) (fun y hy => h y (by simp [hy]))
    simp [nsz, h1, this]
theorem nmTxt_pad {ns : List Int} (h : isN ns = true) : nmTxt (padN ns) = ns := by
  simp only [isN, Bool.and_eq_true, decide_eq_true_eq, List.all_eq_true] at h
  obtain ⟨⟨⟨h1, h2⟩, h3⟩, h4⟩ := h
  have hz : ∀ x ∈ ns, ¬ x = 0 := fun x hx e => by have := h4 x hx; subst e; revert this; decide
  rw [nmTxt, padN, List.take_of_length_le h2, nsz_pad hz]
  exact List.take_left
theorem ofN_bad {ns : List Int} (h : 8 < ns.length ∨ ns.length = 0 ∨ ¬ nmTxt (padN ns) = ns ∨ nright (padN ns) = false) : isN ns = false := by
  rw [Bool.eq_false_iff]
  intro hI
  have hI' := hI
  simp only [isN, Bool.and_eq_true, decide_eq_true_eq] at hI'
  have ht := nmTxt_pad hI
  rcases h with h | h | h | h
  · omega
  · omega
  · exact h ht
  · rw [nright_eq (padN_len ns), ht, hI] at h
    simp at h
theorem ofN_good {ns : List Int} (h1 : nmTxt (padN ns) = ns) (h2 : nright (padN ns) = true) : isN ns = true := by
  rw [nright_eq (padN_len ns), h1] at h2
  simpa using h2
theorem max_u64 {m : Int} (h : m ≤ 9223372036854775807) : IntKind.u64.wrap (max m 0) = ((m.toNat : Nat) : Int) := by
  rw [Int.ofNat_toNat]; exact wr_u64 (by omega) (by omega)


theorem c_nameOf (ns : List Int) (hw : Byt ns) (hn : ns.length ≤ 1000)  (w0 : World) :
    CallR Try.prog 244 #[.string (strOf ns)] w0 fun v w' => v = .tuple #[.agg (ic .u8 (ofN ns).1), .int .i64 (ofN ns).2] ∧ Ext w0 w' := by
  have hS : St NoB w0 w0 [] := St.start w0
  refine c_enter (l := [.string (strOf ns), undef, undef, undef, undef, undef, undef, undef, undef, undef, undef, undef, undef, undef, undef, undef, undef, undef, undef, undef, undef, undef, undef, undef, undef, undef]) Try.func244 rfl (by simp only [Try.ntmps244, List.size_toArray, List.length_cons, List.length_nil, Nat.reduceAdd, Nat.reduceSub, Array.replicate_succ, Array.replicate_zero, List.push_toArray, List.append_toArray, List.nil_append, List.cons_append]) ?_
  refine x_seq fun K1 hK1 => ?_
  refine x_region ?_
  refine m_alloc ti42 hS (fun w1 g1 hS => ?_)
  try simp only [opv, n1, n2, n3, n4, Value.cells, Array.toArray_toList] at hS ⊢
  replace hS : St NoB w0 w1 [.obj g1 (.cells (ic .u8 nm0) 42 (0, 0))] := hS
  refine s_go (s_assign) ?_
  try simp only [opv, n1, n2, n3, n4, Value.cells]
  refine x_nil ?_
  refine hK1 _ _ ?_
  refine x_seq fun K2 hK2 => ?_
  refine x_seq fun K3 hK3 => ?_
  refine x_region ?_
  have h0l : nm0.length = 8 := rfl
  have hpl := padN_len ns
  have hpb := padN_byt hw
  refine s_go (s_move) ?_
  try simp only [opv, n1, n2, n3, n4, Value.cells]
  refine s_go (s_len_str Try.underlying9) ?_
  try simp only [opv, n1, n2, n3, n4, Value.cells]
  rw [strOf_size]
  refine s_go (s_gtr) ?_
  try simp only [opv, n1, n2, n3, n4, Value.cells]
  refine s_go (s_move) ?_
  try simp only [opv, n1, n2, n3, n4, Value.cells]
  refine s_part 7 rfl (fun hp1 => ?_) (fun hp1 => ?_)
  ·
    try simp only [n3, n4]
    try simp only [decide_eq_true_eq, decide_eq_false_iff_not, Bool.not_eq_true', Bool.not_eq_false', Int.not_lt, Int.not_le, ne_eq, Decidable.not_not] at hp1
    first
    | (exfalso; omega)
    | skip
      refine g_off (yi (t := 7) rfl rfl) ?_
      try simp only [opv, n1, n2, n3, n4, Value.cells]
      refine g_off (yi (t := 7) rfl rfl) ?_
      try simp only [opv, n1, n2, n3, n4, Value.cells]
      refine g_off (yi (t := 7) rfl rfl) ?_
      try simp only [opv, n1, n2, n3, n4, Value.cells]
      refine g_off (yi (t := 7) rfl rfl) ?_
      try simp only [opv, n1, n2, n3, n4, Value.cells]
      first | refine s_go (s_pick_t) ?_ | refine s_go (s_pick_f) ?_
      try simp only [opv, n1, n2, n3, n4, Value.cells]
      refine s_go (s_move) ?_
      try simp only [opv, n1, n2, n3, n4, Value.cells]
      refine g_off (yi (t := 13) rfl rfl) ?_
      try simp only [opv, n1, n2, n3, n4, Value.cells]
      refine g_off (yi (t := 13) rfl rfl) ?_
      try simp only [opv, n1, n2, n3, n4, Value.cells]
      refine g_off (yi (t := 13) rfl rfl) ?_
      try simp only [opv, n1, n2, n3, n4, Value.cells]
      refine g_off (yi (t := 13) rfl rfl) ?_
      try simp only [opv, n1, n2, n3, n4, Value.cells]
      first | refine s_go (s_pick_t) ?_ | refine s_go (s_pick_f) ?_
      try simp only [opv, n1, n2, n3, n4, Value.cells]
      refine s_go (s_move) ?_
      try simp only [opv, n1, n2, n3, n4, Value.cells]
      refine g_off (yi (t := 19) rfl rfl) ?_
      try simp only [opv, n1, n2, n3, n4, Value.cells]
      refine g_off (yi (t := 19) rfl rfl) ?_
      try simp only [opv, n1, n2, n3, n4, Value.cells]
      refine g_off (yi (t := 19) rfl rfl) ?_
      try simp only [opv, n1, n2, n3, n4, Value.cells]
      first | refine s_go (s_pick_t) ?_ | refine s_go (s_pick_f) ?_
      try simp only [opv, n1, n2, n3, n4, Value.cells]
      refine x_nil ?_
      refine hK3 _ _ ?_
      refine x_cond_t (h := ?_)
      have hI : isN ns = false := ofN_bad (by first | exact .inl (by omega) | exact .inr (.inl (by omega)) | exact .inr (.inr (.inl (by simpa using @c))) | exact .inr (.inr (.inl @c)) | exact .inr (.inr (.inr (by simpa using @c))) | exact .inr (.inr (.inl (by assumption))))
      refine x_seq fun K4 hK4 => ?_
      refine x_region ?_
      refine s_go (s_build_arr (cells := #[.int .u8 0, .int .u8 0, .int .u8 0, .int .u8 0, .int .u8 0, .int .u8 0, .int .u8 0, .int .u8 0]) Try.underlying42 ti42 ti5 (hc := by simp only [List.map_toArray, List.map_cons, List.map_nil, opv, n1, n2, n3, n4, Value.cells, List.toList_toArray]; (repeat (refine fill_cons rfl rfl (Nat.le_of_ble_eq_true rfl) ?_)); rfl)) ?_
      try simp only [opv, n1, n2, n3, n4, Value.cells]
      first | refine m_store_obj ti42 (hS := hS) (h := fun w2 hS => ?_) | refine m_store_vec ti42 (hS := hS) (h := fun w2 hS => ?_)
      try simp only [opv, n1, n2, n3, n4, Value.cells, Array.toArray_toList] at hS ⊢
      refine s_go (s_assign) ?_
      try simp only [opv, n1, n2, n3, n4, Value.cells]
      refine x_nil ?_
      refine hK4 _ _ ?_
      refine x_ret ?_
      refine r_cell_tmp_agg rfl Try.underlying42 ti42 (hS := hS) (hR := ?_)
      exact ⟨by simp only [ofN, hI]; rfl, hS.ext_of⟩
  ·
    try simp only [n3, n4]
    try simp only [decide_eq_true_eq, decide_eq_false_iff_not, Bool.not_eq_true', Bool.not_eq_false', Int.not_lt, Int.not_le, ne_eq, Decidable.not_not] at hp1
    first
    | (exfalso; omega)
    | skip
      refine g_on (yi (t := 7) rfl rfl) ?_
      refine s_go (s_slice_whole Try.underlying42 ti5) ?_
      try simp only [opv, n1, n2, n3, n4, Value.cells]
      refine g_on (yi (t := 7) rfl rfl) ?_
      refine s_go (s_move) ?_
      try simp only [opv, n1, n2, n3, n4, Value.cells]
      refine g_on (yi (t := 7) rfl rfl) ?_
      refine m_copy_str Try.underlying43 ti5 (ns := ns) (cs := nm0) (hw := hw) (hl := by omega) (hc := rfl) (hS := hS) (h := fun w3 hS => ?_)
      try simp only [opv, n1, n2, n3, n4, Value.cells, Array.toArray_toList] at hS ⊢
      rw [← padN_le (by omega)] at hS
      refine g_on (yi (t := 7) rfl rfl) ?_
      refine s_go (s_eql) ?_
      try simp only [opv, n1, n2, n3, n4, Value.cells]
      first | refine s_go (s_pick_t) ?_ | refine s_go (s_pick_f) ?_
      try simp only [opv, n1, n2, n3, n4, Value.cells]
      refine s_go (s_move) ?_
      try simp only [opv, n1, n2, n3, n4, Value.cells]
      refine s_part 13 rfl (fun hp2 => ?_) (fun hp2 => ?_)
      ·
        try simp only [n3, n4]
        try simp only [decide_eq_true_eq, decide_eq_false_iff_not, Bool.not_eq_true', Bool.not_eq_false', Int.not_lt, Int.not_le, ne_eq, Decidable.not_not] at hp2
        first
        | (exfalso; omega)
        | skip
          refine g_off (yi (t := 13) rfl rfl) ?_
          try simp only [opv, n1, n2, n3, n4, Value.cells]
          refine g_off (yi (t := 13) rfl rfl) ?_
          try simp only [opv, n1, n2, n3, n4, Value.cells]
          refine g_off (yi (t := 13) rfl rfl) ?_
          try simp only [opv, n1, n2, n3, n4, Value.cells]
          refine g_off (yi (t := 13) rfl rfl) ?_
          try simp only [opv, n1, n2, n3, n4, Value.cells]
          first | refine s_go (s_pick_t) ?_ | refine s_go (s_pick_f) ?_
          try simp only [opv, n1, n2, n3, n4, Value.cells]
          refine s_go (s_move) ?_
          try simp only [opv, n1, n2, n3, n4, Value.cells]
          refine g_off (yi (t := 19) rfl rfl) ?_
          try simp only [opv, n1, n2, n3, n4, Value.cells]
          refine g_off (yi (t := 19) rfl rfl) ?_
          try simp only [opv, n1, n2, n3, n4, Value.cells]
          refine g_off (yi (t := 19) rfl rfl) ?_
          try simp only [opv, n1, n2, n3, n4, Value.cells]
          first | refine s_go (s_pick_t) ?_ | refine s_go (s_pick_f) ?_
          try simp only [opv, n1, n2, n3, n4, Value.cells]
          refine x_nil ?_
          refine hK3 _ _ ?_
          refine x_cond_t (h := ?_)
          have hI : isN ns = false := ofN_bad (by first | exact .inl (by omega) | exact .inr (.inl (by omega)) | exact .inr (.inr (.inl (by simpa using @c))) | exact .inr (.inr (.inl @c)) | exact .inr (.inr (.inr (by simpa using @c))) | exact .inr (.inr (.inl (by assumption))))
          refine x_seq fun K5 hK5 => ?_
          refine x_region ?_
          refine s_go (s_build_arr (cells := #[.int .u8 0, .int .u8 0, .int .u8 0, .int .u8 0, .int .u8 0, .int .u8 0, .int .u8 0, .int .u8 0]) Try.underlying42 ti42 ti5 (hc := by simp only [List.map_toArray, List.map_cons, List.map_nil, opv, n1, n2, n3, n4, Value.cells, List.toList_toArray]; (repeat (refine fill_cons rfl rfl (Nat.le_of_ble_eq_true rfl) ?_)); rfl)) ?_
          try simp only [opv, n1, n2, n3, n4, Value.cells]
          first | refine m_store_obj ti42 (hS := hS) (h := fun w4 hS => ?_) | refine m_store_vec ti42 (hS := hS) (h := fun w4 hS => ?_)
          try simp only [opv, n1, n2, n3, n4, Value.cells, Array.toArray_toList] at hS ⊢
          refine s_go (s_assign) ?_
          try simp only [opv, n1, n2, n3, n4, Value.cells]
          refine x_nil ?_
          refine hK5 _ _ ?_
          refine x_ret ?_
          refine r_cell_tmp_agg rfl Try.underlying42 ti42 (hS := hS) (hR := ?_)
          exact ⟨by simp only [ofN, hI]; rfl, hS.ext_of⟩
      ·
        try simp only [n3, n4]
        try simp only [decide_eq_true_eq, decide_eq_false_iff_not, Bool.not_eq_true', Bool.not_eq_false', Int.not_lt, Int.not_le, ne_eq, Decidable.not_not] at hp2
        first
        | (exfalso; omega)
        | skip
          refine g_on (yi (t := 13) rfl rfl) ?_
          first | refine s_go (m_load_row Try.underlying42 (hi := ti42) (hS := hS)) ?_ | refine s_go (m_loada_obj Try.underlying42 (hi := ti42) (hS := hS)) ?_ | refine s_go (m_loada_bx Try.underlying42 (hi := ti42) (hS := hS)) ?_ | refine s_go (m_loada_rd Try.underlying42 (hi := ti42) (hS := hS)) ?_ | refine s_go (m_loada_vec Try.underlying42 (hi := ti42) (hS := hS)) ?_
          try simp only [opv, n1, n2, n3, n4, Value.cells, List.getElem_toArray, List.getElem_cons_zero, List.getElem_cons_succ]
          refine g_on (yi (t := 13) rfl rfl) ?_
          refine s_call en191 ?_
          try simp only [opv, n1, n2, n3, n4, Value.cells, List.map_toArray, List.map_cons, List.map_nil, List.append_toArray, List.cons_append, List.nil_append, Array.append_empty]
          refine CallR.mono (c_nameText _ (by first | assumption | omega) (by assumption) _) ?_
          rintro _ w5 ⟨rfl, hE5⟩
          replace hS := hS.ext hE5
          try simp only [opv, n1, n2, n3, n4, Value.cells]
          refine g_on (yi (t := 13) rfl rfl) ?_
          refine s_go (s_move) ?_
          try simp only [opv, n1, n2, n3, n4, Value.cells]
          refine g_on (yi (t := 13) rfl rfl) ?_
          refine s_go (s_neq_string Try.underlying9) ?_
          try simp only [opv, n1, n2, n3, n4, Value.cells]
          rw [strOf_beq (nmTxt_byt hpb) hw]
          first | refine s_go (s_pick_t) ?_ | refine s_go (s_pick_f) ?_
          try simp only [opv, n1, n2, n3, n4, Value.cells]
          refine s_go (s_move) ?_
          try simp only [opv, n1, n2, n3, n4, Value.cells]
          refine s_part 19 rfl (fun hp3 => ?_) (fun hp3 => ?_)
          ·
            try simp only [n3, n4]
            try simp only [decide_eq_true_eq, decide_eq_false_iff_not, Bool.not_eq_true', Bool.not_eq_false', Int.not_lt, Int.not_le, ne_eq, Decidable.not_not] at hp3
            first
            | (exfalso; omega)
            | skip
              refine g_off (yi (t := 19) rfl rfl) ?_
              try simp only [opv, n1, n2, n3, n4, Value.cells]
              refine g_off (yi (t := 19) rfl rfl) ?_
              try simp only [opv, n1, n2, n3, n4, Value.cells]
              refine g_off (yi (t := 19) rfl rfl) ?_
              try simp only [opv, n1, n2, n3, n4, Value.cells]
              first | refine s_go (s_pick_t) ?_ | refine s_go (s_pick_f) ?_
              try simp only [opv, n1, n2, n3, n4, Value.cells]
              refine x_nil ?_
              refine hK3 _ _ ?_
              refine x_cond_t (h := ?_)
              have hI : isN ns = false := ofN_bad (by first | exact .inl (by omega) | exact .inr (.inl (by omega)) | exact .inr (.inr (.inl (by simpa using @c))) | exact .inr (.inr (.inl @c)) | exact .inr (.inr (.inr (by simpa using @c))) | exact .inr (.inr (.inl (by assumption))))
              refine x_seq fun K6 hK6 => ?_
              refine x_region ?_
              refine s_go (s_build_arr (cells := #[.int .u8 0, .int .u8 0, .int .u8 0, .int .u8 0, .int .u8 0, .int .u8 0, .int .u8 0, .int .u8 0]) Try.underlying42 ti42 ti5 (hc := by simp only [List.map_toArray, List.map_cons, List.map_nil, opv, n1, n2, n3, n4, Value.cells, List.toList_toArray]; (repeat (refine fill_cons rfl rfl (Nat.le_of_ble_eq_true rfl) ?_)); rfl)) ?_
              try simp only [opv, n1, n2, n3, n4, Value.cells]
              first | refine m_store_obj ti42 (hS := hS) (h := fun w6 hS => ?_) | refine m_store_vec ti42 (hS := hS) (h := fun w6 hS => ?_)
              try simp only [opv, n1, n2, n3, n4, Value.cells, Array.toArray_toList] at hS ⊢
              refine s_go (s_assign) ?_
              try simp only [opv, n1, n2, n3, n4, Value.cells]
              refine x_nil ?_
              refine hK6 _ _ ?_
              refine x_ret ?_
              refine r_cell_tmp_agg rfl Try.underlying42 ti42 (hS := hS) (hR := ?_)
              exact ⟨by simp only [ofN, hI]; rfl, hS.ext_of⟩
          ·
            try simp only [n3, n4]
            try simp only [decide_eq_true_eq, decide_eq_false_iff_not, Bool.not_eq_true', Bool.not_eq_false', Int.not_lt, Int.not_le, ne_eq, Decidable.not_not] at hp3
            first
            | (exfalso; omega)
            | skip
              refine g_on (yi (t := 19) rfl rfl) ?_
              first | refine s_go (m_load_row Try.underlying42 (hi := ti42) (hS := hS)) ?_ | refine s_go (m_loada_obj Try.underlying42 (hi := ti42) (hS := hS)) ?_ | refine s_go (m_loada_bx Try.underlying42 (hi := ti42) (hS := hS)) ?_ | refine s_go (m_loada_rd Try.underlying42 (hi := ti42) (hS := hS)) ?_ | refine s_go (m_loada_vec Try.underlying42 (hi := ti42) (hS := hS)) ?_
              try simp only [opv, n1, n2, n3, n4, Value.cells, List.getElem_toArray, List.getElem_cons_zero, List.getElem_cons_succ]
              refine g_on (yi (t := 19) rfl rfl) ?_
              refine s_call en141 ?_
              try simp only [opv, n1, n2, n3, n4, Value.cells, List.map_toArray, List.map_cons, List.map_nil, List.append_toArray, List.cons_append, List.nil_append, Array.append_empty]
              refine CallR.mono (c_nameRight _ (by first | assumption | omega) (by assumption) _) ?_
              rintro _ w7 ⟨rfl, hE7⟩
              replace hS := hS.ext hE7
              try simp only [opv, n1, n2, n3, n4, Value.cells]
              refine g_on (yi (t := 19) rfl rfl) ?_
              refine s_go (s_not) ?_
              try simp only [opv, n1, n2, n3, n4, Value.cells]
              first | refine s_go (s_pick_t) ?_ | refine s_go (s_pick_f) ?_
              try simp only [opv, n1, n2, n3, n4, Value.cells]
              refine x_nil ?_
              refine hK3 _ _ ?_
              refine x_cond (ht := fun hc4 => ?_) (hf := fun hc4 => ?_)
              ·
                try simp only [decide_eq_true_eq, decide_eq_false_iff_not, Bool.not_eq_true', Bool.not_eq_false', Int.not_lt, Int.not_le, ne_eq, Decidable.not_not, bne_iff_ne, beq_iff_eq, not_true_eq_false, not_false_eq_true] at hc4
                first
                | (exfalso; omega)
                | skip
                  have hI : isN ns = false := ofN_bad (by first | exact .inl (by omega) | exact .inr (.inl (by omega)) | exact .inr (.inr (.inl (by simpa using hc4))) | exact .inr (.inr (.inl hc4)) | exact .inr (.inr (.inr (by simpa using hc4))) | exact .inr (.inr (.inl (by assumption))))
                  refine x_seq fun K7 hK7 => ?_
                  refine x_region ?_
                  refine s_go (s_build_arr (cells := #[.int .u8 0, .int .u8 0, .int .u8 0, .int .u8 0, .int .u8 0, .int .u8 0, .int .u8 0, .int .u8 0]) Try.underlying42 ti42 ti5 (hc := by simp only [List.map_toArray, List.map_cons, List.map_nil, opv, n1, n2, n3, n4, Value.cells, List.toList_toArray]; (repeat (refine fill_cons rfl rfl (Nat.le_of_ble_eq_true rfl) ?_)); rfl)) ?_
                  try simp only [opv, n1, n2, n3, n4, Value.cells]
                  first | refine m_store_obj ti42 (hS := hS) (h := fun w8 hS => ?_) | refine m_store_vec ti42 (hS := hS) (h := fun w8 hS => ?_)
                  try simp only [opv, n1, n2, n3, n4, Value.cells, Array.toArray_toList] at hS ⊢
                  refine s_go (s_assign) ?_
                  try simp only [opv, n1, n2, n3, n4, Value.cells]
                  refine x_nil ?_
                  refine hK7 _ _ ?_
                  refine x_ret ?_
                  refine r_cell_tmp_agg rfl Try.underlying42 ti42 (hS := hS) (hR := ?_)
                  exact ⟨by simp only [ofN, hI]; rfl, hS.ext_of⟩
              ·
                try simp only [decide_eq_true_eq, decide_eq_false_iff_not, Bool.not_eq_true', Bool.not_eq_false', Int.not_lt, Int.not_le, ne_eq, Decidable.not_not, bne_iff_ne, beq_iff_eq, not_true_eq_false, not_false_eq_true] at hc4
                first
                | (exfalso; omega)
                | skip
                  have hI : isN ns = true := ofN_good (by assumption) (by first | assumption | simpa using hc4)
                  refine x_skip ?_
                  refine hK2 _ _ ?_
                  refine x_seq fun K8 hK8 => ?_
                  refine x_region ?_
                  first | refine s_go (m_load_row Try.underlying42 (hi := ti42) (hS := hS)) ?_ | refine s_go (m_loada_obj Try.underlying42 (hi := ti42) (hS := hS)) ?_ | refine s_go (m_loada_bx Try.underlying42 (hi := ti42) (hS := hS)) ?_ | refine s_go (m_loada_rd Try.underlying42 (hi := ti42) (hS := hS)) ?_ | refine s_go (m_loada_vec Try.underlying42 (hi := ti42) (hS := hS)) ?_
                  try simp only [opv, n1, n2, n3, n4, Value.cells, List.getElem_toArray, List.getElem_cons_zero, List.getElem_cons_succ]
                  refine m_store_obj ti42 (hS := hS) (h := fun w9 hS => ?_)
                  try simp only [opv, n1, n2, n3, n4, Value.cells, Array.toArray_toList] at hS ⊢
                  refine s_go (s_assign) ?_
                  try simp only [opv, n1, n2, n3, n4, Value.cells]
                  refine x_nil ?_
                  refine hK8 _ _ ?_
                  refine x_ret ?_
                  refine r_cell_tmp_agg rfl Try.underlying42 ti42 (hS := hS) (hR := ?_)
                  exact ⟨by simp only [ofN, hI]; rfl, hS.ext_of⟩

theorem c_cnum1 (w0 : World) (g : Nat) (A : Option Addr) (c : Nat) (xs : List Int) (hc : xs.length ≤ c) (hw : Byt xs) (hn : xs.length ≤ 1000000000) (b : Nat) (m : Nat) (hm : m < 18446744073709551616) (hM : St (OwnB [.obj g (.cells #[.int .i64 0, .slice A xs.length c] 162 (0, 0)), .rd A 1 xs.length (xs.map (Value.int .u8)), .obj b (.cells #[.int .u64 (m : Int)] 40 (0, 0))]) w0 w0 [.obj g (.cells #[.int .i64 0, .slice A xs.length c] 162 (0, 0)), .rd A 1 xs.length (xs.map (Value.int .u8)), .obj b (.cells #[.int .u64 (m : Int)] 40 (0, 0))]) :
    CallR Try.prog 195 #[.pointer (some ⟨g, 0, none⟩), .pointer (some ⟨b, 0, none⟩)] w0 fun v w' => ∃ x : Nat, v = .int .u64 (x : Int) ∧ ((numS m 0 xs).2.1 = 0 → x = (numS m 0 xs).1) ∧ CuSt w0 w' [.obj g (.cells #[.int .i64 0, .slice A xs.length c] 162 (0, 0)), .rd A 1 xs.length (xs.map (Value.int .u8)), .obj b (.cells #[.int .u64 (m : Int)] 40 (0, 0))] g (numS m 0 xs).2.1 (numS m 0 xs).2.2 [.obj b (.cells #[.int .u64 (m : Int)] 40 (0, 0))] := by
  have hS := hM
  have hul := unvar_lt hw
  refine c_enter (l := [.pointer (some ⟨g, 0, none⟩), .pointer (some ⟨b, 0, none⟩), undef, undef, undef, undef, undef, undef, undef, undef, undef, undef, undef, undef, undef, undef, undef, undef, undef, undef, undef, undef, undef, undef, undef, undef, undef, undef, undef, undef, undef, undef]) Try.func195 rfl (by simp only [Try.ntmps195, List.size_toArray, List.length_cons, List.length_nil, Nat.reduceAdd, Nat.reduceSub, Array.replicate_succ, Array.replicate_zero, List.push_toArray, List.append_toArray, List.nil_append, List.cons_append]) ?_
  refine x_seq fun K1 hK1 => ?_
  refine x_region ?_
  refine s_go (s_assign) ?_
  try simp only [opv, n1, n2, n3, n4, Value.cells]
  refine x_nil ?_
  refine hK1 _ _ ?_
  refine x_seq fun K2 hK2 => ?_
  refine x_region ?_
  refine s_go (s_move) ?_
  try simp only [opv, n1, n2, n3, n4, Value.cells]
  refine s_go (s_nilCheck) ?_
  try simp only [opv, n1, n2, n3, n4, Value.cells]
  first | refine s_go (m_fieldAddr Try.underlying162 (hi := ti43)) ?_ | refine s_go (m_fieldAddr_rd Try.underlying162 (hi := ti43) (hS := hS)) ?_ | refine s_go (m_fieldAddr_vec Try.underlying162 (hi := ti43) (hS := hS)) ?_
  try simp only [opv, n1, n2, n3, n4, Value.cells, Nat.zero_add, Nat.add_zero, List.getElem_toArray, List.getElem_cons_zero, List.getElem_cons_succ]
  first | refine s_go (m_load_obj Try.underlying43 (hS := hS)) ?_ | refine s_go (m_load_bx Try.underlying43 (hS := hS)) ?_ | refine s_go (m_load_rd Try.underlying43 (hS := hS)) ?_ | refine s_go (m_load_vec Try.underlying43 (hS := hS)) ?_
  try simp only [opv, n1, n2, n3, n4, Value.cells, List.getElem_toArray, List.getElem_cons_zero, List.getElem_cons_succ]
  refine s_call en196 ?_
  try simp only [opv, n1, n2, n3, n4, Value.cells, List.map_toArray, List.map_cons, List.map_nil, List.append_toArray, List.cons_append, List.nil_append, Array.append_empty]
  refine CallR.mono (c_packUnvar _ A _ c xs (hS.hasRd (by repeat (first | exact Has.head | apply Has.tail))) rfl hw (by omega) hc) ?_
  rintro _ w1 ⟨rfl, hE1⟩
  replace hS := hS.ext hE1
  try simp only [opv, n1, n2, n3, n4, Value.cells]
  unfold UnvP
  refine s_go (s_move) ?_
  try simp only [opv, n1, n2, n3, n4, Value.cells]
  refine s_go (s_extract (hv := rfl)) ?_
  try simp only [List.getElem_toArray, List.getElem_cons_zero, List.getElem_cons_succ]
  try simp only [opv, n1, n2, n3, n4, Value.cells]
  refine s_go (s_extract (hv := rfl)) ?_
  try simp only [List.getElem_toArray, List.getElem_cons_zero, List.getElem_cons_succ]
  try simp only [opv, n1, n2, n3, n4, Value.cells]
  refine s_go (s_extract (hv := rfl)) ?_
  try simp only [List.getElem_toArray, List.getElem_cons_zero, List.getElem_cons_succ]
  try simp only [opv, n1, n2, n3, n4, Value.cells]
  refine s_go (s_assign) ?_
  try simp only [opv, n1, n2, n3, n4, Value.cells]
  refine s_go (s_assign) ?_
  try simp only [opv, n1, n2, n3, n4, Value.cells]
  refine s_go (s_assign) ?_
  try simp only [opv, n1, n2, n3, n4, Value.cells]
  refine x_nil ?_
  refine hK2 _ _ ?_
  refine x_seq fun K3 hK3 => ?_
  refine x_block ?_
  refine x_seq fun K4 hK4 => ?_
  refine x_region ?_
  refine s_go (s_move) ?_
  try simp only [opv, n1, n2, n3, n4, Value.cells]
  refine s_go (s_neq) ?_
  try simp only [opv, n1, n2, n3, n4, Value.cells]
  refine s_go (s_assign) ?_
  try simp only [opv, n1, n2, n3, n4, Value.cells]
  refine x_nil ?_
  refine hK4 _ _ ?_
  refine x_cond (ht := fun hc1 => ?_) (hf := fun hc1 => ?_)
  ·
    try simp only [decide_eq_true_eq, decide_eq_false_iff_not, Bool.not_eq_true', Bool.not_eq_false', Int.not_lt, Int.not_le, ne_eq, Decidable.not_not, bne_iff_ne, beq_iff_eq, not_true_eq_false, not_false_eq_true] at hc1
    have hN : numS m 0 xs = (0, ((unvar xs).2.2 : Int), []) := by simp only [numS, if_true]; rw [if_neg (by omega)]
    refine x_region ?_
    refine s_go (s_move) ?_
    try simp only [opv, n1, n2, n3, n4, Value.cells]
    refine s_go (s_move) ?_
    try simp only [opv, n1, n2, n3, n4, Value.cells]
    refine s_call en126 ?_
    try simp only [opv, n1, n2, n3, n4, Value.cells, List.map_toArray, List.map_cons, List.map_nil, List.append_toArray, List.cons_append, List.nil_append, Array.append_empty]
    refine CallR.mono (c_cerr _ g 0 A c xs hc ((unvar xs).2.2 : Int) (hS.owns (by repeat (first | exact Spl.nil | (apply Spl.cons (by repeat (first | exact Del.head | apply Del.tail))))))) ?_
    rintro _ w2 ⟨rfl, A2, c2, hcp2, hR2, hC2⟩
    have hY2 := RdIn.trans hM hS (by repeat (first | exact Spl.nil | (apply Spl.cons (by repeat (first | exact Del.head | apply Del.tail))))) hR2 (by intro s hs q hb; simp only [List.mem_cons, List.not_mem_nil, or_false] at hs; rcases hs with rfl | rfl <;> first | (simp [Res.reads] at hb; done) | exact .inr ⟨_, List.mem_cons_of_mem _ (List.mem_cons_self ..), .inr hb⟩ | exact hR1 q hb | exact hR2 q hb | exact hR3 q hb | exact hR4 q hb | exact hR5 q hb | exact hR6 q hb | exact hR7 q hb | exact hR8 q hb | exact hR9 q hb | exact hR10 q hb | exact hR11 q hb | exact hR12 q hb | exact hRa q hb | exact hRb q hb | exact hRc q hb | exact hRd q hb | exact hRe q hb | exact hRf q hb | exact hRg q hb | exact hRh q hb)
    replace hS := hS.frame (by repeat (first | exact Spl.nil | (apply Spl.cons (by repeat (first | exact Del.head | apply Del.tail))))) hC2 (by intro r hr b hb; simp only [List.mem_cons, List.not_mem_nil, or_false] at hr; rcases hr with rfl | rfl <;> first | (simp [Res.reads] at hb; done) | exact hR2 b hb)
    replace hR2 := hY2
    simp only [List.cons_append, List.nil_append] at hS
    simp only [errE0, errX0 hc1] at hS hcp2 hR2
    try simp only [opv, n1, n2, n3, n4, Value.cells]
    refine x_nil ?_
    refine hK3 _ _ ?_
    refine x_seq fun K5 hK5 => ?_
    refine x_region ?_
    refine s_go (s_move) ?_
    try simp only [opv, n1, n2, n3, n4, Value.cells]
    refine s_go (s_assign) ?_
    try simp only [opv, n1, n2, n3, n4, Value.cells]
    refine x_nil ?_
    refine hK5 _ _ ?_
    refine x_ret ?_
    refine r_tmp rfl ?_
    exact ⟨_, rfl, fun h => by rw [hN] at h; first | exact absurd h (by decide) | exact absurd h hc1 | rw [hN], _, _, by rw [hN]; assumption, by rw [hN]; assumption, by rw [hN]; exact hS.sel (by repeat (first | exact Sel.nil | (refine Sel.cons (by repeat (first | exact Del.head | apply Del.tail)) ?_)))⟩
  ·
    try simp only [decide_eq_true_eq, decide_eq_false_iff_not, Bool.not_eq_true', Bool.not_eq_false', Int.not_lt, Int.not_le, ne_eq, Decidable.not_not, bne_iff_ne, beq_iff_eq, not_true_eq_false, not_false_eq_true] at hc1
    have h0 : (unvar xs).2.2 = 0 := by omega
    refine x_seq fun K6 hK6 => ?_
    refine x_region ?_
    refine s_go (s_move) ?_
    try simp only [opv, n1, n2, n3, n4, Value.cells]
    first | refine s_go (m_load_obj Try.underlying40 (hS := hS)) ?_ | refine s_go (m_load_bx Try.underlying40 (hS := hS)) ?_ | refine s_go (m_load_rd Try.underlying40 (hS := hS)) ?_ | refine s_go (m_load_vec Try.underlying40 (hS := hS)) ?_
    try simp only [opv, n1, n2, n3, n4, Value.cells, List.getElem_toArray, List.getElem_cons_zero, List.getElem_cons_succ]
    refine s_go (s_gtr) ?_
    try simp only [opv, n1, n2, n3, n4, Value.cells]
    refine s_go (s_assign) ?_
    try simp only [opv, n1, n2, n3, n4, Value.cells]
    refine x_nil ?_
    refine hK6 _ _ ?_
    refine x_cond (ht := fun hc2 => ?_) (hf := fun hc2 => ?_)
    ·
      try simp only [decide_eq_true_eq, decide_eq_false_iff_not, Bool.not_eq_true', Bool.not_eq_false', Int.not_lt, Int.not_le, ne_eq, Decidable.not_not, bne_iff_ne, beq_iff_eq, not_true_eq_false, not_false_eq_true] at hc2
      have hN : numS m 0 xs = (0, 2, []) := by simp only [numS, if_true]; rw [if_pos h0, if_neg (by omega)]
      refine x_region ?_
      refine s_go (s_move) ?_
      try simp only [opv, n1, n2, n3, n4, Value.cells]
      refine s_call en126 ?_
      try simp only [opv, n1, n2, n3, n4, Value.cells, List.map_toArray, List.map_cons, List.map_nil, List.append_toArray, List.cons_append, List.nil_append, Array.append_empty]
      refine CallR.mono (c_cerr _ g 0 A c xs hc 2 (hS.owns (by repeat (first | exact Spl.nil | (apply Spl.cons (by repeat (first | exact Del.head | apply Del.tail))))))) ?_
      rintro _ w3 ⟨rfl, A3, c3, hcp3, hR3, hC3⟩
      have hY3 := RdIn.trans hM hS (by repeat (first | exact Spl.nil | (apply Spl.cons (by repeat (first | exact Del.head | apply Del.tail))))) hR3 (by intro s hs q hb; simp only [List.mem_cons, List.not_mem_nil, or_false] at hs; rcases hs with rfl | rfl <;> first | (simp [Res.reads] at hb; done) | exact .inr ⟨_, List.mem_cons_of_mem _ (List.mem_cons_self ..), .inr hb⟩ | exact hR1 q hb | exact hR2 q hb | exact hR3 q hb | exact hR4 q hb | exact hR5 q hb | exact hR6 q hb | exact hR7 q hb | exact hR8 q hb | exact hR9 q hb | exact hR10 q hb | exact hR11 q hb | exact hR12 q hb | exact hRa q hb | exact hRb q hb | exact hRc q hb | exact hRd q hb | exact hRe q hb | exact hRf q hb | exact hRg q hb | exact hRh q hb)
      replace hS := hS.frame (by repeat (first | exact Spl.nil | (apply Spl.cons (by repeat (first | exact Del.head | apply Del.tail))))) hC3 (by intro r hr b hb; simp only [List.mem_cons, List.not_mem_nil, or_false] at hr; rcases hr with rfl | rfl <;> first | (simp [Res.reads] at hb; done) | exact hR3 b hb)
      replace hR3 := hY3
      simp only [List.cons_append, List.nil_append] at hS
      simp only [errE0, errX0 (show ¬ (2 : Int) = 0 by decide)] at hS hcp3 hR3
      try simp only [opv, n1, n2, n3, n4, Value.cells]
      refine x_nil ?_
      refine hK3 _ _ ?_
      refine x_seq fun K7 hK7 => ?_
      refine x_region ?_
      refine s_go (s_move) ?_
      try simp only [opv, n1, n2, n3, n4, Value.cells]
      refine s_go (s_assign) ?_
      try simp only [opv, n1, n2, n3, n4, Value.cells]
      refine x_nil ?_
      refine hK7 _ _ ?_
      refine x_ret ?_
      refine r_tmp rfl ?_
      exact ⟨_, rfl, fun h => by rw [hN] at h; first | exact absurd h (by decide) | exact absurd h hc1 | rw [hN], _, _, by rw [hN]; assumption, by rw [hN]; assumption, by rw [hN]; exact hS.sel (by repeat (first | exact Sel.nil | (refine Sel.cons (by repeat (first | exact Del.head | apply Del.tail)) ?_)))⟩
    ·
      try simp only [decide_eq_true_eq, decide_eq_false_iff_not, Bool.not_eq_true', Bool.not_eq_false', Int.not_lt, Int.not_le, ne_eq, Decidable.not_not, bne_iff_ne, beq_iff_eq, not_true_eq_false, not_false_eq_true] at hc2
      have hN : numS m 0 xs = ((unvar xs).1, 0, xs.drop (unvar xs).2.1) := by simp only [numS, if_true]; rw [if_pos h0, if_pos (by omega)]
      have hub := (unvar_back hw h0).1
      refine x_region ?_
      refine s_go (s_move) ?_
      try simp only [opv, n1, n2, n3, n4, Value.cells]
      refine s_go (s_move) ?_
      try simp only [opv, n1, n2, n3, n4, Value.cells]
      refine s_call en197 ?_
      try simp only [opv, n1, n2, n3, n4, Value.cells, List.map_toArray, List.map_cons, List.map_nil, List.append_toArray, List.cons_append, List.nil_append, Array.append_empty]
      refine CallR.mono (c_ctake _ g 0 A c xs hc (unvar xs).2.1 (by omega) (hS.owns (by repeat (first | exact Spl.nil | (apply Spl.cons (by repeat (first | exact Del.head | apply Del.tail))))))) ?_
      rintro _ w4 ⟨A4, c4, B4, rfl, hcp4, hR4, hQ4, hC4⟩
      have hY4 := RdIn.trans hM hS (by repeat (first | exact Spl.nil | (apply Spl.cons (by repeat (first | exact Del.head | apply Del.tail))))) hR4 (by intro s hs q hb; simp only [List.mem_cons, List.not_mem_nil, or_false] at hs; rcases hs with rfl | rfl <;> first | (simp [Res.reads] at hb; done) | exact .inr ⟨_, List.mem_cons_of_mem _ (List.mem_cons_self ..), .inr hb⟩ | exact hR1 q hb | exact hR2 q hb | exact hR3 q hb | exact hR4 q hb | exact hR5 q hb | exact hR6 q hb | exact hR7 q hb | exact hR8 q hb | exact hR9 q hb | exact hR10 q hb | exact hR11 q hb | exact hR12 q hb | exact hRa q hb | exact hRb q hb | exact hRc q hb | exact hRd q hb | exact hRe q hb | exact hRf q hb | exact hRg q hb | exact hRh q hb)
      replace hS := hS.frame (by repeat (first | exact Spl.nil | (apply Spl.cons (by repeat (first | exact Del.head | apply Del.tail))))) hC4 (by intro r hr b hb; simp only [List.mem_cons, List.not_mem_nil, or_false] at hr; rcases hr with rfl | rfl | rfl <;> first | (simp [Res.reads] at hb; done) | exact hR4 b hb | exact hQ4 b hb)
      simp only [List.cons_append, List.nil_append] at hS
      replace hR4 := hY4
      rw [takeE, if_pos hub] at hS
      rw [takeX, if_pos hub] at hS hcp4 hR4
      try simp only [opv, n1, n2, n3, n4, Value.cells]
      refine x_nil ?_
      refine hK3 _ _ ?_
      refine x_seq fun K8 hK8 => ?_
      refine x_region ?_
      refine s_go (s_move) ?_
      try simp only [opv, n1, n2, n3, n4, Value.cells]
      refine s_go (s_assign) ?_
      try simp only [opv, n1, n2, n3, n4, Value.cells]
      refine x_nil ?_
      refine hK8 _ _ ?_
      refine x_ret ?_
      refine r_tmp rfl ?_
      exact ⟨_, rfl, fun h => by rw [hN] at h; first | exact absurd h (by decide) | exact absurd h hc1 | rw [hN], _, _, by rw [hN]; assumption, by rw [hN]; assumption, by rw [hN]; exact hS.sel (by repeat (first | exact Sel.nil | (refine Sel.cons (by repeat (first | exact Del.head | apply Del.tail)) ?_)))⟩

theorem c_onceN (w0 : World) (g : Nat) (e : Int) (A : Option Addr) (c : Nat) (xs : List Int) (hc : xs.length ≤ c) (hw : Byt xs) (hn : xs.length ≤ 1000000000) (b : Nat) (m : Nat) (hm : m < 18446744073709551616) (hM : St (OwnB [.obj g (.cells #[.int .i64 e, .slice A xs.length c] 162 (0, 0)), .rd A 1 xs.length (xs.map (Value.int .u8)), .obj b (.cells #[.int .u64 (m : Int)] 40 (0, 0))]) w0 w0 [.obj g (.cells #[.int .i64 e, .slice A xs.length c] 162 (0, 0)), .rd A 1 xs.length (xs.map (Value.int .u8)), .obj b (.cells #[.int .u64 (m : Int)] 40 (0, 0))]) :
    CallR Try.prog 194 #[.pointer (some ⟨g, 0, none⟩), .func (.func 195) #[] #[.pointer (some ⟨b, 0, none⟩)]] w0 fun v w' => v = .int .u64 ((numS m e xs).1 : Int) ∧ CuSt w0 w' [.obj g (.cells #[.int .i64 e, .slice A xs.length c] 162 (0, 0)), .rd A 1 xs.length (xs.map (Value.int .u8)), .obj b (.cells #[.int .u64 (m : Int)] 40 (0, 0))] g (numS m e xs).2.1 (numS m e xs).2.2 [.obj b (.cells #[.int .u64 (m : Int)] 40 (0, 0))] := by
  have hS := hM
  refine c_enter (l := [.pointer (some ⟨g, 0, none⟩), .func (.func 195) #[] #[.pointer (some ⟨b, 0, none⟩)], undef, undef, undef, undef, undef, undef, undef, undef, undef, undef, undef, undef, undef, undef, undef, undef]) Try.func194 rfl (by simp only [Try.ntmps194, List.size_toArray, List.length_cons, List.length_nil, Nat.reduceAdd, Nat.reduceSub, Array.replicate_succ, Array.replicate_zero, List.push_toArray, List.append_toArray, List.nil_append, List.cons_append]) ?_
  refine x_seq fun K1 hK1 => ?_
  refine x_region ?_
  refine s_go (s_assign) ?_
  try simp only [opv, n1, n2, n3, n4, Value.cells]
  refine x_nil ?_
  refine hK1 _ _ ?_
  refine x_seq fun K2 hK2 => ?_
  refine x_region ?_
  refine s_go (s_assign) ?_
  try simp only [opv, n1, n2, n3, n4, Value.cells]
  refine x_nil ?_
  refine hK2 _ _ ?_
  refine x_seq fun K3 hK3 => ?_
  refine x_seq fun K4 hK4 => ?_
  refine x_region ?_
  refine s_go (s_move) ?_
  try simp only [opv, n1, n2, n3, n4, Value.cells]
  refine s_call en204 ?_
  try simp only [opv, n1, n2, n3, n4, Value.cells, List.map_toArray, List.map_cons, List.map_nil, List.append_toArray, List.cons_append, List.nil_append, Array.append_empty]
  refine CallR.mono (c_cwell _ g (e) A c (xs) hc (hS.owns (by repeat (first | exact Spl.nil | (apply Spl.cons (by repeat (first | exact Del.head | apply Del.tail))))))) ?_
  rintro _ w1 ⟨rfl, hC1⟩
  replace hS := hS.frame (by repeat (first | exact Spl.nil | (apply Spl.cons (by repeat (first | exact Del.head | apply Del.tail))))) hC1 (by intro r hr g hg; simp only [List.mem_cons, List.not_mem_nil, or_false] at hr; rcases hr with rfl | rfl | rfl <;> first | (simp [Res.reads] at hg; done) | exact .inr ⟨_, by simp, .inr hg⟩)
  simp only [List.cons_append, List.nil_append] at hS
  try simp only [opv, n1, n2, n3, n4, Value.cells]
  refine s_go (s_not) ?_
  try simp only [opv, n1, n2, n3, n4, Value.cells]
  refine x_nil ?_
  refine hK4 _ _ ?_
  refine x_cond (ht := fun hc1 => ?_) (hf := fun hc1 => ?_)
  ·
    try simp only [decide_eq_true_eq, decide_eq_false_iff_not, Bool.not_eq_true', Bool.not_eq_false', Int.not_lt, Int.not_le, ne_eq, Decidable.not_not, bne_iff_ne, beq_iff_eq, not_true_eq_false, not_false_eq_true] at hc1
    have hN := numS_err (m := m) (xs := xs) (by simpa using hc1)
    refine x_seq fun K5 hK5 => ?_
    refine x_region ?_
    refine s_go (s_move) ?_
    try simp only [opv, n1, n2, n3, n4, Value.cells]
    refine s_go (s_assign) ?_
    try simp only [opv, n1, n2, n3, n4, Value.cells]
    refine x_nil ?_
    refine hK5 _ _ ?_
    refine x_ret ?_
    refine r_tmp rfl ?_
    exact ⟨by rw [hN]; rfl, A, c, by rw [hN]; exact hc, by rw [hN]; exact RdIn.self (List.mem_cons_of_mem _ (List.mem_cons_self ..)), by rw [hN]; exact hS.sel (by repeat (first | exact Sel.nil | (refine Sel.cons (by repeat (first | exact Del.head | apply Del.tail)) ?_)))⟩
  ·
    try simp only [decide_eq_true_eq, decide_eq_false_iff_not, Bool.not_eq_true', Bool.not_eq_false', Int.not_lt, Int.not_le, ne_eq, Decidable.not_not, bne_iff_ne, beq_iff_eq, not_true_eq_false, not_false_eq_true] at hc1
    have he0 : e = 0 := by simpa using hc1
    subst he0
    refine x_skip ?_
    refine hK3 _ _ ?_
    refine x_seq fun K6 hK6 => ?_
    refine x_seq fun K7 hK7 => ?_
    refine x_region ?_
    refine s_go (s_move) ?_
    try simp only [opv, n1, n2, n3, n4, Value.cells]
    refine s_go (s_move) ?_
    try simp only [opv, n1, n2, n3, n4, Value.cells]
    refine s_callv (hv := rfl) en195 ?_
    try simp only [opv, n1, n2, n3, n4, Value.cells, List.map_toArray, List.map_cons, List.map_nil, List.append_toArray, List.cons_append, List.nil_append, Array.append_empty]
    refine CallR.mono (c_cnum1 _ g A c xs hc hw hn b m hm (hS.owns (by repeat (first | exact Spl.nil | (apply Spl.cons (by repeat (first | exact Del.head | apply Del.tail))))))) ?_
    rintro _ w2 ⟨x, rfl, hx, A2, c2, hcp2, hR2, hC2⟩
    have hY2 := RdIn.trans hM hS (by repeat (first | exact Spl.nil | (apply Spl.cons (by repeat (first | exact Del.head | apply Del.tail))))) hR2 (by intro s hs q hb; simp only [List.mem_cons, List.not_mem_nil, or_false] at hs; rcases hs with rfl | rfl | rfl <;> first | (simp [Res.reads] at hb; done) | exact .inr ⟨_, List.mem_cons_of_mem _ (List.mem_cons_self ..), .inr hb⟩ | exact hR1 q hb | exact hR2 q hb | exact hR3 q hb | exact hR4 q hb | exact hR5 q hb | exact hR6 q hb | exact hR7 q hb | exact hR8 q hb | exact hR9 q hb | exact hR10 q hb | exact hR11 q hb | exact hR12 q hb | exact hRa q hb | exact hRb q hb | exact hRc q hb | exact hRd q hb | exact hRe q hb | exact hRf q hb | exact hRg q hb | exact hRh q hb)
    replace hS := hS.frame (by repeat (first | exact Spl.nil | (apply Spl.cons (by repeat (first | exact Del.head | apply Del.tail))))) hC2 (by intro r hr b hb; simp only [List.mem_cons, List.not_mem_nil, or_false] at hr; rcases hr with rfl | rfl | rfl <;> first | (simp [Res.reads] at hb; done) | exact hR2 b hb)
    replace hR2 := hY2
    simp only [List.cons_append, List.nil_append] at hS
    try simp only [opv, n1, n2, n3, n4, Value.cells]
    refine s_go (s_assign) ?_
    try simp only [opv, n1, n2, n3, n4, Value.cells]
    refine x_nil ?_
    refine hK7 _ _ ?_
    refine x_seq fun K8 hK8 => ?_
    refine x_region ?_
    refine s_go (s_move) ?_
    try simp only [opv, n1, n2, n3, n4, Value.cells]
    refine s_call en204 ?_
    try simp only [opv, n1, n2, n3, n4, Value.cells, List.map_toArray, List.map_cons, List.map_nil, List.append_toArray, List.cons_append, List.nil_append, Array.append_empty]
    refine CallR.mono (c_cwell _ g ((numS m 0 xs).2.1) A2 c2 ((numS m 0 xs).2.2) hcp2 (hS.owns (by repeat (first | exact Spl.nil | (apply Spl.cons (by repeat (first | exact Del.head | apply Del.tail))))))) ?_
    rintro _ w3 ⟨rfl, hC3⟩
    replace hS := hS.frame (by repeat (first | exact Spl.nil | (apply Spl.cons (by repeat (first | exact Del.head | apply Del.tail))))) hC3 (by intro r hr g hg; simp only [List.mem_cons, List.not_mem_nil, or_false] at hr; rcases hr with rfl | rfl | rfl <;> first | (simp [Res.reads] at hg; done) | exact .inr ⟨_, by simp, .inr hg⟩)
    simp only [List.cons_append, List.nil_append] at hS
    try simp only [opv, n1, n2, n3, n4, Value.cells]
    refine x_nil ?_
    refine hK8 _ _ ?_
    refine x_cond (ht := fun hc2 => ?_) (hf := fun hc2 => ?_)
    ·
      try simp only [decide_eq_true_eq, decide_eq_false_iff_not, Bool.not_eq_true', Bool.not_eq_false', Int.not_lt, Int.not_le, ne_eq, Decidable.not_not, bne_iff_ne, beq_iff_eq, not_true_eq_false, not_false_eq_true] at hc2
      have hx1 := hx (by simpa using hc2)
      refine x_seq fun K9 hK9 => ?_
      refine x_region ?_
      refine s_go (s_move) ?_
      try simp only [opv, n1, n2, n3, n4, Value.cells]
      refine s_go (s_assign) ?_
      try simp only [opv, n1, n2, n3, n4, Value.cells]
      refine x_nil ?_
      refine hK9 _ _ ?_
      refine x_ret ?_
      refine r_tmp rfl ?_
      exact ⟨by rw [← hx1]; rfl, _, _, by assumption, by assumption, hS.sel (by repeat (first | exact Sel.nil | (refine Sel.cons (by repeat (first | exact Del.head | apply Del.tail)) ?_)))⟩
    ·
      try simp only [decide_eq_true_eq, decide_eq_false_iff_not, Bool.not_eq_true', Bool.not_eq_false', Int.not_lt, Int.not_le, ne_eq, Decidable.not_not, bne_iff_ne, beq_iff_eq, not_true_eq_false, not_false_eq_true] at hc2
      have hx0 := numS_bad (by simpa using hc2)
      refine x_skip ?_
      refine hK6 _ _ ?_
      refine x_seq fun K10 hK10 => ?_
      refine x_region ?_
      refine s_go (s_move) ?_
      try simp only [opv, n1, n2, n3, n4, Value.cells]
      refine s_go (s_assign) ?_
      try simp only [opv, n1, n2, n3, n4, Value.cells]
      refine x_nil ?_
      refine hK10 _ _ ?_
      refine x_ret ?_
      refine r_tmp rfl ?_
      exact ⟨by rw [hx0]; rfl, _, _, by assumption, by assumption, hS.sel (by repeat (first | exact Sel.nil | (refine Sel.cons (by repeat (first | exact Del.head | apply Del.tail)) ?_)))⟩

theorem c_cNum (w0 : World) (g : Nat) (e : Int) (A : Option Addr) (c : Nat) (xs : List Int) (hc : xs.length ≤ c) (hw : Byt xs) (hn : xs.length ≤ 1000000000) (m : Nat) (hm : m < 18446744073709551616) (hM : St (OwnB [.obj g (.cells #[.int .i64 e, .slice A xs.length c] 162 (0, 0)), .rd A 1 xs.length (xs.map (Value.int .u8))]) w0 w0 [.obj g (.cells #[.int .i64 e, .slice A xs.length c] 162 (0, 0)), .rd A 1 xs.length (xs.map (Value.int .u8))]) :
    CallR Try.prog 122 #[.pointer (some ⟨g, 0, none⟩), .int .u64 (m : Int)] w0 fun v w' => v = .int .u64 ((numS m e xs).1 : Int) ∧ CuSt w0 w' [.obj g (.cells #[.int .i64 e, .slice A xs.length c] 162 (0, 0)), .rd A 1 xs.length (xs.map (Value.int .u8))] g (numS m e xs).2.1 (numS m e xs).2.2 [] := by
  have hS := hM
  refine c_enter (l := [.pointer (some ⟨g, 0, none⟩), .int .u64 (m : Int), undef, undef, undef, undef, undef, undef]) Try.func122 rfl (by simp only [Try.ntmps122, List.size_toArray, List.length_cons, List.length_nil, Nat.reduceAdd, Nat.reduceSub, Array.replicate_succ, Array.replicate_zero, List.push_toArray, List.append_toArray, List.nil_append, List.cons_append]) ?_
  refine x_seq fun K1 hK1 => ?_
  refine x_region ?_
  refine m_box hS (fun w1 g1 hS => ?_)
  try simp only [opv, n1, n2, n3, n4, Value.cells, Array.toArray_toList] at hS ⊢
  refine s_go (s_assign) ?_
  try simp only [opv, n1, n2, n3, n4, Value.cells]
  refine x_nil ?_
  refine hK1 _ _ ?_
  refine x_seq fun K2 hK2 => ?_
  refine x_region ?_
  refine s_go (s_move) ?_
  try simp only [opv, n1, n2, n3, n4, Value.cells]
  refine s_go (s_makeFunc) ?_
  try simp only [opv, n1, n2, n3, n4, Value.cells, List.map_toArray, List.map_cons, List.map_nil]
  refine s_call en194 ?_
  try simp only [opv, n1, n2, n3, n4, Value.cells, List.map_toArray, List.map_cons, List.map_nil, List.append_toArray, List.cons_append, List.nil_append, Array.append_empty]
  refine CallR.mono (c_onceN _ g e A c xs hc hw hn _ m hm (hS.owns (by repeat (first | exact Spl.nil | (apply Spl.cons (by repeat (first | exact Del.head | apply Del.tail))))))) ?_
  rintro _ w2 ⟨rfl, A2, c2, hcp2, hR2, hC2⟩
  have hY2 := RdIn.trans hM hS (by repeat (first | exact Spl.nil | (apply Spl.cons (by repeat (first | exact Del.head | apply Del.tail))))) hR2 (by intro s hs q hb; simp only [List.mem_cons, List.not_mem_nil, or_false] at hs; rcases hs with rfl | rfl | rfl <;> first | (simp [Res.reads] at hb; done) | exact .inr ⟨_, List.mem_cons_of_mem _ (List.mem_cons_self ..), .inr hb⟩ | exact hR1 q hb | exact hR2 q hb | exact hR3 q hb | exact hR4 q hb | exact hR5 q hb | exact hR6 q hb | exact hR7 q hb | exact hR8 q hb | exact hR9 q hb | exact hR10 q hb | exact hR11 q hb | exact hR12 q hb | exact hRa q hb | exact hRb q hb | exact hRc q hb | exact hRd q hb | exact hRe q hb | exact hRf q hb | exact hRg q hb | exact hRh q hb)
  replace hS := hS.frame (by repeat (first | exact Spl.nil | (apply Spl.cons (by repeat (first | exact Del.head | apply Del.tail))))) hC2 (by intro r hr b hb; simp only [List.mem_cons, List.not_mem_nil, or_false] at hr; rcases hr with rfl | rfl | rfl <;> first | (simp [Res.reads] at hb; done) | exact hR2 b hb)
  replace hR2 := hY2
  simp only [List.cons_append, List.nil_append] at hS
  try simp only [opv, n1, n2, n3, n4, Value.cells]
  refine s_go (s_assign) ?_
  try simp only [opv, n1, n2, n3, n4, Value.cells]
  refine x_nil ?_
  refine hK2 _ _ ?_
  refine x_ret ?_
  refine r_tmp rfl ?_
  exact ⟨rfl, _, _, by assumption, by assumption, hS.sel (by repeat (first | exact Sel.nil | (refine Sel.cons (by repeat (first | exact Del.head | apply Del.tail)) ?_)))⟩

theorem c_onceB (w0 : World) (g : Nat) (e : Int) (A : Option Addr) (c : Nat) (xs : List Int) (hc : xs.length ≤ c) (hw : Byt xs) (hn : xs.length ≤ 1000000000) (hM : St (OwnB [.obj g (.cells #[.int .i64 e, .slice A xs.length c] 162 (0, 0)), .rd A 1 xs.length (xs.map (Value.int .u8))]) w0 w0 [.obj g (.cells #[.int .i64 e, .slice A xs.length c] 162 (0, 0)), .rd A 1 xs.length (xs.map (Value.int .u8))]) :
    CallR Try.prog 198 #[.pointer (some ⟨g, 0, none⟩), .func (.func 199) #[] #[]] w0 fun v w' => v = .int .u8 (oneS e xs).1 ∧ CuSt w0 w' [.obj g (.cells #[.int .i64 e, .slice A xs.length c] 162 (0, 0)), .rd A 1 xs.length (xs.map (Value.int .u8))] g (oneS e xs).2.1 (oneS e xs).2.2 [] := by
  have hS := hM
  refine c_enter (l := [.pointer (some ⟨g, 0, none⟩), .func (.func 199) #[] #[], undef, undef, undef, undef, undef, undef, undef, undef, undef, undef, undef, undef, undef, undef, undef, undef]) Try.func198 rfl (by simp only [Try.ntmps198, List.size_toArray, List.length_cons, List.length_nil, Nat.reduceAdd, Nat.reduceSub, Array.replicate_succ, Array.replicate_zero, List.push_toArray, List.append_toArray, List.nil_append, List.cons_append]) ?_
  refine x_seq fun K1 hK1 => ?_
  refine x_region ?_
  refine s_go (s_assign) ?_
  try simp only [opv, n1, n2, n3, n4, Value.cells]
  refine x_nil ?_
  refine hK1 _ _ ?_
  refine x_seq fun K2 hK2 => ?_
  refine x_region ?_
  refine s_go (s_assign) ?_
  try simp only [opv, n1, n2, n3, n4, Value.cells]
  refine x_nil ?_
  refine hK2 _ _ ?_
  refine x_seq fun K3 hK3 => ?_
  refine x_seq fun K4 hK4 => ?_
  refine x_region ?_
  refine s_go (s_move) ?_
  try simp only [opv, n1, n2, n3, n4, Value.cells]
  refine s_call en204 ?_
  try simp only [opv, n1, n2, n3, n4, Value.cells, List.map_toArray, List.map_cons, List.map_nil, List.append_toArray, List.cons_append, List.nil_append, Array.append_empty]
  refine CallR.mono (c_cwell _ g (e) A c (xs) hc (hS.owns (by repeat (first | exact Spl.nil | (apply Spl.cons (by repeat (first | exact Del.head | apply Del.tail))))))) ?_
  rintro _ w1 ⟨rfl, hC1⟩
  replace hS := hS.frame (by repeat (first | exact Spl.nil | (apply Spl.cons (by repeat (first | exact Del.head | apply Del.tail))))) hC1 (by intro r hr g hg; simp only [List.mem_cons, List.not_mem_nil, or_false] at hr; rcases hr with rfl | rfl | rfl <;> first | (simp [Res.reads] at hg; done) | exact .inr ⟨_, by simp, .inr hg⟩)
  simp only [List.cons_append, List.nil_append] at hS
  try simp only [opv, n1, n2, n3, n4, Value.cells]
  refine s_go (s_not) ?_
  try simp only [opv, n1, n2, n3, n4, Value.cells]
  refine x_nil ?_
  refine hK4 _ _ ?_
  refine x_cond (ht := fun hc1 => ?_) (hf := fun hc1 => ?_)
  ·
    try simp only [decide_eq_true_eq, decide_eq_false_iff_not, Bool.not_eq_true', Bool.not_eq_false', Int.not_lt, Int.not_le, ne_eq, Decidable.not_not, bne_iff_ne, beq_iff_eq, not_true_eq_false, not_false_eq_true] at hc1
    have hN := oneS_err (xs := xs) (by simpa using hc1)
    refine x_seq fun K5 hK5 => ?_
    refine x_region ?_
    refine s_go (s_move) ?_
    try simp only [opv, n1, n2, n3, n4, Value.cells]
    refine s_go (s_assign) ?_
    try simp only [opv, n1, n2, n3, n4, Value.cells]
    refine x_nil ?_
    refine hK5 _ _ ?_
    refine x_ret ?_
    refine r_tmp rfl ?_
    exact ⟨by rw [hN]; rfl, A, c, by rw [hN]; exact hc, by rw [hN]; exact RdIn.self (List.mem_cons_of_mem _ (List.mem_cons_self ..)), by rw [hN]; exact hS.sel (by repeat (first | exact Sel.nil | (refine Sel.cons (by repeat (first | exact Del.head | apply Del.tail)) ?_)))⟩
  ·
    try simp only [decide_eq_true_eq, decide_eq_false_iff_not, Bool.not_eq_true', Bool.not_eq_false', Int.not_lt, Int.not_le, ne_eq, Decidable.not_not, bne_iff_ne, beq_iff_eq, not_true_eq_false, not_false_eq_true] at hc1
    have he0 : e = 0 := by simpa using hc1
    subst he0
    have hN := oneS_take xs
    refine x_skip ?_
    refine hK3 _ _ ?_
    refine x_seq fun K6 hK6 => ?_
    refine x_seq fun K7 hK7 => ?_
    refine x_region ?_
    refine s_go (s_move) ?_
    try simp only [opv, n1, n2, n3, n4, Value.cells]
    refine s_go (s_move) ?_
    try simp only [opv, n1, n2, n3, n4, Value.cells]
    refine s_callv (hv := rfl) en199 ?_
    try simp only [opv, n1, n2, n3, n4, Value.cells, List.map_toArray, List.map_cons, List.map_nil, List.append_toArray, List.cons_append, List.nil_append, Array.append_empty]
    refine CallR.mono (c_cone _ g 0 A c xs hc (hS.owns (by repeat (first | exact Spl.nil | (apply Spl.cons (by repeat (first | exact Del.head | apply Del.tail))))))) ?_
    rintro _ w2 ⟨rfl, A2, c2, hcp2, hR2, hC2⟩
    have hY2 := RdIn.trans hM hS (by repeat (first | exact Spl.nil | (apply Spl.cons (by repeat (first | exact Del.head | apply Del.tail))))) hR2 (by intro s hs q hb; simp only [List.mem_cons, List.not_mem_nil, or_false] at hs; rcases hs with rfl | rfl <;> first | (simp [Res.reads] at hb; done) | exact .inr ⟨_, List.mem_cons_of_mem _ (List.mem_cons_self ..), .inr hb⟩ | exact hR1 q hb | exact hR2 q hb | exact hR3 q hb | exact hR4 q hb | exact hR5 q hb | exact hR6 q hb | exact hR7 q hb | exact hR8 q hb | exact hR9 q hb | exact hR10 q hb | exact hR11 q hb | exact hR12 q hb | exact hRa q hb | exact hRb q hb | exact hRc q hb | exact hRd q hb | exact hRe q hb | exact hRf q hb | exact hRg q hb | exact hRh q hb)
    replace hS := hS.frame (by repeat (first | exact Spl.nil | (apply Spl.cons (by repeat (first | exact Del.head | apply Del.tail))))) hC2 (by intro r hr b hb; simp only [List.mem_cons, List.not_mem_nil, or_false] at hr; rcases hr with rfl | rfl <;> first | (simp [Res.reads] at hb; done) | exact hR2 b hb)
    replace hR2 := hY2
    simp only [List.cons_append, List.nil_append] at hS
    try simp only [opv, n1, n2, n3, n4, Value.cells]
    refine s_go (s_assign) ?_
    try simp only [opv, n1, n2, n3, n4, Value.cells]
    refine x_nil ?_
    refine hK7 _ _ ?_
    refine x_seq fun K8 hK8 => ?_
    refine x_region ?_
    refine s_go (s_move) ?_
    try simp only [opv, n1, n2, n3, n4, Value.cells]
    refine s_call en204 ?_
    try simp only [opv, n1, n2, n3, n4, Value.cells, List.map_toArray, List.map_cons, List.map_nil, List.append_toArray, List.cons_append, List.nil_append, Array.append_empty]
    refine CallR.mono (c_cwell _ g (takeE 0 xs 1) A2 c2 (takeX 0 xs 1) hcp2 (hS.owns (by repeat (first | exact Spl.nil | (apply Spl.cons (by repeat (first | exact Del.head | apply Del.tail))))))) ?_
    rintro _ w3 ⟨rfl, hC3⟩
    replace hS := hS.frame (by repeat (first | exact Spl.nil | (apply Spl.cons (by repeat (first | exact Del.head | apply Del.tail))))) hC3 (by intro r hr g hg; simp only [List.mem_cons, List.not_mem_nil, or_false] at hr; rcases hr with rfl | rfl | rfl <;> first | (simp [Res.reads] at hg; done) | exact .inr ⟨_, by simp, .inr hg⟩)
    simp only [List.cons_append, List.nil_append] at hS
    try simp only [opv, n1, n2, n3, n4, Value.cells]
    refine x_nil ?_
    refine hK8 _ _ ?_
    refine x_cond (ht := fun hc2 => ?_) (hf := fun hc2 => ?_)
    ·
      try simp only [decide_eq_true_eq, decide_eq_false_iff_not, Bool.not_eq_true', Bool.not_eq_false', Int.not_lt, Int.not_le, ne_eq, Decidable.not_not, bne_iff_ne, beq_iff_eq, not_true_eq_false, not_false_eq_true] at hc2
      refine x_seq fun K9 hK9 => ?_
      refine x_region ?_
      refine s_go (s_move) ?_
      try simp only [opv, n1, n2, n3, n4, Value.cells]
      refine s_go (s_assign) ?_
      try simp only [opv, n1, n2, n3, n4, Value.cells]
      refine x_nil ?_
      refine hK9 _ _ ?_
      refine x_ret ?_
      refine r_tmp rfl ?_
      exact ⟨by rw [hN]; rfl, _, _, by rw [hN]; assumption, by rw [hN]; assumption, by rw [hN]; exact hS.sel (by repeat (first | exact Sel.nil | (refine Sel.cons (by repeat (first | exact Del.head | apply Del.tail)) ?_)))⟩
    ·
      try simp only [decide_eq_true_eq, decide_eq_false_iff_not, Bool.not_eq_true', Bool.not_eq_false', Int.not_lt, Int.not_le, ne_eq, Decidable.not_not, bne_iff_ne, beq_iff_eq, not_true_eq_false, not_false_eq_true] at hc2
      have hx0 := oneS_bad (e := 0) (xs := xs) (by rw [hN]; simpa using hc2)
      rw [hN] at hx0
      refine x_skip ?_
      refine hK6 _ _ ?_
      refine x_seq fun K10 hK10 => ?_
      refine x_region ?_
      refine s_go (s_move) ?_
      try simp only [opv, n1, n2, n3, n4, Value.cells]
      refine s_go (s_assign) ?_
      try simp only [opv, n1, n2, n3, n4, Value.cells]
      refine x_nil ?_
      refine hK10 _ _ ?_
      refine x_ret ?_
      refine r_tmp rfl ?_
      exact ⟨by rw [hN]; exact (congrArg (Value.int .u8) hx0).symm, _, _, by rw [hN]; assumption, by rw [hN]; assumption, by rw [hN]; exact hS.sel (by repeat (first | exact Sel.nil | (refine Sel.cons (by repeat (first | exact Del.head | apply Del.tail)) ?_)))⟩

theorem c_cByte (w0 : World) (g : Nat) (e : Int) (A : Option Addr) (c : Nat) (xs : List Int) (hc : xs.length ≤ c) (hw : Byt xs) (hn : xs.length ≤ 1000000000) (hM : St (OwnB [.obj g (.cells #[.int .i64 e, .slice A xs.length c] 162 (0, 0)), .rd A 1 xs.length (xs.map (Value.int .u8))]) w0 w0 [.obj g (.cells #[.int .i64 e, .slice A xs.length c] 162 (0, 0)), .rd A 1 xs.length (xs.map (Value.int .u8))]) :
    CallR Try.prog 123 #[.pointer (some ⟨g, 0, none⟩)] w0 fun v w' => v = .int .u8 (oneS e xs).1 ∧ CuSt w0 w' [.obj g (.cells #[.int .i64 e, .slice A xs.length c] 162 (0, 0)), .rd A 1 xs.length (xs.map (Value.int .u8))] g (oneS e xs).2.1 (oneS e xs).2.2 [] := by
  have hS := hM
  refine c_enter (l := [.pointer (some ⟨g, 0, none⟩), undef, undef, undef, undef]) Try.func123 rfl (by simp only [Try.ntmps123, List.size_toArray, List.length_cons, List.length_nil, Nat.reduceAdd, Nat.reduceSub, Array.replicate_succ, Array.replicate_zero, List.push_toArray, List.append_toArray, List.nil_append, List.cons_append]) ?_
  refine x_seq fun K1 hK1 => ?_
  refine x_region ?_
  refine s_go (s_assign) ?_
  try simp only [opv, n1, n2, n3, n4, Value.cells]
  refine x_nil ?_
  refine hK1 _ _ ?_
  refine x_seq fun K2 hK2 => ?_
  refine x_region ?_
  refine s_go (s_move) ?_
  try simp only [opv, n1, n2, n3, n4, Value.cells]
  refine s_call en198 ?_
  try simp only [opv, n1, n2, n3, n4, Value.cells, List.map_toArray, List.map_cons, List.map_nil, List.append_toArray, List.cons_append, List.nil_append, Array.append_empty]
  refine CallR.mono (c_onceB _ g e A c xs hc hw hn (hS.owns (by repeat (first | exact Spl.nil | (apply Spl.cons (by repeat (first | exact Del.head | apply Del.tail))))))) ?_
  rintro _ w1 ⟨rfl, A1, c1, hcp1, hR1, hC1⟩
  have hY1 := RdIn.trans hM hS (by repeat (first | exact Spl.nil | (apply Spl.cons (by repeat (first | exact Del.head | apply Del.tail))))) hR1 (by intro s hs q hb; simp only [List.mem_cons, List.not_mem_nil, or_false] at hs; rcases hs with rfl | rfl <;> first | (simp [Res.reads] at hb; done) | exact .inr ⟨_, List.mem_cons_of_mem _ (List.mem_cons_self ..), .inr hb⟩ | exact hR1 q hb | exact hR2 q hb | exact hR3 q hb | exact hR4 q hb | exact hR5 q hb | exact hR6 q hb | exact hR7 q hb | exact hR8 q hb | exact hR9 q hb | exact hR10 q hb | exact hR11 q hb | exact hR12 q hb | exact hRa q hb | exact hRb q hb | exact hRc q hb | exact hRd q hb | exact hRe q hb | exact hRf q hb | exact hRg q hb | exact hRh q hb)
  replace hS := hS.frame (by repeat (first | exact Spl.nil | (apply Spl.cons (by repeat (first | exact Del.head | apply Del.tail))))) hC1 (by intro r hr b hb; simp only [List.mem_cons, List.not_mem_nil, or_false] at hr; rcases hr with rfl | rfl <;> first | (simp [Res.reads] at hb; done) | exact hR1 b hb)
  replace hR1 := hY1
  simp only [List.cons_append, List.nil_append] at hS
  try simp only [opv, n1, n2, n3, n4, Value.cells]
  refine s_go (s_assign) ?_
  try simp only [opv, n1, n2, n3, n4, Value.cells]
  refine x_nil ?_
  refine hK2 _ _ ?_
  refine x_ret ?_
  refine r_tmp rfl ?_
  exact ⟨rfl, _, _, by assumption, by assumption, hS.sel (by repeat (first | exact Sel.nil | (refine Sel.cons (by repeat (first | exact Del.head | apply Del.tail)) ?_)))⟩
end Go.Proofs.Ytpjpaipkkcengaa
