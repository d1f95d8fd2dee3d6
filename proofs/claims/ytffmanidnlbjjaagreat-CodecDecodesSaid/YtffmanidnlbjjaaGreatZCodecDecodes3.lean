/- Rules, plain words and walks that the claim leans on: Df, Dg, Vz, Vo, Prows, Pwire, Dh, Di, Dj. -/
import Derived.Test.YtffmanidnlbjjaaGreatZCodecDecodes2
set_option linter.unusedSimpArgs false
set_option linter.unusedVariables false
set_option linter.unusedSimpArgs false
set_option linter.unusedVariables false
set_option maxHeartbeats 800000
set_option maxRecDepth 100000
namespace Go.Proofs.YtffmanidnlbjjaaGreat
open Go.RowKit

theorem RdIn.trans {w0 w1 : World} {M M1 L R : List Res} {A : Option Addr} {n : Nat} (_hM : St (OwnB M) w0 w0 M) (hS : St (OwnB M) w0 w1 L) (hs : Spl M1 L R) (h : RdIn w1 M1 A n) (hm : ∀ s ∈ M1, ∀ b, s.reads = some b → w0.heap.size ≤ b ∨ ∃ s ∈ M, s.own = some b ∨ s.reads = some b) : RdIn w0 M A n := fun b hb => by
  have hz := hS.keep.size
  rcases h b hb with h1 | ⟨s, h1, h2 | h2⟩
  · exact .inl (by omega)
  · rcases hS.own s (hs.mem h1) b h2 with ⟨r, hr, ho⟩ | h3
    · exact .inr ⟨r, hr, .inl ho⟩
    · exact .inl h3
  · exact hm s h1 b h2
theorem RdIn.self {w0 : World} {M : List Res} {A : Option Addr} {n : Nat} {xs : List Value} (hm : Res.rd A 1 n xs ∈ M) : RdIn w0 M A n := fun b hb => .inr ⟨_, hm, .inr hb⟩
theorem errE0 (x : Int) : errE 0 x = x := rfl
theorem errX0 {x : Int} {xs : List Int} (h : ¬ x = 0) : errX 0 x xs = [] := by simp [errX, errE, h]
theorem numS_bad {m : Nat} {e : Int} {xs : List Int} (h : ¬ (numS m e xs).2.1 = 0) : (numS m e xs).1 = 0 := by
  unfold numS at h ⊢
  repeat' split
  all_goals first | rfl | (exfalso; simp_all)
theorem namS_bad {e : Int} {xs : List Int} (h : ¬ (namS e xs).2.1 = 0) : (namS e xs).1 = nm0 := by
  unfold namS at h ⊢
  repeat' split
  all_goals first | rfl | (exfalso; simp_all)
theorem oneS_bad {e : Int} {xs : List Int} (h : ¬ (oneS e xs).2.1 = 0) : (oneS e xs).1 = 0 := by
  unfold oneS at h ⊢
  repeat' split
  all_goals first | rfl | (exfalso; simp_all)
theorem oneS_take (xs : List Int) : oneS 0 xs = (oneV xs, takeE 0 xs 1, takeX 0 xs 1) := by
  unfold oneS oneV takeE takeX
  simp only [if_true]
  split
  · rfl
  · rw [errE0, errX0 (by decide)]
/-- a text as a name -/
def ofN (ns : List Int) : List Int × Int := if isN ns then (padN ns, 0) else (nm0, 3)
theorem padN_le {ns : List Int} (h : ns.length ≤ 8) : padN ns = ns ++ nm0.drop ns.length := by
  rw [padN, List.take_of_length_le h, nm0, List.drop_replicate]
theorem nsz_pad : ∀ {ns : List Int} {k : Nat}, (∀ x ∈ ns, ¬ x = 0) → nsz (ns ++ List.replicate k 0) = ns.length
  | [], 0, _ => rfl
  | [], k + 1, _ => by simp [List.replicate_succ, nsz]
  | x :: ns, k, h => by
    have h1 := h x (by simp)
    have := nsz_pad (ns := ns) (k := k) (fun y hy => h y (by simp [hy]))
    simp [nsz, h1, this]
theorem nmTxt_pad {ns : List Int} (h : isN ns = true) : nmTxt (padN ns) = ns := by
  simp only [isN, Bool.and_eq_true, decide_eq_true_eq, List.all_eq_true] at h
  obtain ⟨⟨⟨h1, h2⟩, h3⟩, h4⟩ := h
  have hz : ∀ x ∈ ns, ¬ x = 0 := fun x hx e => by have := h4 x hx; subst e; revert this; decide
  rw [nmTxt, padN, List.take_of_length_le h2, nsz_pad hz]
  exact List.take_left
theorem ofN_bad {ns : List Int} (h : 8 < ns.length ∨ ns.length = 0 ∨ ¬ nmTxt (padN ns) = ns ∨ nright (padN ns) = false) : isN ns = false := by
  rw [Bool.eq_false_iff]
  intro hI
  have hI' := hI
  simp only [isN, Bool.and_eq_true, decide_eq_true_eq] at hI'
  have ht := nmTxt_pad hI
  rcases h with h | h | h | h
  · omega
  · omega
  · exact h ht
  · rw [nright_eq (padN_len ns), ht, hI] at h
    simp at h
theorem ofN_good {ns : List Int} (h1 : nmTxt (padN ns) = ns) (h2 : nright (padN ns) = true) : isN ns = true := by
  rw [nright_eq (padN_len ns), h1] at h2
  simpa using h2
theorem max_u64 {m : Int} (h : m ≤ 9223372036854775807) : IntKind.u64.wrap (max m 0) = ((m.toNat : Nat) : Int) := by
  rw [Int.ofNat_toNat]; exact wr_u64 (by omega) (by omega)

theorem c_nameOf (ns : List Int) (hw : Byt ns) (hn : ns.length ≤ 1000)  (w0 : World) :
    CallR Tryz.prog 254 #[.string (strOf ns)] w0 fun v w' => v = .tuple #[.agg (ic .u8 (ofN ns).1), .int .i64 (ofN ns).2] ∧ Ext w0 w' := by
 have hS : St NoB w0 w0 [] := St.start w0
 refine c_enter (l := [.string (strOf ns), undef, undef, undef, undef, undef, undef, undef, undef, undef, undef, undef, undef, undef, undef, undef, undef, undef, undef, undef, undef, undef, undef, undef, undef, undef]) Tryz.func254 rfl (by simp only [Tryz.ntmps254, List.size_toArray, List.length_cons, List.length_nil, Nat.reduceAdd, Nat.reduceSub, Array.replicate_succ, Array.replicate_zero, List.push_toArray, List.append_toArray, List.nil_append, List.cons_append]) ?_
 refine x_seq fun K1 hK1 => ?_
 refine x_region ?_
 refine m_alloc ti41 hS (fun w1 g1 hS => ?_)
 try simp only [opv, nZ, Value.cells, Array.toArray_toList] at hS ⊢
 replace hS : St NoB w0 w1 [.obj g1 (.cells (ic .u8 nm0) 41 (0, 0))] := hS
 refine s_go (s_assign) ?_
 try simp only [opv, nZ, Value.cells]
 refine x_nil ?_
 refine hK1 _ _ ?_
 refine x_seq fun K2 hK2 => ?_
 refine x_seq fun K3 hK3 => ?_
 refine x_region ?_
 have h0l : nm0.length = 8 := rfl
 have hpl := padN_len ns
 have hpb := padN_byt hw
 refine s_go (s_move) ?_
 try simp only [opv, nZ, Value.cells]
 refine s_go (s_len_str Tryz.underlying9) ?_
 try simp only [opv, nZ, Value.cells]
 rw [strOf_size]
 refine s_go (s_gtr) ?_
 try simp only [opv, nZ, Value.cells]
 refine s_go (s_move) ?_
 try simp only [opv, nZ, Value.cells]
 refine s_part 7 rfl (fun hp1 => ?_) (fun hp1 => ?_)
 ·
  try simp only [n3, n4]
  try simp only [dZ, ne_eq] at hp1
  refine g_off (yi (t := 7) rfl rfl) ?_
  try simp only [opv, nZ, Value.cells]
  refine g_off (yi (t := 7) rfl rfl) ?_
  try simp only [opv, nZ, Value.cells]
  refine g_off (yi (t := 7) rfl rfl) ?_
  try simp only [opv, nZ, Value.cells]
  refine g_off (yi (t := 7) rfl rfl) ?_
  try simp only [opv, nZ, Value.cells]
  refine s_go (s_pick_t) ?_
  try simp only [opv, nZ, Value.cells]
  refine s_go (s_move) ?_
  try simp only [opv, nZ, Value.cells]
  refine g_off (yi (t := 13) rfl rfl) ?_
  try simp only [opv, nZ, Value.cells]
  refine g_off (yi (t := 13) rfl rfl) ?_
  try simp only [opv, nZ, Value.cells]
  refine g_off (yi (t := 13) rfl rfl) ?_
  try simp only [opv, nZ, Value.cells]
  refine g_off (yi (t := 13) rfl rfl) ?_
  try simp only [opv, nZ, Value.cells]
  refine s_go (s_pick_t) ?_
  try simp only [opv, nZ, Value.cells]
  refine s_go (s_move) ?_
  try simp only [opv, nZ, Value.cells]
  refine g_off (yi (t := 19) rfl rfl) ?_
  try simp only [opv, nZ, Value.cells]
  refine g_off (yi (t := 19) rfl rfl) ?_
  try simp only [opv, nZ, Value.cells]
  refine g_off (yi (t := 19) rfl rfl) ?_
  try simp only [opv, nZ, Value.cells]
  refine s_go (s_pick_t) ?_
  try simp only [opv, nZ, Value.cells]
  refine x_nil ?_
  refine hK3 _ _ ?_
  refine x_cond_t (h := ?_)
  have hI : isN ns = false := ofN_bad (by exact .inl (by omega))
  refine x_seq fun K4 hK4 => ?_
  refine x_region ?_
  refine s_go (s_build_arr (cells := #[.int .u8 0, .int .u8 0, .int .u8 0, .int .u8 0, .int .u8 0, .int .u8 0, .int .u8 0, .int .u8 0]) Tryz.underlying41 ti41 ti5 (hc := by simp only [List.map_toArray, List.map_cons, List.map_nil, opv, nZ, Value.cells, List.toList_toArray]; (repeat (refine fill_cons rfl rfl (Nat.le_of_ble_eq_true rfl) ?_)); rfl)) ?_
  try simp only [opv, nZ, Value.cells]
  refine m_store_obj ti41 (hS := hS) (h := fun w2 hS => ?_)
  try simp only [opv, nZ, Value.cells, Array.toArray_toList] at hS ⊢
  refine s_go (s_assign) ?_
  try simp only [opv, nZ, Value.cells]
  refine x_nil ?_
  refine hK4 _ _ ?_
  refine x_ret ?_
  refine r_cell_tmp_agg rfl Tryz.underlying41 ti41 (hS := hS) (hR := ?_)
  exact ⟨by simp only [ofN, hI]; rfl, hS.ext_of⟩
 ·
  try simp only [n3, n4]
  try simp only [dZ, ne_eq] at hp1
  refine g_on (yi (t := 7) rfl rfl) ?_
  refine s_go (s_slice_whole Tryz.underlying41 ti5) ?_
  try simp only [opv, nZ, Value.cells]
  refine g_on (yi (t := 7) rfl rfl) ?_
  refine s_go (s_move) ?_
  try simp only [opv, nZ, Value.cells]
  refine g_on (yi (t := 7) rfl rfl) ?_
  refine m_copy_str Tryz.underlying73 ti5 (ns := ns) (cs := nm0) (hw := hw) (hl := by omega) (hc := rfl) (hS := hS) (h := fun w3 hS => ?_)
  try simp only [opv, nZ, Value.cells, Array.toArray_toList] at hS ⊢
  rw [← padN_le (by omega)] at hS
  refine g_on (yi (t := 7) rfl rfl) ?_
  refine s_go (s_eql) ?_
  try simp only [opv, nZ, Value.cells]
  refine s_go (s_pick_f) ?_
  try simp only [opv, nZ, Value.cells]
  refine s_go (s_move) ?_
  try simp only [opv, nZ, Value.cells]
  refine s_part 13 rfl (fun hp2 => ?_) (fun hp2 => ?_)
  ·
   try simp only [n3, n4]
   try simp only [dZ, ne_eq] at hp2
   refine g_off (yi (t := 13) rfl rfl) ?_
   try simp only [opv, nZ, Value.cells]
   refine g_off (yi (t := 13) rfl rfl) ?_
   try simp only [opv, nZ, Value.cells]
   refine g_off (yi (t := 13) rfl rfl) ?_
   try simp only [opv, nZ, Value.cells]
   refine g_off (yi (t := 13) rfl rfl) ?_
   try simp only [opv, nZ, Value.cells]
   refine s_go (s_pick_t) ?_
   try simp only [opv, nZ, Value.cells]
   refine s_go (s_move) ?_
   try simp only [opv, nZ, Value.cells]
   refine g_off (yi (t := 19) rfl rfl) ?_
   try simp only [opv, nZ, Value.cells]
   refine g_off (yi (t := 19) rfl rfl) ?_
   try simp only [opv, nZ, Value.cells]
   refine g_off (yi (t := 19) rfl rfl) ?_
   try simp only [opv, nZ, Value.cells]
   refine s_go (s_pick_t) ?_
   try simp only [opv, nZ, Value.cells]
   refine x_nil ?_
   refine hK3 _ _ ?_
   refine x_cond_t (h := ?_)
   have hI : isN ns = false := ofN_bad (by exact .inr (.inl (by omega)))
   refine x_seq fun K5 hK5 => ?_
   refine x_region ?_
   refine s_go (s_build_arr (cells := #[.int .u8 0, .int .u8 0, .int .u8 0, .int .u8 0, .int .u8 0, .int .u8 0, .int .u8 0, .int .u8 0]) Tryz.underlying41 ti41 ti5 (hc := by simp only [List.map_toArray, List.map_cons, List.map_nil, opv, nZ, Value.cells, List.toList_toArray]; (repeat (refine fill_cons rfl rfl (Nat.le_of_ble_eq_true rfl) ?_)); rfl)) ?_
   try simp only [opv, nZ, Value.cells]
   refine m_store_obj ti41 (hS := hS) (h := fun w4 hS => ?_)
   try simp only [opv, nZ, Value.cells, Array.toArray_toList] at hS ⊢
   refine s_go (s_assign) ?_
   try simp only [opv, nZ, Value.cells]
   refine x_nil ?_
   refine hK5 _ _ ?_
   refine x_ret ?_
   refine r_cell_tmp_agg rfl Tryz.underlying41 ti41 (hS := hS) (hR := ?_)
   exact ⟨by simp only [ofN, hI]; rfl, hS.ext_of⟩
  ·
   try simp only [n3, n4]
   try simp only [dZ, ne_eq] at hp2
   refine g_on (yi (t := 13) rfl rfl) ?_
   refine s_go (m_load_row Tryz.underlying41 (hi := ti41) (hS := hS)) ?_
   try simp only [opv, nZ, Value.cells, List.getElem_toArray, List.getElem_cons_zero, List.getElem_cons_succ]
   refine g_on (yi (t := 13) rfl rfl) ?_
   refine s_call en199 ?_
   try simp only [opv, nZ, Value.cells, List.map_toArray, List.map_cons, List.map_nil, List.append_toArray, List.cons_append, List.nil_append, Array.append_empty]
   refine CallR.mono (c_nameText _ (by assumption) (by assumption) _) ?_
   rintro _ w5 ⟨rfl, hE5⟩
   replace hS := hS.ext hE5
   try simp only [opv, nZ, Value.cells]
   refine g_on (yi (t := 13) rfl rfl) ?_
   refine s_go (s_move) ?_
   try simp only [opv, nZ, Value.cells]
   refine g_on (yi (t := 13) rfl rfl) ?_
   refine s_go (s_neq_string Tryz.underlying9) ?_
   try simp only [opv, nZ, Value.cells]
   rw [strOf_beq (nmTxt_byt hpb) hw]
   refine s_go (s_pick_f) ?_
   try simp only [opv, nZ, Value.cells]
   refine s_go (s_move) ?_
   try simp only [opv, nZ, Value.cells]
   refine s_part 19 rfl (fun hp3 => ?_) (fun hp3 => ?_)
   ·
    try simp only [n3, n4]
    try simp only [dZ, ne_eq] at hp3
    refine g_off (yi (t := 19) rfl rfl) ?_
    try simp only [opv, nZ, Value.cells]
    refine g_off (yi (t := 19) rfl rfl) ?_
    try simp only [opv, nZ, Value.cells]
    refine g_off (yi (t := 19) rfl rfl) ?_
    try simp only [opv, nZ, Value.cells]
    refine s_go (s_pick_t) ?_
    try simp only [opv, nZ, Value.cells]
    refine x_nil ?_
    refine hK3 _ _ ?_
    refine x_cond_t (h := ?_)
    have hI : isN ns = false := ofN_bad (by exact .inr (.inr (.inl (by assumption))))
    refine x_seq fun K6 hK6 => ?_
    refine x_region ?_
    refine s_go (s_build_arr (cells := #[.int .u8 0, .int .u8 0, .int .u8 0, .int .u8 0, .int .u8 0, .int .u8 0, .int .u8 0, .int .u8 0]) Tryz.underlying41 ti41 ti5 (hc := by simp only [List.map_toArray, List.map_cons, List.map_nil, opv, nZ, Value.cells, List.toList_toArray]; (repeat (refine fill_cons rfl rfl (Nat.le_of_ble_eq_true rfl) ?_)); rfl)) ?_
    try simp only [opv, nZ, Value.cells]
    refine m_store_obj ti41 (hS := hS) (h := fun w6 hS => ?_)
    try simp only [opv, nZ, Value.cells, Array.toArray_toList] at hS ⊢
    refine s_go (s_assign) ?_
    try simp only [opv, nZ, Value.cells]
    refine x_nil ?_
    refine hK6 _ _ ?_
    refine x_ret ?_
    refine r_cell_tmp_agg rfl Tryz.underlying41 ti41 (hS := hS) (hR := ?_)
    exact ⟨by simp only [ofN, hI]; rfl, hS.ext_of⟩
   ·
    try simp only [n3, n4]
    try simp only [dZ, ne_eq] at hp3
    refine g_on (yi (t := 19) rfl rfl) ?_
    refine s_go (m_load_row Tryz.underlying41 (hi := ti41) (hS := hS)) ?_
    try simp only [opv, nZ, Value.cells, List.getElem_toArray, List.getElem_cons_zero, List.getElem_cons_succ]
    refine g_on (yi (t := 19) rfl rfl) ?_
    refine s_call en72 ?_
    try simp only [opv, nZ, Value.cells, List.map_toArray, List.map_cons, List.map_nil, List.append_toArray, List.cons_append, List.nil_append, Array.append_empty]
    refine CallR.mono (c_nameRight _ (by assumption) (by assumption) _) ?_
    rintro _ w7 ⟨rfl, hE7⟩
    replace hS := hS.ext hE7
    try simp only [opv, nZ, Value.cells]
    refine g_on (yi (t := 19) rfl rfl) ?_
    refine s_go (s_not) ?_
    try simp only [opv, nZ, Value.cells]
    refine s_go (s_pick_f) ?_
    try simp only [opv, nZ, Value.cells]
    refine x_nil ?_
    refine hK3 _ _ ?_
    refine x_cond (ht := fun hc4 => ?_) (hf := fun hc4 => ?_)
    ·
     try simp only [dZ, ne_eq, bne_iff_ne, beq_iff_eq] at hc4
     have hI : isN ns = false := ofN_bad (by exact .inr (.inr (.inr (by simpa using hc4))))
     refine x_seq fun K7 hK7 => ?_
     refine x_region ?_
     refine s_go (s_build_arr (cells := #[.int .u8 0, .int .u8 0, .int .u8 0, .int .u8 0, .int .u8 0, .int .u8 0, .int .u8 0, .int .u8 0]) Tryz.underlying41 ti41 ti5 (hc := by simp only [List.map_toArray, List.map_cons, List.map_nil, opv, nZ, Value.cells, List.toList_toArray]; (repeat (refine fill_cons rfl rfl (Nat.le_of_ble_eq_true rfl) ?_)); rfl)) ?_
     try simp only [opv, nZ, Value.cells]
     refine m_store_obj ti41 (hS := hS) (h := fun w8 hS => ?_)
     try simp only [opv, nZ, Value.cells, Array.toArray_toList] at hS ⊢
     refine s_go (s_assign) ?_
     try simp only [opv, nZ, Value.cells]
     refine x_nil ?_
     refine hK7 _ _ ?_
     refine x_ret ?_
     refine r_cell_tmp_agg rfl Tryz.underlying41 ti41 (hS := hS) (hR := ?_)
     exact ⟨by simp only [ofN, hI]; rfl, hS.ext_of⟩
    ·
     try simp only [dZ, ne_eq, bne_iff_ne, beq_iff_eq] at hc4
     have hI : isN ns = true := ofN_good (by assumption) (by assumption)
     refine x_skip ?_
     refine hK2 _ _ ?_
     refine x_seq fun K8 hK8 => ?_
     refine x_region ?_
     refine s_go (m_load_row Tryz.underlying41 (hi := ti41) (hS := hS)) ?_
     try simp only [opv, nZ, Value.cells, List.getElem_toArray, List.getElem_cons_zero, List.getElem_cons_succ]
     refine m_store_obj ti41 (hS := hS) (h := fun w9 hS => ?_)
     try simp only [opv, nZ, Value.cells, Array.toArray_toList] at hS ⊢
     refine s_go (s_assign) ?_
     try simp only [opv, nZ, Value.cells]
     refine x_nil ?_
     refine hK8 _ _ ?_
     refine x_ret ?_
     refine r_cell_tmp_agg rfl Tryz.underlying41 ti41 (hS := hS) (hR := ?_)
     exact ⟨by simp only [ofN, hI]; rfl, hS.ext_of⟩
theorem c_cnum1 (w0 : World) (g : Nat) (A : Option Addr) (c : Nat) (xs : List Int) (hc : xs.length ≤ c) (hw : Byt xs) (hn : xs.length ≤ 1000000000) (b : Nat) (m : Nat) (hm : m < 18446744073709551616) (hM : St (OwnB [.obj g (.cells #[.int .i64 0, .slice A xs.length c] 189 (0, 0)), .rd A 1 xs.length (xs.map (Value.int .u8)), .obj b (.cells #[.int .u64 (m : Int)] 84 (0, 0))]) w0 w0 [.obj g (.cells #[.int .i64 0, .slice A xs.length c] 189 (0, 0)), .rd A 1 xs.length (xs.map (Value.int .u8)), .obj b (.cells #[.int .u64 (m : Int)] 84 (0, 0))]) :
    CallR Tryz.prog 152 #[.pointer (some ⟨g, 0, none⟩), .pointer (some ⟨b, 0, none⟩)] w0 fun v w' => ∃ x : Nat, v = .int .u64 (x : Int) ∧ ((numS m 0 xs).2.1 = 0 → x = (numS m 0 xs).1) ∧ CuSt w0 w' [.obj g (.cells #[.int .i64 0, .slice A xs.length c] 189 (0, 0)), .rd A 1 xs.length (xs.map (Value.int .u8)), .obj b (.cells #[.int .u64 (m : Int)] 84 (0, 0))] g (numS m 0 xs).2.1 (numS m 0 xs).2.2 [.obj b (.cells #[.int .u64 (m : Int)] 84 (0, 0))] := by
 have hS := hM
 have hul := unvar_lt hw
 refine c_enter (l := [.pointer (some ⟨g, 0, none⟩), .pointer (some ⟨b, 0, none⟩), undef, undef, undef, undef, undef, undef, undef, undef, undef, undef, undef, undef, undef, undef, undef, undef, undef, undef, undef, undef, undef, undef, undef, undef, undef, undef, undef, undef, undef, undef]) Tryz.func152 rfl (by simp only [Tryz.ntmps152, List.size_toArray, List.length_cons, List.length_nil, Nat.reduceAdd, Nat.reduceSub, Array.replicate_succ, Array.replicate_zero, List.push_toArray, List.append_toArray, List.nil_append, List.cons_append]) ?_
 refine x_seq fun K1 hK1 => ?_
 refine x_region ?_
 refine s_go (s_assign) ?_
 try simp only [opv, nZ, Value.cells]
 refine x_nil ?_
 refine hK1 _ _ ?_
 refine x_seq fun K2 hK2 => ?_
 refine x_region ?_
 refine s_go (s_move) ?_
 try simp only [opv, nZ, Value.cells]
 refine s_go (s_nilCheck) ?_
 try simp only [opv, nZ, Value.cells]
 refine s_go (m_fieldAddr Tryz.underlying189 (hi := ti73)) ?_
 try simp only [opv, nZ, Value.cells, Nat.zero_add, Nat.add_zero, List.getElem_toArray, List.getElem_cons_zero, List.getElem_cons_succ]
 refine s_go (m_load_obj Tryz.underlying73 (hS := hS)) ?_
 try simp only [opv, nZ, Value.cells, List.getElem_toArray, List.getElem_cons_zero, List.getElem_cons_succ]
 refine s_call en153 ?_
 try simp only [opv, nZ, Value.cells, List.map_toArray, List.map_cons, List.map_nil, List.append_toArray, List.cons_append, List.nil_append, Array.append_empty]
 refine CallR.mono (c_packUnvar _ A _ c xs (hS.hasRd (by repeat (first | exact Has.head | apply Has.tail))) rfl hw (by omega) hc) ?_
 rintro _ w1 ⟨rfl, hE1⟩
 replace hS := hS.ext hE1
 try simp only [opv, nZ, Value.cells]
 unfold UnvP
 refine s_go (s_move) ?_
 try simp only [opv, nZ, Value.cells]
 refine s_go (s_extract (hv := rfl)) ?_
 try simp only [List.getElem_toArray, List.getElem_cons_zero, List.getElem_cons_succ]
 try simp only [opv, nZ, Value.cells]
 refine s_go (s_extract (hv := rfl)) ?_
 try simp only [List.getElem_toArray, List.getElem_cons_zero, List.getElem_cons_succ]
 try simp only [opv, nZ, Value.cells]
 refine s_go (s_extract (hv := rfl)) ?_
 try simp only [List.getElem_toArray, List.getElem_cons_zero, List.getElem_cons_succ]
 try simp only [opv, nZ, Value.cells]
 refine s_go (s_assign) ?_
 try simp only [opv, nZ, Value.cells]
 refine s_go (s_assign) ?_
 try simp only [opv, nZ, Value.cells]
 refine s_go (s_assign) ?_
 try simp only [opv, nZ, Value.cells]
 refine x_nil ?_
 refine hK2 _ _ ?_
 refine x_seq fun K3 hK3 => ?_
 refine x_block ?_
 refine x_seq fun K4 hK4 => ?_
 refine x_region ?_
 refine s_go (s_move) ?_
 try simp only [opv, nZ, Value.cells]
 refine s_go (s_neq) ?_
 try simp only [opv, nZ, Value.cells]
 refine s_go (s_assign) ?_
 try simp only [opv, nZ, Value.cells]
 refine x_nil ?_
 refine hK4 _ _ ?_
 refine x_cond (ht := fun hc1 => ?_) (hf := fun hc1 => ?_)
 ·
  try simp only [dZ, ne_eq, bne_iff_ne, beq_iff_eq] at hc1
  have hN : numS m 0 xs = (0, ((unvar xs).2.2 : Int), []) := by simp only [numS, if_true]; rw [if_neg (by omega)]
  refine x_region ?_
  refine s_go (s_move) ?_
  try simp only [opv, nZ, Value.cells]
  refine s_go (s_move) ?_
  try simp only [opv, nZ, Value.cells]
  refine s_call en154 ?_
  try simp only [opv, nZ, Value.cells, List.map_toArray, List.map_cons, List.map_nil, List.append_toArray, List.cons_append, List.nil_append, Array.append_empty]
  refine CallR.mono (c_cerr _ g 0 A c xs hc ((unvar xs).2.2 : Int) (hS.owns (by repeat (first | exact Spl.nil | (apply Spl.cons (by repeat (exact Del.head))))))) ?_
  rintro _ w2 ⟨rfl, A2, c2, hcp2, hR2, hC2⟩
  have hY2 := RdIn.trans hM hS (by repeat (first | exact Spl.nil | (apply Spl.cons (by repeat (exact Del.head))))) hR2 (by intro s hs q hb; simp only [List.mem_cons, List.not_mem_nil, or_false] at hs; rcases hs with rfl | rfl <;> first | (simp [Res.reads] at hb; done) | exact .inr ⟨_, List.mem_cons_of_mem _ (List.mem_cons_self ..), .inr hb⟩)
  replace hS := hS.frame (by repeat (first | exact Spl.nil | (apply Spl.cons (by repeat (exact Del.head))))) hC2 (by intro r hr b hb; simp only [List.mem_cons, List.not_mem_nil, or_false] at hr; rcases hr with rfl | rfl <;> first | (simp [Res.reads] at hb; done) | exact hR2 b hb)
  replace hR2 := hY2
  simp only [List.cons_append, List.nil_append] at hS
  simp only [errE0, errX0 hc1] at hS hcp2 hR2
  try simp only [opv, nZ, Value.cells]
  refine x_nil ?_
  refine hK3 _ _ ?_
  refine x_seq fun K5 hK5 => ?_
  refine x_region ?_
  refine s_go (s_move) ?_
  try simp only [opv, nZ, Value.cells]
  refine s_go (s_assign) ?_
  try simp only [opv, nZ, Value.cells]
  refine x_nil ?_
  refine hK5 _ _ ?_
  refine x_ret ?_
  refine r_tmp rfl ?_
  exact ⟨_, rfl, fun h => by rw [hN] at h; exact absurd h hc1, _, _, by rw [hN]; assumption, by rw [hN]; assumption, by rw [hN]; exact hS.sel (by repeat (first | exact Sel.nil | (refine Sel.cons (by repeat (exact Del.head)) ?_)))⟩
 ·
  try simp only [dZ, ne_eq, bne_iff_ne, beq_iff_eq] at hc1
  have h0 : (unvar xs).2.2 = 0 := by omega
  refine x_seq fun K6 hK6 => ?_
  refine x_region ?_
  refine s_go (s_move) ?_
  try simp only [opv, nZ, Value.cells]
  refine s_go (m_load_obj Tryz.underlying84 (hS := hS)) ?_
  try simp only [opv, nZ, Value.cells, List.getElem_toArray, List.getElem_cons_zero, List.getElem_cons_succ]
  refine s_go (s_gtr) ?_
  try simp only [opv, nZ, Value.cells]
  refine s_go (s_assign) ?_
  try simp only [opv, nZ, Value.cells]
  refine x_nil ?_
  refine hK6 _ _ ?_
  refine x_cond (ht := fun hc2 => ?_) (hf := fun hc2 => ?_)
  ·
   try simp only [dZ, ne_eq, bne_iff_ne, beq_iff_eq] at hc2
   have hN : numS m 0 xs = (0, 2, []) := by simp only [numS, if_true]; rw [if_pos h0, if_neg (by omega)]
   refine x_region ?_
   refine s_go (s_move) ?_
   try simp only [opv, nZ, Value.cells]
   refine s_call en154 ?_
   try simp only [opv, nZ, Value.cells, List.map_toArray, List.map_cons, List.map_nil, List.append_toArray, List.cons_append, List.nil_append, Array.append_empty]
   refine CallR.mono (c_cerr _ g 0 A c xs hc 2 (hS.owns (by repeat (first | exact Spl.nil | (apply Spl.cons (by repeat (exact Del.head))))))) ?_
   rintro _ w3 ⟨rfl, A3, c3, hcp3, hR3, hC3⟩
   have hY3 := RdIn.trans hM hS (by repeat (first | exact Spl.nil | (apply Spl.cons (by repeat (exact Del.head))))) hR3 (by intro s hs q hb; simp only [List.mem_cons, List.not_mem_nil, or_false] at hs; rcases hs with rfl | rfl <;> first | (simp [Res.reads] at hb; done) | exact .inr ⟨_, List.mem_cons_of_mem _ (List.mem_cons_self ..), .inr hb⟩)
   replace hS := hS.frame (by repeat (first | exact Spl.nil | (apply Spl.cons (by repeat (exact Del.head))))) hC3 (by intro r hr b hb; simp only [List.mem_cons, List.not_mem_nil, or_false] at hr; rcases hr with rfl | rfl <;> first | (simp [Res.reads] at hb; done) | exact hR3 b hb)
   replace hR3 := hY3
   simp only [List.cons_append, List.nil_append] at hS
   simp only [errE0, errX0 (show ¬ (2 : Int) = 0 by decide)] at hS hcp3 hR3
   try simp only [opv, nZ, Value.cells]
   refine x_nil ?_
   refine hK3 _ _ ?_
   refine x_seq fun K7 hK7 => ?_
   refine x_region ?_
   refine s_go (s_move) ?_
   try simp only [opv, nZ, Value.cells]
   refine s_go (s_assign) ?_
   try simp only [opv, nZ, Value.cells]
   refine x_nil ?_
   refine hK7 _ _ ?_
   refine x_ret ?_
   refine r_tmp rfl ?_
   exact ⟨_, rfl, fun h => by rw [hN] at h; exact absurd h (by decide), _, _, by rw [hN]; assumption, by rw [hN]; assumption, by rw [hN]; exact hS.sel (by repeat (first | exact Sel.nil | (refine Sel.cons (by repeat (exact Del.head)) ?_)))⟩
  ·
   try simp only [dZ, ne_eq, bne_iff_ne, beq_iff_eq] at hc2
   have hN : numS m 0 xs = ((unvar xs).1, 0, xs.drop (unvar xs).2.1) := by simp only [numS, if_true]; rw [if_pos h0, if_pos (by omega)]
   have hub := (unvar_back hw h0).1
   refine x_region ?_
   refine s_go (s_move) ?_
   try simp only [opv, nZ, Value.cells]
   refine s_go (s_move) ?_
   try simp only [opv, nZ, Value.cells]
   refine s_call en155 ?_
   try simp only [opv, nZ, Value.cells, List.map_toArray, List.map_cons, List.map_nil, List.append_toArray, List.cons_append, List.nil_append, Array.append_empty]
   refine CallR.mono (c_ctake _ g 0 A c xs hc (unvar xs).2.1 (by omega) (hS.owns (by repeat (first | exact Spl.nil | (apply Spl.cons (by repeat (exact Del.head))))))) ?_
   rintro _ w4 ⟨A4, c4, B4, rfl, hcp4, hR4, hQ4, hC4⟩
   have hY4 := RdIn.trans hM hS (by repeat (first | exact Spl.nil | (apply Spl.cons (by repeat (exact Del.head))))) hR4 (by intro s hs q hb; simp only [List.mem_cons, List.not_mem_nil, or_false] at hs; rcases hs with rfl | rfl <;> first | (simp [Res.reads] at hb; done) | exact .inr ⟨_, List.mem_cons_of_mem _ (List.mem_cons_self ..), .inr hb⟩)
   replace hS := hS.frame (by repeat (first | exact Spl.nil | (apply Spl.cons (by repeat (exact Del.head))))) hC4 (by intro r hr b hb; simp only [List.mem_cons, List.not_mem_nil, or_false] at hr; rcases hr with rfl | rfl | rfl <;> first | (simp [Res.reads] at hb; done) | exact hR4 b hb | exact hQ4 b hb)
   simp only [List.cons_append, List.nil_append] at hS
   replace hR4 := hY4
   rw [takeE, if_pos hub] at hS
   rw [takeX, if_pos hub] at hS hcp4 hR4
   try simp only [opv, nZ, Value.cells]
   refine x_nil ?_
   refine hK3 _ _ ?_
   refine x_seq fun K8 hK8 => ?_
   refine x_region ?_
   refine s_go (s_move) ?_
   try simp only [opv, nZ, Value.cells]
   refine s_go (s_assign) ?_
   try simp only [opv, nZ, Value.cells]
   refine x_nil ?_
   refine hK8 _ _ ?_
   refine x_ret ?_
   refine r_tmp rfl ?_
   exact ⟨_, rfl, fun h => by rw [hN] at h; rw [hN], _, _, by rw [hN]; assumption, by rw [hN]; assumption, by rw [hN]; exact hS.selA⟩
theorem c_onceN (w0 : World) (g : Nat) (e : Int) (A : Option Addr) (c : Nat) (xs : List Int) (hc : xs.length ≤ c) (hw : Byt xs) (hn : xs.length ≤ 1000000000) (b : Nat) (m : Nat) (hm : m < 18446744073709551616) (hM : St (OwnB [.obj g (.cells #[.int .i64 e, .slice A xs.length c] 189 (0, 0)), .rd A 1 xs.length (xs.map (Value.int .u8)), .obj b (.cells #[.int .u64 (m : Int)] 84 (0, 0))]) w0 w0 [.obj g (.cells #[.int .i64 e, .slice A xs.length c] 189 (0, 0)), .rd A 1 xs.length (xs.map (Value.int .u8)), .obj b (.cells #[.int .u64 (m : Int)] 84 (0, 0))]) :
    CallR Tryz.prog 151 #[.pointer (some ⟨g, 0, none⟩), .func (.func 152) #[] #[.pointer (some ⟨b, 0, none⟩)]] w0 fun v w' => v = .int .u64 ((numS m e xs).1 : Int) ∧ CuSt w0 w' [.obj g (.cells #[.int .i64 e, .slice A xs.length c] 189 (0, 0)), .rd A 1 xs.length (xs.map (Value.int .u8)), .obj b (.cells #[.int .u64 (m : Int)] 84 (0, 0))] g (numS m e xs).2.1 (numS m e xs).2.2 [.obj b (.cells #[.int .u64 (m : Int)] 84 (0, 0))] := by
 have hS := hM
 refine c_enter (l := [.pointer (some ⟨g, 0, none⟩), .func (.func 152) #[] #[.pointer (some ⟨b, 0, none⟩)], undef, undef, undef, undef, undef, undef, undef, undef, undef, undef, undef, undef, undef, undef, undef, undef]) Tryz.func151 rfl (by simp only [Tryz.ntmps151, List.size_toArray, List.length_cons, List.length_nil, Nat.reduceAdd, Nat.reduceSub, Array.replicate_succ, Array.replicate_zero, List.push_toArray, List.append_toArray, List.nil_append, List.cons_append]) ?_
 refine x_seq fun K1 hK1 => ?_
 refine x_region ?_
 refine s_go (s_assign) ?_
 try simp only [opv, nZ, Value.cells]
 refine x_nil ?_
 refine hK1 _ _ ?_
 refine x_seq fun K2 hK2 => ?_
 refine x_region ?_
 refine s_go (s_assign) ?_
 try simp only [opv, nZ, Value.cells]
 refine x_nil ?_
 refine hK2 _ _ ?_
 refine x_seq fun K3 hK3 => ?_
 refine x_seq fun K4 hK4 => ?_
 refine x_region ?_
 refine s_go (s_move) ?_
 try simp only [opv, nZ, Value.cells]
 refine s_call en192 ?_
 try simp only [opv, nZ, Value.cells, List.map_toArray, List.map_cons, List.map_nil, List.append_toArray, List.cons_append, List.nil_append, Array.append_empty]
 refine CallR.mono (c_cwell _ g (e) A c (xs) hc (hS.owns (by repeat (first | exact Spl.nil | (apply Spl.cons (by repeat (exact Del.head))))))) ?_
 rintro _ w1 ⟨rfl, hC1⟩
 replace hS := hS.frame (by repeat (first | exact Spl.nil | (apply Spl.cons (by repeat (exact Del.head))))) hC1 (by intro r hr g hg; simp only [List.mem_cons, List.not_mem_nil, or_false] at hr; rcases hr with rfl | rfl | rfl <;> first | (simp [Res.reads] at hg; done) | exact .inr ⟨_, by simp, .inr hg⟩)
 simp only [List.cons_append, List.nil_append] at hS
 try simp only [opv, nZ, Value.cells]
 refine s_go (s_not) ?_
 try simp only [opv, nZ, Value.cells]
 refine x_nil ?_
 refine hK4 _ _ ?_
 refine x_cond (ht := fun hc1 => ?_) (hf := fun hc1 => ?_)
 ·
  try simp only [dZ, ne_eq, bne_iff_ne, beq_iff_eq] at hc1
  have hN := numS_err (m := m) (xs := xs) (by simpa using hc1)
  refine x_seq fun K5 hK5 => ?_
  refine x_region ?_
  refine s_go (s_move) ?_
  try simp only [opv, nZ, Value.cells]
  refine s_go (s_assign) ?_
  try simp only [opv, nZ, Value.cells]
  refine x_nil ?_
  refine hK5 _ _ ?_
  refine x_ret ?_
  refine r_tmp rfl ?_
  exact ⟨by rw [hN]; rfl, A, c, by rw [hN]; exact hc, by rw [hN]; exact RdIn.self (List.mem_cons_of_mem _ (List.mem_cons_self ..)), by rw [hN]; exact hS.sel (by repeat (first | exact Sel.nil | (refine Sel.cons (by repeat (exact Del.head)) ?_)))⟩
 ·
  try simp only [dZ, ne_eq, bne_iff_ne, beq_iff_eq] at hc1
  have he0 : e = 0 := by simpa using hc1
  subst he0
  refine x_skip ?_
  refine hK3 _ _ ?_
  refine x_seq fun K6 hK6 => ?_
  refine x_seq fun K7 hK7 => ?_
  refine x_region ?_
  refine s_go (s_move) ?_
  try simp only [opv, nZ, Value.cells]
  refine s_go (s_move) ?_
  try simp only [opv, nZ, Value.cells]
  refine s_callv (hv := rfl) en152 ?_
  try simp only [opv, nZ, Value.cells, List.map_toArray, List.map_cons, List.map_nil, List.append_toArray, List.cons_append, List.nil_append, Array.append_empty]
  refine CallR.mono (c_cnum1 _ g A c xs hc hw hn b m hm (hS.owns (by repeat (first | exact Spl.nil | (apply Spl.cons (by repeat (exact Del.head))))))) ?_
  rintro _ w2 ⟨x, rfl, hx, A2, c2, hcp2, hR2, hC2⟩
  have hY2 := RdIn.trans hM hS (by repeat (first | exact Spl.nil | (apply Spl.cons (by repeat (exact Del.head))))) hR2 (by intro s hs q hb; simp only [List.mem_cons, List.not_mem_nil, or_false] at hs; rcases hs with rfl | rfl | rfl <;> first | (simp [Res.reads] at hb; done) | exact .inr ⟨_, List.mem_cons_of_mem _ (List.mem_cons_self ..), .inr hb⟩)
  replace hS := hS.frame (by repeat (first | exact Spl.nil | (apply Spl.cons (by repeat (exact Del.head))))) hC2 (by intro r hr b hb; simp only [List.mem_cons, List.not_mem_nil, or_false] at hr; rcases hr with rfl | rfl | rfl <;> first | (simp [Res.reads] at hb; done) | exact hR2 b hb)
  replace hR2 := hY2
  simp only [List.cons_append, List.nil_append] at hS
  try simp only [opv, nZ, Value.cells]
  refine s_go (s_assign) ?_
  try simp only [opv, nZ, Value.cells]
  refine x_nil ?_
  refine hK7 _ _ ?_
  refine x_seq fun K8 hK8 => ?_
  refine x_region ?_
  refine s_go (s_move) ?_
  try simp only [opv, nZ, Value.cells]
  refine s_call en192 ?_
  try simp only [opv, nZ, Value.cells, List.map_toArray, List.map_cons, List.map_nil, List.append_toArray, List.cons_append, List.nil_append, Array.append_empty]
  refine CallR.mono (c_cwell _ g ((numS m 0 xs).2.1) A2 c2 ((numS m 0 xs).2.2) hcp2 (hS.owns (by repeat (first | exact Spl.nil | (apply Spl.cons (by repeat (exact Del.head))))))) ?_
  rintro _ w3 ⟨rfl, hC3⟩
  replace hS := hS.frame (by repeat (first | exact Spl.nil | (apply Spl.cons (by repeat (exact Del.head))))) hC3 (by intro r hr g hg; simp only [List.mem_cons, List.not_mem_nil, or_false] at hr; rcases hr with rfl | rfl | rfl <;> first | (simp [Res.reads] at hg; done) | exact .inr ⟨_, by simp, .inr hg⟩)
  simp only [List.cons_append, List.nil_append] at hS
  try simp only [opv, nZ, Value.cells]
  refine x_nil ?_
  refine hK8 _ _ ?_
  refine x_cond (ht := fun hc2 => ?_) (hf := fun hc2 => ?_)
  ·
   try simp only [dZ, ne_eq, bne_iff_ne, beq_iff_eq] at hc2
   have hx1 := hx (by simpa using hc2)
   refine x_seq fun K9 hK9 => ?_
   refine x_region ?_
   refine s_go (s_move) ?_
   try simp only [opv, nZ, Value.cells]
   refine s_go (s_assign) ?_
   try simp only [opv, nZ, Value.cells]
   refine x_nil ?_
   refine hK9 _ _ ?_
   refine x_ret ?_
   refine r_tmp rfl ?_
   exact ⟨by rw [← hx1]; rfl, _, _, by assumption, by assumption, hS.sel (by repeat (first | exact Sel.nil | (refine Sel.cons (by repeat (exact Del.head)) ?_)))⟩
  ·
   try simp only [dZ, ne_eq, bne_iff_ne, beq_iff_eq] at hc2
   have hx0 := numS_bad (by simpa using hc2)
   refine x_skip ?_
   refine hK6 _ _ ?_
   refine x_seq fun K10 hK10 => ?_
   refine x_region ?_
   refine s_go (s_move) ?_
   try simp only [opv, nZ, Value.cells]
   refine s_go (s_assign) ?_
   try simp only [opv, nZ, Value.cells]
   refine x_nil ?_
   refine hK10 _ _ ?_
   refine x_ret ?_
   refine r_tmp rfl ?_
   exact ⟨by rw [hx0]; rfl, _, _, by assumption, by assumption, hS.sel (by repeat (first | exact Sel.nil | (refine Sel.cons (by repeat (exact Del.head)) ?_)))⟩
theorem c_cNum (w0 : World) (g : Nat) (e : Int) (A : Option Addr) (c : Nat) (xs : List Int) (hc : xs.length ≤ c) (hw : Byt xs) (hn : xs.length ≤ 1000000000) (m : Nat) (hm : m < 18446744073709551616) (hM : St (OwnB [.obj g (.cells #[.int .i64 e, .slice A xs.length c] 189 (0, 0)), .rd A 1 xs.length (xs.map (Value.int .u8))]) w0 w0 [.obj g (.cells #[.int .i64 e, .slice A xs.length c] 189 (0, 0)), .rd A 1 xs.length (xs.map (Value.int .u8))]) :
    CallR Tryz.prog 87 #[.pointer (some ⟨g, 0, none⟩), .int .u64 (m : Int)] w0 fun v w' => v = .int .u64 ((numS m e xs).1 : Int) ∧ CuSt w0 w' [.obj g (.cells #[.int .i64 e, .slice A xs.length c] 189 (0, 0)), .rd A 1 xs.length (xs.map (Value.int .u8))] g (numS m e xs).2.1 (numS m e xs).2.2 [] := by
 have hS := hM
 refine c_enter (l := [.pointer (some ⟨g, 0, none⟩), .int .u64 (m : Int), undef, undef, undef, undef, undef, undef]) Tryz.func87 rfl (by simp only [Tryz.ntmps87, List.size_toArray, List.length_cons, List.length_nil, Nat.reduceAdd, Nat.reduceSub, Array.replicate_succ, Array.replicate_zero, List.push_toArray, List.append_toArray, List.nil_append, List.cons_append]) ?_
 refine x_seq fun K1 hK1 => ?_
 refine x_region ?_
 refine m_box hS (fun w1 g1 hS => ?_)
 try simp only [opv, nZ, Value.cells, Array.toArray_toList] at hS ⊢
 refine s_go (s_assign) ?_
 try simp only [opv, nZ, Value.cells]
 refine x_nil ?_
 refine hK1 _ _ ?_
 refine x_seq fun K2 hK2 => ?_
 refine x_region ?_
 refine s_go (s_move) ?_
 try simp only [opv, nZ, Value.cells]
 refine s_go (s_makeFunc) ?_
 try simp only [opv, nZ, Value.cells, List.map_toArray, List.map_cons, List.map_nil]
 refine s_call en151 ?_
 try simp only [opv, nZ, Value.cells, List.map_toArray, List.map_cons, List.map_nil, List.append_toArray, List.cons_append, List.nil_append, Array.append_empty]
 refine CallR.mono (c_onceN _ g e A c xs hc hw hn _ m hm (hS.owns (by repeat (first | exact Spl.nil | (apply Spl.cons (by repeat (first | exact Del.head | apply Del.tail))))))) ?_
 rintro _ w2 ⟨rfl, A2, c2, hcp2, hR2, hC2⟩
 have hY2 := RdIn.trans hM hS (by repeat (first | exact Spl.nil | (apply Spl.cons (by repeat (first | exact Del.head | apply Del.tail))))) hR2 (by intro s hs q hb; simp only [List.mem_cons, List.not_mem_nil, or_false] at hs; rcases hs with rfl | rfl | rfl <;> first | (simp [Res.reads] at hb; done) | exact .inr ⟨_, List.mem_cons_of_mem _ (List.mem_cons_self ..), .inr hb⟩)
 replace hS := hS.frame (by repeat (first | exact Spl.nil | (apply Spl.cons (by repeat (first | exact Del.head | apply Del.tail))))) hC2 (by intro r hr b hb; simp only [List.mem_cons, List.not_mem_nil, or_false] at hr; rcases hr with rfl | rfl | rfl <;> first | (simp [Res.reads] at hb; done) | exact hR2 b hb)
 replace hR2 := hY2
 simp only [List.cons_append, List.nil_append] at hS
 try simp only [opv, nZ, Value.cells]
 refine s_go (s_assign) ?_
 try simp only [opv, nZ, Value.cells]
 refine x_nil ?_
 refine hK2 _ _ ?_
 refine x_ret ?_
 refine r_tmp rfl ?_
 exact ⟨rfl, _, _, by assumption, by assumption, hS.sel (by repeat (first | exact Sel.nil | (refine Sel.cons (by repeat (exact Del.head)) ?_)))⟩
theorem c_onceB (w0 : World) (g : Nat) (e : Int) (A : Option Addr) (c : Nat) (xs : List Int) (hc : xs.length ≤ c) (hw : Byt xs) (hn : xs.length ≤ 1000000000) (hM : St (OwnB [.obj g (.cells #[.int .i64 e, .slice A xs.length c] 189 (0, 0)), .rd A 1 xs.length (xs.map (Value.int .u8))]) w0 w0 [.obj g (.cells #[.int .i64 e, .slice A xs.length c] 189 (0, 0)), .rd A 1 xs.length (xs.map (Value.int .u8))]) :
    CallR Tryz.prog 239 #[.pointer (some ⟨g, 0, none⟩), .func (.func 240) #[] #[]] w0 fun v w' => v = .int .u8 (oneS e xs).1 ∧ CuSt w0 w' [.obj g (.cells #[.int .i64 e, .slice A xs.length c] 189 (0, 0)), .rd A 1 xs.length (xs.map (Value.int .u8))] g (oneS e xs).2.1 (oneS e xs).2.2 [] := by
 have hS := hM
 refine c_enter (l := [.pointer (some ⟨g, 0, none⟩), .func (.func 240) #[] #[], undef, undef, undef, undef, undef, undef, undef, undef, undef, undef, undef, undef, undef, undef, undef, undef]) Tryz.func239 rfl (by simp only [Tryz.ntmps239, List.size_toArray, List.length_cons, List.length_nil, Nat.reduceAdd, Nat.reduceSub, Array.replicate_succ, Array.replicate_zero, List.push_toArray, List.append_toArray, List.nil_append, List.cons_append]) ?_
 refine x_seq fun K1 hK1 => ?_
 refine x_region ?_
 refine s_go (s_assign) ?_
 try simp only [opv, nZ, Value.cells]
 refine x_nil ?_
 refine hK1 _ _ ?_
 refine x_seq fun K2 hK2 => ?_
 refine x_region ?_
 refine s_go (s_assign) ?_
 try simp only [opv, nZ, Value.cells]
 refine x_nil ?_
 refine hK2 _ _ ?_
 refine x_seq fun K3 hK3 => ?_
 refine x_seq fun K4 hK4 => ?_
 refine x_region ?_
 refine s_go (s_move) ?_
 try simp only [opv, nZ, Value.cells]
 refine s_call en192 ?_
 try simp only [opv, nZ, Value.cells, List.map_toArray, List.map_cons, List.map_nil, List.append_toArray, List.cons_append, List.nil_append, Array.append_empty]
 refine CallR.mono (c_cwell _ g (e) A c (xs) hc (hS.owns (by repeat (first | exact Spl.nil | (apply Spl.cons (by repeat (exact Del.head))))))) ?_
 rintro _ w1 ⟨rfl, hC1⟩
 replace hS := hS.frame (by repeat (first | exact Spl.nil | (apply Spl.cons (by repeat (exact Del.head))))) hC1 (by intro r hr g hg; simp only [List.mem_cons, List.not_mem_nil, or_false] at hr; rcases hr with rfl | rfl | rfl <;> first | (simp [Res.reads] at hg; done) | exact .inr ⟨_, by simp, .inr hg⟩)
 simp only [List.cons_append, List.nil_append] at hS
 try simp only [opv, nZ, Value.cells]
 refine s_go (s_not) ?_
 try simp only [opv, nZ, Value.cells]
 refine x_nil ?_
 refine hK4 _ _ ?_
 refine x_cond (ht := fun hc1 => ?_) (hf := fun hc1 => ?_)
 ·
  try simp only [dZ, ne_eq, bne_iff_ne, beq_iff_eq] at hc1
  have hN := oneS_err (xs := xs) (by simpa using hc1)
  refine x_seq fun K5 hK5 => ?_
  refine x_region ?_
  refine s_go (s_move) ?_
  try simp only [opv, nZ, Value.cells]
  refine s_go (s_assign) ?_
  try simp only [opv, nZ, Value.cells]
  refine x_nil ?_
  refine hK5 _ _ ?_
  refine x_ret ?_
  refine r_tmp rfl ?_
  exact ⟨by rw [hN]; rfl, A, c, by rw [hN]; exact hc, by rw [hN]; exact RdIn.self (List.mem_cons_of_mem _ (List.mem_cons_self ..)), by rw [hN]; exact hS.sel (by repeat (first | exact Sel.nil | (refine Sel.cons (by repeat (exact Del.head)) ?_)))⟩
 ·
  try simp only [dZ, ne_eq, bne_iff_ne, beq_iff_eq] at hc1
  have he0 : e = 0 := by simpa using hc1
  subst he0
  have hN := oneS_take xs
  refine x_skip ?_
  refine hK3 _ _ ?_
  refine x_seq fun K6 hK6 => ?_
  refine x_seq fun K7 hK7 => ?_
  refine x_region ?_
  refine s_go (s_move) ?_
  try simp only [opv, nZ, Value.cells]
  refine s_go (s_move) ?_
  try simp only [opv, nZ, Value.cells]
  refine s_callv (hv := rfl) en240 ?_
  try simp only [opv, nZ, Value.cells, List.map_toArray, List.map_cons, List.map_nil, List.append_toArray, List.cons_append, List.nil_append, Array.append_empty]
  refine CallR.mono (c_cone _ g 0 A c xs hc (hS.owns (by repeat (first | exact Spl.nil | (apply Spl.cons (by repeat (exact Del.head))))))) ?_
  rintro _ w2 ⟨rfl, A2, c2, hcp2, hR2, hC2⟩
  have hY2 := RdIn.trans hM hS (by repeat (first | exact Spl.nil | (apply Spl.cons (by repeat (exact Del.head))))) hR2 (by intro s hs q hb; simp only [List.mem_cons, List.not_mem_nil, or_false] at hs; rcases hs with rfl | rfl <;> first | (simp [Res.reads] at hb; done) | exact .inr ⟨_, List.mem_cons_of_mem _ (List.mem_cons_self ..), .inr hb⟩)
  replace hS := hS.frame (by repeat (first | exact Spl.nil | (apply Spl.cons (by repeat (exact Del.head))))) hC2 (by intro r hr b hb; simp only [List.mem_cons, List.not_mem_nil, or_false] at hr; rcases hr with rfl | rfl <;> first | (simp [Res.reads] at hb; done) | exact hR2 b hb)
  replace hR2 := hY2
  simp only [List.cons_append, List.nil_append] at hS
  try simp only [opv, nZ, Value.cells]
  refine s_go (s_assign) ?_
  try simp only [opv, nZ, Value.cells]
  refine x_nil ?_
  refine hK7 _ _ ?_
  refine x_seq fun K8 hK8 => ?_
  refine x_region ?_
  refine s_go (s_move) ?_
  try simp only [opv, nZ, Value.cells]
  refine s_call en192 ?_
  try simp only [opv, nZ, Value.cells, List.map_toArray, List.map_cons, List.map_nil, List.append_toArray, List.cons_append, List.nil_append, Array.append_empty]
  refine CallR.mono (c_cwell _ g (takeE 0 xs 1) A2 c2 (takeX 0 xs 1) hcp2 (hS.owns (by repeat (first | exact Spl.nil | (apply Spl.cons (by repeat (exact Del.head))))))) ?_
  rintro _ w3 ⟨rfl, hC3⟩
  replace hS := hS.frame (by repeat (first | exact Spl.nil | (apply Spl.cons (by repeat (exact Del.head))))) hC3 (by intro r hr g hg; simp only [List.mem_cons, List.not_mem_nil, or_false] at hr; rcases hr with rfl | rfl | rfl <;> first | (simp [Res.reads] at hg; done) | exact .inr ⟨_, by simp, .inr hg⟩)
  simp only [List.cons_append, List.nil_append] at hS
  try simp only [opv, nZ, Value.cells]
  refine x_nil ?_
  refine hK8 _ _ ?_
  refine x_cond (ht := fun hc2 => ?_) (hf := fun hc2 => ?_)
  ·
   try simp only [dZ, ne_eq, bne_iff_ne, beq_iff_eq] at hc2
   refine x_seq fun K9 hK9 => ?_
   refine x_region ?_
   refine s_go (s_move) ?_
   try simp only [opv, nZ, Value.cells]
   refine s_go (s_assign) ?_
   try simp only [opv, nZ, Value.cells]
   refine x_nil ?_
   refine hK9 _ _ ?_
   refine x_ret ?_
   refine r_tmp rfl ?_
   exact ⟨by rw [hN]; rfl, _, _, by rw [hN]; assumption, by rw [hN]; assumption, by rw [hN]; exact hS.sel (by repeat (first | exact Sel.nil | (refine Sel.cons (by repeat (exact Del.head)) ?_)))⟩
  ·
   try simp only [dZ, ne_eq, bne_iff_ne, beq_iff_eq] at hc2
   have hx0 := oneS_bad (e := 0) (xs := xs) (by rw [hN]; simpa using hc2)
   rw [hN] at hx0
   refine x_skip ?_
   refine hK6 _ _ ?_
   refine x_seq fun K10 hK10 => ?_
   refine x_region ?_
   refine s_go (s_move) ?_
   try simp only [opv, nZ, Value.cells]
   refine s_go (s_assign) ?_
   try simp only [opv, nZ, Value.cells]
   refine x_nil ?_
   refine hK10 _ _ ?_
   refine x_ret ?_
   refine r_tmp rfl ?_
   exact ⟨by rw [hN]; exact (congrArg (Value.int .u8) hx0).symm, _, _, by rw [hN]; assumption, by rw [hN]; assumption, by rw [hN]; exact hS.sel (by repeat (first | exact Sel.nil | (refine Sel.cons (by repeat (exact Del.head)) ?_)))⟩
theorem c_cByte (w0 : World) (g : Nat) (e : Int) (A : Option Addr) (c : Nat) (xs : List Int) (hc : xs.length ≤ c) (hw : Byt xs) (hn : xs.length ≤ 1000000000) (hM : St (OwnB [.obj g (.cells #[.int .i64 e, .slice A xs.length c] 189 (0, 0)), .rd A 1 xs.length (xs.map (Value.int .u8))]) w0 w0 [.obj g (.cells #[.int .i64 e, .slice A xs.length c] 189 (0, 0)), .rd A 1 xs.length (xs.map (Value.int .u8))]) :
    CallR Tryz.prog 216 #[.pointer (some ⟨g, 0, none⟩)] w0 fun v w' => v = .int .u8 (oneS e xs).1 ∧ CuSt w0 w' [.obj g (.cells #[.int .i64 e, .slice A xs.length c] 189 (0, 0)), .rd A 1 xs.length (xs.map (Value.int .u8))] g (oneS e xs).2.1 (oneS e xs).2.2 [] := by
 have hS := hM
 refine c_enter (l := [.pointer (some ⟨g, 0, none⟩), undef, undef, undef, undef]) Tryz.func216 rfl (by simp only [Tryz.ntmps216, List.size_toArray, List.length_cons, List.length_nil, Nat.reduceAdd, Nat.reduceSub, Array.replicate_succ, Array.replicate_zero, List.push_toArray, List.append_toArray, List.nil_append, List.cons_append]) ?_
 refine x_seq fun K1 hK1 => ?_
 refine x_region ?_
 refine s_go (s_assign) ?_
 try simp only [opv, nZ, Value.cells]
 refine x_nil ?_
 refine hK1 _ _ ?_
 refine x_seq fun K2 hK2 => ?_
 refine x_region ?_
 refine s_go (s_move) ?_
 try simp only [opv, nZ, Value.cells]
 refine s_call en239 ?_
 try simp only [opv, nZ, Value.cells, List.map_toArray, List.map_cons, List.map_nil, List.append_toArray, List.cons_append, List.nil_append, Array.append_empty]
 refine CallR.mono (c_onceB _ g e A c xs hc hw hn (hS.owns (by repeat (first | exact Spl.nil | (apply Spl.cons (by repeat (exact Del.head))))))) ?_
 rintro _ w1 ⟨rfl, A1, c1, hcp1, hR1, hC1⟩
 have hY1 := RdIn.trans hM hS (by repeat (first | exact Spl.nil | (apply Spl.cons (by repeat (exact Del.head))))) hR1 (by intro s hs q hb; simp only [List.mem_cons, List.not_mem_nil, or_false] at hs; rcases hs with rfl | rfl <;> first | (simp [Res.reads] at hb; done) | exact .inr ⟨_, List.mem_cons_of_mem _ (List.mem_cons_self ..), .inr hb⟩)
 replace hS := hS.frame (by repeat (first | exact Spl.nil | (apply Spl.cons (by repeat (exact Del.head))))) hC1 (by intro r hr b hb; simp only [List.mem_cons, List.not_mem_nil, or_false] at hr; rcases hr with rfl | rfl <;> first | (simp [Res.reads] at hb; done) | exact hR1 b hb)
 replace hR1 := hY1
 simp only [List.cons_append, List.nil_append] at hS
 try simp only [opv, nZ, Value.cells]
 refine s_go (s_assign) ?_
 try simp only [opv, nZ, Value.cells]
 refine x_nil ?_
 refine hK2 _ _ ?_
 refine x_ret ?_
 refine r_tmp rfl ?_
 exact ⟨rfl, _, _, by assumption, by assumption, hS.sel (by repeat (first | exact Sel.nil | (refine Sel.cons (by repeat (exact Del.head)) ?_)))⟩
end Go.Proofs.YtffmanidnlbjjaaGreat
set_option linter.unusedSimpArgs false
set_option linter.unusedVariables false
set_option maxHeartbeats 800000
set_option maxRecDepth 100000
namespace Go.Proofs.YtffmanidnlbjjaaGreat
open Go.RowKit

theorem namS_short {xs : List Int} (h : ¬ 1 ≤ xs.length) : namS 0 xs = (nm0, 4, []) := by simp only [namS, if_true]; rw [if_neg h]
theorem namS_long {xs : List Int} (h : 1 ≤ xs.length) (h2 : ¬ xs.getD 0 0 ≤ 8) : namS 0 xs = (nm0, 3, []) := by simp only [namS, if_true]; rw [if_pos h, if_neg h2]
theorem namS_cut {xs : List Int} {k : Nat} (h : 1 ≤ xs.length) (hk : xs.getD 0 0 = (k : Int)) (h2 : k ≤ 8) (h3 : ¬ k ≤ (xs.drop 1).length) : namS 0 xs = (nm0, 4, []) := by
  simp only [namS, if_true]; rw [if_pos h, hk, if_pos (by omega), if_neg (by simp at h3 ⊢; omega)]
theorem namS_no {xs : List Int} {k : Nat} (h : 1 ≤ xs.length) (hk : xs.getD 0 0 = (k : Int)) (h2 : k ≤ 8) (h3 : k ≤ (xs.drop 1).length) (h4 : ¬ k = 0) (h5 : ¬ isN ((xs.drop 1).take k) = true) : namS 0 xs = (nm0, 3, []) := by
  simp only [namS, if_true]; rw [if_pos h, hk, if_pos (by omega), if_pos (by simp at h3 ⊢; omega), if_neg (by simp only [Int.toNat_natCast]; rintro (h | h); omega; exact h5 h)]
theorem namS_yes {xs : List Int} {k : Nat} (h : 1 ≤ xs.length) (hk : xs.getD 0 0 = (k : Int)) (h2 : k ≤ 8) (h3 : k ≤ (xs.drop 1).length) (h4 : k = 0 ∨ isN ((xs.drop 1).take k) = true) : namS 0 xs = (padN ((xs.drop 1).take k), 0, (xs.drop 1).drop k) := by
  simp only [namS, if_true]; rw [if_pos h, hk, if_pos (by omega), if_pos (by simp at h3 ⊢; omega), if_pos (by simp only [Int.toNat_natCast]; rcases h4 with h | h; exact .inl (by omega); exact .inr h), Int.toNat_natCast, List.drop_drop]
theorem ofN_len (ns : List Int) : (ofN ns).1.length = 8 := by
  unfold ofN; split
  · exact padN_len ns
  · rfl
theorem ofN_no {ns : List Int} (h : ¬ (ofN ns).2 = 0) : isN ns = false ∧ ofN ns = (nm0, 3) := by
  unfold ofN at h ⊢
  split at h
  · exact absurd rfl h
  · next h1 => exact ⟨by simpa using h1, if_neg h1⟩
theorem ofN_yes {ns : List Int} (h : (ofN ns).2 = 0) : isN ns = true ∧ ofN ns = (padN ns, 0) := by
  unfold ofN at h ⊢
  split at h
  · next h1 => exact ⟨h1, if_pos h1⟩
  · exact absurd h (by decide)
theorem take_in {xs : List Int} {k : Nat} (h : k ≤ xs.length) (e : Int) : takeE e xs k = e ∧ takeX e xs k = xs.drop k ∧ takeV xs k = xs.take k := ⟨if_pos h, if_pos h, if_pos h⟩
theorem take_out {xs : List Int} {k : Nat} (h : ¬ k ≤ xs.length) : takeE 0 xs k = 4 ∧ takeX 0 xs k = [] ∧ takeV xs k = [] := ⟨if_neg h, (if_neg h).trans (errX0 (by decide)), if_neg h⟩
theorem c_cnamed (w0 : World) (g : Nat) (A : Option Addr) (c : Nat) (xs : List Int) (hc : xs.length ≤ c) (hw : Byt xs) (hn : xs.length ≤ 1000000000) (hM : St (OwnB [.obj g (.cells #[.int .i64 0, .slice A xs.length c] 189 (0, 0)), .rd A 1 xs.length (xs.map (Value.int .u8))]) w0 w0 [.obj g (.cells #[.int .i64 0, .slice A xs.length c] 189 (0, 0)), .rd A 1 xs.length (xs.map (Value.int .u8))]) :
    CallR Tryz.prog 242 #[.pointer (some ⟨g, 0, none⟩)] w0 fun v w' => v = .agg (ic .u8 (namS 0 xs).1) ∧ CuSt w0 w' [.obj g (.cells #[.int .i64 0, .slice A xs.length c] 189 (0, 0)), .rd A 1 xs.length (xs.map (Value.int .u8))] g (namS 0 xs).2.1 (namS 0 xs).2.2 [] := by
 have hS := hM
 refine c_enter (l := [.pointer (some ⟨g, 0, none⟩), undef, undef, undef, undef, undef, undef, undef, undef, undef, undef, undef, undef, undef, undef, undef, undef, undef, undef, undef, undef, undef, undef, undef, undef, undef, undef, undef, undef, undef, undef, undef, undef, undef, undef, undef, undef, undef, undef, undef, undef, undef]) Tryz.func242 rfl (by simp only [Tryz.ntmps242, List.size_toArray, List.length_cons, List.length_nil, Nat.reduceAdd, Nat.reduceSub, Array.replicate_succ, Array.replicate_zero, List.push_toArray, List.append_toArray, List.nil_append, List.cons_append]) ?_
 refine x_seq fun K1 hK1 => ?_
 refine x_region ?_
 refine m_alloc ti41 hS (fun w1 g1 hS => ?_)
 try simp only [opv, nZ, Value.cells, Array.toArray_toList] at hS ⊢
 have h0l : nm0.length = 8 := rfl
 replace hS : St (OwnB [.obj g (.cells #[.int .i64 0, .slice A xs.length c] 189 (0, 0)), .rd A 1 xs.length (xs.map (Value.int .u8))]) w0 w1 (.obj g1 (.cells (ic .u8 nm0) 41 (0, 0)) :: [.obj g (.cells #[.int .i64 0, .slice A xs.length c] 189 (0, 0)), .rd A 1 xs.length (xs.map (Value.int .u8))]) := hS
 refine x_nil ?_
 refine hK1 _ _ ?_
 refine x_seq fun K2 hK2 => ?_
 refine x_region ?_
 refine s_go (s_move) ?_
 try simp only [opv, nZ, Value.cells]
 refine s_call en240 ?_
 try simp only [opv, nZ, Value.cells, List.map_toArray, List.map_cons, List.map_nil, List.append_toArray, List.cons_append, List.nil_append, Array.append_empty]
 refine CallR.mono (c_cone _ g 0 A c xs hc (hS.owns (by repeat (first | exact Spl.nil | (apply Spl.cons (by repeat (first | exact Del.head | apply Del.tail))))))) ?_
 rintro _ w2 ⟨rfl, A2, c2, hcp2, hR2, hC2⟩
 have hY2 := RdIn.trans hM hS (by repeat (first | exact Spl.nil | (apply Spl.cons (by repeat (first | exact Del.head | apply Del.tail))))) hR2 (by intro s hs q hb; simp only [List.mem_cons, List.not_mem_nil, or_false] at hs; rcases hs with rfl | rfl <;> first | (simp [Res.reads] at hb; done) | exact .inr ⟨_, List.mem_cons_of_mem _ (List.mem_cons_self ..), .inr hb⟩)
 replace hS := hS.frame (by repeat (first | exact Spl.nil | (apply Spl.cons (by repeat (first | exact Del.head | apply Del.tail))))) hC2 (by intro r hr b hb; simp only [List.mem_cons, List.not_mem_nil, or_false] at hr; rcases hr with rfl | rfl <;> first | (simp [Res.reads] at hb; done) | exact hR2 b hb)
 replace hR2 := hY2
 simp only [List.cons_append, List.nil_append] at hS
 try simp only [opv, nZ, Value.cells]
 have hob : 0 ≤ oneV xs ∧ oneV xs ≤ 255 := by unfold oneV; split; exact hw.get 0; decide
 obtain ⟨k, hk⟩ := Int.eq_ofNat_of_zero_le hob.1
 rw [hk] at hob ⊢
 refine s_go (s_conv Tryz.underlying5 Tryz.underlying3 (hc := by exact wr_i64 (by omega) (by omega))) ?_
 try simp only [opv, nZ, Value.cells]
 refine s_go (s_assign) ?_
 try simp only [opv, nZ, Value.cells]
 refine x_nil ?_
 refine hK2 _ _ ?_
 refine x_seq fun K3 hK3 => ?_
 refine x_seq fun K4 hK4 => ?_
 refine x_region ?_
 refine s_go (s_move) ?_
 try simp only [opv, nZ, Value.cells]
 refine s_call en192 ?_
 try simp only [opv, nZ, Value.cells, List.map_toArray, List.map_cons, List.map_nil, List.append_toArray, List.cons_append, List.nil_append, Array.append_empty]
 refine CallR.mono (c_cwell _ g (takeE 0 xs 1) A2 c2 (takeX 0 xs 1) hcp2 (hS.owns (by repeat (first | exact Spl.nil | (apply Spl.cons (by repeat (exact Del.head))))))) ?_
 rintro _ w3 ⟨rfl, hC3⟩
 replace hS := hS.frame (by repeat (first | exact Spl.nil | (apply Spl.cons (by repeat (exact Del.head))))) hC3 (by intro r hr g hg; simp only [List.mem_cons, List.not_mem_nil, or_false] at hr; rcases hr with rfl | rfl | rfl <;> first | (simp [Res.reads] at hg; done) | exact .inr ⟨_, by simp, .inr hg⟩)
 simp only [List.cons_append, List.nil_append] at hS
 try simp only [opv, nZ, Value.cells]
 refine s_go (s_not) ?_
 try simp only [opv, nZ, Value.cells]
 refine x_nil ?_
 refine hK4 _ _ ?_
 refine x_cond (ht := fun hc1 => ?_) (hf := fun hc1 => ?_)
 ·
  try simp only [dZ, ne_eq, bne_iff_ne, beq_iff_eq] at hc1
  have h1 : ¬ 1 ≤ xs.length := fun h => by rw [(take_in h 0).1] at hc1; exact absurd hc1 (by decide)
  have hN := namS_short h1
  simp only [(take_out h1).1, (take_out h1).2.1] at hS hcp2 hR2
  refine x_seq fun K5 hK5 => ?_
  refine x_region ?_
  refine s_go (s_build_arr (cells := #[.int .u8 0, .int .u8 0, .int .u8 0, .int .u8 0, .int .u8 0, .int .u8 0, .int .u8 0, .int .u8 0]) Tryz.underlying41 ti41 ti5 (hc := by simp only [List.map_toArray, List.map_cons, List.map_nil, opv, nZ, Value.cells, List.toList_toArray]; (repeat (refine fill_cons rfl rfl (Nat.le_of_ble_eq_true rfl) ?_)); rfl)) ?_
  try simp only [opv, nZ, Value.cells]
  refine m_store_obj ti41 (hS := hS) (h := fun w4 hS => ?_)
  try simp only [opv, nZ, Value.cells, Array.toArray_toList] at hS ⊢
  refine x_nil ?_
  refine hK5 _ _ ?_
  refine x_ret ?_
  refine r_cell_agg rfl Tryz.underlying41 ti41 (hS := hS) (hR := ?_)
  exact ⟨by rw [hN] <;> rfl, _, _, by rw [hN]; assumption, by rw [hN]; assumption, by rw [hN]; exact hS.sel (by repeat (first | exact Sel.nil | (refine Sel.cons (by repeat (exact Del.head)) ?_)))⟩
 ·
  try simp only [dZ, ne_eq, bne_iff_ne, beq_iff_eq] at hc1
  have h1 : 1 ≤ xs.length := Decidable.byContradiction fun h => by rw [(take_out h).1] at hc1; exact absurd hc1 (by decide)
  have hk1 : xs.getD 0 0 = (k : Int) := by rw [← hk, oneV, if_pos h1]
  have hdl : (xs.drop 1).length = xs.length - 1 := by simp
  simp only [(take_in h1 0).1, (take_in h1 0).2.1] at hS hcp2 hR2
  refine x_skip ?_
  refine hK3 _ _ ?_
  refine x_seq fun K6 hK6 => ?_
  refine x_seq fun K7 hK7 => ?_
  refine x_region ?_
  refine s_go (s_move) ?_
  try simp only [opv, nZ, Value.cells]
  refine s_go (s_gtr) ?_
  try simp only [opv, nZ, Value.cells]
  refine x_nil ?_
  refine hK7 _ _ ?_
  refine x_cond (ht := fun hc2 => ?_) (hf := fun hc2 => ?_)
  ·
   try simp only [dZ, ne_eq, bne_iff_ne, beq_iff_eq] at hc2
   have hN := namS_long h1 (by omega)
   refine x_seq fun K8 hK8 => ?_
   refine x_region ?_
   refine s_go (s_move) ?_
   try simp only [opv, nZ, Value.cells]
   refine s_call en154 ?_
   try simp only [opv, nZ, Value.cells, List.map_toArray, List.map_cons, List.map_nil, List.append_toArray, List.cons_append, List.nil_append, Array.append_empty]
   refine CallR.mono (c_cerr _ g 0 A2 c2 (xs.drop 1) hcp2 3 (hS.owns (by repeat (first | exact Spl.nil | (apply Spl.cons (by repeat (exact Del.head))))))) ?_
   rintro _ w5 ⟨rfl, A5, c5, hcp5, hR5, hC5⟩
   have hY5 := RdIn.trans hM hS (by repeat (first | exact Spl.nil | (apply Spl.cons (by repeat (exact Del.head))))) hR5 (by intro s hs q hb; simp only [List.mem_cons, List.not_mem_nil, or_false] at hs; rcases hs with rfl | rfl <;> first | (simp [Res.reads] at hb; done) | exact hR2 q hb)
   replace hS := hS.frame (by repeat (first | exact Spl.nil | (apply Spl.cons (by repeat (exact Del.head))))) hC5 (by intro r hr b hb; simp only [List.mem_cons, List.not_mem_nil, or_false] at hr; rcases hr with rfl | rfl <;> first | (simp [Res.reads] at hb; done) | exact hR5 b hb)
   replace hR5 := hY5
   simp only [List.cons_append, List.nil_append] at hS
   simp only [errE0, errX0 (show ¬ (3 : Int) = 0 by decide)] at hS hcp5 hR5
   try simp only [opv, nZ, Value.cells]
   refine x_nil ?_
   refine hK8 _ _ ?_
   refine x_seq fun K9 hK9 => ?_
   refine x_region ?_
   refine s_go (s_build_arr (cells := #[.int .u8 0, .int .u8 0, .int .u8 0, .int .u8 0, .int .u8 0, .int .u8 0, .int .u8 0, .int .u8 0]) Tryz.underlying41 ti41 ti5 (hc := by simp only [List.map_toArray, List.map_cons, List.map_nil, opv, nZ, Value.cells, List.toList_toArray]; (repeat (refine fill_cons rfl rfl (Nat.le_of_ble_eq_true rfl) ?_)); rfl)) ?_
   try simp only [opv, nZ, Value.cells]
   refine m_store_obj ti41 (hS := hS) (h := fun w6 hS => ?_)
   try simp only [opv, nZ, Value.cells, Array.toArray_toList] at hS ⊢
   refine x_nil ?_
   refine hK9 _ _ ?_
   refine x_ret ?_
   refine r_cell_agg rfl Tryz.underlying41 ti41 (hS := hS) (hR := ?_)
   exact ⟨by rw [hN] <;> rfl, _, _, by rw [hN]; assumption, by rw [hN]; assumption, by rw [hN]; exact hS.sel (by repeat (first | exact Sel.nil | (refine Sel.cons (by repeat (exact Del.head)) ?_)))⟩
  ·
   try simp only [dZ, ne_eq, bne_iff_ne, beq_iff_eq] at hc2
   refine x_skip ?_
   refine hK6 _ _ ?_
   refine x_seq fun K10 hK10 => ?_
   refine x_region ?_
   refine s_go (s_move) ?_
   try simp only [opv, nZ, Value.cells]
   refine s_go (s_move) ?_
   try simp only [opv, nZ, Value.cells]
   refine s_call en155 ?_
   try simp only [opv, nZ, Value.cells, List.map_toArray, List.map_cons, List.map_nil, List.append_toArray, List.cons_append, List.nil_append, Array.append_empty]
   refine CallR.mono (c_ctake _ g 0 A2 c2 (xs.drop 1) hcp2 k (by omega) (hS.owns (by repeat (first | exact Spl.nil | (apply Spl.cons (by repeat (exact Del.head))))))) ?_
   rintro _ w7 ⟨Ab, cb, Bb, rfl, hcpb, hRb, hQb, hCb⟩
   have hYb := RdIn.trans hM hS (by repeat (first | exact Spl.nil | (apply Spl.cons (by repeat (exact Del.head))))) hRb (by intro s hs q hb; simp only [List.mem_cons, List.not_mem_nil, or_false] at hs; rcases hs with rfl | rfl <;> first | (simp [Res.reads] at hb; done) | exact hR2 q hb)
   replace hS := hS.frame (by repeat (first | exact Spl.nil | (apply Spl.cons (by repeat (exact Del.head))))) hCb (by intro r hr b hb; simp only [List.mem_cons, List.not_mem_nil, or_false] at hr; rcases hr with rfl | rfl | rfl <;> first | (simp [Res.reads] at hb; done) | exact hRb b hb | exact hQb b hb)
   simp only [List.cons_append, List.nil_append] at hS
   replace hRb := hYb
   try simp only [opv, nZ, Value.cells]
   refine s_go (s_assign) ?_
   try simp only [opv, nZ, Value.cells]
   refine x_nil ?_
   refine hK10 _ _ ?_
   refine x_seq fun K11 hK11 => ?_
   refine x_seq fun K12 hK12 => ?_
   refine x_region ?_
   refine s_go (s_move) ?_
   try simp only [opv, nZ, Value.cells]
   refine s_call en192 ?_
   try simp only [opv, nZ, Value.cells, List.map_toArray, List.map_cons, List.map_nil, List.append_toArray, List.cons_append, List.nil_append, Array.append_empty]
   refine CallR.mono (c_cwell _ g (takeE 0 (xs.drop 1) k) Ab cb (takeX 0 (xs.drop 1) k) hcpb (hS.owns (by repeat (first | exact Spl.nil | (apply Spl.cons (by repeat (exact Del.head))))))) ?_
   rintro _ w8 ⟨rfl, hC8⟩
   replace hS := hS.frame (by repeat (first | exact Spl.nil | (apply Spl.cons (by repeat (exact Del.head))))) hC8 (by intro r hr g hg; simp only [List.mem_cons, List.not_mem_nil, or_false] at hr; rcases hr with rfl | rfl | rfl <;> first | (simp [Res.reads] at hg; done) | exact .inr ⟨_, by simp, .inr hg⟩)
   simp only [List.cons_append, List.nil_append] at hS
   try simp only [opv, nZ, Value.cells]
   refine s_go (s_not) ?_
   try simp only [opv, nZ, Value.cells]
   refine s_go (s_move) ?_
   try simp only [opv, nZ, Value.cells]
   refine s_part 25 rfl (fun hp1 => ?_) (fun hp1 => ?_)
   ·
    try simp only [n3, n4]
    try simp only [dZ, ne_eq] at hp1
    have h3 : ¬ k ≤ (xs.drop 1).length := fun h => by rw [(take_in h 0).1] at hp1; exact absurd hp1 (by decide)
    have hN := namS_cut h1 hk1 (by omega) h3
    simp only [(take_out h3).1, (take_out h3).2.1] at hS hcpb hRb
    refine g_off (yi (t := 25) rfl rfl) ?_
    try simp only [opv, nZ, Value.cells]
    refine g_off (yi (t := 25) rfl rfl) ?_
    try simp only [opv, nZ, Value.cells]
    refine s_go (s_pick_t) ?_
    try simp only [opv, nZ, Value.cells]
    refine x_nil ?_
    refine hK12 _ _ ?_
    refine x_cond_t (h := ?_)
    skip
    refine x_seq fun K13 hK13 => ?_
    refine x_region ?_
    refine s_go (s_build_arr (cells := #[.int .u8 0, .int .u8 0, .int .u8 0, .int .u8 0, .int .u8 0, .int .u8 0, .int .u8 0, .int .u8 0]) Tryz.underlying41 ti41 ti5 (hc := by simp only [List.map_toArray, List.map_cons, List.map_nil, opv, nZ, Value.cells, List.toList_toArray]; (repeat (refine fill_cons rfl rfl (Nat.le_of_ble_eq_true rfl) ?_)); rfl)) ?_
    try simp only [opv, nZ, Value.cells]
    refine m_store_obj ti41 (hS := hS) (h := fun w9 hS => ?_)
    try simp only [opv, nZ, Value.cells, Array.toArray_toList] at hS ⊢
    refine x_nil ?_
    refine hK13 _ _ ?_
    refine x_ret ?_
    refine r_cell_agg rfl Tryz.underlying41 ti41 (hS := hS) (hR := ?_)
    exact ⟨by rw [hN] <;> rfl, _, _, by rw [hN]; assumption, by rw [hN]; assumption, by rw [hN]; exact hS.sel (by repeat (first | exact Sel.nil | (refine Sel.cons (by repeat (exact Del.head)) ?_)))⟩
   ·
    try simp only [n3, n4]
    try simp only [dZ, ne_eq] at hp1
    have h3 : k ≤ (xs.drop 1).length := Decidable.byContradiction fun h => by rw [(take_out h).1] at hp1; exact absurd hp1 (by decide)
    simp only [(take_in h3 0).1, (take_in h3 0).2.1, (take_in h3 0).2.2] at hS hcpb hRb ⊢
    have htb : Byt ((xs.drop 1).take k) := (hw.drop 1).take k
    have htl : ((xs.drop 1).take k).length = k := by simp; omega
    have hol := ofN_len ((xs.drop 1).take k)
    obtain ⟨ns, hns⟩ : ∃ ns, (xs.drop 1).take k = ns := ⟨_, rfl⟩
    rw [hns] at htb htl hol hS ⊢
    refine g_on (yi (t := 25) rfl rfl) ?_
    refine s_go (s_move) ?_
    try simp only [opv, nZ, Value.cells]
    refine g_on (yi (t := 25) rfl rfl) ?_
    refine s_go (s_eql) ?_
    try simp only [opv, nZ, Value.cells]
    refine s_go (s_pick_f) ?_
    try simp only [opv, nZ, Value.cells]
    refine x_nil ?_
    refine hK12 _ _ ?_
    refine x_cond (ht := fun hc4 => ?_) (hf := fun hc4 => ?_)
    ·
     try simp only [dZ, ne_eq, bne_iff_ne, beq_iff_eq] at hc4
     have hN := namS_yes h1 hk1 (by omega) h3 (.inl (by omega))
     refine x_seq fun K14 hK14 => ?_
     refine x_region ?_
     refine s_go (s_build_arr (cells := #[.int .u8 0, .int .u8 0, .int .u8 0, .int .u8 0, .int .u8 0, .int .u8 0, .int .u8 0, .int .u8 0]) Tryz.underlying41 ti41 ti5 (hc := by simp only [List.map_toArray, List.map_cons, List.map_nil, opv, nZ, Value.cells, List.toList_toArray]; (repeat (refine fill_cons rfl rfl (Nat.le_of_ble_eq_true rfl) ?_)); rfl)) ?_
     try simp only [opv, nZ, Value.cells]
     refine m_store_obj ti41 (hS := hS) (h := fun w10 hS => ?_)
     try simp only [opv, nZ, Value.cells, Array.toArray_toList] at hS ⊢
     refine x_nil ?_
     refine hK14 _ _ ?_
     refine x_ret ?_
     refine r_cell_agg rfl Tryz.underlying41 ti41 (hS := hS) (hR := ?_)
     exact ⟨by rw [hN]; rw [show k = 0 by omega]; rfl, _, _, by rw [hN]; assumption, by rw [hN]; assumption, by rw [hN]; exact hS.sel (by repeat (first | exact Sel.nil | (refine Sel.cons (by repeat (exact Del.head)) ?_)))⟩
    ·
     try simp only [dZ, ne_eq, bne_iff_ne, beq_iff_eq] at hc4
     refine x_skip ?_
     refine hK11 _ _ ?_
     refine x_seq fun K15 hK15 => ?_
     refine x_region ?_
     refine s_go (s_move) ?_
     try simp only [opv, nZ, Value.cells]
     refine s_go (m_bytes_str Tryz.underlying73 Tryz.underlying9 Tryz.underlying5 (hS := hS)) ?_
     try simp only [opv, nZ, Value.cells]
     refine s_call en254 ?_
     try simp only [opv, nZ, Value.cells, List.map_toArray, List.map_cons, List.map_nil, List.append_toArray, List.cons_append, List.nil_append, Array.append_empty]
     refine CallR.mono (c_nameOf _ (by assumption) (by omega) _) ?_
     rintro _ w11 ⟨rfl, hE11⟩
     replace hS := hS.ext hE11
     try simp only [opv, nZ, Value.cells]
     refine s_go (s_move) ?_
     try simp only [opv, nZ, Value.cells]
     refine s_go (s_extract (hv := rfl)) ?_
     try simp only [List.getElem_toArray, List.getElem_cons_zero, List.getElem_cons_succ]
     try simp only [opv, nZ, Value.cells]
     refine s_go (s_extract (hv := rfl)) ?_
     try simp only [List.getElem_toArray, List.getElem_cons_zero, List.getElem_cons_succ]
     try simp only [opv, nZ, Value.cells]
     refine m_alloc ti41 hS (fun w12 g12 hS => ?_)
     try simp only [opv, nZ, Value.cells, Array.toArray_toList] at hS ⊢
     replace hS : St (OwnB [.obj g (.cells #[.int .i64 0, .slice A xs.length c] 189 (0, 0)), .rd A 1 xs.length (xs.map (Value.int .u8))]) w0 w12 (.obj _ (.cells (ic .u8 nm0) 41 (0, 0)) :: _) := hS
     refine m_store_obj ti41 (hS := hS) (h := fun w13 hS => ?_)
     try simp only [opv, nZ, Value.cells, Array.toArray_toList] at hS ⊢
     refine s_go (s_assign) ?_
     try simp only [opv, nZ, Value.cells]
     refine x_nil ?_
     refine hK15 _ _ ?_
     refine x_seq fun K16 hK16 => ?_
     refine x_seq fun K17 hK17 => ?_
     refine x_region ?_
     refine s_go (s_move) ?_
     try simp only [opv, nZ, Value.cells]
     refine s_go (s_neq) ?_
     try simp only [opv, nZ, Value.cells]
     refine x_nil ?_
     refine hK17 _ _ ?_
     refine x_cond (ht := fun hc5 => ?_) (hf := fun hc5 => ?_)
     ·
      try simp only [dZ, ne_eq, bne_iff_ne, beq_iff_eq] at hc5
      obtain ⟨hI, hof⟩ := ofN_no (ns := ns) hc5
      have hN := namS_no h1 hk1 (by omega) h3 (by omega) (by rw [hns, hI]; decide)
      rw [hof] at hS hol ⊢
      refine x_region ?_
      refine s_go (s_move) ?_
      try simp only [opv, nZ, Value.cells]
      refine s_go (s_move) ?_
      try simp only [opv, nZ, Value.cells]
      refine s_call en154 ?_
      try simp only [opv, nZ, Value.cells, List.map_toArray, List.map_cons, List.map_nil, List.append_toArray, List.cons_append, List.nil_append, Array.append_empty]
      refine CallR.mono (c_cerr _ g 0 Ab cb ((xs.drop 1).drop k) hcpb 3 (hS.owns (by repeat (first | exact Spl.nil | (apply Spl.cons (by repeat (first | exact Del.head | apply Del.tail))))))) ?_
      rintro _ w14 ⟨rfl, A14, c14, hcp14, hR14, hC14⟩
      have hY14 := RdIn.trans hM hS (by repeat (first | exact Spl.nil | (apply Spl.cons (by repeat (first | exact Del.head | apply Del.tail))))) hR14 (by intro s hs q hb; simp only [List.mem_cons, List.not_mem_nil, or_false] at hs; rcases hs with rfl | rfl <;> first | (simp [Res.reads] at hb; done) | exact hRb q hb)
      replace hS := hS.frame (by repeat (first | exact Spl.nil | (apply Spl.cons (by repeat (first | exact Del.head | apply Del.tail))))) hC14 (by intro r hr b hb; simp only [List.mem_cons, List.not_mem_nil, or_false] at hr; rcases hr with rfl | rfl <;> first | (simp [Res.reads] at hb; done) | exact hR14 b hb)
      replace hR14 := hY14
      simp only [List.cons_append, List.nil_append] at hS
      simp only [errE0, errX0 (show ¬ (3 : Int) = 0 by decide)] at hS hcp14 hR14
      try simp only [opv, nZ, Value.cells]
      refine x_nil ?_
      refine hK16 _ _ ?_
      refine x_seq fun K18 hK18 => ?_
      refine x_region ?_
      refine s_go (m_load_row Tryz.underlying41 (hi := ti41) (hS := hS)) ?_
      try simp only [opv, nZ, Value.cells, List.getElem_toArray, List.getElem_cons_zero, List.getElem_cons_succ]
      refine m_store_obj ti41 (hS := hS) (h := fun w15 hS => ?_)
      try simp only [opv, nZ, Value.cells, Array.toArray_toList] at hS ⊢
      refine x_nil ?_
      refine hK18 _ _ ?_
      refine x_ret ?_
      refine r_cell_agg rfl Tryz.underlying41 ti41 (hS := hS) (hR := ?_)
      exact ⟨by rw [hN] <;> rfl, _, _, by rw [hN]; assumption, by rw [hN]; assumption, by rw [hN]; exact hS.sel (by repeat (first | exact Sel.nil | (refine Sel.cons (by repeat (exact Del.head)) ?_)))⟩
     ·
      try simp only [dZ, ne_eq, bne_iff_ne, beq_iff_eq] at hc5
      obtain ⟨hI, hof⟩ := ofN_yes (ns := ns) hc5
      have hN := namS_yes h1 hk1 (by omega) h3 (.inr (by rw [hns]; exact hI))
      rw [hof] at hS hol ⊢
      refine x_skip ?_
      refine hK16 _ _ ?_
      refine x_seq fun K19 hK19 => ?_
      refine x_region ?_
      refine s_go (m_load_row Tryz.underlying41 (hi := ti41) (hS := hS)) ?_
      try simp only [opv, nZ, Value.cells, List.getElem_toArray, List.getElem_cons_zero, List.getElem_cons_succ]
      refine m_store_obj ti41 (hS := hS) (h := fun w16 hS => ?_)
      try simp only [opv, nZ, Value.cells, Array.toArray_toList] at hS ⊢
      refine x_nil ?_
      refine hK19 _ _ ?_
      refine x_ret ?_
      refine r_cell_agg rfl Tryz.underlying41 ti41 (hS := hS) (hR := ?_)
      exact ⟨by rw [hN, hns], _, _, by rw [hN]; assumption, by rw [hN]; assumption, by rw [hN]; exact hS.selA⟩
theorem c_onceNm (w0 : World) (g : Nat) (e : Int) (A : Option Addr) (c : Nat) (xs : List Int) (hc : xs.length ≤ c) (hw : Byt xs) (hn : xs.length ≤ 1000000000) (hM : St (OwnB [.obj g (.cells #[.int .i64 e, .slice A xs.length c] 189 (0, 0)), .rd A 1 xs.length (xs.map (Value.int .u8))]) w0 w0 [.obj g (.cells #[.int .i64 e, .slice A xs.length c] 189 (0, 0)), .rd A 1 xs.length (xs.map (Value.int .u8))]) :
    CallR Tryz.prog 241 #[.pointer (some ⟨g, 0, none⟩), .func (.func 242) #[] #[]] w0 fun v w' => v = .agg (ic .u8 (namS e xs).1) ∧ CuSt w0 w' [.obj g (.cells #[.int .i64 e, .slice A xs.length c] 189 (0, 0)), .rd A 1 xs.length (xs.map (Value.int .u8))] g (namS e xs).2.1 (namS e xs).2.2 [] := by
 have hS := hM
 have h0l : nm0.length = 8 := rfl
 have hnl := namS_len 0 xs
 refine c_enter (l := [.pointer (some ⟨g, 0, none⟩), .func (.func 242) #[] #[], undef, undef, undef, undef, undef, undef, undef, undef, undef, undef, undef, undef, undef, undef, undef, undef]) Tryz.func241 rfl (by simp only [Tryz.ntmps241, List.size_toArray, List.length_cons, List.length_nil, Nat.reduceAdd, Nat.reduceSub, Array.replicate_succ, Array.replicate_zero, List.push_toArray, List.append_toArray, List.nil_append, List.cons_append]) ?_
 refine x_seq fun K1 hK1 => ?_
 refine x_region ?_
 refine m_alloc ti41 hS (fun w1 g1 hS => ?_)
 try simp only [opv, nZ, Value.cells, Array.toArray_toList] at hS ⊢
 replace hS : St (OwnB [.obj g (.cells #[.int .i64 e, .slice A xs.length c] 189 (0, 0)), .rd A 1 xs.length (xs.map (Value.int .u8))]) w0 w1 (.obj _ (.cells (ic .u8 nm0) 41 (0, 0)) :: [.obj g (.cells #[.int .i64 e, .slice A xs.length c] 189 (0, 0)), .rd A 1 xs.length (xs.map (Value.int .u8))]) := hS
 refine x_nil ?_
 refine hK1 _ _ ?_
 refine x_seq fun K2 hK2 => ?_
 refine x_region ?_
 refine m_alloc ti41 hS (fun w2 g2 hS => ?_)
 try simp only [opv, nZ, Value.cells, Array.toArray_toList] at hS ⊢
 replace hS : St (OwnB [.obj g (.cells #[.int .i64 e, .slice A xs.length c] 189 (0, 0)), .rd A 1 xs.length (xs.map (Value.int .u8))]) w0 w2 (.obj _ (.cells (ic .u8 nm0) 41 (0, 0)) :: .obj _ (.cells (ic .u8 nm0) 41 (0, 0)) :: [.obj g (.cells #[.int .i64 e, .slice A xs.length c] 189 (0, 0)), .rd A 1 xs.length (xs.map (Value.int .u8))]) := hS
 refine x_nil ?_
 refine hK2 _ _ ?_
 refine x_seq fun K3 hK3 => ?_
 refine x_seq fun K4 hK4 => ?_
 refine x_region ?_
 refine s_go (s_move) ?_
 try simp only [opv, nZ, Value.cells]
 refine s_call en192 ?_
 try simp only [opv, nZ, Value.cells, List.map_toArray, List.map_cons, List.map_nil, List.append_toArray, List.cons_append, List.nil_append, Array.append_empty]
 refine CallR.mono (c_cwell _ g (e) A c (xs) hc (hS.owns (by repeat (first | exact Spl.nil | (apply Spl.cons (by repeat (first | exact Del.head | apply Del.tail))))))) ?_
 rintro _ w3 ⟨rfl, hC3⟩
 replace hS := hS.frame (by repeat (first | exact Spl.nil | (apply Spl.cons (by repeat (first | exact Del.head | apply Del.tail))))) hC3 (by intro r hr g hg; simp only [List.mem_cons, List.not_mem_nil, or_false] at hr; rcases hr with rfl | rfl | rfl <;> first | (simp [Res.reads] at hg; done) | exact .inr ⟨_, by simp, .inr hg⟩)
 simp only [List.cons_append, List.nil_append] at hS
 try simp only [opv, nZ, Value.cells]
 refine s_go (s_not) ?_
 try simp only [opv, nZ, Value.cells]
 refine x_nil ?_
 refine hK4 _ _ ?_
 refine x_cond (ht := fun hc1 => ?_) (hf := fun hc1 => ?_)
 ·
  try simp only [dZ, ne_eq, bne_iff_ne, beq_iff_eq] at hc1
  have hN := namS_err (xs := xs) (by simpa using hc1)
  refine x_seq fun K5 hK5 => ?_
  refine x_region ?_
  refine s_go (m_load_row Tryz.underlying41 (hi := ti41) (hS := hS)) ?_
  try simp only [opv, nZ, Value.cells, List.getElem_toArray, List.getElem_cons_zero, List.getElem_cons_succ]
  refine m_store_obj ti41 (hS := hS) (h := fun w4 hS => ?_)
  try simp only [opv, nZ, Value.cells, Array.toArray_toList] at hS ⊢
  refine x_nil ?_
  refine hK5 _ _ ?_
  refine x_ret ?_
  refine r_cell_agg rfl Tryz.underlying41 ti41 (hS := hS) (hR := ?_)
  exact ⟨by rw [hN], A, c, by rw [hN]; exact hc, by rw [hN]; exact RdIn.self (List.mem_cons_of_mem _ (List.mem_cons_self ..)), by rw [hN]; exact hS.sel (by repeat (first | exact Sel.nil | (refine Sel.cons (by repeat (exact Del.head)) ?_)))⟩
 ·
  try simp only [dZ, ne_eq, bne_iff_ne, beq_iff_eq] at hc1
  have he0 : e = 0 := by simpa using hc1
  subst he0
  refine x_skip ?_
  refine hK3 _ _ ?_
  refine x_seq fun K6 hK6 => ?_
  refine x_seq fun K7 hK7 => ?_
  refine x_region ?_
  refine s_go (s_move) ?_
  try simp only [opv, nZ, Value.cells]
  refine s_go (s_move) ?_
  try simp only [opv, nZ, Value.cells]
  refine s_callv (hv := rfl) en242 ?_
  try simp only [opv, nZ, Value.cells, List.map_toArray, List.map_cons, List.map_nil, List.append_toArray, List.cons_append, List.nil_append, Array.append_empty]
  refine CallR.mono (c_cnamed _ g A c xs hc hw hn (hS.owns (by repeat (first | exact Spl.nil | (apply Spl.cons (by repeat (exact Del.head))))))) ?_
  rintro _ w5 ⟨rfl, Aa, ca, hcpa, hRa, hCa⟩
  have hYa := RdIn.trans hM hS (by repeat (first | exact Spl.nil | (apply Spl.cons (by repeat (exact Del.head))))) hRa (by intro s hs q hb; simp only [List.mem_cons, List.not_mem_nil, or_false] at hs; rcases hs with rfl | rfl <;> first | (simp [Res.reads] at hb; done) | exact .inr ⟨_, List.mem_cons_of_mem _ (List.mem_cons_self ..), .inr hb⟩)
  replace hS := hS.frame (by repeat (first | exact Spl.nil | (apply Spl.cons (by repeat (exact Del.head))))) hCa (by intro r hr b hb; simp only [List.mem_cons, List.not_mem_nil, or_false] at hr; rcases hr with rfl | rfl <;> first | (simp [Res.reads] at hb; done) | exact hRa b hb)
  replace hRa := hYa
  simp only [List.cons_append, List.nil_append] at hS
  try simp only [opv, nZ, Value.cells]
  refine m_alloc ti41 hS (fun w6 g6 hS => ?_)
  try simp only [opv, nZ, Value.cells, Array.toArray_toList] at hS ⊢
  replace hS : St (OwnB [.obj g (.cells #[.int .i64 0, .slice A xs.length c] 189 (0, 0)), .rd A 1 xs.length (xs.map (Value.int .u8))]) w0 w6 (.obj _ (.cells (ic .u8 nm0) 41 (0, 0)) :: _) := hS
  refine m_store_obj ti41 (hS := hS) (h := fun w7 hS => ?_)
  try simp only [opv, nZ, Value.cells, Array.toArray_toList] at hS ⊢
  refine x_nil ?_
  refine hK7 _ _ ?_
  refine x_seq fun K8 hK8 => ?_
  refine x_region ?_
  refine s_go (s_move) ?_
  try simp only [opv, nZ, Value.cells]
  refine s_call en192 ?_
  try simp only [opv, nZ, Value.cells, List.map_toArray, List.map_cons, List.map_nil, List.append_toArray, List.cons_append, List.nil_append, Array.append_empty]
  refine CallR.mono (c_cwell _ g ((namS 0 xs).2.1) Aa ca ((namS 0 xs).2.2) hcpa (hS.owns (by repeat (first | exact Spl.nil | (apply Spl.cons (by repeat (first | exact Del.head | apply Del.tail))))))) ?_
  rintro _ w8 ⟨rfl, hC8⟩
  replace hS := hS.frame (by repeat (first | exact Spl.nil | (apply Spl.cons (by repeat (first | exact Del.head | apply Del.tail))))) hC8 (by intro r hr g hg; simp only [List.mem_cons, List.not_mem_nil, or_false] at hr; rcases hr with rfl | rfl | rfl <;> first | (simp [Res.reads] at hg; done) | exact .inr ⟨_, by simp, .inr hg⟩)
  simp only [List.cons_append, List.nil_append] at hS
  try simp only [opv, nZ, Value.cells]
  refine x_nil ?_
  refine hK8 _ _ ?_
  refine x_cond (ht := fun hc2 => ?_) (hf := fun hc2 => ?_)
  ·
   try simp only [dZ, ne_eq, bne_iff_ne, beq_iff_eq] at hc2
   refine x_seq fun K9 hK9 => ?_
   refine x_region ?_
   refine s_go (m_load_row Tryz.underlying41 (hi := ti41) (hS := hS)) ?_
   try simp only [opv, nZ, Value.cells, List.getElem_toArray, List.getElem_cons_zero, List.getElem_cons_succ]
   refine m_store_obj ti41 (hS := hS) (h := fun w9 hS => ?_)
   try simp only [opv, nZ, Value.cells, Array.toArray_toList] at hS ⊢
   refine x_nil ?_
   refine hK9 _ _ ?_
   refine x_ret ?_
   refine r_cell_agg rfl Tryz.underlying41 ti41 (hS := hS) (hR := ?_)
   exact ⟨rfl, _, _, by assumption, by assumption, hS.sel (by repeat (first | exact Sel.nil | (refine Sel.cons (by repeat (exact Del.head)) ?_)))⟩
  ·
   try simp only [dZ, ne_eq, bne_iff_ne, beq_iff_eq] at hc2
   have hx0 := namS_bad (by simpa using hc2)
   refine x_skip ?_
   refine hK6 _ _ ?_
   refine x_seq fun K10 hK10 => ?_
   refine x_region ?_
   refine s_go (m_load_row Tryz.underlying41 (hi := ti41) (hS := hS)) ?_
   try simp only [opv, nZ, Value.cells, List.getElem_toArray, List.getElem_cons_zero, List.getElem_cons_succ]
   refine m_store_obj ti41 (hS := hS) (h := fun w10 hS => ?_)
   try simp only [opv, nZ, Value.cells, Array.toArray_toList] at hS ⊢
   refine x_nil ?_
   refine hK10 _ _ ?_
   refine x_ret ?_
   refine r_cell_agg rfl Tryz.underlying41 ti41 (hS := hS) (hR := ?_)
   exact ⟨by rw [hx0], _, _, by assumption, by assumption, hS.sel (by repeat (first | exact Sel.nil | (refine Sel.cons (by repeat (exact Del.head)) ?_)))⟩
theorem c_cName (w0 : World) (g : Nat) (e : Int) (A : Option Addr) (c : Nat) (xs : List Int) (hc : xs.length ≤ c) (hw : Byt xs) (hn : xs.length ≤ 1000000000) (hM : St (OwnB [.obj g (.cells #[.int .i64 e, .slice A xs.length c] 189 (0, 0)), .rd A 1 xs.length (xs.map (Value.int .u8))]) w0 w0 [.obj g (.cells #[.int .i64 e, .slice A xs.length c] 189 (0, 0)), .rd A 1 xs.length (xs.map (Value.int .u8))]) :
    CallR Tryz.prog 219 #[.pointer (some ⟨g, 0, none⟩)] w0 fun v w' => v = .agg (ic .u8 (namS e xs).1) ∧ CuSt w0 w' [.obj g (.cells #[.int .i64 e, .slice A xs.length c] 189 (0, 0)), .rd A 1 xs.length (xs.map (Value.int .u8))] g (namS e xs).2.1 (namS e xs).2.2 [] := by
 have hS := hM
 have h0l : nm0.length = 8 := rfl
 have hnl := namS_len e xs
 refine c_enter (l := [.pointer (some ⟨g, 0, none⟩), undef, undef, undef, undef]) Tryz.func219 rfl (by simp only [Tryz.ntmps219, List.size_toArray, List.length_cons, List.length_nil, Nat.reduceAdd, Nat.reduceSub, Array.replicate_succ, Array.replicate_zero, List.push_toArray, List.append_toArray, List.nil_append, List.cons_append]) ?_
 refine x_seq fun K1 hK1 => ?_
 refine x_region ?_
 refine m_alloc ti41 hS (fun w1 g1 hS => ?_)
 try simp only [opv, nZ, Value.cells, Array.toArray_toList] at hS ⊢
 replace hS : St (OwnB [.obj g (.cells #[.int .i64 e, .slice A xs.length c] 189 (0, 0)), .rd A 1 xs.length (xs.map (Value.int .u8))]) w0 w1 (.obj _ (.cells (ic .u8 nm0) 41 (0, 0)) :: [.obj g (.cells #[.int .i64 e, .slice A xs.length c] 189 (0, 0)), .rd A 1 xs.length (xs.map (Value.int .u8))]) := hS
 refine x_nil ?_
 refine hK1 _ _ ?_
 refine x_seq fun K2 hK2 => ?_
 refine x_region ?_
 refine s_go (s_move) ?_
 try simp only [opv, nZ, Value.cells]
 refine s_call en241 ?_
 try simp only [opv, nZ, Value.cells, List.map_toArray, List.map_cons, List.map_nil, List.append_toArray, List.cons_append, List.nil_append, Array.append_empty]
 refine CallR.mono (c_onceNm _ g e A c xs hc hw hn (hS.owns (by repeat (first | exact Spl.nil | (apply Spl.cons (by repeat (first | exact Del.head | apply Del.tail))))))) ?_
 rintro _ w2 ⟨rfl, A2, c2, hcp2, hR2, hC2⟩
 have hY2 := RdIn.trans hM hS (by repeat (first | exact Spl.nil | (apply Spl.cons (by repeat (first | exact Del.head | apply Del.tail))))) hR2 (by intro s hs q hb; simp only [List.mem_cons, List.not_mem_nil, or_false] at hs; rcases hs with rfl | rfl <;> first | (simp [Res.reads] at hb; done) | exact .inr ⟨_, List.mem_cons_of_mem _ (List.mem_cons_self ..), .inr hb⟩)
 replace hS := hS.frame (by repeat (first | exact Spl.nil | (apply Spl.cons (by repeat (first | exact Del.head | apply Del.tail))))) hC2 (by intro r hr b hb; simp only [List.mem_cons, List.not_mem_nil, or_false] at hr; rcases hr with rfl | rfl <;> first | (simp [Res.reads] at hb; done) | exact hR2 b hb)
 replace hR2 := hY2
 simp only [List.cons_append, List.nil_append] at hS
 try simp only [opv, nZ, Value.cells]
 refine m_store_obj ti41 (hS := hS) (h := fun w3 hS => ?_)
 try simp only [opv, nZ, Value.cells, Array.toArray_toList] at hS ⊢
 refine x_nil ?_
 refine hK2 _ _ ?_
 refine x_ret ?_
 refine r_cell_agg rfl Tryz.underlying41 ti41 (hS := hS) (hR := ?_)
 exact ⟨rfl, _, _, by assumption, by assumption, hS.sel (by repeat (first | exact Sel.nil | (refine Sel.cons (by repeat (exact Del.head)) ?_)))⟩
theorem c_cFail (w0 : World) (g : Nat) (e : Int) (A : Option Addr) (c : Nat) (xs : List Int) (hc : xs.length ≤ c) (e' : Int) (hM : St (OwnB [.obj g (.cells #[.int .i64 e, .slice A xs.length c] 189 (0, 0)), .rd A 1 xs.length (xs.map (Value.int .u8))]) w0 w0 [.obj g (.cells #[.int .i64 e, .slice A xs.length c] 189 (0, 0)), .rd A 1 xs.length (xs.map (Value.int .u8))]) :
    CallR Tryz.prog 88 #[.pointer (some ⟨g, 0, none⟩), .int .i64 e'] w0 fun v w' => v = .tuple #[] ∧ CuSt w0 w' [.obj g (.cells #[.int .i64 e, .slice A xs.length c] 189 (0, 0)), .rd A 1 xs.length (xs.map (Value.int .u8))] g (errE e e') (errX e e' xs) [] := by
 have hS := hM
 refine c_enter (l := [.pointer (some ⟨g, 0, none⟩), .int .i64 e', undef, undef, undef, undef, undef, undef, undef]) Tryz.func88 rfl (by simp only [Tryz.ntmps88, List.size_toArray, List.length_cons, List.length_nil, Nat.reduceAdd, Nat.reduceSub, Array.replicate_succ, Array.replicate_zero, List.push_toArray, List.append_toArray, List.nil_append, List.cons_append]) ?_
 refine x_seq fun K1 hK1 => ?_
 refine x_region ?_
 refine s_go (s_move) ?_
 try simp only [opv, nZ, Value.cells]
 refine s_go (s_neq_pointer Tryz.underlying130) ?_
 try simp only [opv, nZ, Value.cells]
 refine x_nil ?_
 refine hK1 _ _ ?_
 refine x_cond_t (h := ?_)
 refine x_region ?_
 refine s_go (s_move) ?_
 try simp only [opv, nZ, Value.cells]
 refine s_go (s_move) ?_
 try simp only [opv, nZ, Value.cells]
 refine s_call en154 ?_
 try simp only [opv, nZ, Value.cells, List.map_toArray, List.map_cons, List.map_nil, List.append_toArray, List.cons_append, List.nil_append, Array.append_empty]
 refine CallR.mono (c_cerr _ g e A c xs hc e' (hS.owns (by repeat (first | exact Spl.nil | (apply Spl.cons (by repeat (exact Del.head))))))) ?_
 rintro _ w1 ⟨rfl, A1, c1, hcp1, hR1, hC1⟩
 have hY1 := RdIn.trans hM hS (by repeat (first | exact Spl.nil | (apply Spl.cons (by repeat (exact Del.head))))) hR1 (by intro s hs q hb; simp only [List.mem_cons, List.not_mem_nil, or_false] at hs; rcases hs with rfl | rfl <;> first | (simp [Res.reads] at hb; done) | exact .inr ⟨_, List.mem_cons_of_mem _ (List.mem_cons_self ..), .inr hb⟩)
 replace hS := hS.frame (by repeat (first | exact Spl.nil | (apply Spl.cons (by repeat (exact Del.head))))) hC1 (by intro r hr b hb; simp only [List.mem_cons, List.not_mem_nil, or_false] at hr; rcases hr with rfl | rfl <;> first | (simp [Res.reads] at hb; done) | exact hR1 b hb)
 replace hR1 := hY1
 simp only [List.cons_append, List.nil_append] at hS
 try simp only [opv, nZ, Value.cells]
 refine x_nil ?_
 refine r_none rfl ?_
 exact ⟨rfl, _, _, by assumption, by assumption, hS.sel (by repeat (first | exact Sel.nil | (refine Sel.cons (by repeat (exact Del.head)) ?_)))⟩
end Go.Proofs.YtffmanidnlbjjaaGreat
namespace Go.Proofs.YtffmanidnlbjjaaGreat
open Go.ChangeShapes Go.WideShapes Go.ChangeAt Go.RowKit
section
variable {H : Type} {enc : TypeId × Value → H} {P : Program}
theorem trodAll_stays {W W' : World} {sp : Nat → Bool} (hl : laidOutB P = true) (hsame : ∀ p : MemPlace, p.block < W.heap.size → W.sameAt W' p) :
    ∀ (ts : List TypeId) (vs : List Value) (ds : List (DataW H)) (ps : List MemPlace), (ts.all fun t => P.readableRec t && decide (t < P.types.size)) = true → (∀ p ∈ ps, p.block < W.heap.size) → (∀ p ∈ ps, sp p.block = true) →
      DataW.TrodAll enc P W 0 (fun _ => true) true ts vs ds ps → DataW.TrodAll enc P W' 0 sp true ts vs ds ps
  | [], [], [], _, _, _, _, h => h
  | t :: ts, v :: vs, d :: ds, ps, hr, hlt, hsp, h => by
    obtain ⟨p, q, h1, h2, rfl⟩ := h
    simp only [List.all_cons, Bool.and_eq_true, decide_eq_true_eq] at hr
    exact ⟨p, q, WideElems.Trod_stays hl hr.1.1 hr.1.2 h1 (fun x hx => hsame x (hlt x (by simp [hx]))) (fun x hx => hsp x (by simp [hx])), trodAll_stays hl hsame ts vs ds q hr.2 (fun x hx => hlt x (by simp [hx])) (fun x hx => hsp x (by simp [hx])) h2, rfl⟩
  | [], _ :: _, _, _, _, _, _, h => by simp [DataW.TrodAll] at h
  | [], [], _ :: _, _, _, _, _, h => by simp [DataW.TrodAll] at h
  | _ :: _, [], _, _, _, _, _, h => by simp [DataW.TrodAll] at h
  | _ :: _, _ :: _, [], _, _, _, _, h => by simp [DataW.TrodAll] at h
theorem trodAll_len {W : World} {b : Nat} {sp : Nat → Bool} {hd : Bool} : ∀ (ts : List TypeId) (vs : List Value) (ds : List (DataW H)) (ps : List MemPlace), DataW.TrodAll enc P W b sp hd ts vs ds ps → ds.length = ts.length
  | [], [], [], _, _ => rfl
  | t :: ts, v :: vs, d :: ds, ps, h => by
    obtain ⟨p, q, h1, h2, rfl⟩ := h
    simp [trodAll_len ts vs ds q h2]
  | [], _ :: _, _, _, h => by simp [DataW.TrodAll] at h
  | [], [], _ :: _, _, h => by simp [DataW.TrodAll] at h
  | _ :: _, [], _, _, h => by simp [DataW.TrodAll] at h
  | _ :: _, _ :: _, [], _, h => by simp [DataW.TrodAll] at h
theorem post_of_below {f : Func} {s : ChangeSpec} {apart fresh handsOn again : Bool} {W W' : World} {args : Array Value} {v : Value} {ds gs : List (DataW H)} {before pa pv : List MemPlace}
    (hW : DataW.Whole enc P f.params.toList s.vars apart W args.toList ds gs before)
    (hres : ∀ (b : Nat) (sp : Nat → Bool) (hd : Bool), DataW.TrodAll enc P W' b sp hd f.resultTypes.toList (v.resultList f.resultTypes.size) (s.fn H (ds ++ gs)).results [])
    (hargs : ∀ sp : Nat → Bool, (∀ p ∈ before, sp p.block = true) → DataW.TrodAll enc P W' 0 sp true f.params.toList args.toList (s.fn H (ds ++ gs)).args pa)
    (hvars : ∀ sp : Nat → Bool, (∀ p ∈ before, sp p.block = true) → DataW.TrodVars enc P W' sp s.vars (s.fn H (ds ++ gs)).vars pv)
    (hps : before = pa ++ pv) (hb : Below W.heap.size W W')
    (hok : ∀ (j : Nat) (t : TypeId) (r : Value), f.resultTypes[j]? = some t → (v.resultList f.resultTypes.size)[j]? = some r → Value.okWide P W' .any 0 t r) :
    s.post enc P f apart fresh handsOn again W args v W' := by
  have hlt : ∀ p ∈ before, p.block < W.heap.size := fun p hp => hW.lt p hp
  have hold : ∀ p ∈ before, (fun b => decide (b < W.heap.size)) p.block = true := fun p hp => by simpa using hlt p hp
  refine ⟨ds, gs, before, [], pa, pv, hW, hres _ _ _, hargs _ hold, hvars _ hold, World.keptBut_mono (fun p hp => ⟨hp, ?_⟩) (hb.frame (· ∈ before)), fun _ => ?_⟩
  · rw [hps, List.mem_append] at hp
    exact Or.inr hp
  · obtain ⟨_, _, _, _, _, hz, hn⟩ := hW
    refine ⟨hok, _, _, ([] ++ pa) ++ pv, ⟨[] ++ pa, pv, trodAll_append (hargs _ (fun _ _ => rfl)) (hres _ _ _), hvars _ (fun _ _ => rfl), rfl, ?_, ?_⟩, ?_⟩
    · intro b off hp
      have hin : MemPlace.cell b off ∈ before := by rw [hps]; simpa using hp
      rw [hb.frozen (hlt _ hin)]
      exact hz b off hin
    · intro ha
      have := hn ha
      rw [hps] at this
      simpa using this
    · intro p hp _
      rw [hps]
      simpa using hp
end
theorem law_lifted {H : Type} {enc : TypeId × Value → H} {C : Checked} {os : Os} {k : FuncId} {fn : Func} {s : ChangeSpec} {conds : List PathCond} {tb : TypeId}
    (own : ownKnob C.prog.godebug = none) (started : os.Started) (noInit : C.prog.inits.idxOf? k = none) (hfn : C.prog.funcs[k]? = some fn)
    (i : Input) (fuel : Nat)
    (hv : (World.plainHolding C.prog os i).variablesB C.prog = true)
    (hr : ((World.plainHolding C.prog os i).heap.toList.drop C.prog.globals.size).take ((begin C.prog (fun _ _ => 0) default).world.heap.size - C.prog.globals.size) =
      (begin C.prog (fun _ _ => 0) default).world.heap.toList.drop C.prog.globals.size)
    (hok : Input.okWideB C.prog (World.plainHolding C.prog os i) k ⟨#[], i.args, []⟩ = true)
    (hpre : s.preB enc C.prog fn conds false (World.plainHolding C.prog os i).memory i.args fuel = true)
    (hsz : s.sizedB enc C.prog fn false (World.plainHolding C.prog os i).memory i.args fuel = true)
    (hl : laidOutB C.prog = true) (hvars : s.vars = []) (hpar : (fn.params.toList.all fun t => C.prog.readableRec t && decide (t < C.prog.types.size)) = true)
    (hspec : ∀ ds : List (DataW H), ds.length = fn.params.size → s.fn H ds = { results := [.lit (.bool true)], args := ds })
    (hres : fn.resultTypes = #[tb]) (hb : C.prog.underlying tb = some .bool)
    (walk : ∀ (W : World) (base : Nat) (args : Array Value) (ds : List (DataW H)) (ps : List MemPlace),
      (∀ (j : Nat) t v, fn.params[j]? = some t → args[j]? = some v → Value.okWide C.prog W .any base t v) →
      DataW.TrodAll enc C.prog W 0 (fun _ => true) true fn.params.toList args.toList ds ps →
      (∀ x ∈ DataW.weightsEach C.prog fn.params.toList ds, x ≤ reachBytes) →
      CallR C.prog k args W fun v W' => v = .bool true ∧ Ext W W') :
    ReturnsInHanded {} C os k .any (s.pre6 enc C.prog fn conds false) (s.post enc C.prog fn false true false false) := by
  refine returnsInHanded_of_change_sized (C := C) own started noInit hfn (ChangeSpec.witness6 (enc := enc) (C := C) false i fuel hv hr hok hpre hsz) ?_
  intro W base args ds gs before hval hW _ hwt _
  have hW' := hW
  obtain ⟨p, q, hA, hV, hpq, hfz, hnd⟩ := hW
  rw [hvars] at hV
  obtain ⟨rfl, rfl⟩ := trodVars_none hV
  have hlen := trodAll_len _ _ _ _ hA
  have hwt' : ∀ x ∈ DataW.weightsEach C.prog fn.params.toList ds, x ≤ reachBytes := by
    have e : s.plain.varTypes C.prog = [] := by simp [ChangeSpec.plain, DataSpec.varTypes, hvars]
    rw [e, List.append_nil, List.append_nil] at hwt
    simpa using hwt
  refine Calls.mono (walk W base args ds p hval hA hwt') fun e W' ⟨v, he, hv, hE⟩ => ⟨v, he, ?_⟩
  subst hv
  have hB := hE.below
  have hs := hspec ds (by simpa using hlen)
  have hlt : ∀ x ∈ before, x.block < W.heap.size := fun x hx => hW'.lt x hx
  have hpb : before = p := by rw [hpq]; simp
  refine post_of_below (pa := p) (pv := []) hW' ?_ ?_ ?_ ?_ hB ?_
  · intro b sp hd
    rw [hres, List.append_nil, hs]
    exact trodAll_mk1 (shut_bool hb true)
  · intro sp hsp
    rw [List.append_nil, hs]
    exact trodAll_stays hl (fun x hx => hB.same hx) _ _ _ _ hpar (fun x hx => hlt x (hpb ▸ hx)) (fun x hx => hsp x (hpb ▸ hx)) hA
  · intro sp _
    rw [List.append_nil, hs, hvars]
    rfl
  · rw [hpb]; simp
  · exact ok_one hres rfl (okWide_bool_mk hb true)
end Go.Proofs.YtffmanidnlbjjaaGreat
namespace Go.Proofs.YtffmanidnlbjjaaGreat
open Go.ChangeShapes Go.WideShapes Go.ChangeAt Go.RowKit
theorem add_at0 (g o k : Nat) : (⟨g, o, none⟩ : Addr).add k = ⟨g, o + k, none⟩ := by unfold Addr.add; split <;> simp_all
/-- what a cell may hold, in a world -/
def LK := World → Value → Prop
def LK.int (k : IntKind) : LK := fun _ v => ∃ n, v = .int k n ∧ (Lit.int k n).wf = true
def LK.bool : LK := fun _ v => ∃ b, v = .bool b
def AllOk (w : World) : List LK → List Value → Prop
  | [], [] => True
  | k :: ks, v :: vs => k w v ∧ AllOk w ks vs
  | _, _ => False
theorem AllOk.len {w : World} : ∀ {ks : List LK} {vs : List Value}, AllOk w ks vs → vs.length = ks.length
  | [], [], _ => rfl
  | _ :: _, _ :: _, h => by simp [AllOk.len h.2]
  | [], _ :: _, h => h.elim
  | _ :: _, [], h => h.elim
theorem AllOk.app {w : World} : ∀ {ks js : List LK} {vs us : List Value}, AllOk w ks vs → AllOk w js us → AllOk w (ks ++ js) (vs ++ us)
  | [], _, [], _, _, h => h
  | _ :: _, _, _ :: _, _, h, h' => ⟨h.1, AllOk.app h.2 h'⟩
  | [], _, _ :: _, _, h, _ => h.elim
  | _ :: _, _, [], _, h, _ => h.elim
/-- the cells of a type that holds no pointer -/
def Flat (P : Program) (t : TypeId) (ks : List LK) : Prop := ∀ {H : Type} (enc : TypeId × Value → H) (w : World) (base : Nat) (sp : Nat → Bool) (held : Bool) (fuel : Nat) (cs : List Value) (x : DataW H × List MemPlace),
  DataW.trod enc P w base sp held fuel t cs = some x → AllOk w ks cs
section
variable {P : Program} {t e : TypeId} {ks : List LK}
theorem flat_int {k : IntKind} (h : P.underlying t = some (.int k)) : Flat P t [.int k] := fun _ _ _ _ _ _ _ _ hx => by
  obtain ⟨n, rfl, _, hw⟩ := DataW.trod_int h hx
  exact ⟨⟨n, rfl, hw⟩, trivial⟩
end
section
variable {H : Type} {enc : TypeId × Value → H} {P : Program} {w : World} {base : Nat} {sp : Nat → Bool} {held : Bool} {t e : TypeId} {r : Reach} {b0 : Nat} {v : Value} {d : DataW H} {ps : List MemPlace} {ks : List LK}
/-- a slice's elements, out of the look at its cells -/
theorem slice_trod {sz : Nat} (hu : P.underlying t = some (.slice e)) (hf : Flat P e ks) (hk : ks.length = sz) (hce : P.cellsOf e = sz) (h0 : 0 < sz) {m : Nat} {cs : List Value} (hm : DataW.trod enc P w base sp held m t cs = some (d, ps)) :
    ∃ A n c xs, cs = [.slice A n c] ∧ n ≤ c ∧ c ≤ maxLen ∧ Rd w A sz n xs ∧ (∀ i, i < n → AllOk w ks ((xs.drop (i * sz)).take sz)) ∧ (n = 0 ∨ ∃ es rs, d = .slice es rs ∧ es.length = n) := by
  rcases DataW.trod_slice hu hm with ⟨e1, _⟩ | ⟨a, len, cap, elems, rest, n, _, e1, hx, hb, hlc, hcm, hel, hcells, _, _⟩
  · exact ⟨none, 0, 0, [], e1, Nat.le_refl _, Nat.zero_le _, ⟨by simp, fun h => absurd h (by omega)⟩, fun i hi => absurd hi (by omega), .inl rfl⟩
  · subst e1
    simp only [Prod.mk.injEq] at hx
    -- the elements' cells, one by one
    have hone : ∀ i, i < len → ∃ cs : List Value, cs.length = sz ∧ AllOk w ks cs ∧ ∀ j, j < sz → w.cell? ((a.add (i * sz)).add j) = cs[j]? := fun i hi => by
      have h1 := hcells i hi
      rw [hce] at h1
      have hlt : i < elems.length := by omega
      rw [List.getElem?_eq_getElem hlt] at h1
      cases hc : w.cells? base (a.add (i * sz)) sz with
      | none => rw [hc] at h1; cases h1
      | some cs =>
        rw [hc] at h1
        obtain ⟨_, hl, hj⟩ := World.cells?_some hc
        exact ⟨cs, hl, hf _ _ _ _ _ _ _ _ h1, hj⟩
    have hrow : ∀ n, n ≤ len → ∃ xs : List Value, xs.length = n * sz ∧ (∀ i, i < n → AllOk w ks ((xs.drop (i * sz)).take sz)) ∧ ∀ i j, i < n → j < sz → w.cell? ((a.add (i * sz)).add j) = xs[i * sz + j]? := by
      intro n
      induction n with
      | zero => exact fun _ => ⟨[], by simp, fun i hi => absurd hi (by omega), fun i j hi => absurd hi (by omega)⟩
      | succ n ih =>
        intro hn
        obtain ⟨xs, hl, hok, hc⟩ := ih (by omega)
        obtain ⟨cs, hcl, hcok, hcc⟩ := hone n (by omega)
        refine ⟨xs ++ cs, by simp [hl, hcl, Nat.succ_mul], fun i hi => ?_, fun i j hi hj => ?_⟩
        · rcases Nat.lt_or_ge i n with h | h
          · have h2 : i * sz + sz ≤ n * sz := by rw [← Nat.succ_mul]; exact Nat.mul_le_mul_right _ h
            rw [List.drop_append_of_le_length (by omega), List.take_append_of_le_length (by simp; omega)]
            exact hok i h
          · obtain rfl : i = n := by omega
            rw [List.drop_append, hl, List.drop_eq_nil_of_le (by omega)]
            simp only [Nat.sub_self, List.drop_zero, List.nil_append]
            rwa [List.take_of_length_le (by omega)]
        · rcases Nat.lt_or_ge i n with h | h
          · have h2 : i * sz + sz ≤ n * sz := by rw [← Nat.succ_mul]; exact Nat.mul_le_mul_right _ h
            rw [List.getElem?_append_left (by omega)]
            exact hc i j h hj
          · obtain rfl : i = n := by omega
            rw [List.getElem?_append_right (by omega), hl, Nat.add_sub_cancel_left]
            exact hcc j hj
    obtain ⟨xs, hl, hok, hc⟩ := hrow len (Nat.le_refl _)
    refine ⟨some a, len, cap, xs, rfl, hlc, hcm, ⟨hl, fun hn => ?_⟩, hok, .inr ⟨_, _, hx.1, by simpa using hel⟩⟩
    -- the address is a plain one
    have h0' := hc 0 0 hn h0
    have hlt : 0 < xs.length := by rw [hl]; exact Nat.mul_pos hn h0
    obtain ⟨b, o, spot⟩ := a
    simp only [Nat.zero_mul, Nat.add_zero, Addr.add, if_true] at h0'
    rw [List.getElem?_eq_getElem hlt] at h0'
    have hsp : spot = none := by
      unfold World.cell? at h0'
      split at h0'
      · split at h0'
        · cases h0'
        · rename_i hs; simpa using hs
      · cases h0'
    subst hsp
    refine ⟨b, o, rfl, World.block_lt_of_cell? _ _ h0', fun j u hu => ?_⟩
    have hj := (List.getElem?_eq_some_iff.1 hu).1
    have hdm := Nat.div_add_mod j sz
    have h3 := hc (j / sz) (j % sz) (by rw [hl] at hj; exact Nat.div_lt_of_lt_mul (by rw [Nat.mul_comm]; exact hj)) (Nat.mod_lt _ h0)
    have hdm' : j / sz * sz + j % sz = j := by rw [Nat.mul_comm]; exact hdm
    rw [add_at0, add_at0, Nat.add_assoc, hdm'] at h3
    rw [← hu, ← h3]
theorem open_slice {sz : Nat} (hu : P.underlying t = some (.slice e)) (hf : Flat P e ks) (hk : ks.length = sz) (hce : P.cellsOf e = sz) (h0 : 0 < sz) (hval : Value.okWide P w r b0 t v) (h : DataW.Trod enc P w base sp held t v d ps) :
    ∃ A n c xs, v = .slice A n c ∧ n ≤ c ∧ c ≤ maxLen ∧ Rd w A sz n xs ∧ (∀ i, i < n → AllOk w ks ((xs.drop (i * sz)).take sz)) ∧ (n = 0 ∨ ∃ es rs, d = .slice es rs ∧ es.length = n) := by
  obtain ⟨A, len, cap, rfl⟩ := okWide_slice hu hval
  obtain ⟨m, hm⟩ := h
  obtain ⟨A', n, c, xs, e1, h⟩ := slice_trod hu hf hk hce h0 hm
  simp [Value.cells] at e1
  obtain ⟨rfl, rfl, rfl⟩ := e1
  exact ⟨_, _, _, xs, rfl, h⟩
/-- a slice of integers -/
theorem allOk_int1 {w : World} {k : IntKind} : ∀ {vs : List Value}, (∀ i, i < vs.length → AllOk w [LK.int k] ((vs.drop (i * 1)).take 1)) → ∃ l : List Int, vs = l.map (Value.int k) ∧ l.length = vs.length ∧ ∀ x ∈ l, (Lit.int k x).wf = true
  | [], _ => ⟨[], rfl, rfl, by simp⟩
  | v :: vs, h => by
    have h0 := h 0 (by simp)
    simp only [Nat.zero_mul, List.drop_zero, List.take_succ_cons, List.take_zero] at h0
    obtain ⟨⟨x, rfl, hx⟩, _⟩ := h0
    obtain ⟨l, rfl, hl, hw⟩ := allOk_int1 (vs := vs) (fun i hi => by have := h (i + 1) (by simpa using hi); simpa using this)
    exact ⟨x :: l, rfl, by simp, by intro y hy; rcases List.mem_cons.1 hy with rfl | hy; exact hx; exact hw y hy⟩
theorem open_ints {k : IntKind} (hu : P.underlying t = some (.slice e)) (he : P.underlying e = some (.int k)) (hce : P.cellsOf e = 1) (hval : Value.okWide P w r b0 t v) (h : DataW.Trod enc P w base sp held t v d ps) :
    ∃ (A : Option Addr) (n c : Nat) (l : List Int), v = .slice A n c ∧ n ≤ c ∧ Rd w A 1 n (l.map (Value.int k)) ∧ l.length = n ∧ (∀ x ∈ l, (Lit.int k x).wf = true) ∧ (n = 0 ∨ ∃ es rs, d = .slice es rs ∧ es.length = n) := by
  obtain ⟨A, n, c, xs, rfl, hnc, _, hr, hok, hd⟩ := open_slice hu (flat_int he) rfl hce Nat.one_pos hval h
  have hl : xs.length = n := by simpa using hr.1
  obtain ⟨l, rfl, hll, hw⟩ := allOk_int1 (vs := xs) (fun i hi => hok i (by omega))
  exact ⟨A, n, c, l, rfl, hnc, hr, by omega, hw, hd⟩
/-- the weight of a slice -/
theorem slice_weight {t e : TypeId} {ts : List TypeId} {d : DataW H} {ds : List (DataW H)} {n by' : Nat} (hu : P.underlying t = some (.slice e)) (hby : P.bytesOf e = by') (h : ∀ x ∈ DataW.weightsEach P (t :: ts) (d :: ds), x ≤ reachBytes) (hd : n = 0 ∨ ∃ es rs, d = .slice es rs ∧ es.length = n) : n * by' ≤ reachBytes := by
  rcases hd with rfl | ⟨es, rs, rfl, rfl⟩
  · simp
  · have := h ((es.length + rs.length) * P.bytesOf e) (by simp [DataW.weightsEach, DataW.weights, hu])
    rw [hby] at this
    exact Nat.le_trans (Nat.mul_le_mul_right _ (by omega)) this
theorem rest_weight {t : TypeId} {ts : List TypeId} {d : DataW H} {ds : List (DataW H)} (h : ∀ x ∈ DataW.weightsEach P (t :: ts) (d :: ds), x ≤ reachBytes) : ∀ x ∈ DataW.weightsEach P ts ds, x ≤ reachBytes := fun x hx => h x (by simp [DataW.weightsEach, hx])
end
end Go.Proofs.YtffmanidnlbjjaaGreat
namespace Go.Proofs.YtffmanidnlbjjaaGreat
/-- the cells of a row of things -/
def rowsOf {α : Type} (cells : α → List Value) (l : List α) : List Value := (l.map cells).flatten
section
variable {α : Type} {cells : α → List Value} {sz : Nat}
theorem rowsOf_cons (a : α) (l : List α) : rowsOf cells (a :: l) = cells a ++ rowsOf cells l := rfl
theorem rowsOf_app (l m : List α) : rowsOf cells (l ++ m) = rowsOf cells l ++ rowsOf cells m := by simp [rowsOf]
theorem rows_len (h : ∀ a, (cells a).length = sz) : ∀ l : List α, (rowsOf cells l).length = l.length * sz
  | [] => by simp [rowsOf]
  | a :: l => by rw [rowsOf_cons, List.length_append, rows_len h l, h a, List.length_cons, Nat.succ_mul, Nat.add_comm]
theorem rows_drop (h : ∀ a, (cells a).length = sz) (l : List α) (k : Nat) : (rowsOf cells l).drop (k * sz) = rowsOf cells (l.drop k) := by
  rcases Nat.lt_or_ge l.length k with hk | hk
  · have h1 : l.length * sz ≤ k * sz := Nat.mul_le_mul_right _ (by omega)
    rw [List.drop_eq_nil_of_le (by rw [rows_len h]; exact h1), List.drop_eq_nil_of_le (by omega)]; rfl
  · conv => lhs; rw [← List.take_append_drop k l, rowsOf_app]
    exact List.drop_left' (by rw [rows_len h, List.length_take, Nat.min_eq_left hk])
theorem rows_get (h : ∀ a, (cells a).length = sz) (d : α) {l : List α} {k : Nat} (hk : k < l.length) : ((rowsOf cells l).drop (k * sz)).take sz = cells (l.getD k d) := by
  rw [rows_drop h, List.drop_eq_getElem_cons hk, rowsOf_cons, List.take_left' (h _)]
  simp [List.getD_eq_getElem?_getD, List.getElem?_eq_getElem hk]
theorem rows_at (h : ∀ a, (cells a).length = sz) (d : α) {l : List α} {k j : Nat} (hk : k < l.length) (hj : j < sz) : (rowsOf cells l)[k * sz + j]? = (cells (l.getD k d))[j]? := by
  rw [← rows_get h d hk, List.getElem?_take_of_lt hj, List.getElem?_drop]
end
structure Pc where
  d : Int
  x : Nat
  c : Int
  nm : List Int
  A : Option Addr
  cap : Nat
  b : List Int
  n : Int
theorem ic8 {l : List Int} (h : l.length = 8) : (#[.int .u8 (l.getD 0 0), .int .u8 (l.getD 1 0), .int .u8 (l.getD 2 0), .int .u8 (l.getD 3 0), .int .u8 (l.getD 4 0), .int .u8 (l.getD 5 0), .int .u8 (l.getD 6 0), .int .u8 (l.getD 7 0)] : Array Value) = ic .u8 l := by
  match l, h with
  | [_, _, _, _, _, _, _, _], _ => rfl
structure PcOk (w : World) (p : Pc) : Prop where
  d : -9223372036854775808 ≤ p.d ∧ p.d ≤ 9223372036854775807
  x : p.x < 18446744073709551616
  c : 0 ≤ p.c ∧ p.c ≤ 255
  nl : p.nm.length = 8
  nb : Byt p.nm
  rd : Rd w p.A 1 p.b.length (p.b.map (Value.int .u8))
  bb : Byt p.b
  bc : p.b.length ≤ p.cap
  bm : p.cap ≤ maxLen
  n : -9223372036854775808 ≤ p.n ∧ p.n ≤ 9223372036854775807
end Go.Proofs.YtffmanidnlbjjaaGreat
namespace Go.Proofs.YtffmanidnlbjjaaGreat
/-- the cells of a piece -/
abbrev pA (d : Int) (x : Nat) (c : Int) (nm : List Int) (B : Option Addr) (m k : Nat) (n : Int) : Array Value := #[.int .i64 d, .int .u64 (x : Int), .int .u8 c, .int .u8 (nm.getD 0 0), .int .u8 (nm.getD 1 0), .int .u8 (nm.getD 2 0), .int .u8 (nm.getD 3 0), .int .u8 (nm.getD 4 0), .int .u8 (nm.getD 5 0), .int .u8 (nm.getD 6 0), .int .u8 (nm.getD 7 0), .slice B m k, .int .i64 n]
abbrev pP (p : Pc) : Array Value := pA p.d p.x p.c p.nm p.A p.b.length p.cap p.n
end Go.Proofs.YtffmanidnlbjjaaGreat
set_option linter.unusedSimpArgs false
set_option linter.unusedVariables false
set_option maxHeartbeats 800000
set_option maxRecDepth 100000
namespace Go.Proofs.YtffmanidnlbjjaaGreat
open Go.RowKit

theorem PcOk.ext {w w' : World} {p : Pc} (h : PcOk w p) (hE : Ext w w') : PcOk w' p := ⟨h.d, h.x, h.c, h.nl, h.nb, Res.holds_ext (r := .rd p.A 1 p.b.length (p.b.map (Value.int .u8))) h.rd hE, h.bb, h.bc, h.bm, h.n⟩
end Go.Proofs.YtffmanidnlbjjaaGreat
set_option linter.unusedSimpArgs false
set_option linter.unusedVariables false
set_option maxHeartbeats 8000000
set_option maxRecDepth 100000
namespace Go.Proofs.YtffmanidnlbjjaaGreat
open Go.RowKit

theorem unv_cnt {l : List Int} : ∀ (k i x : Nat), ¬ (unv l k i x).2.2 = 0 → (unv l k i x).2.1 = 0 ∧ (unv l k i x).1 = 0
  | 0, _, _, _ => ⟨rfl, rfl⟩
  | k + 1, i, x, h => by
    unfold unv at h ⊢
    split
    · exact ⟨rfl, rfl⟩
    · next h1 =>
      rw [if_neg h1] at h
      split
      · exact ⟨rfl, rfl⟩
      · next h2 =>
        rw [if_neg h2] at h
        split
        · exact ⟨rfl, rfl⟩
        · next h3 =>
          rw [if_neg h3] at h
          split
          · next h4 => rw [if_pos h4] at h; exact absurd rfl h
          · next h4 => rw [if_neg h4] at h; exact unv_cnt k _ _ h
theorem unvar_cnt {xs : List Int} (hb : Byt xs) : (unvar xs).2.1 ≤ xs.length := by
  by_cases h : (unvar xs).2.2 = 0
  · exact (unvar_back hb h).1
  · have := (unv_cnt (l := xs) 10 0 0 h).1
    rw [unvar, this]; exact Nat.zero_le _
def CrSt (w0 w' : World) (M : List Res) (g : Nat) (e : Int) (xs : List Int) (R : List Res) : Prop := ∃ (A : Option Addr) (c : Nat), xs.length ≤ c ∧ RdIn w0 M A xs.length ∧ St (OwnB M) w0 w' (.obj g (.cells #[.slice A xs.length c, .int .i64 e] 140 (0, 0)) :: .rd A 1 xs.length (xs.map (Value.int .u8)) :: R)
/-- where a number that was read ends -/
def NumJ (A : Option Addr) (c : Nat) (xs : List Int) (m x : Nat) (B : Option Addr) (k d : Nat) : Prop := (numS m 0 xs).2.1 = 0 → x = (numS m 0 xs).1 ∧ ∃ j, j ≤ xs.length ∧ (numS m 0 xs).2.2 = xs.drop j ∧ k = xs.length - j ∧ d = c - j ∧ (j < xs.length → B = A.map (·.add j))

theorem c_ref07num (w0 : World) (A : Option Addr) (c : Nat) (xs : List Int) (hr : Rd w0 A 1 xs.length (xs.map (Value.int .u8))) (hw : Byt xs) (hn : xs.length ≤ 1000000000) (hc : xs.length ≤ c) (m : Nat) (hm : m < 18446744073709551616)  :
    CallR Tryz.prog 157 #[.slice A xs.length c, .int .u64 (m : Int)] w0 fun v w' => ∃ (x : Nat) (B : Option Addr) (k d : Nat), v = .tuple #[.int .u64 (x : Int), .slice B k d, .int .i64 (numS m 0 xs).2.1] ∧ Ext w0 w' ∧ NumJ A c xs m x B k d := by
 have hS := St.rd1 (S := NoB) hr
 have hul := unvar_lt hw
 have huc := unvar_cnt hw
 refine c_enter (l := [.slice A xs.length c, .int .u64 (m : Int), undef, undef, undef, undef, undef, undef, undef, undef, undef, undef, undef, undef, undef, undef, undef, undef, undef, undef, undef, undef, undef, undef, undef, undef, undef, undef]) Tryz.func157 rfl (by simp only [Tryz.ntmps157, List.size_toArray, List.length_cons, List.length_nil, Nat.reduceAdd, Nat.reduceSub, Array.replicate_succ, Array.replicate_zero, List.push_toArray, List.append_toArray, List.nil_append, List.cons_append]) ?_
 refine x_seq fun K1 hK1 => ?_
 refine x_region ?_
 refine s_go (s_assign) ?_
 try simp only [opv, nZ, Value.cells]
 refine s_go (s_assign) ?_
 try simp only [opv, nZ, Value.cells]
 refine s_go (s_assign) ?_
 try simp only [opv, nZ, Value.cells]
 refine x_nil ?_
 refine hK1 _ _ ?_
 refine x_seq fun K2 hK2 => ?_
 refine x_region ?_
 refine s_go (s_move) ?_
 try simp only [opv, nZ, Value.cells]
 refine s_call en194 ?_
 try simp only [opv, nZ, Value.cells, List.map_toArray, List.map_cons, List.map_nil, List.append_toArray, List.cons_append, List.nil_append, Array.append_empty]
 refine CallR.mono (c_ref03Unvar _ A _ c xs (hS.hasRd (by repeat (exact Has.head))) rfl hw (by omega) hc) ?_
 rintro _ w1 ⟨rfl, hE1⟩
 replace hS := hS.ext hE1
 try simp only [opv, nZ, Value.cells]
 unfold UnvP
 refine s_go (s_move) ?_
 try simp only [opv, nZ, Value.cells]
 refine s_go (s_extract (hv := rfl)) ?_
 try simp only [List.getElem_toArray, List.getElem_cons_zero, List.getElem_cons_succ]
 try simp only [opv, nZ, Value.cells]
 refine s_go (s_extract (hv := rfl)) ?_
 try simp only [List.getElem_toArray, List.getElem_cons_zero, List.getElem_cons_succ]
 try simp only [opv, nZ, Value.cells]
 refine s_go (s_extract (hv := rfl)) ?_
 try simp only [List.getElem_toArray, List.getElem_cons_zero, List.getElem_cons_succ]
 try simp only [opv, nZ, Value.cells]
 refine s_go (s_assign) ?_
 try simp only [opv, nZ, Value.cells]
 refine s_go (s_assign) ?_
 try simp only [opv, nZ, Value.cells]
 refine s_go (s_assign) ?_
 try simp only [opv, nZ, Value.cells]
 refine x_nil ?_
 refine hK2 _ _ ?_
 refine x_seq fun K3 hK3 => ?_
 refine x_seq fun K4 hK4 => ?_
 refine x_region ?_
 refine s_go (s_move) ?_
 try simp only [opv, nZ, Value.cells]
 refine s_go (s_eql) ?_
 try simp only [opv, nZ, Value.cells]
 refine s_go (s_move) ?_
 try simp only [opv, nZ, Value.cells]
 refine s_part 18 rfl (fun hp1 => ?_) (fun hp1 => ?_)
 ·
  try simp only [n3, n4]
  try simp only [dZ, ne_eq] at hp1
  have h0 : (unvar xs).2.2 = 0 := by omega
  refine g_on (yi (t := 18) rfl rfl) ?_
  refine s_go (s_move) ?_
  try simp only [opv, nZ, Value.cells]
  refine g_on (yi (t := 18) rfl rfl) ?_
  refine s_go (s_move) ?_
  try simp only [opv, nZ, Value.cells]
  refine g_on (yi (t := 18) rfl rfl) ?_
  refine s_go (s_gtr) ?_
  try simp only [opv, nZ, Value.cells]
  refine s_go (s_pick_t) ?_
  try simp only [opv, nZ, Value.cells]
  refine x_nil ?_
  refine hK4 _ _ ?_
  refine x_cond (ht := fun hc1 => ?_) (hf := fun hc1 => ?_)
  ·
   try simp only [dZ, ne_eq, bne_iff_ne, beq_iff_eq] at hc1
   have hN : numS m 0 xs = (0, 2, []) := by simp only [numS, if_true]; rw [if_pos h0, if_neg (by omega)]
   refine x_seq fun K5 hK5 => ?_
   refine x_region ?_
   refine s_go (s_assign) ?_
   try simp only [opv, nZ, Value.cells]
   refine s_go (s_assign) ?_
   try simp only [opv, nZ, Value.cells]
   refine s_go (s_assign) ?_
   try simp only [opv, nZ, Value.cells]
   refine x_nil ?_
   refine hK5 _ _ ?_
   refine x_ret ?_
   refine r_tmp3 rfl ?_
   exact ⟨0, none, 0, 0, by rw [hN]; rfl, hS.ext_of, fun h => by rw [hN] at h; exact absurd h (by decide)⟩
  ·
   try simp only [dZ, ne_eq, bne_iff_ne, beq_iff_eq] at hc1
   have hN : numS m 0 xs = ((unvar xs).1, 0, xs.drop (unvar xs).2.1) := by (simp only [numS, if_true]; rw [if_pos h0, if_pos (by omega)])
   refine x_skip ?_
   refine hK3 _ _ ?_
   refine x_seq fun K6 hK6 => ?_
   refine x_mixed_f [] 0 [4, 5, 6, 23, 24, 25, 26, 27] (fun f w => ∃ B : Option Addr, f 4 = .int .u64 ((unvar xs).1 : Int) ∧ f 5 = .slice B (xs.length - (unvar xs).2.1) (c - (unvar xs).2.1) ∧ f 6 = .int .i64 ((unvar xs).2.2 : Int) ∧ ((unvar xs).2.1 < xs.length → B = A.map (·.add (unvar xs).2.1)) ∧ Ext w0 w) (by kernel_rfl) (by kernel_rfl) (by kernel_rfl) (by decide) hS (fun w2 hS => ?mixpre401) ?mixrest401
   case mixpre401 =>
    refine p_nil ?_
    simp only [List.length_cons, List.length_nil, Nat.reduceAdd, Nat.reduceSub]
    refine any_go (i := 0) (by rfl) (by decide +kernel) (by decide +kernel) noLate_nil (go_yields w_none (fun w hS => s_move)) ?_
    try simp only [opv, nZ, Value.cells]
    refine any_go (i := 1) (by rfl) (by decide +kernel) (by decide +kernel) noLate_nil (go_yields w_none (fun w hS => s_move)) ?_
    try simp only [opv, nZ, Value.cells]
    refine any_go (i := 2) (by rfl) (by decide +kernel) (by decide +kernel) noLate_nil (go_yields w_none (fun w hS => s_move)) ?_
    try simp only [opv, nZ, Value.cells]
    refine any_go (i := 4) (by rfl) (by decide +kernel) (by decide +kernel) noLate_nil (go_yields w_none (fun w hS => s_move)) ?_
    try simp only [opv, nZ, Value.cells]
    refine any_go (i := 5) (by rfl) (by decide +kernel) (by decide +kernel) noLate_nil (go_yields w_none (fun w hS => s_assign)) ?_
    try simp only [opv, nZ, Value.cells]
    refine any_step [3] (by kernel_rfl) (by decide) (fun w3 hE => ⟨fun _ => (hS.ext hE).sel (by repeat (first | exact Sel.nil | (refine Sel.cons (by repeat (exact Del.head)) ?_))), ?_⟩)
    replace hS := hS.ext hE
    intro i hi
    simp only [List.mem_cons, List.not_mem_nil, or_false] at hi
    subst hi
    ·
     refine any_op (by rfl) ?_
     refine m_slice_rd (lo := (unvar xs).2.1) (hi := xs.length) (m := c) Tryz.underlying73 ti5 (hlo := ⟨_, rfl⟩) (hhi := ⟨rfl, rfl⟩) (hmx := rfl) (hS := hS) (h := fun A1 hA1 hS => ?_)
     try simp only [Nat.mul_one, Nat.zero_mul] at hA1
     try simp only [← List.map_append, ← List.map_drop, ← List.map_take, Nat.mul_one, Nat.zero_mul, Nat.sub_zero, List.drop_zero, List.nil_append, Nat.zero_add] at hS ⊢
     try simp only [opv, nZ, Value.cells, Array.toArray_toList] at hS ⊢
     refine x_nil ?_
     refine any_go (i := 6) (by rfl) (by decide +kernel) (by decide +kernel) noLate_nil (go_yields w_none (fun w hS => s_assign)) ?_
     try simp only [opv, nZ, Value.cells]
     refine any_go (i := 7) (by rfl) (by decide +kernel) (by decide +kernel) noLate_nil (go_yields w_none (fun w hS => s_assign)) ?_
     try simp only [opv, nZ, Value.cells]
     refine any_nil (by kernel_rfl) (fun w4 hE => ?_)
     replace hS := hS.ext hE
     refine ⟨fun _ => hS.selA, ?_⟩
     refine mix_leaf (by simp only [clob, List.foldl, nZ]) ?_
     try simp only [n1, n2]
     exact ⟨_, by trivial, rfl, by trivial, by assumption, hS.ext_of⟩
   intro fm1 w5 hM
   obtain ⟨B, h4, h5, h6, hB, hEE⟩ := hM
   simp only [clob, List.foldl, n3, n4, h4, h5, h6]
   refine hK6 _ _ ?_
   refine x_ret ?_
   refine r_tmp3 rfl ?_
   exact ⟨_, B, _, _, by rw [hN, h0]; rfl, hEE, fun _ => by rw [hN]; exact ⟨rfl, _, huc, rfl, rfl, rfl, hB⟩⟩
 ·
  try simp only [n3, n4]
  try simp only [dZ, ne_eq] at hp1
  have h0 : ¬ (unvar xs).2.2 = 0 := by omega
  have hN : numS m 0 xs = (0, ((unvar xs).2.2 : Int), []) := by simp only [numS, if_true]; rw [if_neg h0]
  refine g_off (yi (t := 18) rfl rfl) ?_
  try simp only [opv, nZ, Value.cells]
  refine g_off (yi (t := 18) rfl rfl) ?_
  try simp only [opv, nZ, Value.cells]
  refine g_off (yi (t := 18) rfl rfl) ?_
  try simp only [opv, nZ, Value.cells]
  refine s_go (s_pick_f) ?_
  try simp only [opv, nZ, Value.cells]
  refine x_nil ?_
  refine hK4 _ _ ?_
  refine x_cond_f (h := ?_)
  skip
  refine x_skip ?_
  refine hK3 _ _ ?_
  refine x_seq fun K7 hK7 => ?_
  refine x_mixed_f [] 0 [4, 5, 6, 23, 24, 25, 26, 27] (fun f w => ∃ B : Option Addr, f 4 = .int .u64 ((unvar xs).1 : Int) ∧ f 5 = .slice B (xs.length - (unvar xs).2.1) (c - (unvar xs).2.1) ∧ f 6 = .int .i64 ((unvar xs).2.2 : Int) ∧ ((unvar xs).2.1 < xs.length → B = A.map (·.add (unvar xs).2.1)) ∧ Ext w0 w) (by kernel_rfl) (by kernel_rfl) (by kernel_rfl) (by decide) hS (fun w6 hS => ?mixpre402) ?mixrest402
  case mixpre402 =>
   refine p_nil ?_
   simp only [List.length_cons, List.length_nil, Nat.reduceAdd, Nat.reduceSub]
   refine any_go (i := 0) (by rfl) (by decide +kernel) (by decide +kernel) noLate_nil (go_yields w_none (fun w hS => s_move)) ?_
   try simp only [opv, nZ, Value.cells]
   refine any_go (i := 1) (by rfl) (by decide +kernel) (by decide +kernel) noLate_nil (go_yields w_none (fun w hS => s_move)) ?_
   try simp only [opv, nZ, Value.cells]
   refine any_go (i := 2) (by rfl) (by decide +kernel) (by decide +kernel) noLate_nil (go_yields w_none (fun w hS => s_move)) ?_
   try simp only [opv, nZ, Value.cells]
   refine any_go (i := 4) (by rfl) (by decide +kernel) (by decide +kernel) noLate_nil (go_yields w_none (fun w hS => s_move)) ?_
   try simp only [opv, nZ, Value.cells]
   refine any_go (i := 5) (by rfl) (by decide +kernel) (by decide +kernel) noLate_nil (go_yields w_none (fun w hS => s_assign)) ?_
   try simp only [opv, nZ, Value.cells]
   refine any_step [3] (by kernel_rfl) (by decide) (fun w7 hE => ⟨fun _ => (hS.ext hE).sel (by repeat (first | exact Sel.nil | (refine Sel.cons (by repeat (exact Del.head)) ?_))), ?_⟩)
   replace hS := hS.ext hE
   intro i hi
   simp only [List.mem_cons, List.not_mem_nil, or_false] at hi
   subst hi
   ·
    refine any_op (by rfl) ?_
    refine m_slice_rd (lo := (unvar xs).2.1) (hi := xs.length) (m := c) Tryz.underlying73 ti5 (hlo := ⟨_, rfl⟩) (hhi := ⟨rfl, rfl⟩) (hmx := rfl) (hS := hS) (h := fun A2 hA2 hS => ?_)
    try simp only [Nat.mul_one, Nat.zero_mul] at hA2
    try simp only [← List.map_append, ← List.map_drop, ← List.map_take, Nat.mul_one, Nat.zero_mul, Nat.sub_zero, List.drop_zero, List.nil_append, Nat.zero_add] at hS ⊢
    try simp only [opv, nZ, Value.cells, Array.toArray_toList] at hS ⊢
    refine x_nil ?_
    refine any_go (i := 6) (by rfl) (by decide +kernel) (by decide +kernel) noLate_nil (go_yields w_none (fun w hS => s_assign)) ?_
    try simp only [opv, nZ, Value.cells]
    refine any_go (i := 7) (by rfl) (by decide +kernel) (by decide +kernel) noLate_nil (go_yields w_none (fun w hS => s_assign)) ?_
    try simp only [opv, nZ, Value.cells]
    refine any_nil (by kernel_rfl) (fun w8 hE => ?_)
    replace hS := hS.ext hE
    refine ⟨fun _ => hS.selA, ?_⟩
    refine mix_leaf (by simp only [clob, List.foldl, nZ]) ?_
    try simp only [n1, n2]
    exact ⟨_, by trivial, rfl, by trivial, by assumption, hS.ext_of⟩
  intro fm2 w9 hM
  obtain ⟨B, h4, h5, h6, hB, hEE⟩ := hM
  simp only [clob, List.foldl, n3, n4, h4, h5, h6]
  refine hK7 _ _ ?_
  refine x_ret ?_
  refine r_tmp3 rfl ?_
  exact ⟨_, B, _, _, by rw [hN]; rfl, hEE, fun h => by rw [hN] at h; exact absurd h (by simpa using h0)⟩

theorem rdS_err {d : Int} {x : Nat} {n e : Int} {xs : List Int} (h : ¬ e = 0) : rdS d x n e xs = ((0, 0, nm0, []), e, xs) := by
  unfold rdS
  repeat' split
  · rw [numS_err h]
  · rw [oneS_err h]
  · rw [namS_err h]
  · rw [bytS_err h]
section
variable {d : Int} {x : Nat} {n : Int} {xs : List Int}
theorem rdS_0y (h0 : d = 0) (hE : (numS x 0 xs).2.1 = 0) : rdS d x n 0 xs = (((numS x 0 xs).1, 0, nm0, []), 0, (numS x 0 xs).2.2) := by rw [rdS, if_pos h0]; exact Prod.ext rfl (Prod.ext hE rfl)
theorem rdS_0e (h0 : d = 0) (hE : ¬ (numS x 0 xs).2.1 = 0) : rdS d x n 0 xs = ((0, 0, nm0, []), (numS x 0 xs).2.1, []) := by
  rw [rdS, if_pos h0]
  have h1 := numS_bad hE
  have h2 : (numS x 0 xs).2.2 = [] := numS_ok (xs := xs) (fun h => absurd rfl h) hE
  rw [h1, ← h2]
theorem rdS_1s (h0 : ¬ d = 0) (h1 : d = 1) (hl : ¬ 1 ≤ xs.length) : rdS d x n 0 xs = ((0, 0, nm0, []), 4, []) := by
  rw [rdS, if_neg h0, if_pos h1]; simp only [oneS, if_true]; rw [if_neg hl]
theorem rdS_1y (h0 : ¬ d = 0) (h1 : d = 1) (hl : 1 ≤ xs.length) : rdS d x n 0 xs = ((0, xs.getD 0 0, nm0, []), 0, xs.drop 1) := by
  rw [rdS, if_neg h0, if_pos h1]; simp only [oneS, if_true]; rw [if_pos hl]
theorem rdS_2 (h0 : ¬ d = 0) (h1 : ¬ d = 1) (h2 : d = 2) {nm ys : List Int} {e : Int} (h : namS 0 xs = (nm, e, ys)) : rdS d x n 0 xs = ((0, 0, nm, []), e, ys) := by
  rw [rdS, if_neg h0, if_neg h1, if_pos h2, h]
theorem rdS_3e (h0 : ¬ d = 0) (h1 : ¬ d = 1) (h2 : ¬ d = 2) (hE : ¬ (numS n.toNat 0 xs).2.1 = 0) : rdS d x n 0 xs = ((0, 0, nm0, []), (numS n.toNat 0 xs).2.1, []) := by
  have h3 : (numS n.toNat 0 xs).2.2 = [] := numS_ok (xs := xs) (fun h => absurd rfl h) hE
  rw [rdS, if_neg h0, if_neg h1, if_neg h2, bytS, if_neg hE, h3]
theorem rdS_3s (h0 : ¬ d = 0) (h1 : ¬ d = 1) (h2 : ¬ d = 2) (hE : (numS n.toNat 0 xs).2.1 = 0) (hl : ¬ (numS n.toNat 0 xs).1 ≤ (numS n.toNat 0 xs).2.2.length) : rdS d x n 0 xs = ((0, 0, nm0, []), 4, []) := by
  rw [rdS, if_neg h0, if_neg h1, if_neg h2, bytS, if_pos hE, if_neg hl]
theorem rdS_3y (h0 : ¬ d = 0) (h1 : ¬ d = 1) (h2 : ¬ d = 2) (hE : (numS n.toNat 0 xs).2.1 = 0) {ys : List Int} (hy : (numS n.toNat 0 xs).2.2 = ys) (hl : (numS n.toNat 0 xs).1 ≤ ys.length) : rdS d x n 0 xs = ((0, 0, nm0, ys.take (numS n.toNat 0 xs).1), 0, ys.drop (numS n.toNat 0 xs).1) := by
  subst hy
  rw [rdS, if_neg h0, if_neg h1, if_neg h2, bytS, if_pos hE, if_pos hl]
end
theorem add_block (A : Option Addr) (k : Nat) : (A.map (·.add k)).map (·.block) = A.map (·.block) := by
  rcases A with _ | ⟨g, o, p⟩ <;> simp only [Option.map, Addr.add] <;> (try (split <;> rfl))
theorem RdIn.sub2 {w0 : World} {M : List Res} {A A' : Option Addr} {n n' : Nat} {xs : List Value} (hm : Res.rd A 1 n xs ∈ M) (h : 0 < n' → 0 < n ∧ A'.map (·.block) = A.map (·.block)) : RdIn w0 M A' n' := fun b hb => by
  by_cases h0 : n' = 0
  · rw [if_pos h0] at hb; cases hb
  · obtain ⟨h1, h2⟩ := h (by omega)
    rw [if_neg h0, h2] at hb
    exact .inr ⟨_, hm, .inr (by simp only [Res.reads, if_neg (show ¬ n = 0 by omega)]; exact hb)⟩
theorem pA_nm {d : Int} {x : Nat} {c : Int} {nm' nm : List Int} {B : Option Addr} {m k : Nat} {n : Int} (h : nm.length = 8) : splice (pA d x c nm' B m k n).toList 3 (ic .u8 nm).toList = (pA d x c nm B m k n).toList := by
  rw [← ic8 h]; rfl

theorem c_ref07Read (w0 : World) (g : Nat) (e : Int) (A : Option Addr) (c : Nat) (xs : List Int) (hc : xs.length ≤ c) (hw : Byt xs) (hn : xs.length ≤ 1000000000) (p : Pc) (hpx : p.x < 18446744073709551616) (hpn : p.n ≤ 9223372036854775807) (hM : St (OwnB [.obj g (.cells #[.slice A xs.length c, .int .i64 e] 140 (0, 0)), .rd A 1 xs.length (xs.map (Value.int .u8))]) w0 w0 [.obj g (.cells #[.slice A xs.length c, .int .i64 e] 140 (0, 0)), .rd A 1 xs.length (xs.map (Value.int .u8))]) :
    CallR Tryz.prog 90 #[.pointer (some ⟨g, 0, none⟩), .agg (pP p)] w0 fun v w' => ∃ (B : Option Addr) (k : Nat), v = .agg (pA p.d (rdS p.d p.x p.n e xs).1.1 (rdS p.d p.x p.n e xs).1.2.1 (rdS p.d p.x p.n e xs).1.2.2.1 B (rdS p.d p.x p.n e xs).1.2.2.2.length k 0) ∧ RdIn w0 [.obj g (.cells #[.slice A xs.length c, .int .i64 e] 140 (0, 0)), .rd A 1 xs.length (xs.map (Value.int .u8))] B (rdS p.d p.x p.n e xs).1.2.2.2.length ∧ CrSt w0 w' [.obj g (.cells #[.slice A xs.length c, .int .i64 e] 140 (0, 0)), .rd A 1 xs.length (xs.map (Value.int .u8))] g (rdS p.d p.x p.n e xs).2.1 (rdS p.d p.x p.n e xs).2.2 [.rd B 1 (rdS p.d p.x p.n e xs).1.2.2.2.length ((rdS p.d p.x p.n e xs).1.2.2.2.map (Value.int .u8))] := by
 have hS := hM
 refine c_enter (l := [.pointer (some ⟨g, 0, none⟩), .agg (pP p), undef, undef, undef, undef, undef, undef, undef, undef, undef, undef, undef, undef, undef, undef, undef, undef, undef, undef, undef, undef, undef, undef, undef, undef, undef, undef, undef, undef, undef, undef, undef, undef, undef, undef, undef, undef, undef, undef, undef, undef, undef, undef, undef, undef, undef, undef, undef, undef, undef, undef, undef, undef, undef, undef, undef, undef, undef, undef, undef, undef, undef, undef, undef, undef, undef, undef, undef, undef, undef, undef, undef, undef, undef, undef, undef, undef, undef, undef, undef, undef, undef, undef, undef, undef, undef, undef, undef, undef, undef, undef, undef, undef, undef, undef, undef, undef, undef, undef, undef, undef, undef, undef, undef, undef, undef, undef, undef, undef, undef, undef, undef, undef, undef, undef, undef, undef, undef, undef, undef, undef, undef, undef, undef, undef, undef, undef, undef, undef, undef, undef, undef, undef, undef, undef, undef, undef, undef, undef, undef, undef, undef, undef, undef, undef, undef, undef, undef, undef, undef, undef, undef, undef, undef, undef, undef, undef, undef, undef, undef]) Tryz.func90 rfl (by simp only [Tryz.ntmps90, List.size_toArray, List.length_cons, List.length_nil, Nat.reduceAdd, Nat.reduceSub, Array.replicate_succ, Array.replicate_zero, List.push_toArray, List.append_toArray, List.nil_append, List.cons_append]) ?_
 refine x_seq fun K1 hK1 => ?_
 refine x_region ?_
 refine m_box hS (fun w1 g1 hS => ?_)
 try simp only [opv, nZ, Value.cells, Array.toArray_toList] at hS ⊢
 refine m_alloc ti142 hS (fun w2 g2 hS => ?_)
 try simp only [opv, nZ, Value.cells, Array.toArray_toList] at hS ⊢
 replace hS : St (OwnB [.obj g (.cells #[.slice A xs.length c, .int .i64 e] 140 (0, 0)), .rd A 1 xs.length (xs.map (Value.int .u8))]) w0 w2 [.obj g2 (.cells (pA 0 0 0 nm0 none 0 0 0) 142 (0, 0)), .obj g1 (.cells (pP p) 142 (0, 0)), .obj g (.cells #[.slice A xs.length c, .int .i64 e] 140 (0, 0)), .rd A 1 xs.length (xs.map (Value.int .u8))] := hS
 refine x_nil ?_
 refine hK1 _ _ ?_
 refine x_seq fun K2 hK2 => ?_
 refine x_region ?_
 refine s_go (m_fieldAddr Tryz.underlying142 (hi := ti3)) ?_
 try simp only [opv, nZ, Value.cells, Nat.zero_add, Nat.add_zero, List.getElem_toArray, List.getElem_cons_zero, List.getElem_cons_succ]
 refine s_go (m_load_obj Tryz.underlying3 (hS := hS)) ?_
 try simp only [opv, nZ, Value.cells, List.getElem_toArray, List.getElem_cons_zero, List.getElem_cons_succ]
 refine s_go (s_build_struct (cells := #[_, .int .u64 0, .int .u8 0, .int .u8 0, .int .u8 0, .int .u8 0, .int .u8 0, .int .u8 0, .int .u8 0, .int .u8 0, .int .u8 0, .slice none 0 0, .int .i64 0]) Tryz.underlying142 ti142 bp142 (hc := by simp only [List.map_toArray, List.map_cons, List.map_nil, opv, nZ, Value.cells, List.toList_toArray]; (repeat (refine fill_cons rfl rfl (Nat.le_of_ble_eq_true rfl) ?_)); rfl)) ?_
 try simp only [opv, nZ, Value.cells]
 refine m_alloc ti142 hS (fun w3 g3 hS => ?_)
 try simp only [opv, nZ, Value.cells, Array.toArray_toList] at hS ⊢
 refine m_store_obj ti142 (hS := hS) (h := fun w4 hS => ?_)
 try simp only [opv, nZ, Value.cells, Array.toArray_toList] at hS ⊢
 replace hS : St (OwnB [.obj g (.cells #[.slice A xs.length c, .int .i64 e] 140 (0, 0)), .rd A 1 xs.length (xs.map (Value.int .u8))]) w0 w4 [.obj g3 (.cells (pA p.d 0 0 nm0 none 0 0 0) 142 (0, 0)), .obj g2 (.cells (pA 0 0 0 nm0 none 0 0 0) 142 (0, 0)), .obj g1 (.cells (pP p) 142 (0, 0)), .obj g (.cells #[.slice A xs.length c, .int .i64 e] 140 (0, 0)), .rd A 1 xs.length (xs.map (Value.int .u8))] := hS
 refine x_nil ?_
 refine hK2 _ _ ?_
 refine x_seq fun K3 hK3 => ?_
 refine x_seq fun K4 hK4 => ?_
 refine x_region ?_
 refine s_go (s_move) ?_
 try simp only [opv, nZ, Value.cells]
 refine s_go (s_nilCheck) ?_
 try simp only [opv, nZ, Value.cells]
 refine s_go (m_fieldAddr Tryz.underlying140 (hi := ti53)) ?_
 try simp only [opv, nZ, Value.cells, Nat.zero_add, Nat.add_zero, List.getElem_toArray, List.getElem_cons_zero, List.getElem_cons_succ]
 refine s_go (m_load_obj Tryz.underlying53 (hS := hS)) ?_
 try simp only [opv, nZ, Value.cells, List.getElem_toArray, List.getElem_cons_zero, List.getElem_cons_succ]
 refine s_go (s_neq) ?_
 try simp only [opv, nZ, Value.cells]
 refine x_nil ?_
 refine hK4 _ _ ?_
 refine x_cond (ht := fun hc1 => ?_) (hf := fun hc1 => ?_)
 ·
  try simp only [dZ, ne_eq, bne_iff_ne, beq_iff_eq] at hc1
  have hz := rdS_err (d := p.d) (x := p.x) (n := p.n) (xs := xs) hc1
  refine x_seq fun K5 hK5 => ?_
  refine x_region ?_
  refine s_go (m_load_row Tryz.underlying142 (hi := ti142) (hS := hS)) ?_
  try simp only [opv, nZ, Value.cells, List.getElem_toArray, List.getElem_cons_zero, List.getElem_cons_succ]
  refine m_store_obj ti142 (hS := hS) (h := fun w5 hS => ?_)
  try simp only [opv, nZ, Value.cells, Array.toArray_toList] at hS ⊢
  refine x_nil ?_
  refine hK5 _ _ ?_
  refine x_ret ?_
  refine r_cell_agg rfl Tryz.underlying142 ti142 (hS := hS) (hR := ?_)
  replace hS := hS.rd_none none 1
  exact ⟨none, 0, by rw [hz]; rfl, by rw [hz]; exact RdIn.none _ _ _, A, c, by rw [hz]; exact hc, by rw [hz]; exact RdIn.self (List.mem_cons_of_mem _ (List.mem_cons_self ..)), by rw [hz]; exact hS.selA⟩
 ·
  try simp only [dZ, ne_eq, bne_iff_ne, beq_iff_eq] at hc1
  have he0 : e = 0 := hc1
  subst he0
  refine x_skip ?_
  refine hK3 _ _ ?_
  refine x_seq fun K6 hK6 => ?_
  refine x_region ?_
  refine s_go (s_move) ?_
  try simp only [opv, nZ, Value.cells]
  refine s_go (s_nilCheck) ?_
  try simp only [opv, nZ, Value.cells]
  refine s_go (m_fieldAddr Tryz.underlying140 (hi := ti73)) ?_
  try simp only [opv, nZ, Value.cells, Nat.zero_add, Nat.add_zero, List.getElem_toArray, List.getElem_cons_zero, List.getElem_cons_succ]
  refine s_go (m_load_obj Tryz.underlying73 (hS := hS)) ?_
  try simp only [opv, nZ, Value.cells, List.getElem_toArray, List.getElem_cons_zero, List.getElem_cons_succ]
  refine s_go (s_assign) ?_
  try simp only [opv, nZ, Value.cells]
  refine s_go (s_assign) ?_
  try simp only [opv, nZ, Value.cells]
  refine x_nil ?_
  refine hK6 _ _ ?_
  refine x_seq fun K7 hK7 => ?_
  refine x_seq fun K8 hK8 => ?_
  refine x_region ?_
  refine s_go (m_fieldAddr Tryz.underlying142 (hi := ti3)) ?_
  try simp only [opv, nZ, Value.cells, Nat.zero_add, Nat.add_zero, List.getElem_toArray, List.getElem_cons_zero, List.getElem_cons_succ]
  refine s_go (m_load_obj Tryz.underlying3 (hS := hS)) ?_
  try simp only [opv, nZ, Value.cells, List.getElem_toArray, List.getElem_cons_zero, List.getElem_cons_succ]
  refine x_nil ?_
  refine hK8 _ _ ?_
  refine x_block ?_
  refine x_seq fun K9 hK9 => ?_
  refine x_region ?_
  refine s_go (s_eql) ?_
  try simp only [opv, nZ, Value.cells]
  refine s_go (s_assign) ?_
  try simp only [opv, nZ, Value.cells]
  refine x_nil ?_
  refine hK9 _ _ ?_
  refine x_cond (ht := fun hc2 => ?_) (hf := fun hc2 => ?_)
  ·
   try simp only [dZ, ne_eq, bne_iff_ne, beq_iff_eq] at hc2
   have h0 : p.d = 0 := hc2
   refine x_mixed_c (Lc := [.obj g1 (.cells (pP p) 142 (0, 0)), .obj g (.cells #[.slice A xs.length c, .int .i64 0] 140 (0, 0)), .rd A 1 xs.length (xs.map (Value.int .u8))]) [] 0 [6, 7, 62, 63, 64, 65, 66, 67, 68, 69, 70, 71, 72, 73] (fun f w => ∃ (x : Nat) (B : Option Addr) (k d : Nat), f 6 = .slice B k d ∧ f 7 = .int .i64 (numS p.x 0 xs).2.1 ∧ NumJ A c xs p.x x B k d ∧ St (OwnB [.obj g (.cells #[.slice A xs.length c, .int .i64 0] 140 (0, 0)), .rd A 1 xs.length (xs.map (Value.int .u8))]) w0 w [.obj g3 (.cells (pA p.d x 0 nm0 none 0 0 0) 142 (0, 0)), .obj g2 (.cells (pA 0 0 0 nm0 none 0 0 0) 142 (0, 0)), .obj g1 (.cells (pP p) 142 (0, 0)), .obj g (.cells #[.slice A xs.length c, .int .i64 0] 140 (0, 0)), .rd A 1 xs.length (xs.map (Value.int .u8))]) (by kernel_rfl) (by kernel_rfl) (by kernel_rfl) (by decide) hS (fun w6 hS => ?mixpre1301) ?mixrest1301
   case mixpre1301 =>
    refine p_nil ?_
    simp only [List.length_cons, List.length_nil, Nat.reduceAdd, Nat.reduceSub]
    refine any_go (i := 0) (by rfl) (by decide +kernel) (by decide +kernel) noLate_nil (go_yields w_none (fun w hS => s_move)) ?_
    try simp only [opv, nZ, Value.cells]
    refine any_go (i := 1) (by rfl) (by decide +kernel) (by decide +kernel) noLate_nil (go_yields w_none (fun w hS => s_nilCheck)) ?_
    try simp only [opv, nZ, Value.cells]
    refine any_go (i := 2) (by rfl) (by decide +kernel) (by decide +kernel) noLate_nil (go_yields w_none (fun w hS => m_fieldAddr Tryz.underlying140 (hi := ti73))) ?_
    try simp only [opv, nZ, Value.cells, Nat.zero_add, Nat.add_zero, List.getElem_toArray, List.getElem_cons_zero, List.getElem_cons_succ]
    refine any_go (i := 3) (by rfl) (by decide +kernel) (by decide +kernel) noLate_nil (go_yields w_none (fun w hS => m_load_obj Tryz.underlying73 (hS := hS))) ?_
    try simp only [opv, nZ, Value.cells, List.getElem_toArray, List.getElem_cons_zero, List.getElem_cons_succ]
    refine any_go (i := 4) (by rfl) (by decide +kernel) (by decide +kernel) noLate_nil (go_yields w_none (fun w hS => m_fieldAddr Tryz.underlying142 (hi := ti84))) ?_
    try simp only [opv, nZ, Value.cells, Nat.zero_add, Nat.add_zero, List.getElem_toArray, List.getElem_cons_zero, List.getElem_cons_succ]
    refine any_go (i := 5) (by rfl) (by decide +kernel) (by decide +kernel) noLate_nil (go_yields w_none (fun w hS => m_load_obj Tryz.underlying84 (hS := hS))) ?_
    try simp only [opv, nZ, Value.cells, List.getElem_toArray, List.getElem_cons_zero, List.getElem_cons_succ]
    refine any_step [6] (by kernel_rfl) (by decide) (fun w7 hE => ⟨fun _ => (hS.ext hE).sel (by repeat (first | exact Sel.nil | (refine Sel.cons (by repeat (first | exact Del.head | apply Del.tail)) ?_))), ?_⟩)
    replace hS := hS.ext hE
    intro i hi
    simp only [List.mem_cons, List.not_mem_nil, or_false] at hi
    subst hi
    ·
     refine any_op (by rfl) ?_
     refine s_call en157 ?_
     try simp only [opv, nZ, Value.cells, List.map_toArray, List.map_cons, List.map_nil, List.append_toArray, List.cons_append, List.nil_append, Array.append_empty]
     refine CallR.mono (c_ref07num _ A c xs (hS.hasRd (by repeat (first | exact Has.head | apply Has.tail))) hw hn hc p.x hpx) ?_
     rintro _ w8 ⟨x8, B8, k8, d8, rfl, hE8, hj8⟩
     replace hS := hS.ext hE8
     try simp only [opv, nZ, Value.cells]
     refine x_nil ?_
     refine any_go (i := 7) (by rfl) (by decide +kernel) (by decide +kernel) noLate_nil (go_yields w_none (fun w hS => s_move)) ?_
     try simp only [opv, nZ, Value.cells]
     refine any_go (i := 8) (by rfl) (by decide +kernel) (by decide +kernel) noLate_nil (go_yields w_none (fun w hS => s_extract (hv := rfl))) ?_
     try simp only [List.getElem_toArray, List.getElem_cons_zero, List.getElem_cons_succ]
     try simp only [opv, nZ, Value.cells]
     refine any_go (i := 9) (by rfl) (by decide +kernel) (by decide +kernel) noLate_nil (go_yields w_none (fun w hS => s_extract (hv := rfl))) ?_
     try simp only [List.getElem_toArray, List.getElem_cons_zero, List.getElem_cons_succ]
     try simp only [opv, nZ, Value.cells]
     refine any_go (i := 10) (by rfl) (by decide +kernel) (by decide +kernel) noLate_nil (go_yields w_none (fun w hS => s_extract (hv := rfl))) ?_
     try simp only [List.getElem_toArray, List.getElem_cons_zero, List.getElem_cons_succ]
     try simp only [opv, nZ, Value.cells]
     refine any_go (i := 11) (by rfl) (by decide +kernel) (by decide +kernel) noLate_nil (go_yields w_none (fun w hS => m_fieldAddr Tryz.underlying142 (hi := ti84))) ?_
     try simp only [opv, nZ, Value.cells, Nat.zero_add, Nat.add_zero, List.getElem_toArray, List.getElem_cons_zero, List.getElem_cons_succ]
     refine any_step [12] (by kernel_rfl) (by decide) (fun w9 hE => ⟨fun _ => (hS.ext hE).sel (by repeat (first | exact Sel.nil | (refine Sel.cons (by repeat (first | exact Del.head | apply Del.tail)) ?_))), ?_⟩)
     replace hS := hS.ext hE
     intro i hi
     simp only [List.mem_cons, List.not_mem_nil, or_false] at hi
     subst hi
     ·
      refine any_op (by rfl) ?_
      refine m_store_obj ti84 (hS := hS) (h := fun w10 hS => ?_)
      try simp only [opv, nZ, Value.cells, Array.toArray_toList] at hS ⊢
      refine x_nil ?_
      refine any_go (i := 13) (by rfl) (by decide +kernel) (by decide +kernel) noLate_nil (go_yields w_none (fun w hS => s_assign)) ?_
      try simp only [opv, nZ, Value.cells]
      refine any_go (i := 14) (by rfl) (by decide +kernel) (by decide +kernel) noLate_nil (go_yields w_none (fun w hS => s_assign)) ?_
      try simp only [opv, nZ, Value.cells]
      refine any_nil (by kernel_rfl) (fun w11 hE => ?_)
      replace hS := hS.ext hE
      refine ⟨fun _ => hS.selA, ?_⟩
      refine mix_leaf (by simp only [clob, List.foldl, nZ]) ?_
      try simp only [n1, n2]
      exact ⟨_, _, _, _, rfl, by trivial, by assumption, hS.sel (by repeat (first | exact Sel.nil | (refine Sel.cons (by repeat (exact Del.head)) ?_)))⟩
   intro fm1 w12 hM
   obtain ⟨xv, B, kb, db, h6, h7, hj, hS⟩ := hM
   simp only [clob, List.foldl, n3, n4, h6, h7]
   refine hK7 _ _ ?_
   refine x_seq fun K10 hK10 => ?_
   refine x_seq fun K11 hK11 => ?_
   refine x_region ?_
   refine s_go (s_move) ?_
   try simp only [opv, nZ, Value.cells]
   refine s_go (s_neq) ?_
   try simp only [opv, nZ, Value.cells]
   refine x_nil ?_
   refine hK11 _ _ ?_
   refine x_cond (ht := fun hc3 => ?_) (hf := fun hc3 => ?_)
   ·
    try simp only [dZ, ne_eq, bne_iff_ne, beq_iff_eq] at hc3
    have hz := rdS_0e (n := p.n) h0 (by assumption)
    refine x_seq fun K12 hK12 => ?_
    refine x_region ?_
    refine s_go (s_move) ?_
    try simp only [opv, nZ, Value.cells]
    refine s_go (s_move) ?_
    try simp only [opv, nZ, Value.cells]
    refine s_go (s_move) ?_
    try simp only [opv, nZ, Value.cells]
    refine s_go (s_nilCheck) ?_
    try simp only [opv, nZ, Value.cells]
    refine s_go (m_fieldAddr Tryz.underlying140 (hi := ti73)) ?_
    try simp only [opv, nZ, Value.cells, Nat.zero_add, Nat.add_zero, List.getElem_toArray, List.getElem_cons_zero, List.getElem_cons_succ]
    refine m_store_obj ti73 (hS := hS) (h := fun w13 hS => ?_)
    try simp only [opv, nZ, Value.cells, Array.toArray_toList] at hS ⊢
    refine s_go (s_nilCheck) ?_
    try simp only [opv, nZ, Value.cells]
    refine s_go (m_fieldAddr Tryz.underlying140 (hi := ti53)) ?_
    try simp only [opv, nZ, Value.cells, Nat.zero_add, Nat.add_zero, List.getElem_toArray, List.getElem_cons_zero, List.getElem_cons_succ]
    refine m_store_obj ti53 (hS := hS) (h := fun w14 hS => ?_)
    try simp only [opv, nZ, Value.cells, Array.toArray_toList] at hS ⊢
    refine x_nil ?_
    refine hK12 _ _ ?_
    refine x_seq fun K13 hK13 => ?_
    refine x_region ?_
    refine s_go (m_fieldAddr Tryz.underlying142 (hi := ti3)) ?_
    try simp only [opv, nZ, Value.cells, Nat.zero_add, Nat.add_zero, List.getElem_toArray, List.getElem_cons_zero, List.getElem_cons_succ]
    refine s_go (m_load_obj Tryz.underlying3 (hS := hS)) ?_
    try simp only [opv, nZ, Value.cells, List.getElem_toArray, List.getElem_cons_zero, List.getElem_cons_succ]
    refine s_go (s_build_struct (cells := #[_, .int .u64 0, .int .u8 0, .int .u8 0, .int .u8 0, .int .u8 0, .int .u8 0, .int .u8 0, .int .u8 0, .int .u8 0, .int .u8 0, .slice none 0 0, .int .i64 0]) Tryz.underlying142 ti142 bp142 (hc := by simp only [List.map_toArray, List.map_cons, List.map_nil, opv, nZ, Value.cells, List.toList_toArray]; (repeat (refine fill_cons rfl rfl (Nat.le_of_ble_eq_true rfl) ?_)); rfl)) ?_
    try simp only [opv, nZ, Value.cells]
    refine m_store_obj ti142 (hS := hS) (h := fun w15 hS => ?_)
    try simp only [opv, nZ, Value.cells, Array.toArray_toList] at hS ⊢
    refine x_nil ?_
    refine hK13 _ _ ?_
    refine x_ret ?_
    refine r_cell_agg rfl Tryz.underlying142 ti142 (hS := hS) (hR := ?_)
    replace hS := (hS.rd_none none 1).rd_none none 1
    exact ⟨none, 0, by rw [hz]; rfl, by rw [hz]; exact RdIn.none _ _ _, none, 0, by rw [hz]; exact Nat.le_refl 0, by rw [hz]; exact RdIn.none _ _ _, by rw [hz]; exact hS.selA⟩
   ·
    try simp only [dZ, ne_eq, bne_iff_ne, beq_iff_eq] at hc3
    (obtain ⟨rfl, j, hjl, hdr, rfl, rfl, hB⟩ := hj (by assumption); have hz := rdS_0y (n := p.n) h0 (by assumption); rw [hdr] at hz)
    refine x_skip ?_
    refine hK10 _ _ ?_
    refine x_seq fun K14 hK14 => ?_
    refine x_region ?_
    refine s_go (s_move) ?_
    try simp only [opv, nZ, Value.cells]
    refine s_go (s_move) ?_
    try simp only [opv, nZ, Value.cells]
    refine s_go (s_nilCheck) ?_
    try simp only [opv, nZ, Value.cells]
    refine s_go (m_fieldAddr Tryz.underlying140 (hi := ti73)) ?_
    try simp only [opv, nZ, Value.cells, Nat.zero_add, Nat.add_zero, List.getElem_toArray, List.getElem_cons_zero, List.getElem_cons_succ]
    refine m_store_obj ti73 (hS := hS) (h := fun w16 hS => ?_)
    try simp only [opv, nZ, Value.cells, Array.toArray_toList] at hS ⊢
    refine x_nil ?_
    refine hK14 _ _ ?_
    refine x_seq fun K15 hK15 => ?_
    refine x_region ?_
    refine s_go (m_load_row Tryz.underlying142 (hi := ti142) (hS := hS)) ?_
    try simp only [opv, nZ, Value.cells, List.getElem_toArray, List.getElem_cons_zero, List.getElem_cons_succ]
    refine m_store_obj ti142 (hS := hS) (h := fun w17 hS => ?_)
    try simp only [opv, nZ, Value.cells, Array.toArray_toList] at hS ⊢
    refine x_nil ?_
    refine hK15 _ _ ?_
    refine x_ret ?_
    refine r_cell_agg rfl Tryz.underlying142 ti142 (hS := hS) (hR := ?_)
    have hcpo : (xs.drop (j)).length ≤ c - (j) := by simp; omega
    have hRo : RdIn w0 [.obj g (.cells #[.slice A xs.length c, .int .i64 0] 140 (0, 0)), .rd A 1 xs.length (xs.map (Value.int .u8))] B (xs.drop (j)).length := RdIn.sub (List.mem_cons_of_mem _ (List.mem_cons_self ..)) (fun h => by simp at h; exact ⟨by omega, hB (by omega)⟩)
    replace hS := (hS.rd_drop (by repeat (first | exact Has.head | apply Has.tail)) (j) (by omega) B hB).rd_none none 1
    try rw [← List.length_drop] at hS
    exact ⟨_, _, by rw [hz]; rfl, by rw [hz]; exact RdIn.none _ _ _, _, _, by rw [hz]; exact hcpo, by rw [hz]; exact hRo, by rw [hz]; exact hS.selA⟩
  ·
   try simp only [dZ, ne_eq, bne_iff_ne, beq_iff_eq] at hc2
   have h0 : ¬ p.d = 0 := hc2
   refine x_seq fun K16 hK16 => ?_
   refine x_region ?_
   refine s_go (s_eql) ?_
   try simp only [opv, nZ, Value.cells]
   refine s_go (s_assign) ?_
   try simp only [opv, nZ, Value.cells]
   refine x_nil ?_
   refine hK16 _ _ ?_
   refine x_cond (ht := fun hc4 => ?_) (hf := fun hc4 => ?_)
   ·
    try simp only [dZ, ne_eq, bne_iff_ne, beq_iff_eq] at hc4
    have h1 : p.d = 1 := hc4
    refine x_seq fun K17 hK17 => ?_
    refine x_region ?_
    refine s_go (s_move) ?_
    try simp only [opv, nZ, Value.cells]
    refine s_go (s_nilCheck) ?_
    try simp only [opv, nZ, Value.cells]
    refine s_go (m_fieldAddr Tryz.underlying140 (hi := ti73)) ?_
    try simp only [opv, nZ, Value.cells, Nat.zero_add, Nat.add_zero, List.getElem_toArray, List.getElem_cons_zero, List.getElem_cons_succ]
    refine s_go (m_load_obj Tryz.underlying73 (hS := hS)) ?_
    try simp only [opv, nZ, Value.cells, List.getElem_toArray, List.getElem_cons_zero, List.getElem_cons_succ]
    refine s_go (s_len_sl Tryz.underlying73) ?_
    try simp only [opv, nZ, Value.cells]
    refine s_go (s_eql) ?_
    try simp only [opv, nZ, Value.cells]
    refine x_nil ?_
    refine hK17 _ _ ?_
    refine x_cond (ht := fun hc5 => ?_) (hf := fun hc5 => ?_)
    ·
     try simp only [dZ, ne_eq, bne_iff_ne, beq_iff_eq] at hc5
     have hz := rdS_1s (x := p.x) (n := p.n) (xs := xs) h0 h1 (by omega)
     refine x_region ?_
     refine s_go (s_assign) ?_
     try simp only [opv, nZ, Value.cells]
     refine x_nil ?_
     refine hK7 _ _ ?_
     refine x_seq fun K18 hK18 => ?_
     refine x_seq fun K19 hK19 => ?_
     refine x_region ?_
     refine s_go (s_move) ?_
     try simp only [opv, nZ, Value.cells]
     refine s_go (s_neq) ?_
     try simp only [opv, nZ, Value.cells]
     refine x_nil ?_
     refine hK19 _ _ ?_
     refine x_cond_t (h := ?_)
     skip
     refine x_seq fun K20 hK20 => ?_
     refine x_region ?_
     refine s_go (s_move) ?_
     try simp only [opv, nZ, Value.cells]
     refine s_go (s_move) ?_
     try simp only [opv, nZ, Value.cells]
     refine s_go (s_move) ?_
     try simp only [opv, nZ, Value.cells]
     refine s_go (s_nilCheck) ?_
     try simp only [opv, nZ, Value.cells]
     refine s_go (m_fieldAddr Tryz.underlying140 (hi := ti73)) ?_
     try simp only [opv, nZ, Value.cells, Nat.zero_add, Nat.add_zero, List.getElem_toArray, List.getElem_cons_zero, List.getElem_cons_succ]
     refine m_store_obj ti73 (hS := hS) (h := fun w18 hS => ?_)
     try simp only [opv, nZ, Value.cells, Array.toArray_toList] at hS ⊢
     refine s_go (s_nilCheck) ?_
     try simp only [opv, nZ, Value.cells]
     refine s_go (m_fieldAddr Tryz.underlying140 (hi := ti53)) ?_
     try simp only [opv, nZ, Value.cells, Nat.zero_add, Nat.add_zero, List.getElem_toArray, List.getElem_cons_zero, List.getElem_cons_succ]
     refine m_store_obj ti53 (hS := hS) (h := fun w19 hS => ?_)
     try simp only [opv, nZ, Value.cells, Array.toArray_toList] at hS ⊢
     refine x_nil ?_
     refine hK20 _ _ ?_
     refine x_seq fun K21 hK21 => ?_
     refine x_region ?_
     refine s_go (m_fieldAddr Tryz.underlying142 (hi := ti3)) ?_
     try simp only [opv, nZ, Value.cells, Nat.zero_add, Nat.add_zero, List.getElem_toArray, List.getElem_cons_zero, List.getElem_cons_succ]
     refine s_go (m_load_obj Tryz.underlying3 (hS := hS)) ?_
     try simp only [opv, nZ, Value.cells, List.getElem_toArray, List.getElem_cons_zero, List.getElem_cons_succ]
     refine s_go (s_build_struct (cells := #[_, .int .u64 0, .int .u8 0, .int .u8 0, .int .u8 0, .int .u8 0, .int .u8 0, .int .u8 0, .int .u8 0, .int .u8 0, .int .u8 0, .slice none 0 0, .int .i64 0]) Tryz.underlying142 ti142 bp142 (hc := by simp only [List.map_toArray, List.map_cons, List.map_nil, opv, nZ, Value.cells, List.toList_toArray]; (repeat (refine fill_cons rfl rfl (Nat.le_of_ble_eq_true rfl) ?_)); rfl)) ?_
     try simp only [opv, nZ, Value.cells]
     refine m_store_obj ti142 (hS := hS) (h := fun w20 hS => ?_)
     try simp only [opv, nZ, Value.cells, Array.toArray_toList] at hS ⊢
     refine x_nil ?_
     refine hK21 _ _ ?_
     refine x_ret ?_
     refine r_cell_agg rfl Tryz.underlying142 ti142 (hS := hS) (hR := ?_)
     replace hS := (hS.rd_none none 1).rd_none none 1
     exact ⟨none, 0, by rw [hz]; rfl, by rw [hz]; exact RdIn.none _ _ _, none, 0, by rw [hz]; exact Nat.le_refl 0, by rw [hz]; exact RdIn.none _ _ _, by rw [hz]; exact hS.selA⟩
    ·
     try simp only [dZ, ne_eq, bne_iff_ne, beq_iff_eq] at hc5
     have hl1 : 1 ≤ xs.length := by omega
     have hz := rdS_1y (x := p.x) (n := p.n) h0 h1 hl1
     refine x_mixed_c (Lc := [.obj g (.cells #[.slice A xs.length c, .int .i64 0] 140 (0, 0)), .rd A 1 xs.length (xs.map (Value.int .u8))]) [] 0 [6, 82, 83, 84, 85, 86, 87, 88, 89, 90, 91, 92, 93] (fun f w => ∃ B : Option Addr, f 6 = .slice B (xs.length - 1) (c - 1) ∧ (1 < xs.length → B = A.map (·.add 1)) ∧ St (OwnB [.obj g (.cells #[.slice A xs.length c, .int .i64 0] 140 (0, 0)), .rd A 1 xs.length (xs.map (Value.int .u8))]) w0 w [.obj g3 (.cells (pA p.d 0 (xs.getD 0 0) nm0 none 0 0 0) 142 (0, 0)), .obj g2 (.cells (pA 0 0 0 nm0 none 0 0 0) 142 (0, 0)), .obj g1 (.cells (pP p) 142 (0, 0)), .obj g (.cells #[.slice A xs.length c, .int .i64 0] 140 (0, 0)), .rd A 1 xs.length (xs.map (Value.int .u8))]) (by kernel_rfl) (by kernel_rfl) (by kernel_rfl) (by decide) hS (fun w21 hS => ?mixpre1702) ?mixrest1702
     case mixpre1702 =>
      refine p_nil ?_
      simp only [List.length_cons, List.length_nil, Nat.reduceAdd, Nat.reduceSub]
      refine any_go (i := 0) (by rfl) (by decide +kernel) (by decide +kernel) noLate_nil (go_yields w_none (fun w hS => s_move)) ?_
      try simp only [opv, nZ, Value.cells]
      refine any_go (i := 1) (by rfl) (by decide +kernel) (by decide +kernel) noLate_nil (go_yields w_none (fun w hS => s_nilCheck)) ?_
      try simp only [opv, nZ, Value.cells]
      refine any_go (i := 2) (by rfl) (by decide +kernel) (by decide +kernel) noLate_nil (go_yields w_none (fun w hS => m_fieldAddr Tryz.underlying140 (hi := ti73))) ?_
      try simp only [opv, nZ, Value.cells, Nat.zero_add, Nat.add_zero, List.getElem_toArray, List.getElem_cons_zero, List.getElem_cons_succ]
      refine any_go (i := 3) (by rfl) (by decide +kernel) (by decide +kernel) noLate_nil (go_yields w_none (fun w hS => m_load_obj Tryz.underlying73 (hS := hS))) ?_
      try simp only [opv, nZ, Value.cells, List.getElem_toArray, List.getElem_cons_zero, List.getElem_cons_succ]
      refine any_go (i := 4) (by rfl) (by decide +kernel) (by decide +kernel) noLate_nil (go_yields w_none (fun w hS => m_indexAddr_rd Tryz.underlying73 ti5 (hS := hS))) ?_
      try simp only [opv, nZ, Value.cells, Nat.mul_one, Nat.zero_add, Int.toNat_natCast, Int.reduceToNat]
      refine any_go (i := 5) (by rfl) (by decide +kernel) (by decide +kernel) noLate_nil (go_yields w_none (fun w hS => m_load_rd Tryz.underlying5 (hS := hS))) ?_
      try simp only [opv, nZ, Value.cells, List.getElem_toArray, List.getElem_cons_zero, List.getElem_cons_succ]
      refine any_go (i := 6) (by rfl) (by decide +kernel) (by decide +kernel) noLate_nil (go_yields w_none (fun w hS => s_move)) ?_
      try simp only [opv, nZ, Value.cells]
      refine any_go (i := 7) (by rfl) (by decide +kernel) (by decide +kernel) noLate_nil (go_yields w_none (fun w hS => s_nilCheck)) ?_
      try simp only [opv, nZ, Value.cells]
      refine any_go (i := 8) (by rfl) (by decide +kernel) (by decide +kernel) noLate_nil (go_yields w_none (fun w hS => m_fieldAddr Tryz.underlying140 (hi := ti73))) ?_
      try simp only [opv, nZ, Value.cells, Nat.zero_add, Nat.add_zero, List.getElem_toArray, List.getElem_cons_zero, List.getElem_cons_succ]
      refine any_go (i := 9) (by rfl) (by decide +kernel) (by decide +kernel) noLate_nil (go_yields w_none (fun w hS => m_load_obj Tryz.underlying73 (hS := hS))) ?_
      try simp only [opv, nZ, Value.cells, List.getElem_toArray, List.getElem_cons_zero, List.getElem_cons_succ]
      refine any_go (i := 11) (by rfl) (by decide +kernel) (by decide +kernel) noLate_nil (go_yields w_none (fun w hS => m_fieldAddr Tryz.underlying142 (hi := ti5))) ?_
      try simp only [opv, nZ, Value.cells, Nat.zero_add, Nat.add_zero, List.getElem_toArray, List.getElem_cons_zero, List.getElem_cons_succ]
      refine any_step [10, 12] (by kernel_rfl) (by decide) (fun w22 hE => ⟨fun _ => (hS.ext hE).sel (by repeat (first | exact Sel.nil | (refine Sel.cons (by repeat (first | exact Del.head | apply Del.tail)) ?_))), ?_⟩)
      replace hS := hS.ext hE
      intro i hi
      simp only [List.mem_cons, List.not_mem_nil, or_false] at hi
      rcases hi with rfl | rfl
      ·
       refine any_op (by rfl) ?_
       refine m_slice_rd (lo := 1) (hi := xs.length) (m := c) Tryz.underlying73 ti5 (hlo := ⟨_, rfl⟩) (hhi := ⟨rfl, rfl⟩) (hmx := rfl) (hS := hS) (h := fun A1 hA1 hS => ?_)
       try simp only [Nat.mul_one, Nat.zero_mul] at hA1
       try simp only [← List.map_append, ← List.map_drop, ← List.map_take, Nat.mul_one, Nat.zero_mul, Nat.sub_zero, List.drop_zero, List.nil_append, Nat.zero_add] at hS ⊢
       try simp only [opv, nZ, Value.cells, Array.toArray_toList] at hS ⊢
       refine x_nil ?_
       refine any_step [12] (by kernel_rfl) (by decide) (fun w23 hE => ⟨fun _ => (hS.ext hE).sel (by repeat (first | exact Sel.nil | (refine Sel.cons (by repeat (first | exact Del.head | apply Del.tail)) ?_))), ?_⟩)
       replace hS := hS.ext hE
       intro i hi
       simp only [List.mem_cons, List.not_mem_nil, or_false] at hi
       subst hi
       ·
        refine any_op (by rfl) ?_
        refine m_store_obj ti5 (hS := hS) (h := fun w24 hS => ?_)
        try simp only [opv, nZ, Value.cells, Array.toArray_toList] at hS ⊢
        refine x_nil ?_
        refine any_go (i := 13) (by rfl) (by decide +kernel) (by decide +kernel) noLate_nil (go_yields w_none (fun w hS => s_assign)) ?_
        try simp only [opv, nZ, Value.cells]
        refine any_nil (by kernel_rfl) (fun w25 hE => ?_)
        replace hS := hS.ext hE
        refine ⟨fun _ => hS.selA, ?_⟩
        refine mix_leaf (by simp only [clob, List.foldl, nZ]) ?_
        try simp only [n1, n2]
        exact ⟨_, rfl, by assumption, hS.selA⟩
      ·
       refine any_op (by rfl) ?_
       refine m_store_obj ti5 (hS := hS) (h := fun w26 hS => ?_)
       try simp only [opv, nZ, Value.cells, Array.toArray_toList] at hS ⊢
       refine x_nil ?_
       refine any_step [10] (by kernel_rfl) (by decide) (fun w27 hE => ⟨fun _ => (hS.ext hE).sel (by repeat (first | exact Sel.nil | (refine Sel.cons (by repeat (first | exact Del.head | apply Del.tail)) ?_))), ?_⟩)
       replace hS := hS.ext hE
       intro i hi
       simp only [List.mem_cons, List.not_mem_nil, or_false] at hi
       subst hi
       ·
        refine any_op (by rfl) ?_
        refine m_slice_rd (lo := 1) (hi := xs.length) (m := c) Tryz.underlying73 ti5 (hlo := ⟨_, rfl⟩) (hhi := ⟨rfl, rfl⟩) (hmx := rfl) (hS := hS) (h := fun A2 hA2 hS => ?_)
        try simp only [Nat.mul_one, Nat.zero_mul] at hA2
        try simp only [← List.map_append, ← List.map_drop, ← List.map_take, Nat.mul_one, Nat.zero_mul, Nat.sub_zero, List.drop_zero, List.nil_append, Nat.zero_add] at hS ⊢
        try simp only [opv, nZ, Value.cells, Array.toArray_toList] at hS ⊢
        refine x_nil ?_
        refine any_go (i := 13) (by rfl) (by decide +kernel) (by decide +kernel) noLate_nil (go_yields w_none (fun w hS => s_assign)) ?_
        try simp only [opv, nZ, Value.cells]
        refine any_nil (by kernel_rfl) (fun w28 hE => ?_)
        replace hS := hS.ext hE
        refine ⟨fun _ => hS.selA, ?_⟩
        refine mix_leaf (by simp only [clob, List.foldl, nZ]) ?_
        try simp only [n1, n2]
        exact ⟨_, rfl, by assumption, hS.selA⟩
     intro fm2 w29 hM
     obtain ⟨B, h6, hB, hS⟩ := hM
     simp only [clob, List.foldl, n3, n4, h6]
     refine hK7 _ _ ?_
     refine x_seq fun K22 hK22 => ?_
     refine x_seq fun K23 hK23 => ?_
     refine x_region ?_
     refine s_go (s_move) ?_
     try simp only [opv, nZ, Value.cells]
     refine s_go (s_neq) ?_
     try simp only [opv, nZ, Value.cells]
     refine x_nil ?_
     refine hK23 _ _ ?_
     refine x_cond_f (h := ?_)
     skip
     refine x_skip ?_
     refine hK22 _ _ ?_
     refine x_seq fun K24 hK24 => ?_
     refine x_region ?_
     refine s_go (s_move) ?_
     try simp only [opv, nZ, Value.cells]
     refine s_go (s_move) ?_
     try simp only [opv, nZ, Value.cells]
     refine s_go (s_nilCheck) ?_
     try simp only [opv, nZ, Value.cells]
     refine s_go (m_fieldAddr Tryz.underlying140 (hi := ti73)) ?_
     try simp only [opv, nZ, Value.cells, Nat.zero_add, Nat.add_zero, List.getElem_toArray, List.getElem_cons_zero, List.getElem_cons_succ]
     refine m_store_obj ti73 (hS := hS) (h := fun w30 hS => ?_)
     try simp only [opv, nZ, Value.cells, Array.toArray_toList] at hS ⊢
     refine x_nil ?_
     refine hK24 _ _ ?_
     refine x_seq fun K25 hK25 => ?_
     refine x_region ?_
     refine s_go (m_load_row Tryz.underlying142 (hi := ti142) (hS := hS)) ?_
     try simp only [opv, nZ, Value.cells, List.getElem_toArray, List.getElem_cons_zero, List.getElem_cons_succ]
     refine m_store_obj ti142 (hS := hS) (h := fun w31 hS => ?_)
     try simp only [opv, nZ, Value.cells, Array.toArray_toList] at hS ⊢
     refine x_nil ?_
     refine hK25 _ _ ?_
     refine x_ret ?_
     refine r_cell_agg rfl Tryz.underlying142 ti142 (hS := hS) (hR := ?_)
     have hcpo : (xs.drop (1)).length ≤ c - (1) := by simp; omega
     have hRo : RdIn w0 [.obj g (.cells #[.slice A xs.length c, .int .i64 0] 140 (0, 0)), .rd A 1 xs.length (xs.map (Value.int .u8))] B (xs.drop (1)).length := RdIn.sub (List.mem_cons_of_mem _ (List.mem_cons_self ..)) (fun h => by simp at h; exact ⟨by omega, hB (by omega)⟩)
     replace hS := (hS.rd_drop (by repeat (first | exact Has.head | apply Has.tail)) (1) (by omega) B hB).rd_none none 1
     try rw [← List.length_drop] at hS
     exact ⟨_, _, by rw [hz]; rfl, by rw [hz]; exact RdIn.none _ _ _, _, _, by rw [hz]; exact hcpo, by rw [hz]; exact hRo, by rw [hz]; exact hS.selA⟩
   ·
    try simp only [dZ, ne_eq, bne_iff_ne, beq_iff_eq] at hc4
    have h1 : ¬ p.d = 1 := hc4
    refine x_seq fun K26 hK26 => ?_
    refine x_region ?_
    refine s_go (s_eql) ?_
    try simp only [opv, nZ, Value.cells]
    refine s_go (s_assign) ?_
    try simp only [opv, nZ, Value.cells]
    refine x_nil ?_
    refine hK26 _ _ ?_
    refine x_cond (ht := fun hc8 => ?_) (hf := fun hc8 => ?_)
    ·
     try simp only [dZ, ne_eq, bne_iff_ne, beq_iff_eq] at hc8
     have h2 : p.d = 2 := hc8
     refine x_seq fun K27 hK27 => ?_
     refine x_seq fun K28 hK28 => ?_
     refine x_region ?_
     refine s_go (s_move) ?_
     try simp only [opv, nZ, Value.cells]
     refine s_go (s_nilCheck) ?_
     try simp only [opv, nZ, Value.cells]
     refine s_go (m_fieldAddr Tryz.underlying140 (hi := ti73)) ?_
     try simp only [opv, nZ, Value.cells, Nat.zero_add, Nat.add_zero, List.getElem_toArray, List.getElem_cons_zero, List.getElem_cons_succ]
     refine s_go (m_load_obj Tryz.underlying73 (hS := hS)) ?_
     try simp only [opv, nZ, Value.cells, List.getElem_toArray, List.getElem_cons_zero, List.getElem_cons_succ]
     refine s_go (s_len_sl Tryz.underlying73) ?_
     try simp only [opv, nZ, Value.cells]
     refine s_go (s_eql) ?_
     try simp only [opv, nZ, Value.cells]
     refine x_nil ?_
     refine hK28 _ _ ?_
     refine x_cond (ht := fun hc9 => ?_) (hf := fun hc9 => ?_)
     ·
      try simp only [dZ, ne_eq, bne_iff_ne, beq_iff_eq] at hc9
      have hz := rdS_2 (x := p.x) (n := p.n) h0 h1 h2 (namS_short (xs := xs) (by omega))
      refine x_seq fun K29 hK29 => ?_
      refine x_region ?_
      refine s_go (s_assign) ?_
      try simp only [opv, nZ, Value.cells]
      refine x_nil ?_
      refine hK29 _ _ ?_
      refine x_exit (look_here ?_)
      refine hK7 _ _ ?_
      refine x_seq fun K30 hK30 => ?_
      refine x_seq fun K31 hK31 => ?_
      refine x_region ?_
      refine s_go (s_move) ?_
      try simp only [opv, nZ, Value.cells]
      refine s_go (s_neq) ?_
      try simp only [opv, nZ, Value.cells]
      refine x_nil ?_
      refine hK31 _ _ ?_
      refine x_cond_t (h := ?_)
      skip
      refine x_seq fun K32 hK32 => ?_
      refine x_region ?_
      refine s_go (s_move) ?_
      try simp only [opv, nZ, Value.cells]
      refine s_go (s_move) ?_
      try simp only [opv, nZ, Value.cells]
      refine s_go (s_move) ?_
      try simp only [opv, nZ, Value.cells]
      refine s_go (s_nilCheck) ?_
      try simp only [opv, nZ, Value.cells]
      refine s_go (m_fieldAddr Tryz.underlying140 (hi := ti73)) ?_
      try simp only [opv, nZ, Value.cells, Nat.zero_add, Nat.add_zero, List.getElem_toArray, List.getElem_cons_zero, List.getElem_cons_succ]
      refine m_store_obj ti73 (hS := hS) (h := fun w32 hS => ?_)
      try simp only [opv, nZ, Value.cells, Array.toArray_toList] at hS ⊢
      refine s_go (s_nilCheck) ?_
      try simp only [opv, nZ, Value.cells]
      refine s_go (m_fieldAddr Tryz.underlying140 (hi := ti53)) ?_
      try simp only [opv, nZ, Value.cells, Nat.zero_add, Nat.add_zero, List.getElem_toArray, List.getElem_cons_zero, List.getElem_cons_succ]
      refine m_store_obj ti53 (hS := hS) (h := fun w33 hS => ?_)
      try simp only [opv, nZ, Value.cells, Array.toArray_toList] at hS ⊢
      refine x_nil ?_
      refine hK32 _ _ ?_
      refine x_seq fun K33 hK33 => ?_
      refine x_region ?_
      refine s_go (m_fieldAddr Tryz.underlying142 (hi := ti3)) ?_
      try simp only [opv, nZ, Value.cells, Nat.zero_add, Nat.add_zero, List.getElem_toArray, List.getElem_cons_zero, List.getElem_cons_succ]
      refine s_go (m_load_obj Tryz.underlying3 (hS := hS)) ?_
      try simp only [opv, nZ, Value.cells, List.getElem_toArray, List.getElem_cons_zero, List.getElem_cons_succ]
      refine s_go (s_build_struct (cells := #[_, .int .u64 0, .int .u8 0, .int .u8 0, .int .u8 0, .int .u8 0, .int .u8 0, .int .u8 0, .int .u8 0, .int .u8 0, .int .u8 0, .slice none 0 0, .int .i64 0]) Tryz.underlying142 ti142 bp142 (hc := by simp only [List.map_toArray, List.map_cons, List.map_nil, opv, nZ, Value.cells, List.toList_toArray]; (repeat (refine fill_cons rfl rfl (Nat.le_of_ble_eq_true rfl) ?_)); rfl)) ?_
      try simp only [opv, nZ, Value.cells]
      refine m_store_obj ti142 (hS := hS) (h := fun w34 hS => ?_)
      try simp only [opv, nZ, Value.cells, Array.toArray_toList] at hS ⊢
      refine x_nil ?_
      refine hK33 _ _ ?_
      refine x_ret ?_
      refine r_cell_agg rfl Tryz.underlying142 ti142 (hS := hS) (hR := ?_)
      replace hS := (hS.rd_none none 1).rd_none none 1
      exact ⟨none, 0, by rw [hz]; rfl, by rw [hz]; exact RdIn.none _ _ _, none, 0, by rw [hz]; exact Nat.le_refl 0, by rw [hz]; exact RdIn.none _ _ _, by rw [hz]; exact hS.selA⟩
     ·
      try simp only [dZ, ne_eq, bne_iff_ne, beq_iff_eq] at hc9
      have hl1 : 1 ≤ xs.length := by omega
      refine x_skip ?_
      refine hK27 _ _ ?_
      refine x_seq fun K34 hK34 => ?_
      refine x_region ?_
      refine s_go (s_move) ?_
      try simp only [opv, nZ, Value.cells]
      refine s_go (s_nilCheck) ?_
      try simp only [opv, nZ, Value.cells]
      refine s_go (m_fieldAddr Tryz.underlying140 (hi := ti73)) ?_
      try simp only [opv, nZ, Value.cells, Nat.zero_add, Nat.add_zero, List.getElem_toArray, List.getElem_cons_zero, List.getElem_cons_succ]
      refine s_go (m_load_obj Tryz.underlying73 (hS := hS)) ?_
      try simp only [opv, nZ, Value.cells, List.getElem_toArray, List.getElem_cons_zero, List.getElem_cons_succ]
      refine s_go (m_indexAddr_rd Tryz.underlying73 ti5 (hS := hS)) ?_
      try simp only [opv, nZ, Value.cells, Nat.mul_one, Nat.zero_add, Int.toNat_natCast, Int.reduceToNat]
      refine s_go (m_load_rd Tryz.underlying5 (hS := hS)) ?_
      try simp only [opv, nZ, Value.cells, List.getElem_toArray, List.getElem_cons_zero, List.getElem_cons_succ]
      have hgb := hw.get 0
      obtain ⟨k, hk⟩ := Int.eq_ofNat_of_zero_le hgb.1
      rw [hk] at hgb ⊢
      refine s_go (s_conv Tryz.underlying5 Tryz.underlying3 (hc := by exact wr_i64 (by omega) (by omega))) ?_
      try simp only [opv, nZ, Value.cells]
      refine s_go (s_assign) ?_
      try simp only [opv, nZ, Value.cells]
      refine x_nil ?_
      refine hK34 _ _ ?_
      refine x_seq fun K35 hK35 => ?_
      refine x_region ?_
      refine s_go (s_move) ?_
      try simp only [opv, nZ, Value.cells]
      refine s_go (s_gtr) ?_
      try simp only [opv, nZ, Value.cells]
      refine x_nil ?_
      refine hK35 _ _ ?_
      refine x_cond (ht := fun hc11 => ?_) (hf := fun hc11 => ?_)
      ·
       try simp only [dZ, ne_eq, bne_iff_ne, beq_iff_eq] at hc11
       have hz := rdS_2 (x := p.x) (n := p.n) h0 h1 h2 (namS_long hl1 (by omega))
       refine x_region ?_
       refine s_go (s_assign) ?_
       try simp only [opv, nZ, Value.cells]
       refine x_nil ?_
       refine hK7 _ _ ?_
       refine x_seq fun K36 hK36 => ?_
       refine x_seq fun K37 hK37 => ?_
       refine x_region ?_
       refine s_go (s_move) ?_
       try simp only [opv, nZ, Value.cells]
       refine s_go (s_neq) ?_
       try simp only [opv, nZ, Value.cells]
       refine x_nil ?_
       refine hK37 _ _ ?_
       refine x_cond_t (h := ?_)
       skip
       refine x_seq fun K38 hK38 => ?_
       refine x_region ?_
       refine s_go (s_move) ?_
       try simp only [opv, nZ, Value.cells]
       refine s_go (s_move) ?_
       try simp only [opv, nZ, Value.cells]
       refine s_go (s_move) ?_
       try simp only [opv, nZ, Value.cells]
       refine s_go (s_nilCheck) ?_
       try simp only [opv, nZ, Value.cells]
       refine s_go (m_fieldAddr Tryz.underlying140 (hi := ti73)) ?_
       try simp only [opv, nZ, Value.cells, Nat.zero_add, Nat.add_zero, List.getElem_toArray, List.getElem_cons_zero, List.getElem_cons_succ]
       refine m_store_obj ti73 (hS := hS) (h := fun w35 hS => ?_)
       try simp only [opv, nZ, Value.cells, Array.toArray_toList] at hS ⊢
       refine s_go (s_nilCheck) ?_
       try simp only [opv, nZ, Value.cells]
       refine s_go (m_fieldAddr Tryz.underlying140 (hi := ti53)) ?_
       try simp only [opv, nZ, Value.cells, Nat.zero_add, Nat.add_zero, List.getElem_toArray, List.getElem_cons_zero, List.getElem_cons_succ]
       refine m_store_obj ti53 (hS := hS) (h := fun w36 hS => ?_)
       try simp only [opv, nZ, Value.cells, Array.toArray_toList] at hS ⊢
       refine x_nil ?_
       refine hK38 _ _ ?_
       refine x_seq fun K39 hK39 => ?_
       refine x_region ?_
       refine s_go (m_fieldAddr Tryz.underlying142 (hi := ti3)) ?_
       try simp only [opv, nZ, Value.cells, Nat.zero_add, Nat.add_zero, List.getElem_toArray, List.getElem_cons_zero, List.getElem_cons_succ]
       refine s_go (m_load_obj Tryz.underlying3 (hS := hS)) ?_
       try simp only [opv, nZ, Value.cells, List.getElem_toArray, List.getElem_cons_zero, List.getElem_cons_succ]
       refine s_go (s_build_struct (cells := #[_, .int .u64 0, .int .u8 0, .int .u8 0, .int .u8 0, .int .u8 0, .int .u8 0, .int .u8 0, .int .u8 0, .int .u8 0, .int .u8 0, .slice none 0 0, .int .i64 0]) Tryz.underlying142 ti142 bp142 (hc := by simp only [List.map_toArray, List.map_cons, List.map_nil, opv, nZ, Value.cells, List.toList_toArray]; (repeat (refine fill_cons rfl rfl (Nat.le_of_ble_eq_true rfl) ?_)); rfl)) ?_
       try simp only [opv, nZ, Value.cells]
       refine m_store_obj ti142 (hS := hS) (h := fun w37 hS => ?_)
       try simp only [opv, nZ, Value.cells, Array.toArray_toList] at hS ⊢
       refine x_nil ?_
       refine hK39 _ _ ?_
       refine x_ret ?_
       refine r_cell_agg rfl Tryz.underlying142 ti142 (hS := hS) (hR := ?_)
       replace hS := (hS.rd_none none 1).rd_none none 1
       exact ⟨none, 0, by rw [hz]; rfl, by rw [hz]; exact RdIn.none _ _ _, none, 0, by rw [hz]; exact Nat.le_refl 0, by rw [hz]; exact RdIn.none _ _ _, by rw [hz]; exact hS.selA⟩
      ·
       try simp only [dZ, ne_eq, bne_iff_ne, beq_iff_eq] at hc11
       refine x_seq fun K40 hK40 => ?_
       refine x_region ?_
       refine s_go (s_move) ?_
       try simp only [opv, nZ, Value.cells]
       refine s_go (s_nilCheck) ?_
       try simp only [opv, nZ, Value.cells]
       refine s_go (m_fieldAddr Tryz.underlying140 (hi := ti73)) ?_
       try simp only [opv, nZ, Value.cells, Nat.zero_add, Nat.add_zero, List.getElem_toArray, List.getElem_cons_zero, List.getElem_cons_succ]
       refine s_go (m_load_obj Tryz.underlying73 (hS := hS)) ?_
       try simp only [opv, nZ, Value.cells, List.getElem_toArray, List.getElem_cons_zero, List.getElem_cons_succ]
       refine s_go (s_len_sl Tryz.underlying73) ?_
       try simp only [opv, nZ, Value.cells]
       refine s_go (s_move) ?_
       try simp only [opv, nZ, Value.cells]
       refine s_go (s_add (hc := by exact wr_i64 (by omega) (by omega))) ?_
       try simp only [opv, nZ, Value.cells]
       refine s_go (s_lss) ?_
       try simp only [opv, nZ, Value.cells]
       refine x_nil ?_
       refine hK40 _ _ ?_
       refine x_cond (ht := fun hc13 => ?_) (hf := fun hc13 => ?_)
       ·
        try simp only [dZ, ne_eq, bne_iff_ne, beq_iff_eq] at hc13
        have hz := rdS_2 (x := p.x) (n := p.n) h0 h1 h2 (namS_cut hl1 hk (by omega) (by simp; omega))
        refine x_region ?_
        refine s_go (s_assign) ?_
        try simp only [opv, nZ, Value.cells]
        refine x_nil ?_
        refine hK7 _ _ ?_
        refine x_seq fun K41 hK41 => ?_
        refine x_seq fun K42 hK42 => ?_
        refine x_region ?_
        refine s_go (s_move) ?_
        try simp only [opv, nZ, Value.cells]
        refine s_go (s_neq) ?_
        try simp only [opv, nZ, Value.cells]
        refine x_nil ?_
        refine hK42 _ _ ?_
        refine x_cond_t (h := ?_)
        skip
        refine x_seq fun K43 hK43 => ?_
        refine x_region ?_
        refine s_go (s_move) ?_
        try simp only [opv, nZ, Value.cells]
        refine s_go (s_move) ?_
        try simp only [opv, nZ, Value.cells]
        refine s_go (s_move) ?_
        try simp only [opv, nZ, Value.cells]
        refine s_go (s_nilCheck) ?_
        try simp only [opv, nZ, Value.cells]
        refine s_go (m_fieldAddr Tryz.underlying140 (hi := ti73)) ?_
        try simp only [opv, nZ, Value.cells, Nat.zero_add, Nat.add_zero, List.getElem_toArray, List.getElem_cons_zero, List.getElem_cons_succ]
        refine m_store_obj ti73 (hS := hS) (h := fun w38 hS => ?_)
        try simp only [opv, nZ, Value.cells, Array.toArray_toList] at hS ⊢
        refine s_go (s_nilCheck) ?_
        try simp only [opv, nZ, Value.cells]
        refine s_go (m_fieldAddr Tryz.underlying140 (hi := ti53)) ?_
        try simp only [opv, nZ, Value.cells, Nat.zero_add, Nat.add_zero, List.getElem_toArray, List.getElem_cons_zero, List.getElem_cons_succ]
        refine m_store_obj ti53 (hS := hS) (h := fun w39 hS => ?_)
        try simp only [opv, nZ, Value.cells, Array.toArray_toList] at hS ⊢
        refine x_nil ?_
        refine hK43 _ _ ?_
        refine x_seq fun K44 hK44 => ?_
        refine x_region ?_
        refine s_go (m_fieldAddr Tryz.underlying142 (hi := ti3)) ?_
        try simp only [opv, nZ, Value.cells, Nat.zero_add, Nat.add_zero, List.getElem_toArray, List.getElem_cons_zero, List.getElem_cons_succ]
        refine s_go (m_load_obj Tryz.underlying3 (hS := hS)) ?_
        try simp only [opv, nZ, Value.cells, List.getElem_toArray, List.getElem_cons_zero, List.getElem_cons_succ]
        refine s_go (s_build_struct (cells := #[_, .int .u64 0, .int .u8 0, .int .u8 0, .int .u8 0, .int .u8 0, .int .u8 0, .int .u8 0, .int .u8 0, .int .u8 0, .int .u8 0, .slice none 0 0, .int .i64 0]) Tryz.underlying142 ti142 bp142 (hc := by simp only [List.map_toArray, List.map_cons, List.map_nil, opv, nZ, Value.cells, List.toList_toArray]; (repeat (refine fill_cons rfl rfl (Nat.le_of_ble_eq_true rfl) ?_)); rfl)) ?_
        try simp only [opv, nZ, Value.cells]
        refine m_store_obj ti142 (hS := hS) (h := fun w40 hS => ?_)
        try simp only [opv, nZ, Value.cells, Array.toArray_toList] at hS ⊢
        refine x_nil ?_
        refine hK44 _ _ ?_
        refine x_ret ?_
        refine r_cell_agg rfl Tryz.underlying142 ti142 (hS := hS) (hR := ?_)
        replace hS := (hS.rd_none none 1).rd_none none 1
        exact ⟨none, 0, by rw [hz]; rfl, by rw [hz]; exact RdIn.none _ _ _, none, 0, by rw [hz]; exact Nat.le_refl 0, by rw [hz]; exact RdIn.none _ _ _, by rw [hz]; exact hS.selA⟩
       ·
        try simp only [dZ, ne_eq, bne_iff_ne, beq_iff_eq] at hc13
        have h3 : k ≤ (xs.drop 1).length := by simp; omega
        have htb : Byt ((xs.drop 1).take k) := (hw.drop 1).take k
        have htl : ((xs.drop 1).take k).length = k := by simp; omega
        refine x_seq fun K45 hK45 => ?_
        refine x_region ?_
        refine s_go (s_move) ?_
        try simp only [opv, nZ, Value.cells]
        refine s_go (s_nilCheck) ?_
        try simp only [opv, nZ, Value.cells]
        refine s_go (m_fieldAddr Tryz.underlying140 (hi := ti73)) ?_
        try simp only [opv, nZ, Value.cells, Nat.zero_add, Nat.add_zero, List.getElem_toArray, List.getElem_cons_zero, List.getElem_cons_succ]
        refine s_go (m_load_obj Tryz.underlying73 (hS := hS)) ?_
        try simp only [opv, nZ, Value.cells, List.getElem_toArray, List.getElem_cons_zero, List.getElem_cons_succ]
        refine s_go (s_move) ?_
        try simp only [opv, nZ, Value.cells]
        refine s_go (s_add (hc := by exact wr_i64 (by omega) (by omega))) ?_
        try simp only [opv, nZ, Value.cells]
        rw [show (1 : Int) + (k : Int) = ((1 + k : Nat) : Int) by omega]
        refine m_slice_rd (lo := 1) (hi := 1 + k) (m := c) Tryz.underlying73 ti5 (hlo := ⟨_, rfl⟩) (hhi := ⟨_, rfl⟩) (hmx := rfl) (hS := hS) (h := fun A3 hA3 hS => ?_)
        try simp only [Nat.mul_one, Nat.zero_mul] at hA3
        try simp only [← List.map_append, ← List.map_drop, ← List.map_take, Nat.mul_one, Nat.zero_mul, Nat.sub_zero, List.drop_zero, List.nil_append, Nat.zero_add] at hS ⊢
        try simp only [opv, nZ, Value.cells, Array.toArray_toList] at hS ⊢
        rw [show 1 + k - 1 = k by omega] at hS ⊢
        obtain ⟨ns, hns⟩ : ∃ ns, (xs.drop 1).take k = ns := ⟨_, rfl⟩
        rw [hns] at htb htl hS
        have hpl := padN_len ns
        refine s_go (m_bytes_str Tryz.underlying73 Tryz.underlying9 Tryz.underlying5 (hS := hS)) ?_
        try simp only [opv, nZ, Value.cells]
        refine s_go (s_assign) ?_
        try simp only [opv, nZ, Value.cells]
        refine x_nil ?_
        refine hK45 _ _ ?_
        refine x_seq fun K46 hK46 => ?_
        refine x_region ?_
        refine s_go (s_move) ?_
        try simp only [opv, nZ, Value.cells]
        refine s_go (s_gtr) ?_
        try simp only [opv, nZ, Value.cells]
        refine s_go (s_move) ?_
        try simp only [opv, nZ, Value.cells]
        refine s_part 129 rfl (fun hp1 => ?_) (fun hp1 => ?_)
        ·
         try simp only [n3, n4]
         try simp only [dZ, ne_eq] at hp1
         refine g_on (yi (t := 129) rfl rfl) ?_
         refine s_go (s_move) ?_
         try simp only [opv, nZ, Value.cells]
         refine g_on (yi (t := 129) rfl rfl) ?_
         refine s_call en142 ?_
         try simp only [opv, nZ, Value.cells, List.map_toArray, List.map_cons, List.map_nil, List.append_toArray, List.cons_append, List.nil_append, Array.append_empty]
         refine CallR.mono (c_ref06Is _ (by assumption) (by omega) _) ?_
         rintro _ w41 ⟨rfl, hE41⟩
         replace hS := hS.ext hE41
         try simp only [opv, nZ, Value.cells]
         refine g_on (yi (t := 129) rfl rfl) ?_
         refine s_go (s_not) ?_
         try simp only [opv, nZ, Value.cells]
         refine s_go (s_pick_t) ?_
         try simp only [opv, nZ, Value.cells]
         refine x_nil ?_
         refine hK46 _ _ ?_
         refine x_cond (ht := fun hc15 => ?_) (hf := fun hc15 => ?_)
         ·
          try simp only [dZ, ne_eq, bne_iff_ne, beq_iff_eq] at hc15
          have hz := rdS_2 (x := p.x) (n := p.n) h0 h1 h2 (namS_no hl1 hk (by omega) h3 (by omega) (by rw [hns]; simpa using hc15))
          refine x_region ?_
          refine s_go (s_assign) ?_
          try simp only [opv, nZ, Value.cells]
          refine x_nil ?_
          refine hK7 _ _ ?_
          refine x_seq fun K47 hK47 => ?_
          refine x_seq fun K48 hK48 => ?_
          refine x_region ?_
          refine s_go (s_move) ?_
          try simp only [opv, nZ, Value.cells]
          refine s_go (s_neq) ?_
          try simp only [opv, nZ, Value.cells]
          refine x_nil ?_
          refine hK48 _ _ ?_
          refine x_cond_t (h := ?_)
          skip
          refine x_seq fun K49 hK49 => ?_
          refine x_region ?_
          refine s_go (s_move) ?_
          try simp only [opv, nZ, Value.cells]
          refine s_go (s_move) ?_
          try simp only [opv, nZ, Value.cells]
          refine s_go (s_move) ?_
          try simp only [opv, nZ, Value.cells]
          refine s_go (s_nilCheck) ?_
          try simp only [opv, nZ, Value.cells]
          refine s_go (m_fieldAddr Tryz.underlying140 (hi := ti73)) ?_
          try simp only [opv, nZ, Value.cells, Nat.zero_add, Nat.add_zero, List.getElem_toArray, List.getElem_cons_zero, List.getElem_cons_succ]
          refine m_store_obj ti73 (hS := hS) (h := fun w42 hS => ?_)
          try simp only [opv, nZ, Value.cells, Array.toArray_toList] at hS ⊢
          refine s_go (s_nilCheck) ?_
          try simp only [opv, nZ, Value.cells]
          refine s_go (m_fieldAddr Tryz.underlying140 (hi := ti53)) ?_
          try simp only [opv, nZ, Value.cells, Nat.zero_add, Nat.add_zero, List.getElem_toArray, List.getElem_cons_zero, List.getElem_cons_succ]
          refine m_store_obj ti53 (hS := hS) (h := fun w43 hS => ?_)
          try simp only [opv, nZ, Value.cells, Array.toArray_toList] at hS ⊢
          refine x_nil ?_
          refine hK49 _ _ ?_
          refine x_seq fun K50 hK50 => ?_
          refine x_region ?_
          refine s_go (m_fieldAddr Tryz.underlying142 (hi := ti3)) ?_
          try simp only [opv, nZ, Value.cells, Nat.zero_add, Nat.add_zero, List.getElem_toArray, List.getElem_cons_zero, List.getElem_cons_succ]
          refine s_go (m_load_obj Tryz.underlying3 (hS := hS)) ?_
          try simp only [opv, nZ, Value.cells, List.getElem_toArray, List.getElem_cons_zero, List.getElem_cons_succ]
          refine s_go (s_build_struct (cells := #[_, .int .u64 0, .int .u8 0, .int .u8 0, .int .u8 0, .int .u8 0, .int .u8 0, .int .u8 0, .int .u8 0, .int .u8 0, .int .u8 0, .slice none 0 0, .int .i64 0]) Tryz.underlying142 ti142 bp142 (hc := by simp only [List.map_toArray, List.map_cons, List.map_nil, opv, nZ, Value.cells, List.toList_toArray]; (repeat (refine fill_cons rfl rfl (Nat.le_of_ble_eq_true rfl) ?_)); rfl)) ?_
          try simp only [opv, nZ, Value.cells]
          refine m_store_obj ti142 (hS := hS) (h := fun w44 hS => ?_)
          try simp only [opv, nZ, Value.cells, Array.toArray_toList] at hS ⊢
          refine x_nil ?_
          refine hK50 _ _ ?_
          refine x_ret ?_
          refine r_cell_agg rfl Tryz.underlying142 ti142 (hS := hS) (hR := ?_)
          replace hS := (hS.rd_none none 1).rd_none none 1
          exact ⟨none, 0, by rw [hz]; rfl, by rw [hz]; exact RdIn.none _ _ _, none, 0, by rw [hz]; exact Nat.le_refl 0, by rw [hz]; exact RdIn.none _ _ _, by rw [hz]; exact hS.selA⟩
         ·
          try simp only [dZ, ne_eq, bne_iff_ne, beq_iff_eq] at hc15
          have hz := rdS_2 (x := p.x) (n := p.n) h0 h1 h2 (namS_yes hl1 hk (by omega) h3 (.inr (by rw [hns]; simpa using hc15)))
          rw [hns, List.drop_drop] at hz
          refine x_mixed_c (Lc := [.obj g (.cells #[.slice A xs.length c, .int .i64 0] 140 (0, 0)), .rd A 1 xs.length (xs.map (Value.int .u8))]) [] 0 [6, 134, 135, 136, 137, 138, 139, 140, 141, 142, 143] (fun f w => ∃ B : Option Addr, f 6 = .slice B (xs.length - (1 + k)) (c - (1 + k)) ∧ (1 + k < xs.length → B = A.map (·.add (1 + k))) ∧ St (OwnB [.obj g (.cells #[.slice A xs.length c, .int .i64 0] 140 (0, 0)), .rd A 1 xs.length (xs.map (Value.int .u8))]) w0 w [.obj g3 (.cells (pA p.d 0 0 (padN ns) none 0 0 0) 142 (0, 0)), .obj g2 (.cells (pA 0 0 0 nm0 none 0 0 0) 142 (0, 0)), .obj g1 (.cells (pP p) 142 (0, 0)), .obj g (.cells #[.slice A xs.length c, .int .i64 0] 140 (0, 0)), .rd A 1 xs.length (xs.map (Value.int .u8))]) (by kernel_rfl) (by kernel_rfl) (by kernel_rfl) (by decide) hS (fun w45 hS => ?mixpre2903) ?mixrest2903
          case mixpre2903 =>
           refine p_nil ?_
           simp only [List.length_cons, List.length_nil, Nat.reduceAdd, Nat.reduceSub]
           refine any_go (i := 0) (by rfl) (by decide +kernel) (by decide +kernel) noLate_nil (go_yields w_none (fun w hS => s_move)) ?_
           try simp only [opv, nZ, Value.cells]
           apply any_go (i := 1) (by rfl) (by decide +kernel) (by decide +kernel) noLate_nil (call_yields w_none en144 ?H1) ?K1
           case H1 =>
             intro w hS
             try simp only [opv, nZ, List.map_toArray, List.map_cons, List.map_nil, List.append_toArray, List.cons_append, List.nil_append, Array.append_empty]
             refine CallR.mono (c_ref06Pad _ (by assumption) (by omega) _) ?_
             rintro _ w1 ⟨rfl, hE⟩; exact ⟨rfl, hE⟩
           try simp only [opv, nZ, Value.cells]
           refine any_go (i := 2) (by rfl) (by decide +kernel) (by decide +kernel) noLate_nil (go_yields w_none (fun w hS => s_move)) ?_
           try simp only [opv, nZ, Value.cells]
           refine any_go (i := 3) (by rfl) (by decide +kernel) (by decide +kernel) noLate_nil (go_yields w_none (fun w hS => s_nilCheck)) ?_
           try simp only [opv, nZ, Value.cells]
           refine any_go (i := 4) (by rfl) (by decide +kernel) (by decide +kernel) noLate_nil (go_yields w_none (fun w hS => m_fieldAddr Tryz.underlying140 (hi := ti73))) ?_
           try simp only [opv, nZ, Value.cells, Nat.zero_add, Nat.add_zero, List.getElem_toArray, List.getElem_cons_zero, List.getElem_cons_succ]
           refine any_go (i := 5) (by rfl) (by decide +kernel) (by decide +kernel) noLate_nil (go_yields w_none (fun w hS => m_load_obj Tryz.underlying73 (hS := hS))) ?_
           try simp only [opv, nZ, Value.cells, List.getElem_toArray, List.getElem_cons_zero, List.getElem_cons_succ]
           refine any_go (i := 6) (by rfl) (by decide +kernel) (by decide +kernel) noLate_nil (go_yields w_none (fun w hS => s_move)) ?_
           try simp only [opv, nZ, Value.cells]
           refine any_go (i := 7) (by rfl) (by decide +kernel) (by decide +kernel) noLate_nil (go_yields w_none (fun w hS => s_add (hc := by exact wr_i64 (by omega) (by omega)))) ?_
           try simp only [opv, nZ, Value.cells]
           rw [show (1 : Int) + (k : Int) = ((1 + k : Nat) : Int) by omega]
           refine any_go (i := 9) (by rfl) (by decide +kernel) (by decide +kernel) noLate_nil (go_yields w_none (fun w hS => m_fieldAddr Tryz.underlying142 (hi := ti41))) ?_
           try simp only [opv, nZ, Value.cells, Nat.zero_add, Nat.add_zero, List.getElem_toArray, List.getElem_cons_zero, List.getElem_cons_succ]
           refine any_step [8, 10] (by kernel_rfl) (by decide) (fun w46 hE => ⟨fun _ => (hS.ext hE).sel (by repeat (first | exact Sel.nil | (refine Sel.cons (by repeat (first | exact Del.head | apply Del.tail)) ?_))), ?_⟩)
           replace hS := hS.ext hE
           intro i hi
           simp only [List.mem_cons, List.not_mem_nil, or_false] at hi
           rcases hi with rfl | rfl
           ·
            refine any_op (by rfl) ?_
            refine m_slice_rd (lo := 1 + k) (hi := xs.length) (m := c) Tryz.underlying73 ti5 (hlo := ⟨_, rfl⟩) (hhi := ⟨rfl, rfl⟩) (hmx := rfl) (hS := hS) (h := fun A4 hA4 hS => ?_)
            try simp only [Nat.mul_one, Nat.zero_mul] at hA4
            try simp only [← List.map_append, ← List.map_drop, ← List.map_take, Nat.mul_one, Nat.zero_mul, Nat.sub_zero, List.drop_zero, List.nil_append, Nat.zero_add] at hS ⊢
            try simp only [opv, nZ, Value.cells, Array.toArray_toList] at hS ⊢
            refine x_nil ?_
            refine any_step [10] (by kernel_rfl) (by decide) (fun w47 hE => ⟨fun _ => (hS.ext hE).sel (by repeat (first | exact Sel.nil | (refine Sel.cons (by repeat (first | exact Del.head | apply Del.tail)) ?_))), ?_⟩)
            replace hS := hS.ext hE
            intro i hi
            simp only [List.mem_cons, List.not_mem_nil, or_false] at hi
            subst hi
            ·
             refine any_op (by rfl) ?_
             refine m_store_obj ti41 (hS := hS) (hc := pA_nm (padN_len ns)) (h := fun w48 hS => ?_)
             try simp only [opv, nZ, Value.cells, Array.toArray_toList] at hS ⊢
             refine x_nil ?_
             refine any_go (i := 11) (by rfl) (by decide +kernel) (by decide +kernel) noLate_nil (go_yields w_none (fun w hS => s_assign)) ?_
             try simp only [opv, nZ, Value.cells]
             refine any_nil (by kernel_rfl) (fun w49 hE => ?_)
             replace hS := hS.ext hE
             refine ⟨fun _ => hS.selA, ?_⟩
             refine mix_leaf (by simp only [clob, List.foldl, nZ]) ?_
             try simp only [n1, n2]
             exact ⟨_, rfl, by assumption, hS.selA⟩
           ·
            refine any_op (by rfl) ?_
            refine m_store_obj ti41 (hS := hS) (hc := pA_nm (padN_len ns)) (h := fun w50 hS => ?_)
            try simp only [opv, nZ, Value.cells, Array.toArray_toList] at hS ⊢
            refine x_nil ?_
            refine any_step [8] (by kernel_rfl) (by decide) (fun w51 hE => ⟨fun _ => (hS.ext hE).sel (by repeat (first | exact Sel.nil | (refine Sel.cons (by repeat (first | exact Del.head | apply Del.tail)) ?_))), ?_⟩)
            replace hS := hS.ext hE
            intro i hi
            simp only [List.mem_cons, List.not_mem_nil, or_false] at hi
            subst hi
            ·
             refine any_op (by rfl) ?_
             refine m_slice_rd (lo := 1 + k) (hi := xs.length) (m := c) Tryz.underlying73 ti5 (hlo := ⟨_, rfl⟩) (hhi := ⟨rfl, rfl⟩) (hmx := rfl) (hS := hS) (h := fun A5 hA5 hS => ?_)
             try simp only [Nat.mul_one, Nat.zero_mul] at hA5
             try simp only [← List.map_append, ← List.map_drop, ← List.map_take, Nat.mul_one, Nat.zero_mul, Nat.sub_zero, List.drop_zero, List.nil_append, Nat.zero_add] at hS ⊢
             try simp only [opv, nZ, Value.cells, Array.toArray_toList] at hS ⊢
             refine x_nil ?_
             refine any_go (i := 11) (by rfl) (by decide +kernel) (by decide +kernel) noLate_nil (go_yields w_none (fun w hS => s_assign)) ?_
             try simp only [opv, nZ, Value.cells]
             refine any_nil (by kernel_rfl) (fun w52 hE => ?_)
             replace hS := hS.ext hE
             refine ⟨fun _ => hS.selA, ?_⟩
             refine mix_leaf (by simp only [clob, List.foldl, nZ]) ?_
             try simp only [n1, n2]
             exact ⟨_, rfl, by assumption, hS.selA⟩
          intro fm3 w53 hM
          obtain ⟨B, h6, hB, hS⟩ := hM
          simp only [clob, List.foldl, n3, n4, h6]
          refine hK7 _ _ ?_
          refine x_seq fun K51 hK51 => ?_
          refine x_seq fun K52 hK52 => ?_
          refine x_region ?_
          refine s_go (s_move) ?_
          try simp only [opv, nZ, Value.cells]
          refine s_go (s_neq) ?_
          try simp only [opv, nZ, Value.cells]
          refine x_nil ?_
          refine hK52 _ _ ?_
          refine x_cond_f (h := ?_)
          skip
          refine x_skip ?_
          refine hK51 _ _ ?_
          refine x_seq fun K53 hK53 => ?_
          refine x_region ?_
          refine s_go (s_move) ?_
          try simp only [opv, nZ, Value.cells]
          refine s_go (s_move) ?_
          try simp only [opv, nZ, Value.cells]
          refine s_go (s_nilCheck) ?_
          try simp only [opv, nZ, Value.cells]
          refine s_go (m_fieldAddr Tryz.underlying140 (hi := ti73)) ?_
          try simp only [opv, nZ, Value.cells, Nat.zero_add, Nat.add_zero, List.getElem_toArray, List.getElem_cons_zero, List.getElem_cons_succ]
          refine m_store_obj ti73 (hS := hS) (h := fun w54 hS => ?_)
          try simp only [opv, nZ, Value.cells, Array.toArray_toList] at hS ⊢
          refine x_nil ?_
          refine hK53 _ _ ?_
          refine x_seq fun K54 hK54 => ?_
          refine x_region ?_
          refine s_go (m_load_row Tryz.underlying142 (hi := ti142) (hS := hS)) ?_
          try simp only [opv, nZ, Value.cells, List.getElem_toArray, List.getElem_cons_zero, List.getElem_cons_succ]
          refine m_store_obj ti142 (hS := hS) (h := fun w55 hS => ?_)
          try simp only [opv, nZ, Value.cells, Array.toArray_toList] at hS ⊢
          refine x_nil ?_
          refine hK54 _ _ ?_
          refine x_ret ?_
          refine r_cell_agg rfl Tryz.underlying142 ti142 (hS := hS) (hR := ?_)
          have hcpo : (xs.drop (1 + k)).length ≤ c - (1 + k) := by simp; omega
          have hRo : RdIn w0 [.obj g (.cells #[.slice A xs.length c, .int .i64 0] 140 (0, 0)), .rd A 1 xs.length (xs.map (Value.int .u8))] B (xs.drop (1 + k)).length := RdIn.sub (List.mem_cons_of_mem _ (List.mem_cons_self ..)) (fun h => by simp at h; exact ⟨by omega, hB (by omega)⟩)
          replace hS := (hS.rd_drop (by repeat (first | exact Has.head | apply Has.tail)) (1 + k) (by omega) B hB).rd_none none 1
          try rw [← List.length_drop] at hS
          exact ⟨_, _, by rw [hz]; rfl, by rw [hz]; exact RdIn.none _ _ _, _, _, by rw [hz]; exact hcpo, by rw [hz]; exact hRo, by rw [hz]; exact hS.selA⟩
        ·
         try simp only [n3, n4]
         try simp only [dZ, ne_eq] at hp1
         have hk0 : k = 0 := by omega
         have hz := rdS_2 (x := p.x) (n := p.n) h0 h1 h2 (namS_yes hl1 hk (by omega) h3 (.inl hk0))
         refine g_off (yi (t := 129) rfl rfl) ?_
         try simp only [opv, nZ, Value.cells]
         refine g_off (yi (t := 129) rfl rfl) ?_
         try simp only [opv, nZ, Value.cells]
         refine g_off (yi (t := 129) rfl rfl) ?_
         try simp only [opv, nZ, Value.cells]
         refine s_go (s_pick_f) ?_
         try simp only [opv, nZ, Value.cells]
         refine x_nil ?_
         refine hK46 _ _ ?_
         refine x_cond_f (h := ?_)
         skip
         rw [hns, List.drop_drop] at hz
         refine x_mixed_c (Lc := [.obj g (.cells #[.slice A xs.length c, .int .i64 0] 140 (0, 0)), .rd A 1 xs.length (xs.map (Value.int .u8))]) [] 0 [6, 134, 135, 136, 137, 138, 139, 140, 141, 142, 143] (fun f w => ∃ B : Option Addr, f 6 = .slice B (xs.length - (1 + k)) (c - (1 + k)) ∧ (1 + k < xs.length → B = A.map (·.add (1 + k))) ∧ St (OwnB [.obj g (.cells #[.slice A xs.length c, .int .i64 0] 140 (0, 0)), .rd A 1 xs.length (xs.map (Value.int .u8))]) w0 w [.obj g3 (.cells (pA p.d 0 0 (padN ns) none 0 0 0) 142 (0, 0)), .obj g2 (.cells (pA 0 0 0 nm0 none 0 0 0) 142 (0, 0)), .obj g1 (.cells (pP p) 142 (0, 0)), .obj g (.cells #[.slice A xs.length c, .int .i64 0] 140 (0, 0)), .rd A 1 xs.length (xs.map (Value.int .u8))]) (by kernel_rfl) (by kernel_rfl) (by kernel_rfl) (by decide) hS (fun w56 hS => ?mixpre2904) ?mixrest2904
         case mixpre2904 =>
          refine p_nil ?_
          simp only [List.length_cons, List.length_nil, Nat.reduceAdd, Nat.reduceSub]
          refine any_go (i := 0) (by rfl) (by decide +kernel) (by decide +kernel) noLate_nil (go_yields w_none (fun w hS => s_move)) ?_
          try simp only [opv, nZ, Value.cells]
          apply any_go (i := 1) (by rfl) (by decide +kernel) (by decide +kernel) noLate_nil (call_yields w_none en144 ?H2) ?K2
          case H2 =>
            intro w hS
            try simp only [opv, nZ, List.map_toArray, List.map_cons, List.map_nil, List.append_toArray, List.cons_append, List.nil_append, Array.append_empty]
            refine CallR.mono (c_ref06Pad _ (by assumption) (by omega) _) ?_
            rintro _ w1 ⟨rfl, hE⟩; exact ⟨rfl, hE⟩
          try simp only [opv, nZ, Value.cells]
          refine any_go (i := 2) (by rfl) (by decide +kernel) (by decide +kernel) noLate_nil (go_yields w_none (fun w hS => s_move)) ?_
          try simp only [opv, nZ, Value.cells]
          refine any_go (i := 3) (by rfl) (by decide +kernel) (by decide +kernel) noLate_nil (go_yields w_none (fun w hS => s_nilCheck)) ?_
          try simp only [opv, nZ, Value.cells]
          refine any_go (i := 4) (by rfl) (by decide +kernel) (by decide +kernel) noLate_nil (go_yields w_none (fun w hS => m_fieldAddr Tryz.underlying140 (hi := ti73))) ?_
          try simp only [opv, nZ, Value.cells, Nat.zero_add, Nat.add_zero, List.getElem_toArray, List.getElem_cons_zero, List.getElem_cons_succ]
          refine any_go (i := 5) (by rfl) (by decide +kernel) (by decide +kernel) noLate_nil (go_yields w_none (fun w hS => m_load_obj Tryz.underlying73 (hS := hS))) ?_
          try simp only [opv, nZ, Value.cells, List.getElem_toArray, List.getElem_cons_zero, List.getElem_cons_succ]
          refine any_go (i := 6) (by rfl) (by decide +kernel) (by decide +kernel) noLate_nil (go_yields w_none (fun w hS => s_move)) ?_
          try simp only [opv, nZ, Value.cells]
          refine any_go (i := 7) (by rfl) (by decide +kernel) (by decide +kernel) noLate_nil (go_yields w_none (fun w hS => s_add (hc := by exact wr_i64 (by omega) (by omega)))) ?_
          try simp only [opv, nZ, Value.cells]
          rw [show (1 : Int) + (k : Int) = ((1 + k : Nat) : Int) by omega]
          refine any_go (i := 9) (by rfl) (by decide +kernel) (by decide +kernel) noLate_nil (go_yields w_none (fun w hS => m_fieldAddr Tryz.underlying142 (hi := ti41))) ?_
          try simp only [opv, nZ, Value.cells, Nat.zero_add, Nat.add_zero, List.getElem_toArray, List.getElem_cons_zero, List.getElem_cons_succ]
          refine any_step [8, 10] (by kernel_rfl) (by decide) (fun w57 hE => ⟨fun _ => (hS.ext hE).sel (by repeat (first | exact Sel.nil | (refine Sel.cons (by repeat (first | exact Del.head | apply Del.tail)) ?_))), ?_⟩)
          replace hS := hS.ext hE
          intro i hi
          simp only [List.mem_cons, List.not_mem_nil, or_false] at hi
          rcases hi with rfl | rfl
          ·
           refine any_op (by rfl) ?_
           refine m_slice_rd (lo := 1 + k) (hi := xs.length) (m := c) Tryz.underlying73 ti5 (hlo := ⟨_, rfl⟩) (hhi := ⟨rfl, rfl⟩) (hmx := rfl) (hS := hS) (h := fun A6 hA6 hS => ?_)
           try simp only [Nat.mul_one, Nat.zero_mul] at hA6
           try simp only [← List.map_append, ← List.map_drop, ← List.map_take, Nat.mul_one, Nat.zero_mul, Nat.sub_zero, List.drop_zero, List.nil_append, Nat.zero_add] at hS ⊢
           try simp only [opv, nZ, Value.cells, Array.toArray_toList] at hS ⊢
           refine x_nil ?_
           refine any_step [10] (by kernel_rfl) (by decide) (fun w58 hE => ⟨fun _ => (hS.ext hE).sel (by repeat (first | exact Sel.nil | (refine Sel.cons (by repeat (first | exact Del.head | apply Del.tail)) ?_))), ?_⟩)
           replace hS := hS.ext hE
           intro i hi
           simp only [List.mem_cons, List.not_mem_nil, or_false] at hi
           subst hi
           ·
            refine any_op (by rfl) ?_
            refine m_store_obj ti41 (hS := hS) (hc := pA_nm (padN_len ns)) (h := fun w59 hS => ?_)
            try simp only [opv, nZ, Value.cells, Array.toArray_toList] at hS ⊢
            refine x_nil ?_
            refine any_go (i := 11) (by rfl) (by decide +kernel) (by decide +kernel) noLate_nil (go_yields w_none (fun w hS => s_assign)) ?_
            try simp only [opv, nZ, Value.cells]
            refine any_nil (by kernel_rfl) (fun w60 hE => ?_)
            replace hS := hS.ext hE
            refine ⟨fun _ => hS.selA, ?_⟩
            refine mix_leaf (by simp only [clob, List.foldl, nZ]) ?_
            try simp only [n1, n2]
            exact ⟨_, rfl, by assumption, hS.selA⟩
          ·
           refine any_op (by rfl) ?_
           refine m_store_obj ti41 (hS := hS) (hc := pA_nm (padN_len ns)) (h := fun w61 hS => ?_)
           try simp only [opv, nZ, Value.cells, Array.toArray_toList] at hS ⊢
           refine x_nil ?_
           refine any_step [8] (by kernel_rfl) (by decide) (fun w62 hE => ⟨fun _ => (hS.ext hE).sel (by repeat (first | exact Sel.nil | (refine Sel.cons (by repeat (first | exact Del.head | apply Del.tail)) ?_))), ?_⟩)
           replace hS := hS.ext hE
           intro i hi
           simp only [List.mem_cons, List.not_mem_nil, or_false] at hi
           subst hi
           ·
            refine any_op (by rfl) ?_
            refine m_slice_rd (lo := 1 + k) (hi := xs.length) (m := c) Tryz.underlying73 ti5 (hlo := ⟨_, rfl⟩) (hhi := ⟨rfl, rfl⟩) (hmx := rfl) (hS := hS) (h := fun A7 hA7 hS => ?_)
            try simp only [Nat.mul_one, Nat.zero_mul] at hA7
            try simp only [← List.map_append, ← List.map_drop, ← List.map_take, Nat.mul_one, Nat.zero_mul, Nat.sub_zero, List.drop_zero, List.nil_append, Nat.zero_add] at hS ⊢
            try simp only [opv, nZ, Value.cells, Array.toArray_toList] at hS ⊢
            refine x_nil ?_
            refine any_go (i := 11) (by rfl) (by decide +kernel) (by decide +kernel) noLate_nil (go_yields w_none (fun w hS => s_assign)) ?_
            try simp only [opv, nZ, Value.cells]
            refine any_nil (by kernel_rfl) (fun w63 hE => ?_)
            replace hS := hS.ext hE
            refine ⟨fun _ => hS.selA, ?_⟩
            refine mix_leaf (by simp only [clob, List.foldl, nZ]) ?_
            try simp only [n1, n2]
            exact ⟨_, rfl, by assumption, hS.selA⟩
         intro fm4 w64 hM
         obtain ⟨B, h6, hB, hS⟩ := hM
         simp only [clob, List.foldl, n3, n4, h6]
         refine hK7 _ _ ?_
         refine x_seq fun K55 hK55 => ?_
         refine x_seq fun K56 hK56 => ?_
         refine x_region ?_
         refine s_go (s_move) ?_
         try simp only [opv, nZ, Value.cells]
         refine s_go (s_neq) ?_
         try simp only [opv, nZ, Value.cells]
         refine x_nil ?_
         refine hK56 _ _ ?_
         refine x_cond_f (h := ?_)
         skip
         refine x_skip ?_
         refine hK55 _ _ ?_
         refine x_seq fun K57 hK57 => ?_
         refine x_region ?_
         refine s_go (s_move) ?_
         try simp only [opv, nZ, Value.cells]
         refine s_go (s_move) ?_
         try simp only [opv, nZ, Value.cells]
         refine s_go (s_nilCheck) ?_
         try simp only [opv, nZ, Value.cells]
         refine s_go (m_fieldAddr Tryz.underlying140 (hi := ti73)) ?_
         try simp only [opv, nZ, Value.cells, Nat.zero_add, Nat.add_zero, List.getElem_toArray, List.getElem_cons_zero, List.getElem_cons_succ]
         refine m_store_obj ti73 (hS := hS) (h := fun w65 hS => ?_)
         try simp only [opv, nZ, Value.cells, Array.toArray_toList] at hS ⊢
         refine x_nil ?_
         refine hK57 _ _ ?_
         refine x_seq fun K58 hK58 => ?_
         refine x_region ?_
         refine s_go (m_load_row Tryz.underlying142 (hi := ti142) (hS := hS)) ?_
         try simp only [opv, nZ, Value.cells, List.getElem_toArray, List.getElem_cons_zero, List.getElem_cons_succ]
         refine m_store_obj ti142 (hS := hS) (h := fun w66 hS => ?_)
         try simp only [opv, nZ, Value.cells, Array.toArray_toList] at hS ⊢
         refine x_nil ?_
         refine hK58 _ _ ?_
         refine x_ret ?_
         refine r_cell_agg rfl Tryz.underlying142 ti142 (hS := hS) (hR := ?_)
         have hcpo : (xs.drop (1 + k)).length ≤ c - (1 + k) := by simp; omega
         have hRo : RdIn w0 [.obj g (.cells #[.slice A xs.length c, .int .i64 0] 140 (0, 0)), .rd A 1 xs.length (xs.map (Value.int .u8))] B (xs.drop (1 + k)).length := RdIn.sub (List.mem_cons_of_mem _ (List.mem_cons_self ..)) (fun h => by simp at h; exact ⟨by omega, hB (by omega)⟩)
         replace hS := (hS.rd_drop (by repeat (first | exact Has.head | apply Has.tail)) (1 + k) (by omega) B hB).rd_none none 1
         try rw [← List.length_drop] at hS
         exact ⟨_, _, by rw [hz]; rfl, by rw [hz]; exact RdIn.none _ _ _, _, _, by rw [hz]; exact hcpo, by rw [hz]; exact hRo, by rw [hz]; exact hS.selA⟩
    ·
     try simp only [dZ, ne_eq, bne_iff_ne, beq_iff_eq] at hc8
     have h2 : ¬ p.d = 2 := hc8
     refine x_seq fun K59 hK59 => ?_
     refine x_mixed_c (Lc := [.obj g1 (.cells (pP p) 142 (0, 0)), .obj g (.cells #[.slice A xs.length c, .int .i64 0] 140 (0, 0)), .rd A 1 xs.length (xs.map (Value.int .u8))]) [] 0 [10, 11, 12, 28, 29, 30, 31, 32, 33, 34, 35, 36, 37, 38, 39, 40] (fun f w => ∃ (x : Nat) (B : Option Addr) (k d : Nat), f 10 = .int .u64 (x : Int) ∧ f 11 = .slice B k d ∧ f 12 = .int .i64 (numS p.n.toNat 0 xs).2.1 ∧ NumJ A c xs p.n.toNat x B k d ∧ St (OwnB [.obj g (.cells #[.slice A xs.length c, .int .i64 0] 140 (0, 0)), .rd A 1 xs.length (xs.map (Value.int .u8))]) w0 w [.obj g3 (.cells (pA p.d 0 0 nm0 none 0 0 0) 142 (0, 0)), .obj g2 (.cells (pA 0 0 0 nm0 none 0 0 0) 142 (0, 0)), .obj g1 (.cells (pP p) 142 (0, 0)), .obj g (.cells #[.slice A xs.length c, .int .i64 0] 140 (0, 0)), .rd A 1 xs.length (xs.map (Value.int .u8))]) (by kernel_rfl) (by kernel_rfl) (by kernel_rfl) (by decide) hS (fun w67 hS => ?mixpre605) ?mixrest605
     case mixpre605 =>
      refine p_nil ?_
      simp only [List.length_cons, List.length_nil, Nat.reduceAdd, Nat.reduceSub]
      refine any_go (i := 0) (by rfl) (by decide +kernel) (by decide +kernel) noLate_nil (go_yields w_none (fun w hS => s_move)) ?_
      try simp only [opv, nZ, Value.cells]
      refine any_go (i := 1) (by rfl) (by decide +kernel) (by decide +kernel) noLate_nil (go_yields w_none (fun w hS => s_nilCheck)) ?_
      try simp only [opv, nZ, Value.cells]
      refine any_go (i := 2) (by rfl) (by decide +kernel) (by decide +kernel) noLate_nil (go_yields w_none (fun w hS => m_fieldAddr Tryz.underlying140 (hi := ti73))) ?_
      try simp only [opv, nZ, Value.cells, Nat.zero_add, Nat.add_zero, List.getElem_toArray, List.getElem_cons_zero, List.getElem_cons_succ]
      refine any_go (i := 3) (by rfl) (by decide +kernel) (by decide +kernel) noLate_nil (go_yields w_none (fun w hS => m_load_obj Tryz.underlying73 (hS := hS))) ?_
      try simp only [opv, nZ, Value.cells, List.getElem_toArray, List.getElem_cons_zero, List.getElem_cons_succ]
      refine any_go (i := 4) (by rfl) (by decide +kernel) (by decide +kernel) noLate_nil (go_yields w_none (fun w hS => m_fieldAddr Tryz.underlying142 (hi := ti3))) ?_
      try simp only [opv, nZ, Value.cells, Nat.zero_add, Nat.add_zero, List.getElem_toArray, List.getElem_cons_zero, List.getElem_cons_succ]
      refine any_go (i := 5) (by rfl) (by decide +kernel) (by decide +kernel) noLate_nil (go_yields w_none (fun w hS => m_load_obj Tryz.underlying3 (hS := hS))) ?_
      try simp only [opv, nZ, Value.cells, List.getElem_toArray, List.getElem_cons_zero, List.getElem_cons_succ]
      refine any_go (i := 6) (by rfl) (by decide +kernel) (by decide +kernel) noLate_nil (go_yields w_none (fun w hS => s_max)) ?_
      try simp only [opv, nZ, Value.cells]
      refine any_go (i := 7) (by rfl) (by decide +kernel) (by decide +kernel) noLate_nil (go_yields w_none (fun w hS => s_conv Tryz.underlying3 Tryz.underlying84 (hc := max_u64 hpn))) ?_
      try simp only [opv, nZ, Value.cells]
      refine any_step [8] (by kernel_rfl) (by decide) (fun w68 hE => ⟨fun _ => (hS.ext hE).sel (by repeat (first | exact Sel.nil | (refine Sel.cons (by repeat (first | exact Del.head | apply Del.tail)) ?_))), ?_⟩)
      replace hS := hS.ext hE
      intro i hi
      simp only [List.mem_cons, List.not_mem_nil, or_false] at hi
      subst hi
      ·
       refine any_op (by rfl) ?_
       refine s_call en157 ?_
       try simp only [opv, nZ, Value.cells, List.map_toArray, List.map_cons, List.map_nil, List.append_toArray, List.cons_append, List.nil_append, Array.append_empty]
       refine CallR.mono (c_ref07num _ A c xs (hS.hasRd (by repeat (first | exact Has.head | apply Has.tail))) hw hn hc p.n.toNat (by omega)) ?_
       rintro _ w69 ⟨x69, B69, k69, d69, rfl, hE69, hj69⟩
       replace hS := hS.ext hE69
       try simp only [opv, nZ, Value.cells]
       refine x_nil ?_
       refine any_go (i := 9) (by rfl) (by decide +kernel) (by decide +kernel) noLate_nil (go_yields w_none (fun w hS => s_move)) ?_
       try simp only [opv, nZ, Value.cells]
       refine any_go (i := 10) (by rfl) (by decide +kernel) (by decide +kernel) noLate_nil (go_yields w_none (fun w hS => s_extract (hv := rfl))) ?_
       try simp only [List.getElem_toArray, List.getElem_cons_zero, List.getElem_cons_succ]
       try simp only [opv, nZ, Value.cells]
       refine any_go (i := 11) (by rfl) (by decide +kernel) (by decide +kernel) noLate_nil (go_yields w_none (fun w hS => s_extract (hv := rfl))) ?_
       try simp only [List.getElem_toArray, List.getElem_cons_zero, List.getElem_cons_succ]
       try simp only [opv, nZ, Value.cells]
       refine any_go (i := 12) (by rfl) (by decide +kernel) (by decide +kernel) noLate_nil (go_yields w_none (fun w hS => s_extract (hv := rfl))) ?_
       try simp only [List.getElem_toArray, List.getElem_cons_zero, List.getElem_cons_succ]
       try simp only [opv, nZ, Value.cells]
       refine any_go (i := 13) (by rfl) (by decide +kernel) (by decide +kernel) noLate_nil (go_yields w_none (fun w hS => s_assign)) ?_
       try simp only [opv, nZ, Value.cells]
       refine any_go (i := 14) (by rfl) (by decide +kernel) (by decide +kernel) noLate_nil (go_yields w_none (fun w hS => s_assign)) ?_
       try simp only [opv, nZ, Value.cells]
       refine any_go (i := 15) (by rfl) (by decide +kernel) (by decide +kernel) noLate_nil (go_yields w_none (fun w hS => s_assign)) ?_
       try simp only [opv, nZ, Value.cells]
       refine any_nil (by kernel_rfl) (fun w70 hE => ?_)
       replace hS := hS.ext hE
       refine ⟨fun _ => hS.selA, ?_⟩
       refine mix_leaf (by simp only [clob, List.foldl, nZ]) ?_
       try simp only [n1, n2]
       exact ⟨_, _, _, _, by trivial, rfl, by trivial, by assumption, hS.sel (by repeat (first | exact Sel.nil | (refine Sel.cons (by repeat (exact Del.head)) ?_)))⟩
     intro fm5 w71 hM
     obtain ⟨xv, B, kb, db, h10, h11, h12, hj, hS⟩ := hM
     simp only [clob, List.foldl, n3, n4, h10, h11, h12]
     refine hK59 _ _ ?_
     refine x_seq fun K60 hK60 => ?_
     refine x_region ?_
     refine s_go (s_move) ?_
     try simp only [opv, nZ, Value.cells]
     refine s_go (s_assign) ?_
     try simp only [opv, nZ, Value.cells]
     refine x_nil ?_
     refine hK60 _ _ ?_
     refine x_seq fun K61 hK61 => ?_
     refine x_seq fun K62 hK62 => ?_
     refine x_region ?_
     refine s_go (s_move) ?_
     try simp only [opv, nZ, Value.cells]
     refine s_go (s_eql) ?_
     try simp only [opv, nZ, Value.cells]
     refine s_go (s_move) ?_
     try simp only [opv, nZ, Value.cells]
     refine s_part 44 rfl (fun hp2 => ?_) (fun hp2 => ?_)
     ·
      try simp only [n3, n4]
      try simp only [dZ, ne_eq] at hp2
      have hE : (numS p.n.toNat 0 xs).2.1 = 0 := by simpa using hp2
      obtain ⟨rfl, j, hjl, hdr, rfl, rfl, hB⟩ := hj hE
      have hdl : (xs.drop j).length = xs.length - j := by simp
      have hnl := numS_le p.n.toNat 0 xs
      replace hS := hS.rd_drop (by repeat (first | exact Has.head | apply Has.tail)) j hjl B hB
      rw [hdl] at hS
      refine g_on (yi (t := 44) rfl rfl) ?_
      refine s_go (s_move) ?_
      try simp only [opv, nZ, Value.cells]
      refine g_on (yi (t := 44) rfl rfl) ?_
      refine s_go (s_len_sl Tryz.underlying73) ?_
      try simp only [opv, nZ, Value.cells]
      refine g_on (yi (t := 44) rfl rfl) ?_
      refine s_go (s_conv Tryz.underlying3 Tryz.underlying84 (hc := by exact wr_u64 (by omega) (by omega))) ?_
      try simp only [opv, nZ, Value.cells]
      refine g_on (yi (t := 44) rfl rfl) ?_
      refine s_go (s_move) ?_
      try simp only [opv, nZ, Value.cells]
      refine g_on (yi (t := 44) rfl rfl) ?_
      refine s_go (s_lss) ?_
      try simp only [opv, nZ, Value.cells]
      refine s_go (s_pick_t) ?_
      try simp only [opv, nZ, Value.cells]
      refine x_nil ?_
      refine hK62 _ _ ?_
      refine x_cond (ht := fun hc20 => ?_) (hf := fun hc20 => ?_)
      ·
       try simp only [dZ, ne_eq, bne_iff_ne, beq_iff_eq] at hc20
       have hz := rdS_3s (x := p.x) h0 h1 h2 hE (by rw [hdr, hdl]; omega)
       refine x_region ?_
       refine s_go (s_assign) ?_
       try simp only [opv, nZ, Value.cells]
       refine x_nil ?_
       refine hK61 _ _ ?_
       refine x_seq fun K63 hK63 => ?_
       refine x_region ?_
       refine s_go (s_move) ?_
       try simp only [opv, nZ, Value.cells]
       refine s_go (s_eql) ?_
       try simp only [opv, nZ, Value.cells]
       refine x_nil ?_
       refine hK63 _ _ ?_
       refine x_cond_f (h := ?_)
       refine x_skip ?_
       refine hK7 _ _ ?_
       refine x_seq fun K64 hK64 => ?_
       refine x_seq fun K65 hK65 => ?_
       refine x_region ?_
       refine s_go (s_move) ?_
       try simp only [opv, nZ, Value.cells]
       refine s_go (s_neq) ?_
       try simp only [opv, nZ, Value.cells]
       refine x_nil ?_
       refine hK65 _ _ ?_
       refine x_cond_t (h := ?_)
       skip
       refine x_seq fun K66 hK66 => ?_
       refine x_region ?_
       refine s_go (s_move) ?_
       try simp only [opv, nZ, Value.cells]
       refine s_go (s_move) ?_
       try simp only [opv, nZ, Value.cells]
       refine s_go (s_move) ?_
       try simp only [opv, nZ, Value.cells]
       refine s_go (s_nilCheck) ?_
       try simp only [opv, nZ, Value.cells]
       refine s_go (m_fieldAddr Tryz.underlying140 (hi := ti73)) ?_
       try simp only [opv, nZ, Value.cells, Nat.zero_add, Nat.add_zero, List.getElem_toArray, List.getElem_cons_zero, List.getElem_cons_succ]
       refine m_store_obj ti73 (hS := hS) (h := fun w72 hS => ?_)
       try simp only [opv, nZ, Value.cells, Array.toArray_toList] at hS ⊢
       refine s_go (s_nilCheck) ?_
       try simp only [opv, nZ, Value.cells]
       refine s_go (m_fieldAddr Tryz.underlying140 (hi := ti53)) ?_
       try simp only [opv, nZ, Value.cells, Nat.zero_add, Nat.add_zero, List.getElem_toArray, List.getElem_cons_zero, List.getElem_cons_succ]
       refine m_store_obj ti53 (hS := hS) (h := fun w73 hS => ?_)
       try simp only [opv, nZ, Value.cells, Array.toArray_toList] at hS ⊢
       refine x_nil ?_
       refine hK66 _ _ ?_
       refine x_seq fun K67 hK67 => ?_
       refine x_region ?_
       refine s_go (m_fieldAddr Tryz.underlying142 (hi := ti3)) ?_
       try simp only [opv, nZ, Value.cells, Nat.zero_add, Nat.add_zero, List.getElem_toArray, List.getElem_cons_zero, List.getElem_cons_succ]
       refine s_go (m_load_obj Tryz.underlying3 (hS := hS)) ?_
       try simp only [opv, nZ, Value.cells, List.getElem_toArray, List.getElem_cons_zero, List.getElem_cons_succ]
       refine s_go (s_build_struct (cells := #[_, .int .u64 0, .int .u8 0, .int .u8 0, .int .u8 0, .int .u8 0, .int .u8 0, .int .u8 0, .int .u8 0, .int .u8 0, .int .u8 0, .slice none 0 0, .int .i64 0]) Tryz.underlying142 ti142 bp142 (hc := by simp only [List.map_toArray, List.map_cons, List.map_nil, opv, nZ, Value.cells, List.toList_toArray]; (repeat (refine fill_cons rfl rfl (Nat.le_of_ble_eq_true rfl) ?_)); rfl)) ?_
       try simp only [opv, nZ, Value.cells]
       refine m_store_obj ti142 (hS := hS) (h := fun w74 hS => ?_)
       try simp only [opv, nZ, Value.cells, Array.toArray_toList] at hS ⊢
       refine x_nil ?_
       refine hK67 _ _ ?_
       refine x_ret ?_
       refine r_cell_agg rfl Tryz.underlying142 ti142 (hS := hS) (hR := ?_)
       replace hS := (hS.rd_none none 1).rd_none none 1
       exact ⟨none, 0, by rw [hz]; rfl, by rw [hz]; exact RdIn.none _ _ _, none, 0, by rw [hz]; exact Nat.le_refl 0, by rw [hz]; exact RdIn.none _ _ _, by rw [hz]; exact hS.selA⟩
      ·
       try simp only [dZ, ne_eq, bne_iff_ne, beq_iff_eq] at hc20
       (have hql : (numS p.n.toNat 0 xs).1 ≤ (xs.drop j).length := by rw [hdl]; omega); (have hz := rdS_3y (x := p.x) h0 h1 h2 hE hdr hql)
       refine x_skip ?_
       refine hK61 _ _ ?_
       refine x_seq fun K68 hK68 => ?_
       refine x_region ?_
       refine s_go (s_move) ?_
       try simp only [opv, nZ, Value.cells]
       refine s_go (s_eql) ?_
       try simp only [opv, nZ, Value.cells]
       refine x_nil ?_
       refine hK68 _ _ ?_
       refine x_cond (ht := fun hc23 => ?_) (hf := fun hc23 => ?_)
       ·
        try simp only [dZ, ne_eq, bne_iff_ne, beq_iff_eq] at hc23
        refine x_mixed_c (Lc := [.rd A 1 xs.length (xs.map (Value.int .u8))]) [] 0 [6, 53, 54, 55, 56, 57, 58, 59] (fun f w => ∃ (B1 B2 : Option Addr) (d1 q1 : Nat), q1 = ((xs.drop j).take (numS p.n.toNat 0 xs).1).length ∧ f 6 = .slice B2 (xs.length - j - (numS p.n.toNat 0 xs).1) (c - j - (numS p.n.toNat 0 xs).1) ∧ (0 < (numS p.n.toNat 0 xs).1 → B1.map (·.block) = B.map (·.block)) ∧ ((numS p.n.toNat 0 xs).1 < xs.length - j → B2.map (·.block) = B.map (·.block)) ∧ St (OwnB [.obj g (.cells #[.slice A xs.length c, .int .i64 0] 140 (0, 0)), .rd A 1 xs.length (xs.map (Value.int .u8))]) w0 w [.obj g3 (.cells (pA p.d 0 0 nm0 B1 q1 d1 0) 142 (0, 0)), .rd B1 1 q1 (((xs.drop j).take (numS p.n.toNat 0 xs).1).map (Value.int .u8)), .rd B2 1 (xs.length - j - (numS p.n.toNat 0 xs).1) (((xs.drop j).drop (numS p.n.toNat 0 xs).1).map (Value.int .u8)), .obj g2 (.cells (pA 0 0 0 nm0 none 0 0 0) 142 (0, 0)), .obj g1 (.cells (pP p) 142 (0, 0)), .obj g (.cells #[.slice A xs.length c, .int .i64 0] 140 (0, 0)), .rd A 1 xs.length (xs.map (Value.int .u8))]) (by kernel_rfl) (by kernel_rfl) (by kernel_rfl) (by decide) hS (fun w75 hS => ?mixpre1106) ?mixrest1106
        case mixpre1106 =>
         refine p_nil ?_
         simp only [List.length_cons, List.length_nil, Nat.reduceAdd, Nat.reduceSub]
         refine any_go (i := 0) (by rfl) (by decide +kernel) (by decide +kernel) noLate_nil (go_yields w_none (fun w hS => s_move)) ?_
         try simp only [opv, nZ, Value.cells]
         refine any_go (i := 1) (by rfl) (by decide +kernel) (by decide +kernel) noLate_nil (go_yields w_none (fun w hS => s_move)) ?_
         try simp only [opv, nZ, Value.cells]
         refine any_go (i := 3) (by rfl) (by decide +kernel) (by decide +kernel) noLate_nil (go_yields w_none (fun w hS => s_move)) ?_
         try simp only [opv, nZ, Value.cells]
         refine any_go (i := 4) (by rfl) (by decide +kernel) (by decide +kernel) noLate_nil (go_yields w_none (fun w hS => s_move)) ?_
         try simp only [opv, nZ, Value.cells]
         refine any_step [2, 5] (by kernel_rfl) (by decide) (fun w76 hE => ⟨fun _ => (hS.ext hE).sel (by repeat (first | exact Sel.nil | (refine Sel.cons (by repeat (first | exact Del.head | apply Del.tail)) ?_))), ?_⟩)
         replace hS := hS.ext hE
         intro i hi
         simp only [List.mem_cons, List.not_mem_nil, or_false] at hi
         rcases hi with rfl | rfl
         ·
          refine any_op (by rfl) ?_
          refine m_slice_rd (lo := 0) (hi := (numS p.n.toNat 0 xs).1) (m := c - j) Tryz.underlying73 ti5 (hlo := rfl) (hhi := ⟨_, rfl⟩) (hmx := rfl) (hS := hS) (h := fun A8 hA8 hS => ?_)
          try simp only [Nat.mul_one, Nat.zero_mul] at hA8
          try simp only [← List.map_append, ← List.map_drop, ← List.map_take, Nat.mul_one, Nat.zero_mul, Nat.sub_zero, List.drop_zero, List.nil_append, Nat.zero_add] at hS ⊢
          try simp only [opv, nZ, Value.cells, Array.toArray_toList] at hS ⊢
          refine x_nil ?_
          refine any_go (i := 6) (by rfl) (by decide +kernel) (by decide +kernel) noLate_nil (go_yields w_none (fun w hS => m_fieldAddr Tryz.underlying142 (hi := ti73))) ?_
          try simp only [opv, nZ, Value.cells, Nat.zero_add, Nat.add_zero, List.getElem_toArray, List.getElem_cons_zero, List.getElem_cons_succ]
          refine any_step [5, 7] (by kernel_rfl) (by decide) (fun w77 hE => ⟨fun _ => (hS.ext hE).sel (by repeat (first | exact Sel.nil | (refine Sel.cons (by repeat (first | exact Del.head | apply Del.tail)) ?_))), ?_⟩)
          replace hS := hS.ext hE
          intro i hi
          simp only [List.mem_cons, List.not_mem_nil, or_false] at hi
          rcases hi with rfl | rfl
          ·
           refine any_op (by rfl) ?_
           refine m_slice_rd (lo := (numS p.n.toNat 0 xs).1) (hi := xs.length - j) (m := c - j) Tryz.underlying73 ti5 (hlo := ⟨_, rfl⟩) (hhi := ⟨rfl, rfl⟩) (hmx := rfl) (hS := hS) (h := fun A9 hA9 hS => ?_)
           try simp only [Nat.mul_one, Nat.zero_mul] at hA9
           try simp only [← List.map_append, ← List.map_drop, ← List.map_take, Nat.mul_one, Nat.zero_mul, Nat.sub_zero, List.drop_zero, List.nil_append, Nat.zero_add] at hS ⊢
           try simp only [opv, nZ, Value.cells, Array.toArray_toList] at hS ⊢
           rw [show List.take (xs.length - j - (numS p.n.toNat 0 xs).1) (List.drop (numS p.n.toNat 0 xs).1 (List.drop j xs)) = List.drop (numS p.n.toNat 0 xs).1 (List.drop j xs) from List.take_of_length_le (by simp; omega)] at hS
           refine x_nil ?_
           refine any_step [7] (by kernel_rfl) (by decide) (fun w78 hE => ⟨fun _ => (hS.ext hE).sel (by repeat (first | exact Sel.nil | (refine Sel.cons (by repeat (first | exact Del.head | apply Del.tail)) ?_))), ?_⟩)
           replace hS := hS.ext hE
           intro i hi
           simp only [List.mem_cons, List.not_mem_nil, or_false] at hi
           subst hi
           ·
            refine any_op (by rfl) ?_
            refine m_store_obj ti73 (hS := hS) (h := fun w79 hS => ?_)
            try simp only [opv, nZ, Value.cells, Array.toArray_toList] at hS ⊢
            refine x_nil ?_
            refine any_go (i := 8) (by rfl) (by decide +kernel) (by decide +kernel) noLate_nil (go_yields w_none (fun w hS => s_assign)) ?_
            try simp only [opv, nZ, Value.cells]
            refine any_nil (by kernel_rfl) (fun w80 hE => ?_)
            replace hS := hS.ext hE
            refine ⟨fun _ => hS.selA, ?_⟩
            refine mix_leaf (by simp only [clob, List.foldl, nZ]) ?_
            try simp only [n1, n2]
            refine ⟨_, _, _, (numS p.n.toNat 0 xs).1, by rw [List.length_take]; omega, rfl, fun h => ?_, fun h => ?_, hS.selA⟩
            · exact (congrArg (Option.map (fun a : Addr => a.block)) ((by assumption : 0 < (numS p.n.toNat 0 xs).1 → _) h)).trans (add_block _ _)
            · exact (congrArg (Option.map (fun a : Addr => a.block)) ((by assumption : (numS p.n.toNat 0 xs).1 < xs.length - j → _) h)).trans (add_block _ _)
          ·
           refine any_op (by rfl) ?_
           refine m_store_obj ti73 (hS := hS) (h := fun w81 hS => ?_)
           try simp only [opv, nZ, Value.cells, Array.toArray_toList] at hS ⊢
           refine x_nil ?_
           refine any_step [5] (by kernel_rfl) (by decide) (fun w82 hE => ⟨fun _ => (hS.ext hE).sel (by repeat (first | exact Sel.nil | (refine Sel.cons (by repeat (first | exact Del.head | apply Del.tail)) ?_))), ?_⟩)
           replace hS := hS.ext hE
           intro i hi
           simp only [List.mem_cons, List.not_mem_nil, or_false] at hi
           subst hi
           ·
            refine any_op (by rfl) ?_
            refine m_slice_rd (lo := (numS p.n.toNat 0 xs).1) (hi := xs.length - j) (m := c - j) Tryz.underlying73 ti5 (hlo := ⟨_, rfl⟩) (hhi := ⟨rfl, rfl⟩) (hmx := rfl) (hS := hS) (h := fun A10 hA10 hS => ?_)
            try simp only [Nat.mul_one, Nat.zero_mul] at hA10
            try simp only [← List.map_append, ← List.map_drop, ← List.map_take, Nat.mul_one, Nat.zero_mul, Nat.sub_zero, List.drop_zero, List.nil_append, Nat.zero_add] at hS ⊢
            try simp only [opv, nZ, Value.cells, Array.toArray_toList] at hS ⊢
            rw [show List.take (xs.length - j - (numS p.n.toNat 0 xs).1) (List.drop (numS p.n.toNat 0 xs).1 (List.drop j xs)) = List.drop (numS p.n.toNat 0 xs).1 (List.drop j xs) from List.take_of_length_le (by simp; omega)] at hS
            refine x_nil ?_
            refine any_go (i := 8) (by rfl) (by decide +kernel) (by decide +kernel) noLate_nil (go_yields w_none (fun w hS => s_assign)) ?_
            try simp only [opv, nZ, Value.cells]
            refine any_nil (by kernel_rfl) (fun w83 hE => ?_)
            replace hS := hS.ext hE
            refine ⟨fun _ => hS.selA, ?_⟩
            refine mix_leaf (by simp only [clob, List.foldl, nZ]) ?_
            try simp only [n1, n2]
            refine ⟨_, _, _, (numS p.n.toNat 0 xs).1, by rw [List.length_take]; omega, rfl, fun h => ?_, fun h => ?_, hS.selA⟩
            · exact (congrArg (Option.map (fun a : Addr => a.block)) ((by assumption : 0 < (numS p.n.toNat 0 xs).1 → _) h)).trans (add_block _ _)
            · exact (congrArg (Option.map (fun a : Addr => a.block)) ((by assumption : (numS p.n.toNat 0 xs).1 < xs.length - j → _) h)).trans (add_block _ _)
         ·
          refine any_op (by rfl) ?_
          refine m_slice_rd (lo := (numS p.n.toNat 0 xs).1) (hi := xs.length - j) (m := c - j) Tryz.underlying73 ti5 (hlo := ⟨_, rfl⟩) (hhi := ⟨rfl, rfl⟩) (hmx := rfl) (hS := hS) (h := fun A11 hA11 hS => ?_)
          try simp only [Nat.mul_one, Nat.zero_mul] at hA11
          try simp only [← List.map_append, ← List.map_drop, ← List.map_take, Nat.mul_one, Nat.zero_mul, Nat.sub_zero, List.drop_zero, List.nil_append, Nat.zero_add] at hS ⊢
          try simp only [opv, nZ, Value.cells, Array.toArray_toList] at hS ⊢
          rw [show List.take (xs.length - j - (numS p.n.toNat 0 xs).1) (List.drop (numS p.n.toNat 0 xs).1 (List.drop j xs)) = List.drop (numS p.n.toNat 0 xs).1 (List.drop j xs) from List.take_of_length_le (by simp; omega)] at hS
          refine x_nil ?_
          refine any_step [2] (by kernel_rfl) (by decide) (fun w84 hE => ⟨fun _ => (hS.ext hE).sel (by repeat (first | exact Sel.nil | (refine Sel.cons (by repeat (first | exact Del.head | apply Del.tail)) ?_))), ?_⟩)
          replace hS := hS.ext hE
          intro i hi
          simp only [List.mem_cons, List.not_mem_nil, or_false] at hi
          subst hi
          ·
           refine any_op (by rfl) ?_
           refine m_slice_rd (lo := 0) (hi := (numS p.n.toNat 0 xs).1) (m := c - j) Tryz.underlying73 ti5 (hlo := rfl) (hhi := ⟨_, rfl⟩) (hmx := rfl) (hS := hS) (h := fun A12 hA12 hS => ?_)
           try simp only [Nat.mul_one, Nat.zero_mul] at hA12
           try simp only [← List.map_append, ← List.map_drop, ← List.map_take, Nat.mul_one, Nat.zero_mul, Nat.sub_zero, List.drop_zero, List.nil_append, Nat.zero_add] at hS ⊢
           try simp only [opv, nZ, Value.cells, Array.toArray_toList] at hS ⊢
           refine x_nil ?_
           refine any_go (i := 6) (by rfl) (by decide +kernel) (by decide +kernel) noLate_nil (go_yields w_none (fun w hS => m_fieldAddr Tryz.underlying142 (hi := ti73))) ?_
           try simp only [opv, nZ, Value.cells, Nat.zero_add, Nat.add_zero, List.getElem_toArray, List.getElem_cons_zero, List.getElem_cons_succ]
           refine any_step [7] (by kernel_rfl) (by decide) (fun w85 hE => ⟨fun _ => (hS.ext hE).sel (by repeat (first | exact Sel.nil | (refine Sel.cons (by repeat (first | exact Del.head | apply Del.tail)) ?_))), ?_⟩)
           replace hS := hS.ext hE
           intro i hi
           simp only [List.mem_cons, List.not_mem_nil, or_false] at hi
           subst hi
           ·
            refine any_op (by rfl) ?_
            refine m_store_obj ti73 (hS := hS) (h := fun w86 hS => ?_)
            try simp only [opv, nZ, Value.cells, Array.toArray_toList] at hS ⊢
            refine x_nil ?_
            refine any_go (i := 8) (by rfl) (by decide +kernel) (by decide +kernel) noLate_nil (go_yields w_none (fun w hS => s_assign)) ?_
            try simp only [opv, nZ, Value.cells]
            refine any_nil (by kernel_rfl) (fun w87 hE => ?_)
            replace hS := hS.ext hE
            refine ⟨fun _ => hS.selA, ?_⟩
            refine mix_leaf (by simp only [clob, List.foldl, nZ]) ?_
            try simp only [n1, n2]
            refine ⟨_, _, _, (numS p.n.toNat 0 xs).1, by rw [List.length_take]; omega, rfl, fun h => ?_, fun h => ?_, hS.selA⟩
            · exact (congrArg (Option.map (fun a : Addr => a.block)) ((by assumption : 0 < (numS p.n.toNat 0 xs).1 → _) h)).trans (add_block _ _)
            · exact (congrArg (Option.map (fun a : Addr => a.block)) ((by assumption : (numS p.n.toNat 0 xs).1 < xs.length - j → _) h)).trans (add_block _ _)
        intro fm6 w88 hM
        obtain ⟨B1, B2, d1, q1, hq1, h6, hB1, hB2, hS⟩ := hM
        simp only [clob, List.foldl, n3, n4, h6]
        refine hK7 _ _ ?_
        refine x_seq fun K69 hK69 => ?_
        refine x_seq fun K70 hK70 => ?_
        refine x_region ?_
        refine s_go (s_move) ?_
        try simp only [opv, nZ, Value.cells]
        refine s_go (s_neq) ?_
        try simp only [opv, nZ, Value.cells]
        refine x_nil ?_
        refine hK70 _ _ ?_
        refine x_cond (ht := fun hc24 => ?_) (hf := fun hc24 => ?_)
        ·
         try simp only [dZ, ne_eq, bne_iff_ne, beq_iff_eq] at hc24
         (exfalso; omega)
        ·
         try simp only [dZ, ne_eq, bne_iff_ne, beq_iff_eq] at hc24
         subst hq1
         refine x_skip ?_
         refine hK69 _ _ ?_
         refine x_seq fun K73 hK73 => ?_
         refine x_region ?_
         refine s_go (s_move) ?_
         try simp only [opv, nZ, Value.cells]
         refine s_go (s_move) ?_
         try simp only [opv, nZ, Value.cells]
         refine s_go (s_nilCheck) ?_
         try simp only [opv, nZ, Value.cells]
         refine s_go (m_fieldAddr Tryz.underlying140 (hi := ti73)) ?_
         try simp only [opv, nZ, Value.cells, Nat.zero_add, Nat.add_zero, List.getElem_toArray, List.getElem_cons_zero, List.getElem_cons_succ]
         refine m_store_obj ti73 (hS := hS) (h := fun w92 hS => ?_)
         try simp only [opv, nZ, Value.cells, Array.toArray_toList] at hS ⊢
         refine x_nil ?_
         refine hK73 _ _ ?_
         refine x_seq fun K74 hK74 => ?_
         refine x_region ?_
         refine s_go (m_load_row Tryz.underlying142 (hi := ti142) (hS := hS)) ?_
         try simp only [opv, nZ, Value.cells, List.getElem_toArray, List.getElem_cons_zero, List.getElem_cons_succ]
         refine m_store_obj ti142 (hS := hS) (h := fun w93 hS => ?_)
         try simp only [opv, nZ, Value.cells, Array.toArray_toList] at hS ⊢
         refine x_nil ?_
         refine hK74 _ _ ?_
         refine x_ret ?_
         refine r_cell_agg rfl Tryz.underlying142 ti142 (hS := hS) (hR := ?_)
         have hbk : j < xs.length → B.map (·.block) = A.map (·.block) := fun h => by rw [hB h]; exact add_block _ _
         have hcpo : ((xs.drop j).drop (numS p.n.toNat 0 xs).1).length ≤ c - j - (numS p.n.toNat 0 xs).1 := by simp; omega
         have hdd : ((xs.drop j).drop (numS p.n.toNat 0 xs).1).length = xs.length - j - (numS p.n.toNat 0 xs).1 := by simp; omega
         have htt : ((xs.drop j).take (numS p.n.toNat 0 xs).1).length = (numS p.n.toNat 0 xs).1 := by simp; omega
         have hQo : RdIn w0 [.obj g (.cells #[.slice A xs.length c, .int .i64 0] 140 (0, 0)), .rd A 1 xs.length (xs.map (Value.int .u8))] B1 ((xs.drop j).take (numS p.n.toNat 0 xs).1).length := RdIn.sub2 (List.mem_cons_of_mem _ (List.mem_cons_self ..)) (fun h => by rw [htt] at h; exact ⟨by omega, (hB1 h).trans (hbk (by omega))⟩)
         have hRo : RdIn w0 [.obj g (.cells #[.slice A xs.length c, .int .i64 0] 140 (0, 0)), .rd A 1 xs.length (xs.map (Value.int .u8))] B2 ((xs.drop j).drop (numS p.n.toNat 0 xs).1).length := RdIn.sub2 (List.mem_cons_of_mem _ (List.mem_cons_self ..)) (fun h => by rw [hdd] at h; exact ⟨by omega, (hB2 (by omega)).trans (hbk (by omega))⟩)
         rw [← hdd] at hS
         exact ⟨_, _, by rw [hz], by rw [hz]; exact hQo, _, _, by rw [hz]; exact hcpo, by rw [hz]; exact hRo, by rw [hz]; exact hS.selA⟩
       ·
        try simp only [dZ, ne_eq, bne_iff_ne, beq_iff_eq] at hc23
        (exfalso; omega)
     ·
      try simp only [n3, n4]
      try simp only [dZ, ne_eq] at hp2
      have hE : ¬ (numS p.n.toNat 0 xs).2.1 = 0 := by simpa using hp2
      have hz := rdS_3e (x := p.x) h0 h1 h2 hE
      refine g_off (yi (t := 44) rfl rfl) ?_
      try simp only [opv, nZ, Value.cells]
      refine g_off (yi (t := 44) rfl rfl) ?_
      try simp only [opv, nZ, Value.cells]
      refine g_off (yi (t := 44) rfl rfl) ?_
      try simp only [opv, nZ, Value.cells]
      refine g_off (yi (t := 44) rfl rfl) ?_
      try simp only [opv, nZ, Value.cells]
      refine g_off (yi (t := 44) rfl rfl) ?_
      try simp only [opv, nZ, Value.cells]
      refine s_go (s_pick_f) ?_
      try simp only [opv, nZ, Value.cells]
      refine x_nil ?_
      refine hK62 _ _ ?_
      refine x_cond_f (h := ?_)
      skip
      refine x_skip ?_
      refine hK61 _ _ ?_
      refine x_seq fun K81 hK81 => ?_
      refine x_region ?_
      refine s_go (s_move) ?_
      try simp only [opv, nZ, Value.cells]
      refine s_go (s_eql) ?_
      try simp only [opv, nZ, Value.cells]
      refine x_nil ?_
      refine hK81 _ _ ?_
      refine x_cond (ht := fun hc27 => ?_) (hf := fun hc27 => ?_)
      ·
       try simp only [dZ, ne_eq, bne_iff_ne, beq_iff_eq] at hc27
       (exfalso; omega)
      ·
       try simp only [dZ, ne_eq, bne_iff_ne, beq_iff_eq] at hc27
       refine x_skip ?_
       refine hK7 _ _ ?_
       refine x_seq fun K88 hK88 => ?_
       refine x_seq fun K89 hK89 => ?_
       refine x_region ?_
       refine s_go (s_move) ?_
       try simp only [opv, nZ, Value.cells]
       refine s_go (s_neq) ?_
       try simp only [opv, nZ, Value.cells]
       refine x_nil ?_
       refine hK89 _ _ ?_
       refine x_cond (ht := fun hc29 => ?_) (hf := fun hc29 => ?_)
       ·
        try simp only [dZ, ne_eq, bne_iff_ne, beq_iff_eq] at hc29
        skip
        refine x_seq fun K90 hK90 => ?_
        refine x_region ?_
        refine s_go (s_move) ?_
        try simp only [opv, nZ, Value.cells]
        refine s_go (s_move) ?_
        try simp only [opv, nZ, Value.cells]
        refine s_go (s_move) ?_
        try simp only [opv, nZ, Value.cells]
        refine s_go (s_nilCheck) ?_
        try simp only [opv, nZ, Value.cells]
        refine s_go (m_fieldAddr Tryz.underlying140 (hi := ti73)) ?_
        try simp only [opv, nZ, Value.cells, Nat.zero_add, Nat.add_zero, List.getElem_toArray, List.getElem_cons_zero, List.getElem_cons_succ]
        refine m_store_obj ti73 (hS := hS) (h := fun w118 hS => ?_)
        try simp only [opv, nZ, Value.cells, Array.toArray_toList] at hS ⊢
        refine s_go (s_nilCheck) ?_
        try simp only [opv, nZ, Value.cells]
        refine s_go (m_fieldAddr Tryz.underlying140 (hi := ti53)) ?_
        try simp only [opv, nZ, Value.cells, Nat.zero_add, Nat.add_zero, List.getElem_toArray, List.getElem_cons_zero, List.getElem_cons_succ]
        refine m_store_obj ti53 (hS := hS) (h := fun w119 hS => ?_)
        try simp only [opv, nZ, Value.cells, Array.toArray_toList] at hS ⊢
        refine x_nil ?_
        refine hK90 _ _ ?_
        refine x_seq fun K91 hK91 => ?_
        refine x_region ?_
        refine s_go (m_fieldAddr Tryz.underlying142 (hi := ti3)) ?_
        try simp only [opv, nZ, Value.cells, Nat.zero_add, Nat.add_zero, List.getElem_toArray, List.getElem_cons_zero, List.getElem_cons_succ]
        refine s_go (m_load_obj Tryz.underlying3 (hS := hS)) ?_
        try simp only [opv, nZ, Value.cells, List.getElem_toArray, List.getElem_cons_zero, List.getElem_cons_succ]
        refine s_go (s_build_struct (cells := #[_, .int .u64 0, .int .u8 0, .int .u8 0, .int .u8 0, .int .u8 0, .int .u8 0, .int .u8 0, .int .u8 0, .int .u8 0, .int .u8 0, .slice none 0 0, .int .i64 0]) Tryz.underlying142 ti142 bp142 (hc := by simp only [List.map_toArray, List.map_cons, List.map_nil, opv, nZ, Value.cells, List.toList_toArray]; (repeat (refine fill_cons rfl rfl (Nat.le_of_ble_eq_true rfl) ?_)); rfl)) ?_
        try simp only [opv, nZ, Value.cells]
        refine m_store_obj ti142 (hS := hS) (h := fun w120 hS => ?_)
        try simp only [opv, nZ, Value.cells, Array.toArray_toList] at hS ⊢
        refine x_nil ?_
        refine hK91 _ _ ?_
        refine x_ret ?_
        refine r_cell_agg rfl Tryz.underlying142 ti142 (hS := hS) (hR := ?_)
        replace hS := (hS.rd_none none 1).rd_none none 1
        exact ⟨none, 0, by rw [hz]; rfl, by rw [hz]; exact RdIn.none _ _ _, none, 0, by rw [hz]; exact Nat.le_refl 0, by rw [hz]; exact RdIn.none _ _ _, by rw [hz]; exact hS.selA⟩
       ·
        try simp only [dZ, ne_eq, bne_iff_ne, beq_iff_eq] at hc29
        (exfalso; omega)
end Go.Proofs.YtffmanidnlbjjaaGreat
set_option linter.unusedSimpArgs false
set_option linter.unusedVariables false
set_option maxHeartbeats 2000000
set_option maxRecDepth 100000
namespace Go.Proofs.YtffmanidnlbjjaaGreat
open Go.RowKit
theorem c_ref07Done (w0 : World) (g : Nat) (e : Int) (A : Option Addr) (c : Nat) (xs : List Int) (hc : xs.length ≤ c) (hM : St (OwnB [.obj g (.cells #[.slice A xs.length c, .int .i64 e] 140 (0, 0)), .rd A 1 xs.length (xs.map (Value.int .u8))]) w0 w0 [.obj g (.cells #[.slice A xs.length c, .int .i64 e] 140 (0, 0)), .rd A 1 xs.length (xs.map (Value.int .u8))]) :
    CallR Tryz.prog 92 #[.pointer (some ⟨g, 0, none⟩)] w0 fun v w' => v = .int .i64 (if e = 0 ∧ 0 < xs.length then 3 else e) ∧ St (OwnB [.obj g (.cells #[.slice A xs.length c, .int .i64 e] 140 (0, 0)), .rd A 1 xs.length (xs.map (Value.int .u8))]) w0 w' [.obj g (.cells #[.slice A xs.length c, .int .i64 e] 140 (0, 0)), .rd A 1 xs.length (xs.map (Value.int .u8))] := by
 have hS := hM
 refine c_enter (l := [.pointer (some ⟨g, 0, none⟩), undef, undef, undef, undef, undef, undef, undef, undef, undef, undef, undef, undef, undef, undef, undef, undef, undef, undef, undef]) Tryz.func92 rfl (by simp only [Tryz.ntmps92, List.size_toArray, List.length_cons, List.length_nil, Nat.reduceAdd, Nat.reduceSub, Array.replicate_succ, Array.replicate_zero, List.push_toArray, List.append_toArray, List.nil_append, List.cons_append]) ?_
 refine x_seq fun K1 hK1 => ?_
 refine x_region ?_
 refine s_go (s_assign) ?_
 try simp only [opv, nZ, Value.cells]
 refine x_nil ?_
 refine hK1 _ _ ?_
 refine x_seq fun K2 hK2 => ?_
 refine x_seq fun K3 hK3 => ?_
 refine x_region ?_
 refine s_go (s_move) ?_
 try simp only [opv, nZ, Value.cells]
 refine s_go (s_nilCheck) ?_
 try simp only [opv, nZ, Value.cells]
 refine s_go (m_fieldAddr Tryz.underlying140 (hi := ti53)) ?_
 try simp only [opv, nZ, Value.cells, Nat.zero_add, Nat.add_zero, List.getElem_toArray, List.getElem_cons_zero, List.getElem_cons_succ]
 refine s_go (m_load_obj Tryz.underlying53 (hS := hS)) ?_
 try simp only [opv, nZ, Value.cells, List.getElem_toArray, List.getElem_cons_zero, List.getElem_cons_succ]
 refine s_go (s_eql) ?_
 try simp only [opv, nZ, Value.cells]
 refine s_go (s_move) ?_
 try simp only [opv, nZ, Value.cells]
 refine s_part 8 rfl (fun hp1 => ?_) (fun hp1 => ?_)
 ·
  try simp only [n3, n4]
  try simp only [dZ, ne_eq] at hp1
  refine g_on (yi (t := 8) rfl rfl) ?_
  refine s_go (s_move) ?_
  try simp only [opv, nZ, Value.cells]
  refine g_on (yi (t := 8) rfl rfl) ?_
  refine s_go (s_nilCheck) ?_
  try simp only [opv, nZ, Value.cells]
  refine g_on (yi (t := 8) rfl rfl) ?_
  refine s_go (m_fieldAddr Tryz.underlying140 (hi := ti73)) ?_
  try simp only [opv, nZ, Value.cells, Nat.zero_add, Nat.add_zero, List.getElem_toArray, List.getElem_cons_zero, List.getElem_cons_succ]
  refine g_on (yi (t := 8) rfl rfl) ?_
  refine s_go (m_load_obj Tryz.underlying73 (hS := hS)) ?_
  try simp only [opv, nZ, Value.cells, List.getElem_toArray, List.getElem_cons_zero, List.getElem_cons_succ]
  refine g_on (yi (t := 8) rfl rfl) ?_
  refine s_go (s_len_sl Tryz.underlying73) ?_
  try simp only [opv, nZ, Value.cells]
  refine g_on (yi (t := 8) rfl rfl) ?_
  refine s_go (s_gtr) ?_
  try simp only [opv, nZ, Value.cells]
  refine s_go (s_pick_t) ?_
  try simp only [opv, nZ, Value.cells]
  refine x_nil ?_
  refine hK3 _ _ ?_
  refine x_cond (ht := fun hc1 => ?_) (hf := fun hc1 => ?_)
  ·
   try simp only [dZ, ne_eq, bne_iff_ne, beq_iff_eq] at hc1
   have hL : (if e = 0 ∧ 0 < xs.length then (3 : Int) else e) = 3 := if_pos (by exact ⟨by assumption, by omega⟩)
   refine x_seq fun K4 hK4 => ?_
   refine x_region ?_
   refine s_go (s_assign) ?_
   try simp only [opv, nZ, Value.cells]
   refine x_nil ?_
   refine hK4 _ _ ?_
   refine x_ret ?_
   refine r_tmp rfl ?_
   exact ⟨by rw [hL]; rfl, hS⟩
  ·
   try simp only [dZ, ne_eq, bne_iff_ne, beq_iff_eq] at hc1
   have hL : (if e = 0 ∧ 0 < xs.length then (3 : Int) else e) = e := if_neg (by omega)
   refine x_skip ?_
   refine hK2 _ _ ?_
   refine x_seq fun K5 hK5 => ?_
   refine x_region ?_
   refine s_go (s_move) ?_
   try simp only [opv, nZ, Value.cells]
   refine s_go (s_nilCheck) ?_
   try simp only [opv, nZ, Value.cells]
   refine s_go (m_fieldAddr Tryz.underlying140 (hi := ti53)) ?_
   try simp only [opv, nZ, Value.cells, Nat.zero_add, Nat.add_zero, List.getElem_toArray, List.getElem_cons_zero, List.getElem_cons_succ]
   refine s_go (m_load_obj Tryz.underlying53 (hS := hS)) ?_
   try simp only [opv, nZ, Value.cells, List.getElem_toArray, List.getElem_cons_zero, List.getElem_cons_succ]
   refine s_go (s_assign) ?_
   try simp only [opv, nZ, Value.cells]
   refine x_nil ?_
   refine hK5 _ _ ?_
   refine x_ret ?_
   refine r_tmp rfl ?_
   exact ⟨by rw [hL]; rfl, hS⟩
 ·
  try simp only [n3, n4]
  try simp only [dZ, ne_eq] at hp1
  refine g_off (yi (t := 8) rfl rfl) ?_
  try simp only [opv, nZ, Value.cells]
  refine g_off (yi (t := 8) rfl rfl) ?_
  try simp only [opv, nZ, Value.cells]
  refine g_off (yi (t := 8) rfl rfl) ?_
  try simp only [opv, nZ, Value.cells]
  refine g_off (yi (t := 8) rfl rfl) ?_
  try simp only [opv, nZ, Value.cells]
  refine g_off (yi (t := 8) rfl rfl) ?_
  try simp only [opv, nZ, Value.cells]
  refine g_off (yi (t := 8) rfl rfl) ?_
  try simp only [opv, nZ, Value.cells]
  refine s_go (s_pick_f) ?_
  try simp only [opv, nZ, Value.cells]
  refine x_nil ?_
  refine hK3 _ _ ?_
  refine x_cond_f (h := ?_)
  have hL : (if e = 0 ∧ 0 < xs.length then (3 : Int) else e) = e := if_neg (by omega)
  refine x_skip ?_
  refine hK2 _ _ ?_
  refine x_seq fun K6 hK6 => ?_
  refine x_region ?_
  refine s_go (s_move) ?_
  try simp only [opv, nZ, Value.cells]
  refine s_go (s_nilCheck) ?_
  try simp only [opv, nZ, Value.cells]
  refine s_go (m_fieldAddr Tryz.underlying140 (hi := ti53)) ?_
  try simp only [opv, nZ, Value.cells, Nat.zero_add, Nat.add_zero, List.getElem_toArray, List.getElem_cons_zero, List.getElem_cons_succ]
  refine s_go (m_load_obj Tryz.underlying53 (hS := hS)) ?_
  try simp only [opv, nZ, Value.cells, List.getElem_toArray, List.getElem_cons_zero, List.getElem_cons_succ]
  refine s_go (s_assign) ?_
  try simp only [opv, nZ, Value.cells]
  refine x_nil ?_
  refine hK6 _ _ ?_
  refine x_ret ?_
  refine r_tmp rfl ?_
  exact ⟨by rw [hL]; rfl, hS⟩
end Go.Proofs.YtffmanidnlbjjaaGreat
