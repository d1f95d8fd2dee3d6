/- Rules, plain words and walks that the claim leans on: Dza, Dr, Dzb, Tb, Vj, Tc. -/
import Derived.Test.YtpjpaipkkcengaaZAtomBack3
set_option linter.unusedSimpArgs false
set_option linter.unusedVariables false
set_option linter.unusedSimpArgs false
set_option linter.unusedVariables false
set_option maxHeartbeats 1500000
set_option maxRecDepth 100000
namespace Go.Proofs.Ytpjpaipkkcengaa
open Go.RowKit

theorem keyS_l12 (e : Int) {xs : List Int} (hb : Byt xs) : (keyS e xs).1.length = 12 := (keyS_key hb).len
theorem getD_app0 {a b : List Int} (h : 0 < a.length) : (a ++ b).getD 0 0 = a.getD 0 0 := by
  simp only [List.getD_eq_getElem?_getD]; rw [List.getElem?_append_left h]
theorem mkV_set0 {n : Nat} {t : List Int} {a : Nat} : (mkV n t).set 0 (a : Int) = mkV a t := rfl
theorem mkV_0 {n : Nat} {t : List Int} : (mkV n t).getD 0 0 = (n : Int) := rfl
theorem mkV_text {n : Nat} {t t' : List Int} (h : t.length = 8) (h' : t'.length = 8) : splice (VA (mkV n t)).toList 1 (ic .u8 t').toList = zi valKs (mkV n t') := by
  match t, t', h, h' with
  | [_, _, _, _, _, _, _, _], [_, _, _, _, _, _, _, _], _, _ => rfl
theorem atom_put {k v v' : List Int} (hk : k.length = 12) (hv : v.length = 9) (hv' : v'.length = 9) : splice (AA (k ++ v)).toList 12 (VA v').toList = zi atomKs (k ++ v') := by
  have e : ∀ u : List Int, zi atomKs (k ++ u) = zi keyKs k ++ zi valKs u := fun u => zi_app (k1 := keyKs) (k2 := valKs) (by simpa using hk)
  have l1 : (zi keyKs k).length = 12 := zi_len (by simpa using hk)
  have l2 : (zi valKs v).length = 9 := zi_len (by simpa using hv)
  have l3 : (zi valKs v').length = 9 := zi_len (by simpa using hv')
  show splice (zi atomKs (k ++ v)) 12 (zi valKs v') = _
  rw [e, e, splice, List.take_left' l1, l3, List.drop_eq_nil_of_le (by simp [l1, l2]), List.append_nil]
theorem fill_key {pl : Nat → Option (Nat × Nat)} {base : Array Value} {k : List Int} (hp : pl 0 = some (0, 12)) (hk : k.length = 12) (hb : base = AA atom0) : Instr.fill pl base [(0, .agg (KA k))] = some (AA (k ++ mkV 0 nm0)) := by
  subst hb
  have l1 : (zi keyKs k).length = 12 := zi_len (by simpa using hk)
  refine fill_cons hp (by show (zi keyKs k).toArray.size = 12; simpa using l1) (by decide) ?_
  have e : zi atomKs (k ++ mkV 0 nm0) = zi keyKs k ++ zi valKs (mkV 0 nm0) := zi_app (k1 := keyKs) (k2 := valKs) (by simpa using hk)
  have e2 : (splice (AA atom0).toList 0 (Value.cells (.agg (KA k))).toList).toArray = AA (k ++ mkV 0 nm0) := by
    show (splice (zi atomKs atom0) 0 (zi keyKs k)).toArray = (zi atomKs (k ++ mkV 0 nm0)).toArray
    rw [e, splice, List.take_zero, List.nil_append, Nat.zero_add, l1]; rfl
  rw [e2]; rfl

theorem c_atomVal1 (w0 : World) (g : Nat) (e : Int) (A : Option Addr) (c : Nat) (xs : List Int) (hc : xs.length ≤ c) (b : Nat) (wr : Bool) (e2 : Int) (hM : St (OwnB [.obj g (.cells #[.int .i64 e, .slice A xs.length c] 162 (0, 0)), .rd A 1 xs.length (xs.map (Value.int .u8)), .obj b (.cells #[.pointer (some ⟨g, 0, none⟩)] 48 (0, 0))]) w0 w0 [.obj g (.cells #[.int .i64 e, .slice A xs.length c] 162 (0, 0)), .rd A 1 xs.length (xs.map (Value.int .u8)), .obj b (.cells #[.pointer (some ⟨g, 0, none⟩)] 48 (0, 0))]) :
    CallR Try.prog 220 #[.bool wr, .int .i64 e2, .pointer (some ⟨b, 0, none⟩)] w0 fun v w' => v = .tuple #[] ∧ CuSt w0 w' [.obj g (.cells #[.int .i64 e, .slice A xs.length c] 162 (0, 0)), .rd A 1 xs.length (xs.map (Value.int .u8)), .obj b (.cells #[.pointer (some ⟨g, 0, none⟩)] 48 (0, 0))] g (failS wr e2 (e, xs)).1 (failS wr e2 (e, xs)).2 [.obj b (.cells #[.pointer (some ⟨g, 0, none⟩)] 48 (0, 0))] := by
 have hS := hM
 refine c_enter (l := [.bool wr, .int .i64 e2, .pointer (some ⟨b, 0, none⟩), undef, undef, undef, undef, undef, undef]) Try.func220 rfl (by simp only [Try.ntmps220, List.size_toArray, List.length_cons, List.length_nil, Nat.reduceAdd, Nat.reduceSub, Array.replicate_succ, Array.replicate_zero, List.push_toArray, List.append_toArray, List.nil_append, List.cons_append]) ?_
 refine x_seq fun K1 hK1 => ?_
 refine x_region ?_
 refine s_go (s_move) ?_
 try simp only [opv, n1, n2, n3, n4, Value.cells]
 refine x_nil ?_
 refine hK1 _ _ ?_
 refine x_cond (ht := fun hc1 => ?_) (hf := fun hc1 => ?_)
 ·
  try simp only [decide_eq_true_eq, decide_eq_false_iff_not, Bool.not_eq_true', Bool.not_eq_false', Int.not_lt, Int.not_le, ne_eq, Decidable.not_not, bne_iff_ne, beq_iff_eq, not_true_eq_false, not_false_eq_true] at hc1
  have hwr : wr = true := hc1
  subst hwr
  refine x_region ?_
  refine s_go (m_load_obj Try.underlying48 (hS := hS)) ?_
  try simp only [opv, n1, n2, n3, n4, Value.cells, List.getElem_toArray, List.getElem_cons_zero, List.getElem_cons_succ]
  refine s_go (s_move) ?_
  try simp only [opv, n1, n2, n3, n4, Value.cells]
  refine s_call en38 ?_
  try simp only [opv, n1, n2, n3, n4, Value.cells, List.map_toArray, List.map_cons, List.map_nil, List.append_toArray, List.cons_append, List.nil_append, Array.append_empty]
  refine CallR.mono (c_cFail _ g e A c xs hc e2 (hS.owns (by repeat (first | exact Spl.nil | (apply Spl.cons (by repeat (exact Del.head))))))) ?_
  rintro _ w1 ⟨rfl, Aa, ca, hcpa, hRa, hCa⟩
  have hYa := RdIn.trans hM hS (by repeat (first | exact Spl.nil | (apply Spl.cons (by repeat (exact Del.head))))) hRa (by intro s hs q hb; simp only [List.mem_cons, List.not_mem_nil, or_false] at hs; rcases hs with rfl | rfl <;> first | (simp [Res.reads] at hb; done) | exact .inr ⟨_, List.mem_cons_of_mem _ (List.mem_cons_self ..), .inr hb⟩)
  replace hS := hS.frame (by repeat (first | exact Spl.nil | (apply Spl.cons (by repeat (exact Del.head))))) hCa (by intro r hr b hb; simp only [List.mem_cons, List.not_mem_nil, or_false] at hr; rcases hr with rfl | rfl <;> first | (simp [Res.reads] at hb; done) | exact hRa b hb)
  replace hRa := hYa
  simp only [List.cons_append, List.nil_append] at hS
  try simp only [opv, n1, n2, n3, n4, Value.cells]
  refine x_nil ?_
  refine r_none rfl ?_
  exact ⟨rfl, _, _, by assumption, by assumption, hS.sel (by repeat (first | exact Sel.nil | (refine Sel.cons (by repeat (exact Del.head)) ?_)))⟩
 ·
  try simp only [decide_eq_true_eq, decide_eq_false_iff_not, Bool.not_eq_true', Bool.not_eq_false', Int.not_lt, Int.not_le, ne_eq, Decidable.not_not, bne_iff_ne, beq_iff_eq, not_true_eq_false, not_false_eq_true] at hc1
  have hwr : wr = false := by simpa using hc1
  subst hwr
  refine x_skip ?_
  refine r_none rfl ?_
  exact ⟨rfl, A, c, hc, RdIn.self (List.mem_cons_of_mem _ (List.mem_cons_self ..)), hS.sel (by repeat (first | exact Sel.nil | (refine Sel.cons (by repeat (exact Del.head)) ?_)))⟩
theorem c_atomValue (w0 : World) (g : Nat) (e : Int) (A : Option Addr) (c : Nat) (xs : List Int) (hc : xs.length ≤ c) (hw : Byt xs) (hn : xs.length ≤ 1000000000) (s : Nat) (hM : St (OwnB [.obj g (.cells #[.int .i64 e, .slice A xs.length c] 162 (0, 0)), .rd A 1 xs.length (xs.map (Value.int .u8))]) w0 w0 [.obj g (.cells #[.int .i64 e, .slice A xs.length c] 162 (0, 0)), .rd A 1 xs.length (xs.map (Value.int .u8))]) :
    CallR Try.prog 147 #[.pointer (some ⟨g, 0, none⟩), .int .u8 (s : Int)] w0 fun v w' => v = .agg (VA (valP s e xs).1) ∧ CuSt w0 w' [.obj g (.cells #[.int .i64 e, .slice A xs.length c] 162 (0, 0)), .rd A 1 xs.length (xs.map (Value.int .u8))] g (valP s e xs).2.1 (valP s e xs).2.2 [] := by
 have hS := hM
 have hav := oneS_val (e := e) hw
 obtain ⟨u1, hu1⟩ := Int.eq_ofNat_of_zero_le hav.1
 have hl2 := numS_le 4294967295 e xs
 have hl4 := numS_le 1099511627775 e xs
 have hv0l : (mkV 0 nm0).length = 9 := rfl
 refine c_enter (l := [.pointer (some ⟨g, 0, none⟩), .int .u8 (s : Int), undef, undef, undef, undef, undef, undef, undef, undef, undef, undef, undef, undef, undef, undef, undef, undef, undef, undef, undef, undef, undef, undef, undef, undef, undef, undef, undef, undef, undef, undef, undef, undef, undef, undef, undef, undef, undef, undef, undef, undef, undef, undef, undef, undef, undef, undef, undef, undef, undef, undef, undef, undef]) Try.func147 rfl (by simp only [Try.ntmps147, List.size_toArray, List.length_cons, List.length_nil, Nat.reduceAdd, Nat.reduceSub, Array.replicate_succ, Array.replicate_zero, List.push_toArray, List.append_toArray, List.nil_append, List.cons_append]) ?_
 refine x_seq fun K1 hK1 => ?_
 refine x_region ?_
 refine m_box hS (fun w1 g1 hS => ?_)
 try simp only [opv, n1, n2, n3, n4, Value.cells, Array.toArray_toList] at hS ⊢
 obtain ⟨gb, hgb⟩ : ∃ z, z = g1 := ⟨_, rfl⟩
 rw [← hgb] at hS ⊢
 refine m_alloc ti77 hS (fun w2 g2 hS => ?_)
 try simp only [opv, n1, n2, n3, n4, Value.cells, Array.toArray_toList] at hS ⊢
 replace hS : St (OwnB [.obj g (.cells #[.int .i64 e, .slice A xs.length c] 162 (0, 0)), .rd A 1 xs.length (xs.map (Value.int .u8))]) w0 w2 (.obj g2 (.cells (VA (mkV 0 nm0)) 77 (0, 0)) :: _) := hS
 obtain ⟨g4, hg4⟩ : ∃ z, z = g2 := ⟨_, rfl⟩
 rw [← hg4] at hS ⊢
 refine x_nil ?_
 refine hK1 _ _ ?_
 refine x_seq fun K2 hK2 => ?_
 refine x_region ?_
 refine s_go (s_makeFunc) ?_
 try simp only [opv, n1, n2, n3, n4, Value.cells, List.map_toArray, List.map_cons, List.map_nil]
 refine s_go (s_assign) ?_
 try simp only [opv, n1, n2, n3, n4, Value.cells]
 refine x_nil ?_
 refine hK2 _ _ ?_
 refine x_seq fun K3 hK3 => ?_
 refine x_seq fun K4 hK4 => ?_
 refine x_region ?_
 refine s_go (s_move) ?_
 try simp only [opv, n1, n2, n3, n4, Value.cells]
 refine x_nil ?_
 refine hK4 _ _ ?_
 refine x_block ?_
 refine x_seq fun K5 hK5 => ?_
 refine x_block ?_
 refine x_seq fun K6 hK6 => ?_
 refine x_block ?_
 refine x_block ?_
 refine x_seq fun K7 hK7 => ?_
 refine x_block ?_
 refine x_seq fun K8 hK8 => ?_
 refine x_seq fun K9 hK9 => ?_
 refine x_seq fun K10 hK10 => ?_
 refine x_region ?_
 refine s_go (s_eql) ?_
 try simp only [opv, n1, n2, n3, n4, Value.cells]
 refine s_go (s_assign) ?_
 try simp only [opv, n1, n2, n3, n4, Value.cells]
 refine x_nil ?_
 refine hK10 _ _ ?_
 refine x_cond (ht := fun hc1 => ?_) (hf := fun hc1 => ?_)
 ·
  try simp only [decide_eq_true_eq, decide_eq_false_iff_not, Bool.not_eq_true', Bool.not_eq_false', Int.not_lt, Int.not_le, ne_eq, Decidable.not_not, bne_iff_ne, beq_iff_eq, not_true_eq_false, not_false_eq_true] at hc1
  refine x_exit (look_here ?_)
  refine hK7 _ _ ?_
  refine x_seq fun K11 hK11 => ?_
  refine x_seq fun K12 hK12 => ?_
  refine x_region ?_
  refine s_go (m_load_obj Try.underlying48 (hS := hS) (hv := by rfl)) ?_
  try simp only [opv, n1, n2, n3, n4, Value.cells, List.getElem_toArray, List.getElem_cons_zero, List.getElem_cons_succ]
  refine s_call en123 ?_
  try simp only [opv, n1, n2, n3, n4, Value.cells, List.map_toArray, List.map_cons, List.map_nil, List.append_toArray, List.cons_append, List.nil_append, Array.append_empty]
  refine CallR.mono (c_cByte _ g e A c xs hc hw hn (hS.owns (by repeat (first | exact Spl.nil | (apply Spl.cons (by repeat (first | exact Del.head | apply Del.tail))))))) ?_
  rintro _ w3 ⟨rfl, Aa, ca, hcpa, hRa, hCa⟩
  have hYa := RdIn.trans hM hS (by repeat (first | exact Spl.nil | (apply Spl.cons (by repeat (first | exact Del.head | apply Del.tail))))) hRa (by intro s hs q hb; simp only [List.mem_cons, List.not_mem_nil, or_false] at hs; rcases hs with rfl | rfl <;> first | (simp [Res.reads] at hb; done) | exact .inr ⟨_, List.mem_cons_of_mem _ (List.mem_cons_self ..), .inr hb⟩)
  replace hS := hS.frame (by repeat (first | exact Spl.nil | (apply Spl.cons (by repeat (first | exact Del.head | apply Del.tail))))) hCa (by intro r hr b hb; simp only [List.mem_cons, List.not_mem_nil, or_false] at hr; rcases hr with rfl | rfl <;> first | (simp [Res.reads] at hb; done) | exact hRa b hb)
  replace hRa := hYa
  simp only [List.cons_append, List.nil_append] at hS
  try simp only [opv, n1, n2, n3, n4, Value.cells]
  rw [hu1]
  have hv1l : (mkV u1 nm0).length = 9 := rfl
  rw [hu1] at hav
  refine s_go (s_conv Try.underlying5 Try.underlying40 (hc := by exact wr_u64 (by omega) (by omega))) ?_
  try simp only [opv, n1, n2, n3, n4, Value.cells]
  refine s_go (m_fieldAddr Try.underlying77 (hi := ti40)) ?_
  try simp only [opv, n1, n2, n3, n4, Value.cells, Nat.zero_add, Nat.add_zero, List.getElem_toArray, List.getElem_cons_zero, List.getElem_cons_succ]
  refine m_store_obj ti40 (hS := hS) (hc := by exact zi_set rfl (by omega)) (hv := by rfl) (hfit := by (rw [zi_size (by omega)]; decide)) (h1 := by simp [opv, Value.cells, Value.oneCell']) (h := fun w4 hS => ?_)
  try simp only [opv, n1, n2, n3, n4, Value.cells, Array.toArray_toList] at hS ⊢
  rw [mkV_set0] at hS
  refine x_nil ?_
  refine hK12 _ _ ?_
  refine x_region ?_
  refine s_go (s_move) ?_
  try simp only [opv, n1, n2, n3, n4, Value.cells]
  refine s_go (m_fieldAddr Try.underlying77 (hi := ti40)) ?_
  try simp only [opv, n1, n2, n3, n4, Value.cells, Nat.zero_add, Nat.add_zero, List.getElem_toArray, List.getElem_cons_zero, List.getElem_cons_succ]
  refine s_go (m_load_obj Try.underlying40 (hS := hS) (hv := by rfl)) ?_
  try simp only [opv, n1, n2, n3, n4, Value.cells, List.getElem_toArray, List.getElem_cons_zero, List.getElem_cons_succ]
  try rw [mkV_0]
  refine s_go (s_neq) ?_
  try simp only [opv, n1, n2, n3, n4, Value.cells]
  refine s_go (s_move) ?_
  try simp only [opv, n1, n2, n3, n4, Value.cells]
  refine s_part 25 rfl (fun hp1 => ?_) (fun hp1 => ?_)
  ·
   try simp only [n3, n4]
   try simp only [decide_eq_true_eq, decide_eq_false_iff_not, Bool.not_eq_true', Bool.not_eq_false', Int.not_lt, Int.not_le, ne_eq, Decidable.not_not] at hp1
   have hz : valP s e xs = (mkV u1 nm0, failS (decide (¬ ((u1 : Nat) : Int) = 2)) 3 (oneS e xs).2) := by rw [valP_1 (show s = 1 by omega), hu1, Int.toNat_natCast, decide_eq_true (show ¬ ((u1 : Nat) : Int) = 1 by omega), Bool.true_and]
   refine g_on (yi (t := 25) rfl rfl) ?_
   refine s_go (m_fieldAddr Try.underlying77 (hi := ti40)) ?_
   try simp only [opv, n1, n2, n3, n4, Value.cells, Nat.zero_add, Nat.add_zero, List.getElem_toArray, List.getElem_cons_zero, List.getElem_cons_succ]
   refine g_on (yi (t := 25) rfl rfl) ?_
   refine s_go (m_load_obj Try.underlying40 (hS := hS) (hv := by rfl)) ?_
   try simp only [opv, n1, n2, n3, n4, Value.cells, List.getElem_toArray, List.getElem_cons_zero, List.getElem_cons_succ]
   try rw [mkV_0]
   refine g_on (yi (t := 25) rfl rfl) ?_
   refine s_go (s_neq) ?_
   try simp only [opv, n1, n2, n3, n4, Value.cells]
   refine s_go (s_pick_t) ?_
   try simp only [opv, n1, n2, n3, n4, Value.cells]
   refine s_callv (hv := rfl) en220 ?_
   try simp only [opv, n1, n2, n3, n4, Value.cells, List.map_toArray, List.map_cons, List.map_nil, List.append_toArray, List.cons_append, List.nil_append, Array.append_empty]
   refine CallR.mono (c_atomVal1 _ g ((oneS e xs).2).1 Aa ca ((oneS e xs).2).2 hcpa gb _ 3 (hS.owns (by repeat (first | exact Spl.nil | (apply Spl.cons (by repeat (first | exact Del.head | apply Del.tail))))))) ?_
   rintro _ w5 ⟨rfl, Ab, cb, hcpb, hRb, hCb⟩
   have hYb := RdIn.trans hM hS (by repeat (first | exact Spl.nil | (apply Spl.cons (by repeat (first | exact Del.head | apply Del.tail))))) hRb (by intro s hs q hb; simp only [List.mem_cons, List.not_mem_nil, or_false] at hs; rcases hs with rfl | rfl | rfl <;> first | (simp [Res.reads] at hb; done) | exact hRa q hb)
   replace hS := hS.frame (by repeat (first | exact Spl.nil | (apply Spl.cons (by repeat (first | exact Del.head | apply Del.tail))))) hCb (by intro r hr b hb; simp only [List.mem_cons, List.not_mem_nil, or_false] at hr; rcases hr with rfl | rfl | rfl <;> first | (simp [Res.reads] at hb; done) | exact hRb b hb)
   replace hRb := hYb
   simp only [List.cons_append, List.nil_append] at hS
   try simp only [opv, n1, n2, n3, n4, Value.cells]
   refine x_nil ?_
   refine hK11 _ _ ?_
   refine x_exit (look_on (by decide) (look_on (by decide) (look_on (by decide) (look_here ?_))))
   refine hK3 _ _ ?_
   refine x_seq fun K13 hK13 => ?_
   refine x_region ?_
   refine s_go (m_load_row Try.underlying77 (hi := ti77) (hS := hS) (hfit := by (rw [zi_size (by omega)]; rfl))) ?_
   try simp only [opv, n1, n2, n3, n4, Value.cells, List.getElem_toArray, List.getElem_cons_zero, List.getElem_cons_succ]
   refine m_store_obj ti77 (hS := hS) (hc := by exact zi_whole (by omega) (by omega)) (hv := by rfl) (hfit := by (rw [zi_size (by omega)]; decide)) (h1 := by exact zi_one _ _) (h := fun w6 hS => ?_)
   try simp only [opv, n1, n2, n3, n4, Value.cells, Array.toArray_toList] at hS ⊢
   refine x_nil ?_
   refine hK13 _ _ ?_
   refine x_ret ?_
   refine r_cell_agg rfl Try.underlying77 ti77 (hS := hS) (hfit := by (rw [zi_size (by omega)]; rfl)) (hR := ?_)
   rw [hz]
   exact ⟨rfl, _, _, by assumption, by assumption, hS.sel (by repeat (first | exact Sel.nil | (refine Sel.cons (by repeat (exact Del.head)) ?_)))⟩
  ·
   try simp only [n3, n4]
   try simp only [decide_eq_true_eq, decide_eq_false_iff_not, Bool.not_eq_true', Bool.not_eq_false', Int.not_lt, Int.not_le, ne_eq, Decidable.not_not] at hp1
   have hz : valP s e xs = (mkV u1 nm0, failS false 3 (oneS e xs).2) := by rw [valP_1 (show s = 1 by omega), hu1, Int.toNat_natCast, decide_eq_false (show ¬ ¬ ((u1 : Nat) : Int) = 1 by omega), Bool.false_and]
   refine g_off (yi (t := 25) rfl rfl) ?_
   try simp only [opv, n1, n2, n3, n4, Value.cells]
   refine g_off (yi (t := 25) rfl rfl) ?_
   try simp only [opv, n1, n2, n3, n4, Value.cells]
   refine g_off (yi (t := 25) rfl rfl) ?_
   try simp only [opv, n1, n2, n3, n4, Value.cells]
   refine s_go (s_pick_f) ?_
   try simp only [opv, n1, n2, n3, n4, Value.cells]
   refine s_callv (hv := rfl) en220 ?_
   try simp only [opv, n1, n2, n3, n4, Value.cells, List.map_toArray, List.map_cons, List.map_nil, List.append_toArray, List.cons_append, List.nil_append, Array.append_empty]
   refine CallR.mono (c_atomVal1 _ g ((oneS e xs).2).1 Aa ca ((oneS e xs).2).2 hcpa gb _ 3 (hS.owns (by repeat (first | exact Spl.nil | (apply Spl.cons (by repeat (first | exact Del.head | apply Del.tail))))))) ?_
   rintro _ w7 ⟨rfl, Ab, cb, hcpb, hRb, hCb⟩
   have hYb := RdIn.trans hM hS (by repeat (first | exact Spl.nil | (apply Spl.cons (by repeat (first | exact Del.head | apply Del.tail))))) hRb (by intro s hs q hb; simp only [List.mem_cons, List.not_mem_nil, or_false] at hs; rcases hs with rfl | rfl | rfl <;> first | (simp [Res.reads] at hb; done) | exact hRa q hb)
   replace hS := hS.frame (by repeat (first | exact Spl.nil | (apply Spl.cons (by repeat (first | exact Del.head | apply Del.tail))))) hCb (by intro r hr b hb; simp only [List.mem_cons, List.not_mem_nil, or_false] at hr; rcases hr with rfl | rfl | rfl <;> first | (simp [Res.reads] at hb; done) | exact hRb b hb)
   replace hRb := hYb
   simp only [List.cons_append, List.nil_append] at hS
   try simp only [opv, n1, n2, n3, n4, Value.cells]
   refine x_nil ?_
   refine hK11 _ _ ?_
   refine x_exit (look_on (by decide) (look_on (by decide) (look_on (by decide) (look_here ?_))))
   refine hK3 _ _ ?_
   refine x_seq fun K14 hK14 => ?_
   refine x_region ?_
   refine s_go (m_load_row Try.underlying77 (hi := ti77) (hS := hS) (hfit := by (rw [zi_size (by omega)]; rfl))) ?_
   try simp only [opv, n1, n2, n3, n4, Value.cells, List.getElem_toArray, List.getElem_cons_zero, List.getElem_cons_succ]
   refine m_store_obj ti77 (hS := hS) (hc := by exact zi_whole (by omega) (by omega)) (hv := by rfl) (hfit := by (rw [zi_size (by omega)]; decide)) (h1 := by exact zi_one _ _) (h := fun w8 hS => ?_)
   try simp only [opv, n1, n2, n3, n4, Value.cells, Array.toArray_toList] at hS ⊢
   refine x_nil ?_
   refine hK14 _ _ ?_
   refine x_ret ?_
   refine r_cell_agg rfl Try.underlying77 ti77 (hS := hS) (hfit := by (rw [zi_size (by omega)]; rfl)) (hR := ?_)
   rw [hz]
   exact ⟨rfl, _, _, by assumption, by assumption, hS.sel (by repeat (first | exact Sel.nil | (refine Sel.cons (by repeat (exact Del.head)) ?_)))⟩
 ·
  try simp only [decide_eq_true_eq, decide_eq_false_iff_not, Bool.not_eq_true', Bool.not_eq_false', Int.not_lt, Int.not_le, ne_eq, Decidable.not_not, bne_iff_ne, beq_iff_eq, not_true_eq_false, not_false_eq_true] at hc1
  refine x_skip ?_
  refine hK9 _ _ ?_
  refine x_seq fun K15 hK15 => ?_
  refine x_seq fun K16 hK16 => ?_
  refine x_region ?_
  refine s_go (s_eql) ?_
  try simp only [opv, n1, n2, n3, n4, Value.cells]
  refine s_go (s_assign) ?_
  try simp only [opv, n1, n2, n3, n4, Value.cells]
  refine x_nil ?_
  refine hK16 _ _ ?_
  refine x_cond (ht := fun hc2 => ?_) (hf := fun hc2 => ?_)
  ·
   try simp only [decide_eq_true_eq, decide_eq_false_iff_not, Bool.not_eq_true', Bool.not_eq_false', Int.not_lt, Int.not_le, ne_eq, Decidable.not_not, bne_iff_ne, beq_iff_eq, not_true_eq_false, not_false_eq_true] at hc2
   refine x_exit (look_on (by decide) (look_here ?_))
   refine hK6 _ _ ?_
   refine x_seq fun K17 hK17 => ?_
   refine x_seq fun K18 hK18 => ?_
   refine x_region ?_
   have hz : valP s e xs = (mkV (numS 4294967295 e xs).1 nm0, failS (decide (((numS 4294967295 e xs).1 : Int) = 0)) 3 (numS 4294967295 e xs).2) := by rw [valP_2 (show s = 2 ∨ s = 3 by omega)]; congr 2; exact decide_eq_decide.2 (by omega)
   have hv2l : (mkV (numS 4294967295 e xs).1 nm0).length = 9 := rfl
   refine s_go (m_load_obj Try.underlying48 (hS := hS) (hv := by rfl)) ?_
   try simp only [opv, n1, n2, n3, n4, Value.cells, List.getElem_toArray, List.getElem_cons_zero, List.getElem_cons_succ]
   refine s_call en122 ?_
   try simp only [opv, n1, n2, n3, n4, Value.cells, List.map_toArray, List.map_cons, List.map_nil, List.append_toArray, List.cons_append, List.nil_append, Array.append_empty]
   refine CallR.mono (c_cNum _ g e A c xs hc hw hn 4294967295 (by omega) (hS.owns (by repeat (first | exact Spl.nil | (apply Spl.cons (by repeat (first | exact Del.head | apply Del.tail))))))) ?_
   rintro _ w9 ⟨rfl, Aa, ca, hcpa, hRa, hCa⟩
   have hYa := RdIn.trans hM hS (by repeat (first | exact Spl.nil | (apply Spl.cons (by repeat (first | exact Del.head | apply Del.tail))))) hRa (by intro s hs q hb; simp only [List.mem_cons, List.not_mem_nil, or_false] at hs; rcases hs with rfl | rfl <;> first | (simp [Res.reads] at hb; done) | exact .inr ⟨_, List.mem_cons_of_mem _ (List.mem_cons_self ..), .inr hb⟩)
   replace hS := hS.frame (by repeat (first | exact Spl.nil | (apply Spl.cons (by repeat (first | exact Del.head | apply Del.tail))))) hCa (by intro r hr b hb; simp only [List.mem_cons, List.not_mem_nil, or_false] at hr; rcases hr with rfl | rfl <;> first | (simp [Res.reads] at hb; done) | exact hRa b hb)
   replace hRa := hYa
   simp only [List.cons_append, List.nil_append] at hS
   try simp only [opv, n1, n2, n3, n4, Value.cells]
   refine s_go (m_fieldAddr Try.underlying77 (hi := ti40)) ?_
   try simp only [opv, n1, n2, n3, n4, Value.cells, Nat.zero_add, Nat.add_zero, List.getElem_toArray, List.getElem_cons_zero, List.getElem_cons_succ]
   refine m_store_obj ti40 (hS := hS) (hc := by exact zi_set rfl (by omega)) (hv := by rfl) (hfit := by (rw [zi_size (by omega)]; decide)) (h1 := by simp [opv, Value.cells, Value.oneCell']) (h := fun w10 hS => ?_)
   try simp only [opv, n1, n2, n3, n4, Value.cells, Array.toArray_toList] at hS ⊢
   rw [mkV_set0] at hS
   refine x_nil ?_
   refine hK18 _ _ ?_
   refine x_region ?_
   refine s_go (s_move) ?_
   try simp only [opv, n1, n2, n3, n4, Value.cells]
   refine s_go (m_fieldAddr Try.underlying77 (hi := ti40)) ?_
   try simp only [opv, n1, n2, n3, n4, Value.cells, Nat.zero_add, Nat.add_zero, List.getElem_toArray, List.getElem_cons_zero, List.getElem_cons_succ]
   refine s_go (m_load_obj Try.underlying40 (hS := hS) (hv := by rfl)) ?_
   try simp only [opv, n1, n2, n3, n4, Value.cells, List.getElem_toArray, List.getElem_cons_zero, List.getElem_cons_succ]
   try rw [mkV_0]
   refine s_go (s_eql) ?_
   try simp only [opv, n1, n2, n3, n4, Value.cells]
   refine s_callv (hv := rfl) en220 ?_
   try simp only [opv, n1, n2, n3, n4, Value.cells, List.map_toArray, List.map_cons, List.map_nil, List.append_toArray, List.cons_append, List.nil_append, Array.append_empty]
   refine CallR.mono (c_atomVal1 _ g ((numS 4294967295 e xs).2).1 Aa ca ((numS 4294967295 e xs).2).2 hcpa gb _ 3 (hS.owns (by repeat (first | exact Spl.nil | (apply Spl.cons (by repeat (first | exact Del.head | apply Del.tail))))))) ?_
   rintro _ w11 ⟨rfl, Ab, cb, hcpb, hRb, hCb⟩
   have hYb := RdIn.trans hM hS (by repeat (first | exact Spl.nil | (apply Spl.cons (by repeat (first | exact Del.head | apply Del.tail))))) hRb (by intro s hs q hb; simp only [List.mem_cons, List.not_mem_nil, or_false] at hs; rcases hs with rfl | rfl | rfl <;> first | (simp [Res.reads] at hb; done) | exact hRa q hb)
   replace hS := hS.frame (by repeat (first | exact Spl.nil | (apply Spl.cons (by repeat (first | exact Del.head | apply Del.tail))))) hCb (by intro r hr b hb; simp only [List.mem_cons, List.not_mem_nil, or_false] at hr; rcases hr with rfl | rfl | rfl <;> first | (simp [Res.reads] at hb; done) | exact hRb b hb)
   replace hRb := hYb
   simp only [List.cons_append, List.nil_append] at hS
   try simp only [opv, n1, n2, n3, n4, Value.cells]
   refine x_nil ?_
   refine hK17 _ _ ?_
   refine x_exit (look_on (by decide) (look_here ?_))
   refine hK3 _ _ ?_
   refine x_seq fun K19 hK19 => ?_
   refine x_region ?_
   refine s_go (m_load_row Try.underlying77 (hi := ti77) (hS := hS) (hfit := by (rw [zi_size (by omega)]; rfl))) ?_
   try simp only [opv, n1, n2, n3, n4, Value.cells, List.getElem_toArray, List.getElem_cons_zero, List.getElem_cons_succ]
   refine m_store_obj ti77 (hS := hS) (hc := by exact zi_whole (by omega) (by omega)) (hv := by rfl) (hfit := by (rw [zi_size (by omega)]; decide)) (h1 := by exact zi_one _ _) (h := fun w12 hS => ?_)
   try simp only [opv, n1, n2, n3, n4, Value.cells, Array.toArray_toList] at hS ⊢
   refine x_nil ?_
   refine hK19 _ _ ?_
   refine x_ret ?_
   refine r_cell_agg rfl Try.underlying77 ti77 (hS := hS) (hfit := by (rw [zi_size (by omega)]; rfl)) (hR := ?_)
   rw [hz]
   exact ⟨rfl, _, _, by assumption, by assumption, hS.sel (by repeat (first | exact Sel.nil | (refine Sel.cons (by repeat (exact Del.head)) ?_)))⟩
  ·
   try simp only [decide_eq_true_eq, decide_eq_false_iff_not, Bool.not_eq_true', Bool.not_eq_false', Int.not_lt, Int.not_le, ne_eq, Decidable.not_not, bne_iff_ne, beq_iff_eq, not_true_eq_false, not_false_eq_true] at hc2
   refine x_skip ?_
   refine hK15 _ _ ?_
   refine x_seq fun K20 hK20 => ?_
   refine x_seq fun K21 hK21 => ?_
   refine x_region ?_
   refine s_go (s_eql) ?_
   try simp only [opv, n1, n2, n3, n4, Value.cells]
   refine s_go (s_assign) ?_
   try simp only [opv, n1, n2, n3, n4, Value.cells]
   refine x_nil ?_
   refine hK21 _ _ ?_
   refine x_cond (ht := fun hc3 => ?_) (hf := fun hc3 => ?_)
   ·
    try simp only [decide_eq_true_eq, decide_eq_false_iff_not, Bool.not_eq_true', Bool.not_eq_false', Int.not_lt, Int.not_le, ne_eq, Decidable.not_not, bne_iff_ne, beq_iff_eq, not_true_eq_false, not_false_eq_true] at hc3
    refine x_exit (look_on (by decide) (look_on (by decide) (look_here ?_)))
    refine hK6 _ _ ?_
    refine x_seq fun K22 hK22 => ?_
    refine x_seq fun K23 hK23 => ?_
    refine x_region ?_
    have hz : valP s e xs = (mkV (numS 4294967295 e xs).1 nm0, failS (decide (((numS 4294967295 e xs).1 : Int) = 0)) 3 (numS 4294967295 e xs).2) := by rw [valP_2 (show s = 2 ∨ s = 3 by omega)]; congr 2; exact decide_eq_decide.2 (by omega)
    have hv2l : (mkV (numS 4294967295 e xs).1 nm0).length = 9 := rfl
    refine s_go (m_load_obj Try.underlying48 (hS := hS) (hv := by rfl)) ?_
    try simp only [opv, n1, n2, n3, n4, Value.cells, List.getElem_toArray, List.getElem_cons_zero, List.getElem_cons_succ]
    refine s_call en122 ?_
    try simp only [opv, n1, n2, n3, n4, Value.cells, List.map_toArray, List.map_cons, List.map_nil, List.append_toArray, List.cons_append, List.nil_append, Array.append_empty]
    refine CallR.mono (c_cNum _ g e A c xs hc hw hn 4294967295 (by omega) (hS.owns (by repeat (first | exact Spl.nil | (apply Spl.cons (by repeat (first | exact Del.head | apply Del.tail))))))) ?_
    rintro _ w13 ⟨rfl, Aa, ca, hcpa, hRa, hCa⟩
    have hYa := RdIn.trans hM hS (by repeat (first | exact Spl.nil | (apply Spl.cons (by repeat (first | exact Del.head | apply Del.tail))))) hRa (by intro s hs q hb; simp only [List.mem_cons, List.not_mem_nil, or_false] at hs; rcases hs with rfl | rfl <;> first | (simp [Res.reads] at hb; done) | exact .inr ⟨_, List.mem_cons_of_mem _ (List.mem_cons_self ..), .inr hb⟩)
    replace hS := hS.frame (by repeat (first | exact Spl.nil | (apply Spl.cons (by repeat (first | exact Del.head | apply Del.tail))))) hCa (by intro r hr b hb; simp only [List.mem_cons, List.not_mem_nil, or_false] at hr; rcases hr with rfl | rfl <;> first | (simp [Res.reads] at hb; done) | exact hRa b hb)
    replace hRa := hYa
    simp only [List.cons_append, List.nil_append] at hS
    try simp only [opv, n1, n2, n3, n4, Value.cells]
    refine s_go (m_fieldAddr Try.underlying77 (hi := ti40)) ?_
    try simp only [opv, n1, n2, n3, n4, Value.cells, Nat.zero_add, Nat.add_zero, List.getElem_toArray, List.getElem_cons_zero, List.getElem_cons_succ]
    refine m_store_obj ti40 (hS := hS) (hc := by exact zi_set rfl (by omega)) (hv := by rfl) (hfit := by (rw [zi_size (by omega)]; decide)) (h1 := by simp [opv, Value.cells, Value.oneCell']) (h := fun w14 hS => ?_)
    try simp only [opv, n1, n2, n3, n4, Value.cells, Array.toArray_toList] at hS ⊢
    rw [mkV_set0] at hS
    refine x_nil ?_
    refine hK23 _ _ ?_
    refine x_region ?_
    refine s_go (s_move) ?_
    try simp only [opv, n1, n2, n3, n4, Value.cells]
    refine s_go (m_fieldAddr Try.underlying77 (hi := ti40)) ?_
    try simp only [opv, n1, n2, n3, n4, Value.cells, Nat.zero_add, Nat.add_zero, List.getElem_toArray, List.getElem_cons_zero, List.getElem_cons_succ]
    refine s_go (m_load_obj Try.underlying40 (hS := hS) (hv := by rfl)) ?_
    try simp only [opv, n1, n2, n3, n4, Value.cells, List.getElem_toArray, List.getElem_cons_zero, List.getElem_cons_succ]
    try rw [mkV_0]
    refine s_go (s_eql) ?_
    try simp only [opv, n1, n2, n3, n4, Value.cells]
    refine s_callv (hv := rfl) en220 ?_
    try simp only [opv, n1, n2, n3, n4, Value.cells, List.map_toArray, List.map_cons, List.map_nil, List.append_toArray, List.cons_append, List.nil_append, Array.append_empty]
    refine CallR.mono (c_atomVal1 _ g ((numS 4294967295 e xs).2).1 Aa ca ((numS 4294967295 e xs).2).2 hcpa gb _ 3 (hS.owns (by repeat (first | exact Spl.nil | (apply Spl.cons (by repeat (first | exact Del.head | apply Del.tail))))))) ?_
    rintro _ w15 ⟨rfl, Ab, cb, hcpb, hRb, hCb⟩
    have hYb := RdIn.trans hM hS (by repeat (first | exact Spl.nil | (apply Spl.cons (by repeat (first | exact Del.head | apply Del.tail))))) hRb (by intro s hs q hb; simp only [List.mem_cons, List.not_mem_nil, or_false] at hs; rcases hs with rfl | rfl | rfl <;> first | (simp [Res.reads] at hb; done) | exact hRa q hb)
    replace hS := hS.frame (by repeat (first | exact Spl.nil | (apply Spl.cons (by repeat (first | exact Del.head | apply Del.tail))))) hCb (by intro r hr b hb; simp only [List.mem_cons, List.not_mem_nil, or_false] at hr; rcases hr with rfl | rfl | rfl <;> first | (simp [Res.reads] at hb; done) | exact hRb b hb)
    replace hRb := hYb
    simp only [List.cons_append, List.nil_append] at hS
    try simp only [opv, n1, n2, n3, n4, Value.cells]
    refine x_nil ?_
    refine hK22 _ _ ?_
    refine x_exit (look_on (by decide) (look_here ?_))
    refine hK3 _ _ ?_
    refine x_seq fun K24 hK24 => ?_
    refine x_region ?_
    refine s_go (m_load_row Try.underlying77 (hi := ti77) (hS := hS) (hfit := by (rw [zi_size (by omega)]; rfl))) ?_
    try simp only [opv, n1, n2, n3, n4, Value.cells, List.getElem_toArray, List.getElem_cons_zero, List.getElem_cons_succ]
    refine m_store_obj ti77 (hS := hS) (hc := by exact zi_whole (by omega) (by omega)) (hv := by rfl) (hfit := by (rw [zi_size (by omega)]; decide)) (h1 := by exact zi_one _ _) (h := fun w16 hS => ?_)
    try simp only [opv, n1, n2, n3, n4, Value.cells, Array.toArray_toList] at hS ⊢
    refine x_nil ?_
    refine hK24 _ _ ?_
    refine x_ret ?_
    refine r_cell_agg rfl Try.underlying77 ti77 (hS := hS) (hfit := by (rw [zi_size (by omega)]; rfl)) (hR := ?_)
    rw [hz]
    exact ⟨rfl, _, _, by assumption, by assumption, hS.sel (by repeat (first | exact Sel.nil | (refine Sel.cons (by repeat (exact Del.head)) ?_)))⟩
   ·
    try simp only [decide_eq_true_eq, decide_eq_false_iff_not, Bool.not_eq_true', Bool.not_eq_false', Int.not_lt, Int.not_le, ne_eq, Decidable.not_not, bne_iff_ne, beq_iff_eq, not_true_eq_false, not_false_eq_true] at hc3
    refine x_skip ?_
    refine hK20 _ _ ?_
    refine x_seq fun K25 hK25 => ?_
    refine x_region ?_
    refine s_go (s_eql) ?_
    try simp only [opv, n1, n2, n3, n4, Value.cells]
    refine s_go (s_assign) ?_
    try simp only [opv, n1, n2, n3, n4, Value.cells]
    refine x_nil ?_
    refine hK25 _ _ ?_
    refine x_cond (ht := fun hc4 => ?_) (hf := fun hc4 => ?_)
    ·
     try simp only [decide_eq_true_eq, decide_eq_false_iff_not, Bool.not_eq_true', Bool.not_eq_false', Int.not_lt, Int.not_le, ne_eq, Decidable.not_not, bne_iff_ne, beq_iff_eq, not_true_eq_false, not_false_eq_true] at hc4
     refine x_exit (look_on (by decide) (look_on (by decide) (look_on (by decide) (look_here ?_))))
     refine hK5 _ _ ?_
     refine x_seq fun K26 hK26 => ?_
     refine x_seq fun K27 hK27 => ?_
     refine x_region ?_
     have hz := valP_4 (e := e) (xs := xs) (show s = 4 by omega)
     obtain ⟨F, hF⟩ : ∃ F, (failS (decide (¬ stampE (numS 1099511627775 e xs).1 = 0)) (stampE (numS 1099511627775 e xs).1) (numS 1099511627775 e xs).2) = F := ⟨_, rfl⟩
     rw [hF] at hz
     have hFb : Byt F.2 := by rw [← hF]; exact failS_byt (numS_byt hw)
     have hFl : F.2.length ≤ xs.length := by rw [← hF]; exact Nat.le_trans failS_len (numS_len _ _ _)
     have hnl := namS_len F.1 F.2
     have hv4l : (mkV (numS 1099511627775 e xs).1 nm0).length = 9 := rfl
     refine s_go (m_load_obj Try.underlying48 (hS := hS) (hv := by rfl)) ?_
     try simp only [opv, n1, n2, n3, n4, Value.cells, List.getElem_toArray, List.getElem_cons_zero, List.getElem_cons_succ]
     refine s_call en122 ?_
     try simp only [opv, n1, n2, n3, n4, Value.cells, List.map_toArray, List.map_cons, List.map_nil, List.append_toArray, List.cons_append, List.nil_append, Array.append_empty]
     refine CallR.mono (c_cNum _ g e A c xs hc hw hn 1099511627775 (by omega) (hS.owns (by repeat (first | exact Spl.nil | (apply Spl.cons (by repeat (first | exact Del.head | apply Del.tail))))))) ?_
     rintro _ w17 ⟨rfl, Aa, ca, hcpa, hRa, hCa⟩
     have hYa := RdIn.trans hM hS (by repeat (first | exact Spl.nil | (apply Spl.cons (by repeat (first | exact Del.head | apply Del.tail))))) hRa (by intro s hs q hb; simp only [List.mem_cons, List.not_mem_nil, or_false] at hs; rcases hs with rfl | rfl <;> first | (simp [Res.reads] at hb; done) | exact .inr ⟨_, List.mem_cons_of_mem _ (List.mem_cons_self ..), .inr hb⟩)
     replace hS := hS.frame (by repeat (first | exact Spl.nil | (apply Spl.cons (by repeat (first | exact Del.head | apply Del.tail))))) hCa (by intro r hr b hb; simp only [List.mem_cons, List.not_mem_nil, or_false] at hr; rcases hr with rfl | rfl <;> first | (simp [Res.reads] at hb; done) | exact hRa b hb)
     replace hRa := hYa
     simp only [List.cons_append, List.nil_append] at hS
     try simp only [opv, n1, n2, n3, n4, Value.cells]
     refine s_go (m_fieldAddr Try.underlying77 (hi := ti40)) ?_
     try simp only [opv, n1, n2, n3, n4, Value.cells, Nat.zero_add, Nat.add_zero, List.getElem_toArray, List.getElem_cons_zero, List.getElem_cons_succ]
     refine m_store_obj ti40 (hS := hS) (hc := by exact zi_set rfl (by omega)) (hv := by rfl) (hfit := by (rw [zi_size (by omega)]; decide)) (h1 := by simp [opv, Value.cells, Value.oneCell']) (h := fun w18 hS => ?_)
     try simp only [opv, n1, n2, n3, n4, Value.cells, Array.toArray_toList] at hS ⊢
     rw [mkV_set0] at hS
     refine x_nil ?_
     refine hK27 _ _ ?_
     refine x_seq fun K28 hK28 => ?_
     refine x_region ?_
     refine s_go (m_fieldAddr Try.underlying77 (hi := ti40)) ?_
     try simp only [opv, n1, n2, n3, n4, Value.cells, Nat.zero_add, Nat.add_zero, List.getElem_toArray, List.getElem_cons_zero, List.getElem_cons_succ]
     refine s_go (m_load_obj Try.underlying40 (hS := hS) (hv := by rfl)) ?_
     try simp only [opv, n1, n2, n3, n4, Value.cells, List.getElem_toArray, List.getElem_cons_zero, List.getElem_cons_succ]
     try rw [mkV_0]
     refine s_call en219 ?_
     try simp only [opv, n1, n2, n3, n4, Value.cells, List.map_toArray, List.map_cons, List.map_nil, List.append_toArray, List.cons_append, List.nil_append, Array.append_empty]
     refine CallR.mono (c_atomStamped (numS 1099511627775 e xs).1 (by omega) _) ?_
     rintro _ w19 ⟨rfl, hE19⟩
     replace hS := hS.ext hE19
     try simp only [opv, n1, n2, n3, n4, Value.cells]
     refine s_go (s_assign) ?_
     try simp only [opv, n1, n2, n3, n4, Value.cells]
     refine x_nil ?_
     refine hK28 _ _ ?_
     refine x_seq fun K29 hK29 => ?_
     refine x_region ?_
     refine s_go (s_move) ?_
     try simp only [opv, n1, n2, n3, n4, Value.cells]
     refine s_go (s_move) ?_
     try simp only [opv, n1, n2, n3, n4, Value.cells]
     refine s_go (s_neq) ?_
     try simp only [opv, n1, n2, n3, n4, Value.cells]
     simp only [ne_eq]
     refine s_go (s_move) ?_
     try simp only [opv, n1, n2, n3, n4, Value.cells]
     refine s_callv (hv := rfl) en220 ?_
     try simp only [opv, n1, n2, n3, n4, Value.cells, List.map_toArray, List.map_cons, List.map_nil, List.append_toArray, List.cons_append, List.nil_append, Array.append_empty]
     refine CallR.mono (c_atomVal1 _ g ((numS 1099511627775 e xs).2).1 Aa ca ((numS 1099511627775 e xs).2).2 hcpa gb _ _ (hS.owns (by repeat (first | exact Spl.nil | (apply Spl.cons (by repeat (first | exact Del.head | apply Del.tail))))))) ?_
     rintro _ w20 ⟨rfl, Ab, cb, hcpb, hRb, hCb⟩
     have hYb := RdIn.trans hM hS (by repeat (first | exact Spl.nil | (apply Spl.cons (by repeat (first | exact Del.head | apply Del.tail))))) hRb (by intro s hs q hb; simp only [List.mem_cons, List.not_mem_nil, or_false] at hs; rcases hs with rfl | rfl | rfl <;> first | (simp [Res.reads] at hb; done) | exact hRa q hb)
     replace hS := hS.frame (by repeat (first | exact Spl.nil | (apply Spl.cons (by repeat (first | exact Del.head | apply Del.tail))))) hCb (by intro r hr b hb; simp only [List.mem_cons, List.not_mem_nil, or_false] at hr; rcases hr with rfl | rfl | rfl <;> first | (simp [Res.reads] at hb; done) | exact hRb b hb)
     replace hRb := hYb
     simp only [List.cons_append, List.nil_append] at hS
     simp only [show (((numS 1099511627775 e xs).2.1, (numS 1099511627775 e xs).2.2) : Int × List Int) = (numS 1099511627775 e xs).2 from rfl, hF] at hS hcpb hRb
     try simp only [opv, n1, n2, n3, n4, Value.cells]
     refine x_nil ?_
     refine hK29 _ _ ?_
     refine x_region ?_
     refine s_go (m_load_obj Try.underlying48 (hS := hS) (hv := by rfl)) ?_
     try simp only [opv, n1, n2, n3, n4, Value.cells, List.getElem_toArray, List.getElem_cons_zero, List.getElem_cons_succ]
     refine s_call en124 ?_
     try simp only [opv, n1, n2, n3, n4, Value.cells, List.map_toArray, List.map_cons, List.map_nil, List.append_toArray, List.cons_append, List.nil_append, Array.append_empty]
     refine CallR.mono (c_cName _ g F.1 Ab cb F.2 hcpb hFb (by omega) (hS.owns (by repeat (first | exact Spl.nil | (apply Spl.cons (by repeat (exact Del.head))))))) ?_
     rintro _ w21 ⟨rfl, Ac, cc, hcpc, hRc, hCc⟩
     have hYc := RdIn.trans hM hS (by repeat (first | exact Spl.nil | (apply Spl.cons (by repeat (exact Del.head))))) hRc (by intro s hs q hb; simp only [List.mem_cons, List.not_mem_nil, or_false] at hs; rcases hs with rfl | rfl <;> first | (simp [Res.reads] at hb; done) | exact hRb q hb)
     replace hS := hS.frame (by repeat (first | exact Spl.nil | (apply Spl.cons (by repeat (exact Del.head))))) hCc (by intro r hr b hb; simp only [List.mem_cons, List.not_mem_nil, or_false] at hr; rcases hr with rfl | rfl <;> first | (simp [Res.reads] at hb; done) | exact hRc b hb)
     replace hRc := hYc
     simp only [List.cons_append, List.nil_append] at hS
     try simp only [opv, n1, n2, n3, n4, Value.cells]
     refine s_go (m_fieldAddr Try.underlying77 (hi := ti42)) ?_
     try simp only [opv, n1, n2, n3, n4, Value.cells, Nat.zero_add, Nat.add_zero, List.getElem_toArray, List.getElem_cons_zero, List.getElem_cons_succ]
     refine m_store_obj ti42 (hS := hS) (hc := mkV_text rfl hnl) (hv := by (show (ic .u8 _).size = 8; rw [ic_size]; exact hnl)) (hfit := by (rw [zi_size (by omega)]; decide)) (h1 := by exact ic_one _ _) (h := fun w22 hS => ?_)
     try simp only [opv, n1, n2, n3, n4, Value.cells, Array.toArray_toList] at hS ⊢
     have hv5l : (mkV (numS 1099511627775 e xs).1 (namS F.1 F.2).1).length = 9 := mkV_len hnl
     refine x_nil ?_
     refine hK26 _ _ ?_
     refine x_exit (look_here ?_)
     refine hK3 _ _ ?_
     refine x_seq fun K30 hK30 => ?_
     refine x_region ?_
     refine s_go (m_load_row Try.underlying77 (hi := ti77) (hS := hS) (hfit := by (rw [zi_size (by omega)]; rfl))) ?_
     try simp only [opv, n1, n2, n3, n4, Value.cells, List.getElem_toArray, List.getElem_cons_zero, List.getElem_cons_succ]
     refine m_store_obj ti77 (hS := hS) (hc := by exact zi_whole (by omega) (by omega)) (hv := by (show (zi _ _).toArray.size = _; rw [zi_size (by omega)]; rfl)) (hfit := by (rw [zi_size (by omega)]; decide)) (h1 := by exact zi_one _ _) (h := fun w23 hS => ?_)
     try simp only [opv, n1, n2, n3, n4, Value.cells, Array.toArray_toList] at hS ⊢
     refine x_nil ?_
     refine hK30 _ _ ?_
     refine x_ret ?_
     refine r_cell_agg rfl Try.underlying77 ti77 (hS := hS) (hfit := by (rw [zi_size (by omega)]; rfl)) (hR := ?_)
     rw [hz]
     exact ⟨rfl, _, _, by assumption, by assumption, hS.sel (by repeat (first | exact Sel.nil | (refine Sel.cons (by repeat (exact Del.head)) ?_)))⟩
    ·
     try simp only [decide_eq_true_eq, decide_eq_false_iff_not, Bool.not_eq_true', Bool.not_eq_false', Int.not_lt, Int.not_le, ne_eq, Decidable.not_not, bne_iff_ne, beq_iff_eq, not_true_eq_false, not_false_eq_true] at hc4
     have hz := valP_0 (s := s) (e := e) (xs := xs) (by omega) (by omega) (by omega) (by omega)
     refine x_skip ?_
     refine hK8 _ _ ?_
     refine x_exit (look_on (by decide) (look_on (by decide) (look_on (by decide) (look_on (by decide) (look_here ?_)))))
     refine hK3 _ _ ?_
     refine x_seq fun K31 hK31 => ?_
     refine x_region ?_
     refine s_go (m_load_row Try.underlying77 (hi := ti77) (hS := hS) (hfit := by (rw [zi_size (by omega)]; rfl))) ?_
     try simp only [opv, n1, n2, n3, n4, Value.cells, List.getElem_toArray, List.getElem_cons_zero, List.getElem_cons_succ]
     refine m_store_obj ti77 (hS := hS) (hc := by exact zi_whole (by omega) (by omega)) (hv := by rfl) (hfit := by (rw [zi_size (by omega)]; decide)) (h1 := by exact zi_one _ _) (h := fun w24 hS => ?_)
     try simp only [opv, n1, n2, n3, n4, Value.cells, Array.toArray_toList] at hS ⊢
     refine x_nil ?_
     refine hK31 _ _ ?_
     refine x_ret ?_
     refine r_cell_agg rfl Try.underlying77 ti77 (hS := hS) (hfit := by (rw [zi_size (by omega)]; rfl)) (hR := ?_)
     rw [hz]
     exact ⟨rfl, A, c, hc, RdIn.self (List.mem_cons_of_mem _ (List.mem_cons_self ..)), hS.sel (by repeat (first | exact Sel.nil | (refine Sel.cons (by repeat (first | exact Del.head | apply Del.tail)) ?_)))⟩
theorem c_atomRead (w0 : World) (g : Nat) (e : Int) (A : Option Addr) (c : Nat) (xs : List Int) (hc : xs.length ≤ c) (hw : Byt xs) (hn : xs.length ≤ 1000000000) (hM : St (OwnB [.obj g (.cells #[.int .i64 e, .slice A xs.length c] 162 (0, 0)), .rd A 1 xs.length (xs.map (Value.int .u8))]) w0 w0 [.obj g (.cells #[.int .i64 e, .slice A xs.length c] 162 (0, 0)), .rd A 1 xs.length (xs.map (Value.int .u8))]) :
    CallR Try.prog 57 #[.pointer (some ⟨g, 0, none⟩)] w0 fun v w' => v = .agg (AA (atmS e xs).1) ∧ CuSt w0 w' [.obj g (.cells #[.int .i64 e, .slice A xs.length c] 162 (0, 0)), .rd A 1 xs.length (xs.map (Value.int .u8))] g (atmS e xs).2.1 (atmS e xs).2.2 [] := by
 have hS := hM
 have hk12 := keyS_l12 e hw
 have hkb := keyS_byt (e := e) hw
 have hkl := keyS_len (e := e) (xs := xs)
 have hke := (keyS_key (e := e) hw).e0
 have hvl := valP_len (s := kn (keyS e xs).1 0) (e := (keyS e xs).2.1) (xs := (keyS e xs).2.2)
 have h0l : atom0.length = 21 := rfl
 have hv0l : (mkV 0 nm0).length = 9 := rfl
 have hl1 : ((keyS e xs).1 ++ mkV 0 nm0).length = 21 := by rw [List.length_append]; omega
 have hl2 : ((keyS e xs).1 ++ (valP (kn (keyS e xs).1 0) (keyS e xs).2.1 (keyS e xs).2.2).1).length = 21 := by rw [List.length_append]; omega
 refine c_enter (l := [.pointer (some ⟨g, 0, none⟩), undef, undef, undef, undef, undef, undef, undef, undef, undef, undef, undef, undef, undef, undef, undef, undef, undef, undef, undef, undef]) Try.func57 rfl (by simp only [Try.ntmps57, List.size_toArray, List.length_cons, List.length_nil, Nat.reduceAdd, Nat.reduceSub, Array.replicate_succ, Array.replicate_zero, List.push_toArray, List.append_toArray, List.nil_append, List.cons_append]) ?_
 refine x_seq fun K1 hK1 => ?_
 refine x_region ?_
 refine m_alloc ti79 hS (fun w1 g1 hS => ?_)
 try simp only [opv, n1, n2, n3, n4, Value.cells, Array.toArray_toList] at hS ⊢
 replace hS : St (OwnB [.obj g (.cells #[.int .i64 e, .slice A xs.length c] 162 (0, 0)), .rd A 1 xs.length (xs.map (Value.int .u8))]) w0 w1 (.obj g1 (.cells (AA atom0) 79 (0, 0)) :: _) := hS
 refine x_nil ?_
 refine hK1 _ _ ?_
 refine x_seq fun K2 hK2 => ?_
 refine x_region ?_
 refine s_go (s_move) ?_
 try simp only [opv, n1, n2, n3, n4, Value.cells]
 refine s_call en44 ?_
 try simp only [opv, n1, n2, n3, n4, Value.cells, List.map_toArray, List.map_cons, List.map_nil, List.append_toArray, List.cons_append, List.nil_append, Array.append_empty]
 refine CallR.mono (c_keyRead _ g e A c xs hc hw hn (hS.owns (by repeat (first | exact Spl.nil | (apply Spl.cons (by repeat (first | exact Del.head | apply Del.tail))))))) ?_
 rintro _ w2 ⟨rfl, Aa, ca, hcpa, hRa, hCa⟩
 have hYa := RdIn.trans hM hS (by repeat (first | exact Spl.nil | (apply Spl.cons (by repeat (first | exact Del.head | apply Del.tail))))) hRa (by intro s hs q hb; simp only [List.mem_cons, List.not_mem_nil, or_false] at hs; rcases hs with rfl | rfl <;> first | (simp [Res.reads] at hb; done) | exact .inr ⟨_, List.mem_cons_of_mem _ (List.mem_cons_self ..), .inr hb⟩)
 replace hS := hS.frame (by repeat (first | exact Spl.nil | (apply Spl.cons (by repeat (first | exact Del.head | apply Del.tail))))) hCa (by intro r hr b hb; simp only [List.mem_cons, List.not_mem_nil, or_false] at hr; rcases hr with rfl | rfl <;> first | (simp [Res.reads] at hb; done) | exact hRa b hb)
 replace hRa := hYa
 simp only [List.cons_append, List.nil_append] at hS
 try simp only [opv, n1, n2, n3, n4, Value.cells]
 refine s_go (s_build_struct (cells := AA ((keyS e xs).1 ++ mkV 0 nm0)) Try.underlying79 ti79 bp79 (hc := by simp only [List.map_toArray, List.map_cons, List.map_nil, opv, n1, n2, n3, n4, Value.cells, List.toList_toArray]; exact fill_key rfl hk12 rfl)) ?_
 try simp only [opv, n1, n2, n3, n4, Value.cells]
 refine m_alloc ti79 hS (fun w3 g3 hS => ?_)
 try simp only [opv, n1, n2, n3, n4, Value.cells, Array.toArray_toList] at hS ⊢
 replace hS : St (OwnB [.obj g (.cells #[.int .i64 e, .slice A xs.length c] 162 (0, 0)), .rd A 1 xs.length (xs.map (Value.int .u8))]) w0 w3 (.obj g3 (.cells (AA atom0) 79 (0, 0)) :: _) := hS
 refine m_store_obj ti79 (hS := hS) (hc := by exact zi_whole (by omega) (by omega)) (hv := by (show (zi _ _).toArray.size = _; rw [zi_size (by omega)]; rfl)) (hfit := by (rw [zi_size (by omega)]; decide)) (h1 := by exact zi_one _ _) (h := fun w4 hS => ?_)
 try simp only [opv, n1, n2, n3, n4, Value.cells, Array.toArray_toList] at hS ⊢
 refine x_nil ?_
 refine hK2 _ _ ?_
 refine x_seq fun K3 hK3 => ?_
 refine x_seq fun K4 hK4 => ?_
 refine x_region ?_
 refine s_go (s_move) ?_
 try simp only [opv, n1, n2, n3, n4, Value.cells]
 refine s_call en35 ?_
 try simp only [opv, n1, n2, n3, n4, Value.cells, List.map_toArray, List.map_cons, List.map_nil, List.append_toArray, List.cons_append, List.nil_append, Array.append_empty]
 refine CallR.mono (c_cErr _ g ((keyS e xs).2.1) Aa ca ((keyS e xs).2.2) hcpa (hS.owns (by repeat (first | exact Spl.nil | (apply Spl.cons (by repeat (first | exact Del.head | apply Del.tail))))))) ?_
 rintro _ w5 ⟨rfl, hC5⟩
 replace hS := hS.frame (by repeat (first | exact Spl.nil | (apply Spl.cons (by repeat (first | exact Del.head | apply Del.tail))))) hC5 (by intro r hr g hg; simp only [List.mem_cons, List.not_mem_nil, or_false] at hr; rcases hr with rfl | rfl | rfl <;> first | (simp [Res.reads] at hg; done) | exact .inr ⟨_, by simp, .inr hg⟩)
 simp only [List.cons_append, List.nil_append] at hS
 try simp only [opv, n1, n2, n3, n4, Value.cells]
 refine s_go (s_eql) ?_
 try simp only [opv, n1, n2, n3, n4, Value.cells]
 refine x_nil ?_
 refine hK4 _ _ ?_
 refine x_cond (ht := fun hc1 => ?_) (hf := fun hc1 => ?_)
 ·
  try simp only [decide_eq_true_eq, decide_eq_false_iff_not, Bool.not_eq_true', Bool.not_eq_false', Int.not_lt, Int.not_le, ne_eq, Decidable.not_not, bne_iff_ne, beq_iff_eq, not_true_eq_false, not_false_eq_true] at hc1
  have hk0 : (keyS e xs).2.1 = 0 := hc1
  refine x_region ?_
  refine s_go (s_move) ?_
  try simp only [opv, n1, n2, n3, n4, Value.cells]
  refine s_go (m_fieldAddr Try.underlying79 (hi := ti60)) ?_
  try simp only [opv, n1, n2, n3, n4, Value.cells, Nat.zero_add, Nat.add_zero, List.getElem_toArray, List.getElem_cons_zero, List.getElem_cons_succ]
  refine s_go (m_fieldAddr Try.underlying60 (hi := ti5)) ?_
  try simp only [opv, n1, n2, n3, n4, Value.cells, Nat.zero_add, Nat.add_zero, List.getElem_toArray, List.getElem_cons_zero, List.getElem_cons_succ]
  refine s_go (m_load_obj Try.underlying5 (hS := hS) (hv := by exact zi_get rfl (by omega))) ?_
  try simp only [opv, n1, n2, n3, n4, Value.cells, List.getElem_toArray, List.getElem_cons_zero, List.getElem_cons_succ]
  rw [show ((keyS e xs).1 ++ mkV 0 nm0).getD 0 0 = ((kn (keyS e xs).1 0 : Nat) : Int) by rw [← hke]; exact getD_app0 (by omega)]
  refine s_call en147 ?_
  try simp only [opv, n1, n2, n3, n4, Value.cells, List.map_toArray, List.map_cons, List.map_nil, List.append_toArray, List.cons_append, List.nil_append, Array.append_empty]
  refine CallR.mono (c_atomValue _ g (keyS e xs).2.1 Aa ca (keyS e xs).2.2 hcpa hkb (by omega) _ (hS.owns (by repeat (first | exact Spl.nil | (apply Spl.cons (by repeat (exact Del.head))))))) ?_
  rintro _ w6 ⟨rfl, Ab, cb, hcpb, hRb, hCb⟩
  have hYb := RdIn.trans hM hS (by repeat (first | exact Spl.nil | (apply Spl.cons (by repeat (exact Del.head))))) hRb (by intro s hs q hb; simp only [List.mem_cons, List.not_mem_nil, or_false] at hs; rcases hs with rfl | rfl <;> first | (simp [Res.reads] at hb; done) | exact hRa q hb)
  replace hS := hS.frame (by repeat (first | exact Spl.nil | (apply Spl.cons (by repeat (exact Del.head))))) hCb (by intro r hr b hb; simp only [List.mem_cons, List.not_mem_nil, or_false] at hr; rcases hr with rfl | rfl <;> first | (simp [Res.reads] at hb; done) | exact hRb b hb)
  replace hRb := hYb
  simp only [List.cons_append, List.nil_append] at hS
  try simp only [opv, n1, n2, n3, n4, Value.cells]
  refine s_go (m_fieldAddr Try.underlying79 (hi := ti77)) ?_
  try simp only [opv, n1, n2, n3, n4, Value.cells, Nat.zero_add, Nat.add_zero, List.getElem_toArray, List.getElem_cons_zero, List.getElem_cons_succ]
  refine m_store_obj ti77 (hS := hS) (hc := atom_put hk12 rfl hvl) (hv := by (show (zi _ _).toArray.size = _; rw [zi_size (by omega)]; rfl)) (hfit := by (rw [zi_size (by omega)]; decide)) (h1 := by exact zi_one _ _) (h := fun w7 hS => ?_)
  try simp only [opv, n1, n2, n3, n4, Value.cells, Array.toArray_toList] at hS ⊢
  refine x_nil ?_
  refine hK3 _ _ ?_
  refine x_seq fun K5 hK5 => ?_
  refine x_seq fun K6 hK6 => ?_
  refine x_region ?_
  refine s_go (s_move) ?_
  try simp only [opv, n1, n2, n3, n4, Value.cells]
  refine s_call en35 ?_
  try simp only [opv, n1, n2, n3, n4, Value.cells, List.map_toArray, List.map_cons, List.map_nil, List.append_toArray, List.cons_append, List.nil_append, Array.append_empty]
  refine CallR.mono (c_cErr2 (hS.owns (by repeat (first | exact Spl.nil | (apply Spl.cons (by repeat (exact Del.head)))))) (by assumption)) ?_
  rintro _ w8 ⟨rfl, hC8⟩
  replace hS := hS.frame (by repeat (first | exact Spl.nil | (apply Spl.cons (by repeat (exact Del.head))))) hC8 (by intro r hr g hg; simp only [List.mem_cons, List.not_mem_nil, or_false] at hr; rcases hr with rfl | rfl | rfl <;> first | (simp [Res.reads] at hg; done) | exact .inr ⟨_, by simp, .inr hg⟩)
  simp only [List.cons_append, List.nil_append] at hS
  try simp only [opv, n1, n2, n3, n4, Value.cells]
  refine s_go (s_neq) ?_
  try simp only [opv, n1, n2, n3, n4, Value.cells]
  refine x_nil ?_
  refine hK6 _ _ ?_
  refine x_cond (ht := fun hc2 => ?_) (hf := fun hc2 => ?_)
  ·
   try simp only [decide_eq_true_eq, decide_eq_false_iff_not, Bool.not_eq_true', Bool.not_eq_false', Int.not_lt, Int.not_le, ne_eq, Decidable.not_not, bne_iff_ne, beq_iff_eq, not_true_eq_false, not_false_eq_true] at hc2
   have hz := atmS_no hk0 (by assumption)
   refine x_seq fun K7 hK7 => ?_
   refine x_region ?_
   refine s_go (s_build_struct (cells := #[.int .u8 0, .int .u16 0, .int .u8 0, .int .u8 0, .int .u8 0, .int .u8 0, .int .u8 0, .int .u8 0, .int .u8 0, .int .u8 0, .int .u8 0, .int .u32 0, .int .u64 0, .int .u8 0, .int .u8 0, .int .u8 0, .int .u8 0, .int .u8 0, .int .u8 0, .int .u8 0, .int .u8 0]) Try.underlying79 ti79 bp79 (hc := by simp only [List.map_toArray, List.map_cons, List.map_nil, opv, n1, n2, n3, n4, Value.cells, List.toList_toArray]; (repeat (refine fill_cons rfl rfl (Nat.le_of_ble_eq_true rfl) ?_)); rfl)) ?_
   try simp only [opv, n1, n2, n3, n4, Value.cells]
   rw [show (#[.int .u8 0, .int .u16 0, .int .u8 0, .int .u8 0, .int .u8 0, .int .u8 0, .int .u8 0, .int .u8 0, .int .u8 0, .int .u8 0, .int .u8 0, .int .u32 0, .int .u64 0, .int .u8 0, .int .u8 0, .int .u8 0, .int .u8 0, .int .u8 0, .int .u8 0, .int .u8 0, .int .u8 0] : Array Value) = AA atom0 from rfl]
   refine m_store_obj ti79 (hS := hS) (hc := by exact zi_whole (by omega) (by omega)) (hv := by rfl) (hfit := by (rw [zi_size (by omega)]; decide)) (h1 := by exact zi_one _ _) (h := fun w9 hS => ?_)
   try simp only [opv, n1, n2, n3, n4, Value.cells, Array.toArray_toList] at hS ⊢
   refine x_nil ?_
   refine hK7 _ _ ?_
   refine x_ret ?_
   refine r_cell_agg rfl Try.underlying79 ti79 (hS := hS) (hfit := by (rw [zi_size (by omega)]; rfl)) (hR := ?_)
   rw [hz]
   exact ⟨rfl, _, _, by assumption, by assumption, hS.sel (by repeat (first | exact Sel.nil | (refine Sel.cons (by repeat (exact Del.head)) ?_)))⟩
  ·
   try simp only [decide_eq_true_eq, decide_eq_false_iff_not, Bool.not_eq_true', Bool.not_eq_false', Int.not_lt, Int.not_le, ne_eq, Decidable.not_not, bne_iff_ne, beq_iff_eq, not_true_eq_false, not_false_eq_true] at hc2
   have hz := atmS_yes hk0 (by simpa using hc2)
   refine x_skip ?_
   refine hK5 _ _ ?_
   refine x_seq fun K8 hK8 => ?_
   refine x_region ?_
   refine s_go (m_load_row Try.underlying79 (hi := ti79) (hS := hS) (hfit := by (rw [zi_size (by omega)]; rfl))) ?_
   try simp only [opv, n1, n2, n3, n4, Value.cells, List.getElem_toArray, List.getElem_cons_zero, List.getElem_cons_succ]
   refine m_store_obj ti79 (hS := hS) (hc := by exact zi_whole (by omega) (by omega)) (hv := by (show (zi _ _).toArray.size = _; rw [zi_size (by omega)]; rfl)) (hfit := by (rw [zi_size (by omega)]; decide)) (h1 := by exact zi_one _ _) (h := fun w10 hS => ?_)
   try simp only [opv, n1, n2, n3, n4, Value.cells, Array.toArray_toList] at hS ⊢
   refine x_nil ?_
   refine hK8 _ _ ?_
   refine x_ret ?_
   refine r_cell_agg rfl Try.underlying79 ti79 (hS := hS) (hfit := by (rw [zi_size (by omega)]; rfl)) (hR := ?_)
   rw [hz]
   exact ⟨rfl, _, _, by assumption, by assumption, hS.sel (by repeat (first | exact Sel.nil | (refine Sel.cons (by repeat (exact Del.head)) ?_)))⟩
 ·
  try simp only [decide_eq_true_eq, decide_eq_false_iff_not, Bool.not_eq_true', Bool.not_eq_false', Int.not_lt, Int.not_le, ne_eq, Decidable.not_not, bne_iff_ne, beq_iff_eq, not_true_eq_false, not_false_eq_true] at hc1
  have hk0 : ¬ (keyS e xs).2.1 = 0 := hc1
  have hz := atmS_key hk0
  refine x_skip ?_
  refine hK3 _ _ ?_
  refine x_seq fun K9 hK9 => ?_
  refine x_seq fun K10 hK10 => ?_
  refine x_region ?_
  refine s_go (s_move) ?_
  try simp only [opv, n1, n2, n3, n4, Value.cells]
  refine s_call en35 ?_
  try simp only [opv, n1, n2, n3, n4, Value.cells, List.map_toArray, List.map_cons, List.map_nil, List.append_toArray, List.cons_append, List.nil_append, Array.append_empty]
  refine CallR.mono (c_cErr2 (hS.owns (by repeat (first | exact Spl.nil | (apply Spl.cons (by repeat (exact Del.head)))))) (by assumption)) ?_
  rintro _ w11 ⟨rfl, hC11⟩
  replace hS := hS.frame (by repeat (first | exact Spl.nil | (apply Spl.cons (by repeat (exact Del.head))))) hC11 (by intro r hr g hg; simp only [List.mem_cons, List.not_mem_nil, or_false] at hr; rcases hr with rfl | rfl | rfl <;> first | (simp [Res.reads] at hg; done) | exact .inr ⟨_, by simp, .inr hg⟩)
  simp only [List.cons_append, List.nil_append] at hS
  try simp only [opv, n1, n2, n3, n4, Value.cells]
  refine s_go (s_neq) ?_
  try simp only [opv, n1, n2, n3, n4, Value.cells]
  refine x_nil ?_
  refine hK10 _ _ ?_
  refine x_cond (ht := fun hc3 => ?_) (hf := fun hc3 => ?_)
  ·
   try simp only [decide_eq_true_eq, decide_eq_false_iff_not, Bool.not_eq_true', Bool.not_eq_false', Int.not_lt, Int.not_le, ne_eq, Decidable.not_not, bne_iff_ne, beq_iff_eq, not_true_eq_false, not_false_eq_true] at hc3
   skip
   refine x_seq fun K11 hK11 => ?_
   refine x_region ?_
   refine s_go (s_build_struct (cells := #[.int .u8 0, .int .u16 0, .int .u8 0, .int .u8 0, .int .u8 0, .int .u8 0, .int .u8 0, .int .u8 0, .int .u8 0, .int .u8 0, .int .u8 0, .int .u32 0, .int .u64 0, .int .u8 0, .int .u8 0, .int .u8 0, .int .u8 0, .int .u8 0, .int .u8 0, .int .u8 0, .int .u8 0]) Try.underlying79 ti79 bp79 (hc := by simp only [List.map_toArray, List.map_cons, List.map_nil, opv, n1, n2, n3, n4, Value.cells, List.toList_toArray]; (repeat (refine fill_cons rfl rfl (Nat.le_of_ble_eq_true rfl) ?_)); rfl)) ?_
   try simp only [opv, n1, n2, n3, n4, Value.cells]
   rw [show (#[.int .u8 0, .int .u16 0, .int .u8 0, .int .u8 0, .int .u8 0, .int .u8 0, .int .u8 0, .int .u8 0, .int .u8 0, .int .u8 0, .int .u8 0, .int .u32 0, .int .u64 0, .int .u8 0, .int .u8 0, .int .u8 0, .int .u8 0, .int .u8 0, .int .u8 0, .int .u8 0, .int .u8 0] : Array Value) = AA atom0 from rfl]
   refine m_store_obj ti79 (hS := hS) (hc := by exact zi_whole (by omega) (by omega)) (hv := by rfl) (hfit := by (rw [zi_size (by omega)]; decide)) (h1 := by exact zi_one _ _) (h := fun w12 hS => ?_)
   try simp only [opv, n1, n2, n3, n4, Value.cells, Array.toArray_toList] at hS ⊢
   refine x_nil ?_
   refine hK11 _ _ ?_
   refine x_ret ?_
   refine r_cell_agg rfl Try.underlying79 ti79 (hS := hS) (hfit := by (rw [zi_size (by omega)]; rfl)) (hR := ?_)
   rw [hz]
   exact ⟨rfl, _, _, by assumption, by assumption, hS.sel (by repeat (first | exact Sel.nil | (refine Sel.cons (by repeat (exact Del.head)) ?_)))⟩
  ·
   try simp only [decide_eq_true_eq, decide_eq_false_iff_not, Bool.not_eq_true', Bool.not_eq_false', Int.not_lt, Int.not_le, ne_eq, Decidable.not_not, bne_iff_ne, beq_iff_eq, not_true_eq_false, not_false_eq_true] at hc3
   (exfalso; omega)
end Go.Proofs.Ytpjpaipkkcengaa
set_option linter.unusedSimpArgs false
set_option linter.unusedVariables false
set_option maxHeartbeats 4000000
set_option maxRecDepth 100000
namespace Go.Proofs.Ytpjpaipkkcengaa
open Go.RowKit

theorem keyOut_byt {x : List Int} (h : KeyOk x) : Byt (keyOut x) := by
  have h0 := h.b0
  have h10 := h.b10
  have hs := nsz_le (kitem x)
  have hl := kitem_len h.len
  have c : ∀ {a : Int} {l : List Int}, (0 ≤ a ∧ a ≤ 255) → Byt l → Byt (a :: l) := fun hx hl y hy => by
    rcases List.mem_cons.1 hy with rfl | hy
    · exact hx
    · exact hl y hy
  have n : Byt [] := fun y hy => by cases hy
  unfold keyOut
  refine Byt.app (Byt.app (c (by omega) n) (vari_byt _)) ?_
  split
  · exact n
  · refine Byt.app (Byt.app (c (by omega) (nmTxt_byt h.item)) (c (by omega) n)) ?_
    split
    · exact vari_byt _
    · exact n

end Go.Proofs.Ytpjpaipkkcengaa
set_option linter.unusedSimpArgs false
set_option linter.unusedVariables false
set_option maxHeartbeats 2000000
set_option maxRecDepth 100000
namespace Go.Proofs.Ytpjpaipkkcengaa
open Go.RowKit

theorem atomW_byt {a : List Int} (h : AtomOk a) : Byt (atomW a) := by
  have c : ∀ {x : Int} {l : List Int}, (0 ≤ x ∧ x ≤ 255) → Byt l → Byt (x :: l) := fun hx hl y hy => by
    rcases List.mem_cons.1 hy with rfl | hy
    · exact hx
    · exact hl y hy
  have n : Byt [] := fun y hy => by cases hy
  have hs := nsz_le (vtext (aval a))
  have htl := vtext_len h.val.len
  unfold atomW valOut
  refine Byt.app (keyOut_byt h.key) ?_
  split
  · exact c (by omega) n
  · split
    · exact Byt.app (vari_byt _) (c (by omega) (nmTxt_byt h.val.text))
    · exact vari_byt _
theorem l27 {x y z : List Int} (hx : x.length = 9) (hy : y.length = 9) (hz : z.length = 9) : ((zi (valKs ++ valKs ++ valKs) (x ++ y ++ z)).toArray.toList.drop 0).take 9 = (VA x).toList ∧ ((zi (valKs ++ valKs ++ valKs) (x ++ y ++ z)).toArray.toList.drop 9).take 9 = (VA y).toList ∧ ((zi (valKs ++ valKs ++ valKs) (x ++ y ++ z)).toArray.toList.drop 18).take 9 = (VA z).toList := by
  match x, y, z, hx, hy, hz with
  | [_, _, _, _, _, _, _, _, _], [_, _, _, _, _, _, _, _, _], [_, _, _, _, _, _, _, _, _], _, _, _ => exact ⟨rfl, rfl, rfl⟩

theorem c_AtomBack (w0 : World) (a : List Int) (ha : AtomOk a) (A : Option Addr) (c : Nat) (ms : List Int) (hm : Rd w0 A 1 ms.length (ms.map (Value.int .u8))) (hw : Byt ms) (hmc : ms.length ≤ c) (hmb : ms.length ≤ 140737488355000) (x y z : List Int) (hx : ValOk x) (hy : ValOk y) (hz : ValOk z)  :
    CallR Try.prog 7 #[.agg (AA a), .slice A ms.length c, .agg (zi (valKs ++ valKs ++ valKs) (x ++ y ++ z)).toArray] w0 fun v w' => v = .bool true ∧ Ext w0 w' := by
 have hS := (St.start (S := NoB) w0).rd_old hm
 have hal := ha.len
 have hk := ha.key
 have hv := ha.val
 have hvl := hv.len
 have hkl := hk.len
 have h00 := akey_0 hal
 have htl := vtext_len hvl
 have htb := hv.text
 have hvb := hv.b0
 have hxl := hx.len
 have hyl := hy.len
 have hzl := hz.len
 obtain ⟨hx27, hy27, hz27⟩ := l27 hxl hyl hzl
 have hmo := more_ok hx hy
 have hml := hmo.len
 have h27 : (x ++ y ++ z).length = (valKs ++ valKs ++ valKs).length := by simp [hxl, hyl, hzl]
 have hv0l : (mkV 0 nm0).length = 9 := rfl
 have h0l : (List.replicate 9 (0 : Int)).length = 9 := rfl
 refine c_enter (l := [.agg (AA a), .slice A ms.length c, .agg (zi (valKs ++ valKs ++ valKs) (x ++ y ++ z)).toArray, undef, undef, undef, undef, undef, undef, undef, undef, undef, undef, undef, undef, undef, undef, undef, undef, undef, undef, undef, undef, undef, undef, undef, undef, undef, undef, undef, undef, undef, undef, undef, undef, undef, undef, undef, undef, undef, undef, undef, undef, undef, undef, undef, undef, undef, undef, undef, undef, undef, undef, undef, undef, undef, undef, undef, undef, undef, undef, undef, undef, undef, undef, undef, undef, undef, undef, undef, undef, undef, undef, undef, undef, undef, undef, undef, undef, undef, undef, undef, undef, undef, undef, undef, undef, undef, undef, undef, undef, undef, undef, undef, undef, undef, undef, undef, undef, undef, undef, undef, undef, undef, undef, undef, undef, undef, undef, undef, undef, undef, undef, undef, undef, undef, undef, undef, undef, undef, undef, undef, undef, undef, undef, undef, undef, undef, undef, undef, undef, undef, undef, undef]) Try.func7 rfl (by simp only [Try.ntmps7, List.size_toArray, List.length_cons, List.length_nil, Nat.reduceAdd, Nat.reduceSub, Array.replicate_succ, Array.replicate_zero, List.push_toArray, List.append_toArray, List.nil_append, List.cons_append]) ?_
 refine x_seq fun K1 hK1 => ?_
 refine x_region ?_
 refine m_box hS (fun w1 g1 hS => ?_)
 try simp only [opv, n1, n2, n3, n4, Value.cells, Array.toArray_toList] at hS ⊢
 refine m_box hS (fun w2 g2 hS => ?_)
 try simp only [opv, n1, n2, n3, n4, Value.cells, Array.toArray_toList] at hS ⊢
 refine s_go (s_assign) ?_
 try simp only [opv, n1, n2, n3, n4, Value.cells]
 refine x_nil ?_
 refine hK1 _ _ ?_
 refine x_seq fun K2 hK2 => ?_
 refine x_seq fun K3 hK3 => ?_
 refine x_region ?_
 refine s_go (s_move) ?_
 try simp only [opv, n1, n2, n3, n4, Value.cells]
 refine s_go (s_len_sl Try.underlying43) ?_
 try simp only [opv, n1, n2, n3, n4, Value.cells]
 refine s_go (s_gtr) ?_
 try simp only [opv, n1, n2, n3, n4, Value.cells]
 refine x_nil ?_
 refine hK3 _ _ ?_
 refine x_cond (ht := fun hc1 => ?_) (hf := fun hc1 => ?_)
 ·
  try simp only [decide_eq_true_eq, decide_eq_false_iff_not, Bool.not_eq_true', Bool.not_eq_false', Int.not_lt, Int.not_le, ne_eq, Decidable.not_not, bne_iff_ne, beq_iff_eq, not_true_eq_false, not_false_eq_true] at hc1
  refine x_seq fun K4 hK4 => ?_
  refine x_region ?_
  refine s_call en50 ?_
  try simp only [opv, n1, n2, n3, n4, Value.cells, List.map_toArray, List.map_cons, List.map_nil, List.append_toArray, List.cons_append, List.nil_append, Array.append_empty]
  refine CallR.mono (c_law09alive _) ?_
  rintro _ w3 ⟨rfl, hE3⟩
  replace hS := hS.ext hE3
  try simp only [opv, n1, n2, n3, n4, Value.cells]
  refine s_go (s_assign) ?_
  try simp only [opv, n1, n2, n3, n4, Value.cells]
  refine x_nil ?_
  refine hK4 _ _ ?_
  refine x_ret ?_
  refine r_tmp rfl ?_
  exact ⟨rfl, hS.ext_of⟩
 ·
  try simp only [decide_eq_true_eq, decide_eq_false_iff_not, Bool.not_eq_true', Bool.not_eq_false', Int.not_lt, Int.not_le, ne_eq, Decidable.not_not, bne_iff_ne, beq_iff_eq, not_true_eq_false, not_false_eq_true] at hc1
  refine x_skip ?_
  refine hK2 _ _ ?_
  refine x_seq fun K5 hK5 => ?_
  refine x_mixed_f [] 0 [7, 8, 9, 17, 18, 19, 20, 21, 22] (fun f w => ∃ gx gy gz : Nat, f 7 = .pointer (some ⟨gx, 0, none⟩) ∧ f 8 = .pointer (some ⟨gy, 0, none⟩) ∧ f 9 = .pointer (some ⟨gz, 0, none⟩) ∧ St NoB w0 w [.obj gz (.cells (VA z) 77 (0, 0)), .obj gy (.cells (VA y) 77 (0, 0)), .obj gx (.cells (VA x) 77 (0, 0)), .obj g1 (.cells (AA a) 79 (0, 0)), .rd A 1 ms.length (ms.map (Value.int .u8))]) (by kernel_rfl) (by kernel_rfl) (by kernel_rfl) (by decide) hS (fun w4 hS => ?mixpre301) ?mixrest301
  case mixpre301 =>
   refine p_nil ?_
   simp only [List.length_cons, List.length_nil, Nat.reduceAdd, Nat.reduceSub]
   refine any_go (i := 0) (by rfl) (by decide +kernel) (by decide +kernel) noLate_nil (go_yields w_none (fun w hS => m_indexAddr_arr Try.underlying80 ti77)) ?_
   try simp only [opv, n1, n2, n3, n4, Value.cells, Nat.mul_one, Nat.zero_add, Int.toNat_natCast, Int.reduceToNat]
   simp only [Nat.zero_mul, Nat.one_mul, Nat.reduceMul]
   refine any_go (i := 1) (by rfl) (by decide +kernel) (by decide +kernel) noLate_nil (go_yields w_none (fun w hS => m_loada_obj Try.underlying77 (hi := ti77) (hS := hS) (hfit := by rw [zi_size h27]; decide))) ?_
   try simp only [opv, n1, n2, n3, n4, Value.cells, List.getElem_toArray, List.getElem_cons_zero, List.getElem_cons_succ]
   rw [show ((((zi (valKs ++ valKs ++ valKs) (x ++ y ++ z)).toArray.toList.drop 0).take 9).toArray : Array Value) = VA x from congrArg List.toArray hx27]
   refine any_go (i := 2) (by rfl) (by decide +kernel) (by decide +kernel) noLate_nil (go_yields w_none (fun w hS => m_indexAddr_arr Try.underlying80 ti77)) ?_
   try simp only [opv, n1, n2, n3, n4, Value.cells, Nat.mul_one, Nat.zero_add, Int.toNat_natCast, Int.reduceToNat]
   simp only [Nat.zero_mul, Nat.one_mul, Nat.reduceMul]
   refine any_go (i := 3) (by rfl) (by decide +kernel) (by decide +kernel) noLate_nil (go_yields w_none (fun w hS => m_loada_obj Try.underlying77 (hi := ti77) (hS := hS) (hfit := by rw [zi_size h27]; decide))) ?_
   try simp only [opv, n1, n2, n3, n4, Value.cells, List.getElem_toArray, List.getElem_cons_zero, List.getElem_cons_succ]
   rw [show ((((zi (valKs ++ valKs ++ valKs) (x ++ y ++ z)).toArray.toList.drop 9).take 9).toArray : Array Value) = VA y from congrArg List.toArray hy27]
   refine any_go (i := 4) (by rfl) (by decide +kernel) (by decide +kernel) noLate_nil (go_yields w_none (fun w hS => m_indexAddr_arr Try.underlying80 ti77)) ?_
   try simp only [opv, n1, n2, n3, n4, Value.cells, Nat.mul_one, Nat.zero_add, Int.toNat_natCast, Int.reduceToNat]
   simp only [Nat.zero_mul, Nat.one_mul, Nat.reduceMul]
   refine any_go (i := 5) (by rfl) (by decide +kernel) (by decide +kernel) noLate_nil (go_yields w_none (fun w hS => m_loada_obj Try.underlying77 (hi := ti77) (hS := hS) (hfit := by rw [zi_size h27]; decide))) ?_
   try simp only [opv, n1, n2, n3, n4, Value.cells, List.getElem_toArray, List.getElem_cons_zero, List.getElem_cons_succ]
   rw [show ((((zi (valKs ++ valKs ++ valKs) (x ++ y ++ z)).toArray.toList.drop 18).take 9).toArray : Array Value) = VA z from congrArg List.toArray hz27]
   refine any_step [6, 7, 8] (by kernel_rfl) (by decide) (fun w5 hE => ⟨fun _ => (hS.ext hE).sel (by repeat (first | exact Sel.nil | (refine Sel.cons (by repeat (exact Del.head)) ?_))), ?_⟩)
   replace hS := hS.ext hE
   intro i hi
   simp only [List.mem_cons, List.not_mem_nil, or_false] at hi
   rcases hi with rfl | rfl | rfl
   ·
    refine any_op (by rfl) ?_
    refine m_alloc ti77 hS (fun w6 g6 hS => ?_)
    try simp only [opv, n1, n2, n3, n4, Value.cells, Array.toArray_toList] at hS ⊢
    replace hS : St NoB w0 w6 (.obj g6 (.cells (VA (mkV 0 nm0)) 77 (0, 0)) :: _) := hS
    refine x_nil ?_
    refine any_step [7, 8] (by kernel_rfl) (by decide) (fun w7 hE => ⟨fun _ => (hS.ext hE).sel (by repeat (first | exact Sel.nil | (refine Sel.cons (by repeat (first | exact Del.head | apply Del.tail)) ?_))), ?_⟩)
    replace hS := hS.ext hE
    intro i hi
    simp only [List.mem_cons, List.not_mem_nil, or_false] at hi
    rcases hi with rfl | rfl
    ·
     refine any_op (by rfl) ?_
     refine m_alloc ti77 hS (fun w8 g8 hS => ?_)
     try simp only [opv, n1, n2, n3, n4, Value.cells, Array.toArray_toList] at hS ⊢
     replace hS : St NoB w0 w8 (.obj g8 (.cells (VA (mkV 0 nm0)) 77 (0, 0)) :: _) := hS
     refine x_nil ?_
     refine any_step [8] (by kernel_rfl) (by decide) (fun w9 hE => ⟨fun _ => (hS.ext hE).sel (by repeat (first | exact Sel.nil | (refine Sel.cons (by repeat (first | exact Del.head | apply Del.tail)) ?_))), ?_⟩)
     replace hS := hS.ext hE
     intro i hi
     simp only [List.mem_cons, List.not_mem_nil, or_false] at hi
     subst hi
     ·
      refine any_op (by rfl) ?_
      refine m_alloc ti77 hS (fun w10 g10 hS => ?_)
      try simp only [opv, n1, n2, n3, n4, Value.cells, Array.toArray_toList] at hS ⊢
      replace hS : St NoB w0 w10 (.obj g10 (.cells (VA (mkV 0 nm0)) 77 (0, 0)) :: _) := hS
      refine x_nil ?_
      refine any_step [9] (by kernel_rfl) (by decide) (fun w11 hE => ⟨fun _ => (hS.ext hE).sel (by repeat (first | exact Sel.nil | (refine Sel.cons (by repeat (first | exact Del.head | apply Del.tail)) ?_))), ?_⟩)
      replace hS := hS.ext hE
      intro i hi
      simp only [List.mem_cons, List.not_mem_nil, or_false] at hi
      subst hi
      ·
       refine any_op (by rfl) ?_
       refine m_store_obj ti77 (hS := hS) (hc := by exact zi_whole (by omega) (by omega)) (hv := by (show (zi _ _).toArray.size = _; rw [zi_size (by omega)]; rfl)) (hfit := by (rw [zi_size (by omega)]; decide)) (h1 := by exact zi_one _ _) (h := fun w12 hS => ?_)
       try simp only [opv, n1, n2, n3, n4, Value.cells, Array.toArray_toList] at hS ⊢
       refine x_nil ?_
       refine any_step [10] (by kernel_rfl) (by decide) (fun w13 hE => ⟨fun _ => (hS.ext hE).sel (by repeat (first | exact Sel.nil | (refine Sel.cons (by repeat (first | exact Del.head | apply Del.tail)) ?_))), ?_⟩)
       replace hS := hS.ext hE
       intro i hi
       simp only [List.mem_cons, List.not_mem_nil, or_false] at hi
       subst hi
       ·
        refine any_op (by rfl) ?_
        refine m_store_obj ti77 (hS := hS) (hc := by exact zi_whole (by omega) (by omega)) (hv := by (show (zi _ _).toArray.size = _; rw [zi_size (by omega)]; rfl)) (hfit := by (rw [zi_size (by omega)]; decide)) (h1 := by exact zi_one _ _) (h := fun w14 hS => ?_)
        try simp only [opv, n1, n2, n3, n4, Value.cells, Array.toArray_toList] at hS ⊢
        refine x_nil ?_
        refine any_step [11] (by kernel_rfl) (by decide) (fun w15 hE => ⟨fun _ => (hS.ext hE).sel (by repeat (first | exact Sel.nil | (refine Sel.cons (by repeat (first | exact Del.head | apply Del.tail)) ?_))), ?_⟩)
        replace hS := hS.ext hE
        intro i hi
        simp only [List.mem_cons, List.not_mem_nil, or_false] at hi
        subst hi
        ·
         refine any_op (by rfl) ?_
         refine m_store_obj ti77 (hS := hS) (hc := by exact zi_whole (by omega) (by omega)) (hv := by (show (zi _ _).toArray.size = _; rw [zi_size (by omega)]; rfl)) (hfit := by (rw [zi_size (by omega)]; decide)) (h1 := by exact zi_one _ _) (h := fun w16 hS => ?_)
         try simp only [opv, n1, n2, n3, n4, Value.cells, Array.toArray_toList] at hS ⊢
         refine x_nil ?_
         refine any_nil (by kernel_rfl) (fun w17 hE => ?_)
         replace hS := hS.ext hE
         refine ⟨fun _ => hS.sel (by repeat (first | exact Sel.nil | (refine Sel.cons (by repeat (first | exact Del.head | apply Del.tail)) ?_))), ?_⟩
         refine mix_leaf (by simp only [clob, List.foldl, n1, n2, n3, n4]) ?_
         try simp only [n1, n2]
         exact ⟨_, _, _, rfl, rfl, rfl, hS.sel (by repeat (first | exact Sel.nil | (refine Sel.cons (by repeat (first | exact Del.head | apply Del.tail)) ?_)))⟩
    ·
     refine any_op (by rfl) ?_
     refine m_alloc ti77 hS (fun w18 g18 hS => ?_)
     try simp only [opv, n1, n2, n3, n4, Value.cells, Array.toArray_toList] at hS ⊢
     replace hS : St NoB w0 w18 (.obj g18 (.cells (VA (mkV 0 nm0)) 77 (0, 0)) :: _) := hS
     refine x_nil ?_
     refine any_step [7] (by kernel_rfl) (by decide) (fun w19 hE => ⟨fun _ => (hS.ext hE).sel (by repeat (first | exact Sel.nil | (refine Sel.cons (by repeat (first | exact Del.head | apply Del.tail)) ?_))), ?_⟩)
     replace hS := hS.ext hE
     intro i hi
     simp only [List.mem_cons, List.not_mem_nil, or_false] at hi
     subst hi
     ·
      refine any_op (by rfl) ?_
      refine m_alloc ti77 hS (fun w20 g20 hS => ?_)
      try simp only [opv, n1, n2, n3, n4, Value.cells, Array.toArray_toList] at hS ⊢
      replace hS : St NoB w0 w20 (.obj g20 (.cells (VA (mkV 0 nm0)) 77 (0, 0)) :: _) := hS
      refine x_nil ?_
      refine any_step [9] (by kernel_rfl) (by decide) (fun w21 hE => ⟨fun _ => (hS.ext hE).sel (by repeat (first | exact Sel.nil | (refine Sel.cons (by repeat (first | exact Del.head | apply Del.tail)) ?_))), ?_⟩)
      replace hS := hS.ext hE
      intro i hi
      simp only [List.mem_cons, List.not_mem_nil, or_false] at hi
      subst hi
      ·
       refine any_op (by rfl) ?_
       refine m_store_obj ti77 (hS := hS) (hc := by exact zi_whole (by omega) (by omega)) (hv := by (show (zi _ _).toArray.size = _; rw [zi_size (by omega)]; rfl)) (hfit := by (rw [zi_size (by omega)]; decide)) (h1 := by exact zi_one _ _) (h := fun w22 hS => ?_)
       try simp only [opv, n1, n2, n3, n4, Value.cells, Array.toArray_toList] at hS ⊢
       refine x_nil ?_
       refine any_step [10] (by kernel_rfl) (by decide) (fun w23 hE => ⟨fun _ => (hS.ext hE).sel (by repeat (first | exact Sel.nil | (refine Sel.cons (by repeat (first | exact Del.head | apply Del.tail)) ?_))), ?_⟩)
       replace hS := hS.ext hE
       intro i hi
       simp only [List.mem_cons, List.not_mem_nil, or_false] at hi
       subst hi
       ·
        refine any_op (by rfl) ?_
        refine m_store_obj ti77 (hS := hS) (hc := by exact zi_whole (by omega) (by omega)) (hv := by (show (zi _ _).toArray.size = _; rw [zi_size (by omega)]; rfl)) (hfit := by (rw [zi_size (by omega)]; decide)) (h1 := by exact zi_one _ _) (h := fun w24 hS => ?_)
        try simp only [opv, n1, n2, n3, n4, Value.cells, Array.toArray_toList] at hS ⊢
        refine x_nil ?_
        refine any_step [11] (by kernel_rfl) (by decide) (fun w25 hE => ⟨fun _ => (hS.ext hE).sel (by repeat (first | exact Sel.nil | (refine Sel.cons (by repeat (first | exact Del.head | apply Del.tail)) ?_))), ?_⟩)
        replace hS := hS.ext hE
        intro i hi
        simp only [List.mem_cons, List.not_mem_nil, or_false] at hi
        subst hi
        ·
         refine any_op (by rfl) ?_
         refine m_store_obj ti77 (hS := hS) (hc := by exact zi_whole (by omega) (by omega)) (hv := by (show (zi _ _).toArray.size = _; rw [zi_size (by omega)]; rfl)) (hfit := by (rw [zi_size (by omega)]; decide)) (h1 := by exact zi_one _ _) (h := fun w26 hS => ?_)
         try simp only [opv, n1, n2, n3, n4, Value.cells, Array.toArray_toList] at hS ⊢
         refine x_nil ?_
         refine any_nil (by kernel_rfl) (fun w27 hE => ?_)
         replace hS := hS.ext hE
         refine ⟨fun _ => hS.sel (by repeat (first | exact Sel.nil | (refine Sel.cons (by repeat (first | exact Del.head | apply Del.tail)) ?_))), ?_⟩
         refine mix_leaf (by simp only [clob, List.foldl, n1, n2, n3, n4]) ?_
         try simp only [n1, n2]
         exact ⟨_, _, _, rfl, rfl, rfl, hS.sel (by repeat (first | exact Sel.nil | (refine Sel.cons (by repeat (first | exact Del.head | apply Del.tail)) ?_)))⟩
   ·
    refine any_op (by rfl) ?_
    refine m_alloc ti77 hS (fun w28 g28 hS => ?_)
    try simp only [opv, n1, n2, n3, n4, Value.cells, Array.toArray_toList] at hS ⊢
    replace hS : St NoB w0 w28 (.obj g28 (.cells (VA (mkV 0 nm0)) 77 (0, 0)) :: _) := hS
    refine x_nil ?_
    refine any_step [6, 8] (by kernel_rfl) (by decide) (fun w29 hE => ⟨fun _ => (hS.ext hE).sel (by repeat (first | exact Sel.nil | (refine Sel.cons (by repeat (first | exact Del.head | apply Del.tail)) ?_))), ?_⟩)
    replace hS := hS.ext hE
    intro i hi
    simp only [List.mem_cons, List.not_mem_nil, or_false] at hi
    rcases hi with rfl | rfl
    ·
     refine any_op (by rfl) ?_
     refine m_alloc ti77 hS (fun w30 g30 hS => ?_)
     try simp only [opv, n1, n2, n3, n4, Value.cells, Array.toArray_toList] at hS ⊢
     replace hS : St NoB w0 w30 (.obj g30 (.cells (VA (mkV 0 nm0)) 77 (0, 0)) :: _) := hS
     refine x_nil ?_
     refine any_step [8] (by kernel_rfl) (by decide) (fun w31 hE => ⟨fun _ => (hS.ext hE).sel (by repeat (first | exact Sel.nil | (refine Sel.cons (by repeat (first | exact Del.head | apply Del.tail)) ?_))), ?_⟩)
     replace hS := hS.ext hE
     intro i hi
     simp only [List.mem_cons, List.not_mem_nil, or_false] at hi
     subst hi
     ·
      refine any_op (by rfl) ?_
      refine m_alloc ti77 hS (fun w32 g32 hS => ?_)
      try simp only [opv, n1, n2, n3, n4, Value.cells, Array.toArray_toList] at hS ⊢
      replace hS : St NoB w0 w32 (.obj g32 (.cells (VA (mkV 0 nm0)) 77 (0, 0)) :: _) := hS
      refine x_nil ?_
      refine any_step [9] (by kernel_rfl) (by decide) (fun w33 hE => ⟨fun _ => (hS.ext hE).sel (by repeat (first | exact Sel.nil | (refine Sel.cons (by repeat (first | exact Del.head | apply Del.tail)) ?_))), ?_⟩)
      replace hS := hS.ext hE
      intro i hi
      simp only [List.mem_cons, List.not_mem_nil, or_false] at hi
      subst hi
      ·
       refine any_op (by rfl) ?_
       refine m_store_obj ti77 (hS := hS) (hc := by exact zi_whole (by omega) (by omega)) (hv := by (show (zi _ _).toArray.size = _; rw [zi_size (by omega)]; rfl)) (hfit := by (rw [zi_size (by omega)]; decide)) (h1 := by exact zi_one _ _) (h := fun w34 hS => ?_)
       try simp only [opv, n1, n2, n3, n4, Value.cells, Array.toArray_toList] at hS ⊢
       refine x_nil ?_
       refine any_step [10] (by kernel_rfl) (by decide) (fun w35 hE => ⟨fun _ => (hS.ext hE).sel (by repeat (first | exact Sel.nil | (refine Sel.cons (by repeat (first | exact Del.head | apply Del.tail)) ?_))), ?_⟩)
       replace hS := hS.ext hE
       intro i hi
       simp only [List.mem_cons, List.not_mem_nil, or_false] at hi
       subst hi
       ·
        refine any_op (by rfl) ?_
        refine m_store_obj ti77 (hS := hS) (hc := by exact zi_whole (by omega) (by omega)) (hv := by (show (zi _ _).toArray.size = _; rw [zi_size (by omega)]; rfl)) (hfit := by (rw [zi_size (by omega)]; decide)) (h1 := by exact zi_one _ _) (h := fun w36 hS => ?_)
        try simp only [opv, n1, n2, n3, n4, Value.cells, Array.toArray_toList] at hS ⊢
        refine x_nil ?_
        refine any_step [11] (by kernel_rfl) (by decide) (fun w37 hE => ⟨fun _ => (hS.ext hE).sel (by repeat (first | exact Sel.nil | (refine Sel.cons (by repeat (first | exact Del.head | apply Del.tail)) ?_))), ?_⟩)
        replace hS := hS.ext hE
        intro i hi
        simp only [List.mem_cons, List.not_mem_nil, or_false] at hi
        subst hi
        ·
         refine any_op (by rfl) ?_
         refine m_store_obj ti77 (hS := hS) (hc := by exact zi_whole (by omega) (by omega)) (hv := by (show (zi _ _).toArray.size = _; rw [zi_size (by omega)]; rfl)) (hfit := by (rw [zi_size (by omega)]; decide)) (h1 := by exact zi_one _ _) (h := fun w38 hS => ?_)
         try simp only [opv, n1, n2, n3, n4, Value.cells, Array.toArray_toList] at hS ⊢
         refine x_nil ?_
         refine any_nil (by kernel_rfl) (fun w39 hE => ?_)
         replace hS := hS.ext hE
         refine ⟨fun _ => hS.sel (by repeat (first | exact Sel.nil | (refine Sel.cons (by repeat (first | exact Del.head | apply Del.tail)) ?_))), ?_⟩
         refine mix_leaf (by simp only [clob, List.foldl, n1, n2, n3, n4]) ?_
         try simp only [n1, n2]
         exact ⟨_, _, _, rfl, rfl, rfl, hS.sel (by repeat (first | exact Sel.nil | (refine Sel.cons (by repeat (first | exact Del.head | apply Del.tail)) ?_)))⟩
    ·
     refine any_op (by rfl) ?_
     refine m_alloc ti77 hS (fun w40 g40 hS => ?_)
     try simp only [opv, n1, n2, n3, n4, Value.cells, Array.toArray_toList] at hS ⊢
     replace hS : St NoB w0 w40 (.obj g40 (.cells (VA (mkV 0 nm0)) 77 (0, 0)) :: _) := hS
     refine x_nil ?_
     refine any_step [6] (by kernel_rfl) (by decide) (fun w41 hE => ⟨fun _ => (hS.ext hE).sel (by repeat (first | exact Sel.nil | (refine Sel.cons (by repeat (first | exact Del.head | apply Del.tail)) ?_))), ?_⟩)
     replace hS := hS.ext hE
     intro i hi
     simp only [List.mem_cons, List.not_mem_nil, or_false] at hi
     subst hi
     ·
      refine any_op (by rfl) ?_
      refine m_alloc ti77 hS (fun w42 g42 hS => ?_)
      try simp only [opv, n1, n2, n3, n4, Value.cells, Array.toArray_toList] at hS ⊢
      replace hS : St NoB w0 w42 (.obj g42 (.cells (VA (mkV 0 nm0)) 77 (0, 0)) :: _) := hS
      refine x_nil ?_
      refine any_step [9] (by kernel_rfl) (by decide) (fun w43 hE => ⟨fun _ => (hS.ext hE).sel (by repeat (first | exact Sel.nil | (refine Sel.cons (by repeat (first | exact Del.head | apply Del.tail)) ?_))), ?_⟩)
      replace hS := hS.ext hE
      intro i hi
      simp only [List.mem_cons, List.not_mem_nil, or_false] at hi
      subst hi
      ·
       refine any_op (by rfl) ?_
       refine m_store_obj ti77 (hS := hS) (hc := by exact zi_whole (by omega) (by omega)) (hv := by (show (zi _ _).toArray.size = _; rw [zi_size (by omega)]; rfl)) (hfit := by (rw [zi_size (by omega)]; decide)) (h1 := by exact zi_one _ _) (h := fun w44 hS => ?_)
       try simp only [opv, n1, n2, n3, n4, Value.cells, Array.toArray_toList] at hS ⊢
       refine x_nil ?_
       refine any_step [10] (by kernel_rfl) (by decide) (fun w45 hE => ⟨fun _ => (hS.ext hE).sel (by repeat (first | exact Sel.nil | (refine Sel.cons (by repeat (first | exact Del.head | apply Del.tail)) ?_))), ?_⟩)
       replace hS := hS.ext hE
       intro i hi
       simp only [List.mem_cons, List.not_mem_nil, or_false] at hi
       subst hi
       ·
        refine any_op (by rfl) ?_
        refine m_store_obj ti77 (hS := hS) (hc := by exact zi_whole (by omega) (by omega)) (hv := by (show (zi _ _).toArray.size = _; rw [zi_size (by omega)]; rfl)) (hfit := by (rw [zi_size (by omega)]; decide)) (h1 := by exact zi_one _ _) (h := fun w46 hS => ?_)
        try simp only [opv, n1, n2, n3, n4, Value.cells, Array.toArray_toList] at hS ⊢
        refine x_nil ?_
        refine any_step [11] (by kernel_rfl) (by decide) (fun w47 hE => ⟨fun _ => (hS.ext hE).sel (by repeat (first | exact Sel.nil | (refine Sel.cons (by repeat (first | exact Del.head | apply Del.tail)) ?_))), ?_⟩)
        replace hS := hS.ext hE
        intro i hi
        simp only [List.mem_cons, List.not_mem_nil, or_false] at hi
        subst hi
        ·
         refine any_op (by rfl) ?_
         refine m_store_obj ti77 (hS := hS) (hc := by exact zi_whole (by omega) (by omega)) (hv := by (show (zi _ _).toArray.size = _; rw [zi_size (by omega)]; rfl)) (hfit := by (rw [zi_size (by omega)]; decide)) (h1 := by exact zi_one _ _) (h := fun w48 hS => ?_)
         try simp only [opv, n1, n2, n3, n4, Value.cells, Array.toArray_toList] at hS ⊢
         refine x_nil ?_
         refine any_nil (by kernel_rfl) (fun w49 hE => ?_)
         replace hS := hS.ext hE
         refine ⟨fun _ => hS.sel (by repeat (first | exact Sel.nil | (refine Sel.cons (by repeat (first | exact Del.head | apply Del.tail)) ?_))), ?_⟩
         refine mix_leaf (by simp only [clob, List.foldl, n1, n2, n3, n4]) ?_
         try simp only [n1, n2]
         exact ⟨_, _, _, rfl, rfl, rfl, hS.sel (by repeat (first | exact Sel.nil | (refine Sel.cons (by repeat (first | exact Del.head | apply Del.tail)) ?_)))⟩
   ·
    refine any_op (by rfl) ?_
    refine m_alloc ti77 hS (fun w50 g50 hS => ?_)
    try simp only [opv, n1, n2, n3, n4, Value.cells, Array.toArray_toList] at hS ⊢
    replace hS : St NoB w0 w50 (.obj g50 (.cells (VA (mkV 0 nm0)) 77 (0, 0)) :: _) := hS
    refine x_nil ?_
    refine any_step [6, 7] (by kernel_rfl) (by decide) (fun w51 hE => ⟨fun _ => (hS.ext hE).sel (by repeat (first | exact Sel.nil | (refine Sel.cons (by repeat (first | exact Del.head | apply Del.tail)) ?_))), ?_⟩)
    replace hS := hS.ext hE
    intro i hi
    simp only [List.mem_cons, List.not_mem_nil, or_false] at hi
    rcases hi with rfl | rfl
    ·
     refine any_op (by rfl) ?_
     refine m_alloc ti77 hS (fun w52 g52 hS => ?_)
     try simp only [opv, n1, n2, n3, n4, Value.cells, Array.toArray_toList] at hS ⊢
     replace hS : St NoB w0 w52 (.obj g52 (.cells (VA (mkV 0 nm0)) 77 (0, 0)) :: _) := hS
     refine x_nil ?_
     refine any_step [7] (by kernel_rfl) (by decide) (fun w53 hE => ⟨fun _ => (hS.ext hE).sel (by repeat (first | exact Sel.nil | (refine Sel.cons (by repeat (first | exact Del.head | apply Del.tail)) ?_))), ?_⟩)
     replace hS := hS.ext hE
     intro i hi
     simp only [List.mem_cons, List.not_mem_nil, or_false] at hi
     subst hi
     ·
      refine any_op (by rfl) ?_
      refine m_alloc ti77 hS (fun w54 g54 hS => ?_)
      try simp only [opv, n1, n2, n3, n4, Value.cells, Array.toArray_toList] at hS ⊢
      replace hS : St NoB w0 w54 (.obj g54 (.cells (VA (mkV 0 nm0)) 77 (0, 0)) :: _) := hS
      refine x_nil ?_
      refine any_step [9] (by kernel_rfl) (by decide) (fun w55 hE => ⟨fun _ => (hS.ext hE).sel (by repeat (first | exact Sel.nil | (refine Sel.cons (by repeat (first | exact Del.head | apply Del.tail)) ?_))), ?_⟩)
      replace hS := hS.ext hE
      intro i hi
      simp only [List.mem_cons, List.not_mem_nil, or_false] at hi
      subst hi
      ·
       refine any_op (by rfl) ?_
       refine m_store_obj ti77 (hS := hS) (hc := by exact zi_whole (by omega) (by omega)) (hv := by (show (zi _ _).toArray.size = _; rw [zi_size (by omega)]; rfl)) (hfit := by (rw [zi_size (by omega)]; decide)) (h1 := by exact zi_one _ _) (h := fun w56 hS => ?_)
       try simp only [opv, n1, n2, n3, n4, Value.cells, Array.toArray_toList] at hS ⊢
       refine x_nil ?_
       refine any_step [10] (by kernel_rfl) (by decide) (fun w57 hE => ⟨fun _ => (hS.ext hE).sel (by repeat (first | exact Sel.nil | (refine Sel.cons (by repeat (first | exact Del.head | apply Del.tail)) ?_))), ?_⟩)
       replace hS := hS.ext hE
       intro i hi
       simp only [List.mem_cons, List.not_mem_nil, or_false] at hi
       subst hi
       ·
        refine any_op (by rfl) ?_
        refine m_store_obj ti77 (hS := hS) (hc := by exact zi_whole (by omega) (by omega)) (hv := by (show (zi _ _).toArray.size = _; rw [zi_size (by omega)]; rfl)) (hfit := by (rw [zi_size (by omega)]; decide)) (h1 := by exact zi_one _ _) (h := fun w58 hS => ?_)
        try simp only [opv, n1, n2, n3, n4, Value.cells, Array.toArray_toList] at hS ⊢
        refine x_nil ?_
        refine any_step [11] (by kernel_rfl) (by decide) (fun w59 hE => ⟨fun _ => (hS.ext hE).sel (by repeat (first | exact Sel.nil | (refine Sel.cons (by repeat (first | exact Del.head | apply Del.tail)) ?_))), ?_⟩)
        replace hS := hS.ext hE
        intro i hi
        simp only [List.mem_cons, List.not_mem_nil, or_false] at hi
        subst hi
        ·
         refine any_op (by rfl) ?_
         refine m_store_obj ti77 (hS := hS) (hc := by exact zi_whole (by omega) (by omega)) (hv := by (show (zi _ _).toArray.size = _; rw [zi_size (by omega)]; rfl)) (hfit := by (rw [zi_size (by omega)]; decide)) (h1 := by exact zi_one _ _) (h := fun w60 hS => ?_)
         try simp only [opv, n1, n2, n3, n4, Value.cells, Array.toArray_toList] at hS ⊢
         refine x_nil ?_
         refine any_nil (by kernel_rfl) (fun w61 hE => ?_)
         replace hS := hS.ext hE
         refine ⟨fun _ => hS.sel (by repeat (first | exact Sel.nil | (refine Sel.cons (by repeat (first | exact Del.head | apply Del.tail)) ?_))), ?_⟩
         refine mix_leaf (by simp only [clob, List.foldl, n1, n2, n3, n4]) ?_
         try simp only [n1, n2]
         exact ⟨_, _, _, rfl, rfl, rfl, hS.sel (by repeat (first | exact Sel.nil | (refine Sel.cons (by repeat (first | exact Del.head | apply Del.tail)) ?_)))⟩
    ·
     refine any_op (by rfl) ?_
     refine m_alloc ti77 hS (fun w62 g62 hS => ?_)
     try simp only [opv, n1, n2, n3, n4, Value.cells, Array.toArray_toList] at hS ⊢
     replace hS : St NoB w0 w62 (.obj g62 (.cells (VA (mkV 0 nm0)) 77 (0, 0)) :: _) := hS
     refine x_nil ?_
     refine any_step [6] (by kernel_rfl) (by decide) (fun w63 hE => ⟨fun _ => (hS.ext hE).sel (by repeat (first | exact Sel.nil | (refine Sel.cons (by repeat (first | exact Del.head | apply Del.tail)) ?_))), ?_⟩)
     replace hS := hS.ext hE
     intro i hi
     simp only [List.mem_cons, List.not_mem_nil, or_false] at hi
     subst hi
     ·
      refine any_op (by rfl) ?_
      refine m_alloc ti77 hS (fun w64 g64 hS => ?_)
      try simp only [opv, n1, n2, n3, n4, Value.cells, Array.toArray_toList] at hS ⊢
      replace hS : St NoB w0 w64 (.obj g64 (.cells (VA (mkV 0 nm0)) 77 (0, 0)) :: _) := hS
      refine x_nil ?_
      refine any_step [9] (by kernel_rfl) (by decide) (fun w65 hE => ⟨fun _ => (hS.ext hE).sel (by repeat (first | exact Sel.nil | (refine Sel.cons (by repeat (first | exact Del.head | apply Del.tail)) ?_))), ?_⟩)
      replace hS := hS.ext hE
      intro i hi
      simp only [List.mem_cons, List.not_mem_nil, or_false] at hi
      subst hi
      ·
       refine any_op (by rfl) ?_
       refine m_store_obj ti77 (hS := hS) (hc := by exact zi_whole (by omega) (by omega)) (hv := by (show (zi _ _).toArray.size = _; rw [zi_size (by omega)]; rfl)) (hfit := by (rw [zi_size (by omega)]; decide)) (h1 := by exact zi_one _ _) (h := fun w66 hS => ?_)
       try simp only [opv, n1, n2, n3, n4, Value.cells, Array.toArray_toList] at hS ⊢
       refine x_nil ?_
       refine any_step [10] (by kernel_rfl) (by decide) (fun w67 hE => ⟨fun _ => (hS.ext hE).sel (by repeat (first | exact Sel.nil | (refine Sel.cons (by repeat (first | exact Del.head | apply Del.tail)) ?_))), ?_⟩)
       replace hS := hS.ext hE
       intro i hi
       simp only [List.mem_cons, List.not_mem_nil, or_false] at hi
       subst hi
       ·
        refine any_op (by rfl) ?_
        refine m_store_obj ti77 (hS := hS) (hc := by exact zi_whole (by omega) (by omega)) (hv := by (show (zi _ _).toArray.size = _; rw [zi_size (by omega)]; rfl)) (hfit := by (rw [zi_size (by omega)]; decide)) (h1 := by exact zi_one _ _) (h := fun w68 hS => ?_)
        try simp only [opv, n1, n2, n3, n4, Value.cells, Array.toArray_toList] at hS ⊢
        refine x_nil ?_
        refine any_step [11] (by kernel_rfl) (by decide) (fun w69 hE => ⟨fun _ => (hS.ext hE).sel (by repeat (first | exact Sel.nil | (refine Sel.cons (by repeat (first | exact Del.head | apply Del.tail)) ?_))), ?_⟩)
        replace hS := hS.ext hE
        intro i hi
        simp only [List.mem_cons, List.not_mem_nil, or_false] at hi
        subst hi
        ·
         refine any_op (by rfl) ?_
         refine m_store_obj ti77 (hS := hS) (hc := by exact zi_whole (by omega) (by omega)) (hv := by (show (zi _ _).toArray.size = _; rw [zi_size (by omega)]; rfl)) (hfit := by (rw [zi_size (by omega)]; decide)) (h1 := by exact zi_one _ _) (h := fun w70 hS => ?_)
         try simp only [opv, n1, n2, n3, n4, Value.cells, Array.toArray_toList] at hS ⊢
         refine x_nil ?_
         refine any_nil (by kernel_rfl) (fun w71 hE => ?_)
         replace hS := hS.ext hE
         refine ⟨fun _ => hS.sel (by repeat (first | exact Sel.nil | (refine Sel.cons (by repeat (first | exact Del.head | apply Del.tail)) ?_))), ?_⟩
         refine mix_leaf (by simp only [clob, List.foldl, n1, n2, n3, n4]) ?_
         try simp only [n1, n2]
         exact ⟨_, _, _, rfl, rfl, rfl, hS.sel (by repeat (first | exact Sel.nil | (refine Sel.cons (by repeat (first | exact Del.head | apply Del.tail)) ?_)))⟩
  intro fm1 w72 hM
  obtain ⟨gx, gy, gz, h7, h8, h9, hS⟩ := hM
  simp only [clob, List.foldl, n3, n4, h7, h8, h9]
  refine hK5 _ _ ?_
  refine x_seq fun K6 hK6 => ?_
  refine x_region ?_
  refine s_go (m_load_row Try.underlying77 (hi := ti77) (hS := hS) (hfit := by (rw [zi_size (by omega)]; rfl))) ?_
  try simp only [opv, n1, n2, n3, n4, Value.cells, List.getElem_toArray, List.getElem_cons_zero, List.getElem_cons_succ]
  refine s_go (m_load_row Try.underlying77 (hi := ti77) (hS := hS) (hfit := by (rw [zi_size (by omega)]; rfl))) ?_
  try simp only [opv, n1, n2, n3, n4, Value.cells, List.getElem_toArray, List.getElem_cons_zero, List.getElem_cons_succ]
  refine s_call en51 ?_
  try simp only [opv, n1, n2, n3, n4, Value.cells, List.map_toArray, List.map_cons, List.map_nil, List.append_toArray, List.cons_append, List.nil_append, Array.append_empty]
  refine CallR.mono (c_atomMore x y hx hy _) ?_
  rintro _ w73 ⟨rfl, hE73⟩
  replace hS := hS.ext hE73
  try simp only [opv, n1, n2, n3, n4, Value.cells]
  refine m_alloc ti77 hS (fun w74 g74 hS => ?_)
  try simp only [opv, n1, n2, n3, n4, Value.cells, Array.toArray_toList] at hS ⊢
  replace hS : St NoB w0 w74 (.obj g74 (.cells (VA (mkV 0 nm0)) 77 (0, 0)) :: _) := hS
  obtain ⟨gm, hgm⟩ : ∃ z, z = g74 := ⟨_, rfl⟩
  rw [← hgm] at hS ⊢
  refine m_store_obj ti77 (hS := hS) (hc := by exact zi_whole (by omega) (by omega)) (hv := by (show (zi _ _).toArray.size = _; rw [zi_size (by omega)]; rfl)) (hfit := by (rw [zi_size (by omega)]; decide)) (h1 := by exact zi_one _ _) (h := fun w75 hS => ?_)
  try simp only [opv, n1, n2, n3, n4, Value.cells, Array.toArray_toList] at hS ⊢
  refine x_nil ?_
  refine hK6 _ _ ?_
  refine x_seq fun K7 hK7 => ?_
  refine x_seq fun K8 hK8 => ?_
  refine x_mixed_f [] 0 [26, 27, 28, 29, 30, 31, 32, 33, 34, 35, 36, 37, 38, 39, 40, 41, 42, 43, 44, 45, 46, 47, 48, 49, 50, 51, 52, 53, 54, 55, 56, 57, 58, 59, 60, 61, 62, 63, 64, 65, 66, 67, 68, 69, 70, 71, 72, 73, 74, 75, 76, 77, 78, 79, 80, 81, 82, 83, 84, 85, 86, 87] (fun f w => f 87 = .bool false ∧ St NoB w0 w [.obj g1 (.cells (AA a) 79 (0, 0)), .rd A 1 ms.length (ms.map (Value.int .u8))]) (by kernel_rfl) (by kernel_rfl) (by kernel_rfl) (by decide) hS (fun w76 hS => ?mixpre502) ?mixrest502
  case mixpre502 =>
   refine p_nil ?_
   simp only [List.length_cons, List.length_nil, Nat.reduceAdd, Nat.reduceSub]
   refine any_go (i := 0) (by rfl) (by decide +kernel) (by decide +kernel) noLate_nil (go_yields w_none (fun w hS => m_load_row Try.underlying77 (hi := ti77) (hS := hS) (hfit := by (rw [zi_size (by omega)]; rfl)))) ?_
   try simp only [opv, n1, n2, n3, n4, Value.cells, List.getElem_toArray, List.getElem_cons_zero, List.getElem_cons_succ]
   refine any_go (i := 1) (by rfl) (by decide +kernel) (by decide +kernel) noLate_nil (go_yields w_none (fun w hS => m_load_row Try.underlying77 (hi := ti77) (hS := hS) (hfit := by (rw [zi_size (by omega)]; rfl)))) ?_
   try simp only [opv, n1, n2, n3, n4, Value.cells, List.getElem_toArray, List.getElem_cons_zero, List.getElem_cons_succ]
   apply any_go (i := 2) (by rfl) (by decide +kernel) (by decide +kernel) noLate_nil (call_yields w_none en52 ?H1) ?K1
   case H1 =>
     intro w hS
     try simp only [opv, n1, n2, n3, n4, List.map_toArray, List.map_cons, List.map_nil, List.append_toArray, List.cons_append, List.nil_append, Array.append_empty]
     refine CallR.mono (c_atomOver (moreV x y) x hmo hx _) ?_
     rintro _ w1 ⟨rfl, hE⟩; exact ⟨rfl, hE⟩
   try simp only [opv, n1, n2, n3, n4, Value.cells]
   rw [more_left hx hy]
   refine any_go (i := 3) (by rfl) (by decide +kernel) (by decide +kernel) noLate_nil (go_yields w_none (fun w hS => s_not)) ?_
   try simp only [opv, n1, n2, n3, n4, Value.cells]
   refine any_go (i := 4) (by rfl) (by decide +kernel) (by decide +kernel) noLate_nil (go_yields w_none (fun w hS => s_move)) ?_
   try simp only [opv, n1, n2, n3, n4, Value.cells]
   refine any_go (i := 5) (by rfl) (by decide +kernel) (by decide +kernel) noLate_nil (go_yields (w_on (yi (t := 30) rfl rfl)) (fun w hS => m_load_row Try.underlying77 (hi := ti77) (hS := hS) (hfit := by (rw [zi_size (by omega)]; rfl)))) ?_
   try simp only [opv, n1, n2, n3, n4, Value.cells, List.getElem_toArray, List.getElem_cons_zero, List.getElem_cons_succ]
   refine any_go (i := 6) (by rfl) (by decide +kernel) (by decide +kernel) noLate_nil (go_yields (w_on (yi (t := 30) rfl rfl)) (fun w hS => m_load_row Try.underlying77 (hi := ti77) (hS := hS) (hfit := by (rw [zi_size (by omega)]; rfl)))) ?_
   try simp only [opv, n1, n2, n3, n4, Value.cells, List.getElem_toArray, List.getElem_cons_zero, List.getElem_cons_succ]
   apply any_go (i := 7) (by rfl) (by decide +kernel) (by decide +kernel) noLate_nil (call_yields (w_on (yi (t := 30) rfl rfl)) en52 ?H2) ?K2
   case H2 =>
     intro w hS
     try simp only [opv, n1, n2, n3, n4, List.map_toArray, List.map_cons, List.map_nil, List.append_toArray, List.cons_append, List.nil_append, Array.append_empty]
     refine CallR.mono (c_atomOver (moreV x y) y hmo hy _) ?_
     rintro _ w1 ⟨rfl, hE⟩; exact ⟨rfl, hE⟩
   try simp only [opv, n1, n2, n3, n4, Value.cells]
   rw [more_right hx hy]
   refine any_go (i := 8) (by rfl) (by decide +kernel) (by decide +kernel) noLate_nil (go_yields (w_on (yi (t := 30) rfl rfl)) (fun w hS => s_not)) ?_
   try simp only [opv, n1, n2, n3, n4, Value.cells]
   refine any_go (i := 9) (by rfl) (by decide +kernel) (by decide +kernel) noLate_nil (go_yields w_none (fun w hS => s_pick_f)) ?_
   try simp only [opv, n1, n2, n3, n4, Value.cells]
   refine any_go (i := 10) (by rfl) (by decide +kernel) (by decide +kernel) noLate_nil (go_yields w_none (fun w hS => s_move)) ?_
   try simp only [opv, n1, n2, n3, n4, Value.cells]
   refine any_go (i := 11) (by rfl) (by decide +kernel) (by decide +kernel) noLate_nil (go_yields (w_on (yi (t := 36) rfl rfl)) (fun w hS => m_load_row Try.underlying77 (hi := ti77) (hS := hS) (hfit := by (rw [zi_size (by omega)]; rfl)))) ?_
   try simp only [opv, n1, n2, n3, n4, Value.cells, List.getElem_toArray, List.getElem_cons_zero, List.getElem_cons_succ]
   refine any_go (i := 12) (by rfl) (by decide +kernel) (by decide +kernel) noLate_nil (go_yields (w_on (yi (t := 36) rfl rfl)) (fun w hS => m_load_row Try.underlying77 (hi := ti77) (hS := hS) (hfit := by (rw [zi_size (by omega)]; rfl)))) ?_
   try simp only [opv, n1, n2, n3, n4, Value.cells, List.getElem_toArray, List.getElem_cons_zero, List.getElem_cons_succ]
   refine any_go (i := 13) (by rfl) (by decide +kernel) (by decide +kernel) noLate_nil (go_yields (w_on (yi (t := 36) rfl rfl)) (fun w hS => s_neq_agg eqv77 (hg := eg77) (hX := rfl) (hY := rfl) (h1 := by assumption) (h2 := by assumption))) ?_
   try simp only [opv, n1, n2, n3, n4, Value.cells]
   refine any_go (i := 14) (by rfl) (by decide +kernel) (by decide +kernel) noLate_nil (go_yields (w_on (yi (t := 36) rfl rfl)) (fun w hS => s_move)) ?_
   try simp only [opv, n1, n2, n3, n4, Value.cells]
   refine any_part 40 rfl (fun hp1 => ?_) (fun hp1 => ?_)
   ·
    try simp only [n3, n4]
    try simp only [decide_eq_true_eq, decide_eq_false_iff_not, Bool.not_eq_true', Bool.not_eq_false', Int.not_lt, Int.not_le, ne_eq, Decidable.not_not] at hp1
    have hmx : ¬ moreV x y = x := by simpa using hp1
    have hmy : moreV x y = y := (more_or x y).resolve_left hmx
    refine any_go (i := 15) (by rfl) (by decide +kernel) (by decide +kernel) noLate_nil (go_yields (w_on (yi (t := 40) rfl rfl)) (fun w hS => m_load_row Try.underlying77 (hi := ti77) (hS := hS) (hfit := by (rw [zi_size (by omega)]; rfl)))) ?_
    try simp only [opv, n1, n2, n3, n4, Value.cells, List.getElem_toArray, List.getElem_cons_zero, List.getElem_cons_succ]
    refine any_go (i := 16) (by rfl) (by decide +kernel) (by decide +kernel) noLate_nil (go_yields (w_on (yi (t := 40) rfl rfl)) (fun w hS => m_load_row Try.underlying77 (hi := ti77) (hS := hS) (hfit := by (rw [zi_size (by omega)]; rfl)))) ?_
    try simp only [opv, n1, n2, n3, n4, Value.cells, List.getElem_toArray, List.getElem_cons_zero, List.getElem_cons_succ]
    refine any_go (i := 17) (by rfl) (by decide +kernel) (by decide +kernel) noLate_nil (go_yields (w_on (yi (t := 40) rfl rfl)) (fun w hS => s_neq_agg eqv77 (hg := eg77) (hX := rfl) (hY := rfl) (h1 := by assumption) (h2 := by assumption))) ?_
    try simp only [opv, n1, n2, n3, n4, Value.cells]
    rw [show (!decide (moreV x y = y)) = false by rw [decide_eq_true hmy]; rfl]
    refine any_go (i := 18) (by rfl) (by decide +kernel) (by decide +kernel) noLate_nil (go_yields (w_on (yi (t := 36) rfl rfl)) (fun w hS => s_pick_t)) ?_
    try simp only [opv, n1, n2, n3, n4, Value.cells]
    refine any_go (i := 19) (by rfl) (by decide +kernel) (by decide +kernel) noLate_nil (go_yields w_none (fun w hS => s_pick_f)) ?_
    try simp only [opv, n1, n2, n3, n4, Value.cells]
    refine any_go (i := 20) (by rfl) (by decide +kernel) (by decide +kernel) noLate_nil (go_yields w_none (fun w hS => s_move)) ?_
    try simp only [opv, n1, n2, n3, n4, Value.cells]
    refine any_go (i := 21) (by rfl) (by decide +kernel) (by decide +kernel) noLate_nil (go_yields (w_on (yi (t := 46) rfl rfl)) (fun w hS => m_load_row Try.underlying77 (hi := ti77) (hS := hS) (hfit := by (rw [zi_size (by omega)]; rfl)))) ?_
    try simp only [opv, n1, n2, n3, n4, Value.cells, List.getElem_toArray, List.getElem_cons_zero, List.getElem_cons_succ]
    refine any_go (i := 22) (by rfl) (by decide +kernel) (by decide +kernel) noLate_nil (go_yields (w_on (yi (t := 46) rfl rfl)) (fun w hS => m_load_row Try.underlying77 (hi := ti77) (hS := hS) (hfit := by (rw [zi_size (by omega)]; rfl)))) ?_
    try simp only [opv, n1, n2, n3, n4, Value.cells, List.getElem_toArray, List.getElem_cons_zero, List.getElem_cons_succ]
    apply any_go (i := 23) (by rfl) (by decide +kernel) (by decide +kernel) noLate_nil (call_yields (w_on (yi (t := 46) rfl rfl)) en52 ?H3) ?K3
    case H3 =>
      intro w hS
      try simp only [opv, n1, n2, n3, n4, List.map_toArray, List.map_cons, List.map_nil, List.append_toArray, List.cons_append, List.nil_append, Array.append_empty]
      refine CallR.mono (c_atomOver x y hx hy _) ?_
      rintro _ w1 ⟨rfl, hE⟩; exact ⟨rfl, hE⟩
    try simp only [opv, n1, n2, n3, n4, Value.cells]
    refine any_go (i := 24) (by rfl) (by decide +kernel) (by decide +kernel) noLate_nil (go_yields (w_on (yi (t := 46) rfl rfl)) (fun w hS => s_not)) ?_
    try simp only [opv, n1, n2, n3, n4, Value.cells]
    refine any_go (i := 25) (by rfl) (by decide +kernel) (by decide +kernel) noLate_nil (go_yields (w_on (yi (t := 46) rfl rfl)) (fun w hS => s_move)) ?_
    try simp only [opv, n1, n2, n3, n4, Value.cells]
    refine any_part 51 rfl (fun hp2 => ?_) (fun hp2 => ?_)
    ·
     try simp only [n3, n4]
     try simp only [decide_eq_true_eq, decide_eq_false_iff_not, Bool.not_eq_true', Bool.not_eq_false', Int.not_lt, Int.not_le, ne_eq, Decidable.not_not] at hp2
     have hxy : overV x y = false := by simpa using hp2
     refine any_go (i := 26) (by rfl) (by decide +kernel) (by decide +kernel) noLate_nil (go_yields (w_on (yi (t := 51) rfl rfl)) (fun w hS => m_load_row Try.underlying77 (hi := ti77) (hS := hS) (hfit := by (rw [zi_size (by omega)]; rfl)))) ?_
     try simp only [opv, n1, n2, n3, n4, Value.cells, List.getElem_toArray, List.getElem_cons_zero, List.getElem_cons_succ]
     refine any_go (i := 27) (by rfl) (by decide +kernel) (by decide +kernel) noLate_nil (go_yields (w_on (yi (t := 51) rfl rfl)) (fun w hS => m_load_row Try.underlying77 (hi := ti77) (hS := hS) (hfit := by (rw [zi_size (by omega)]; rfl)))) ?_
     try simp only [opv, n1, n2, n3, n4, Value.cells, List.getElem_toArray, List.getElem_cons_zero, List.getElem_cons_succ]
     apply any_go (i := 28) (by rfl) (by decide +kernel) (by decide +kernel) noLate_nil (call_yields (w_on (yi (t := 51) rfl rfl)) en52 ?H4) ?K4
     case H4 =>
       intro w hS
       try simp only [opv, n1, n2, n3, n4, List.map_toArray, List.map_cons, List.map_nil, List.append_toArray, List.cons_append, List.nil_append, Array.append_empty]
       refine CallR.mono (c_atomOver y x hy hx _) ?_
       rintro _ w1 ⟨rfl, hE⟩; exact ⟨rfl, hE⟩
     try simp only [opv, n1, n2, n3, n4, Value.cells]
     rw [over_total hx hy hxy]
     refine any_go (i := 29) (by rfl) (by decide +kernel) (by decide +kernel) noLate_nil (go_yields (w_on (yi (t := 51) rfl rfl)) (fun w hS => s_not)) ?_
     try simp only [opv, n1, n2, n3, n4, Value.cells]
     refine any_go (i := 30) (by rfl) (by decide +kernel) (by decide +kernel) noLate_nil (go_yields (w_on (yi (t := 46) rfl rfl)) (fun w hS => s_pick_t)) ?_
     try simp only [opv, n1, n2, n3, n4, Value.cells]
     refine any_go (i := 31) (by rfl) (by decide +kernel) (by decide +kernel) noLate_nil (go_yields w_none (fun w hS => s_pick_f)) ?_
     try simp only [opv, n1, n2, n3, n4, Value.cells]
     refine any_go (i := 32) (by rfl) (by decide +kernel) (by decide +kernel) noLate_nil (go_yields w_none (fun w hS => s_move)) ?_
     try simp only [opv, n1, n2, n3, n4, Value.cells]
     refine any_go (i := 33) (by rfl) (by decide +kernel) (by decide +kernel) noLate_nil (go_yields (w_on (yi (t := 58) rfl rfl)) (fun w hS => m_load_row Try.underlying77 (hi := ti77) (hS := hS) (hfit := by (rw [zi_size (by omega)]; rfl)))) ?_
     try simp only [opv, n1, n2, n3, n4, Value.cells, List.getElem_toArray, List.getElem_cons_zero, List.getElem_cons_succ]
     refine any_go (i := 34) (by rfl) (by decide +kernel) (by decide +kernel) noLate_nil (go_yields (w_on (yi (t := 58) rfl rfl)) (fun w hS => m_load_row Try.underlying77 (hi := ti77) (hS := hS) (hfit := by (rw [zi_size (by omega)]; rfl)))) ?_
     try simp only [opv, n1, n2, n3, n4, Value.cells, List.getElem_toArray, List.getElem_cons_zero, List.getElem_cons_succ]
     apply any_go (i := 35) (by rfl) (by decide +kernel) (by decide +kernel) noLate_nil (call_yields (w_on (yi (t := 58) rfl rfl)) en52 ?H5) ?K5
     case H5 =>
       intro w hS
       try simp only [opv, n1, n2, n3, n4, List.map_toArray, List.map_cons, List.map_nil, List.append_toArray, List.cons_append, List.nil_append, Array.append_empty]
       refine CallR.mono (c_atomOver x y hx hy _) ?_
       rintro _ w1 ⟨rfl, hE⟩; exact ⟨rfl, hE⟩
     try simp only [opv, n1, n2, n3, n4, Value.cells]
     rw [hxy]
     refine any_go (i := 36) (by rfl) (by decide +kernel) (by decide +kernel) noLate_nil (go_yields (w_on (yi (t := 58) rfl rfl)) (fun w hS => s_move)) ?_
     try simp only [opv, n1, n2, n3, n4, Value.cells]
     refine any_go (i := 37) (by rfl) (by decide +kernel) (by decide +kernel) noLate_nil (off_yields (yi (t := 62) rfl rfl)) ?_
     try simp only [opv, n1, n2, n3, n4, Value.cells]
     refine any_go (i := 38) (by rfl) (by decide +kernel) (by decide +kernel) noLate_nil (off_yields (yi (t := 62) rfl rfl)) ?_
     try simp only [opv, n1, n2, n3, n4, Value.cells]
     refine any_go (i := 39) (by rfl) (by decide +kernel) (by decide +kernel) noLate_nil (off_yields (yi (t := 62) rfl rfl)) ?_
     try simp only [opv, n1, n2, n3, n4, Value.cells]
     refine any_go (i := 40) (by rfl) (by decide +kernel) (by decide +kernel) noLate_nil (go_yields (w_on (yi (t := 58) rfl rfl)) (fun w hS => s_pick_f)) ?_
     try simp only [opv, n1, n2, n3, n4, Value.cells]
     refine any_go (i := 41) (by rfl) (by decide +kernel) (by decide +kernel) noLate_nil (go_yields (w_on (yi (t := 58) rfl rfl)) (fun w hS => s_move)) ?_
     try simp only [opv, n1, n2, n3, n4, Value.cells]
     refine any_go (i := 42) (by rfl) (by decide +kernel) (by decide +kernel) noLate_nil (off_yields (yi (t := 67) rfl rfl)) ?_
     try simp only [opv, n1, n2, n3, n4, Value.cells]
     refine any_go (i := 43) (by rfl) (by decide +kernel) (by decide +kernel) noLate_nil (off_yields (yi (t := 67) rfl rfl)) ?_
     try simp only [opv, n1, n2, n3, n4, Value.cells]
     refine any_go (i := 44) (by rfl) (by decide +kernel) (by decide +kernel) noLate_nil (off_yields (yi (t := 67) rfl rfl)) ?_
     try simp only [opv, n1, n2, n3, n4, Value.cells]
     refine any_go (i := 45) (by rfl) (by decide +kernel) (by decide +kernel) noLate_nil (off_yields (yi (t := 67) rfl rfl)) ?_
     try simp only [opv, n1, n2, n3, n4, Value.cells]
     refine any_go (i := 46) (by rfl) (by decide +kernel) (by decide +kernel) noLate_nil (go_yields (w_on (yi (t := 58) rfl rfl)) (fun w hS => s_pick_f)) ?_
     try simp only [opv, n1, n2, n3, n4, Value.cells]
     refine any_go (i := 47) (by rfl) (by decide +kernel) (by decide +kernel) noLate_nil (go_yields w_none (fun w hS => s_pick_f)) ?_
     try simp only [opv, n1, n2, n3, n4, Value.cells]
     refine any_go (i := 48) (by rfl) (by decide +kernel) (by decide +kernel) noLate_nil (go_yields w_none (fun w hS => s_move)) ?_
     try simp only [opv, n1, n2, n3, n4, Value.cells]
     refine any_go (i := 49) (by rfl) (by decide +kernel) (by decide +kernel) noLate_nil (go_yields (w_on (yi (t := 74) rfl rfl)) (fun w hS => m_load_row Try.underlying77 (hi := ti77) (hS := hS) (hfit := by (rw [zi_size (by omega)]; rfl)))) ?_
     try simp only [opv, n1, n2, n3, n4, Value.cells, List.getElem_toArray, List.getElem_cons_zero, List.getElem_cons_succ]
     refine any_go (i := 50) (by rfl) (by decide +kernel) (by decide +kernel) noLate_nil (go_yields (w_on (yi (t := 74) rfl rfl)) (fun w hS => m_load_row Try.underlying77 (hi := ti77) (hS := hS) (hfit := by (rw [zi_size (by omega)]; rfl)))) ?_
     try simp only [opv, n1, n2, n3, n4, Value.cells, List.getElem_toArray, List.getElem_cons_zero, List.getElem_cons_succ]
     apply any_go (i := 51) (by rfl) (by decide +kernel) (by decide +kernel) noLate_nil (call_yields (w_on (yi (t := 74) rfl rfl)) en52 ?H6) ?K6
     case H6 =>
       intro w hS
       try simp only [opv, n1, n2, n3, n4, List.map_toArray, List.map_cons, List.map_nil, List.append_toArray, List.cons_append, List.nil_append, Array.append_empty]
       refine CallR.mono (c_atomOver x y hx hy _) ?_
       rintro _ w1 ⟨rfl, hE⟩; exact ⟨rfl, hE⟩
     try simp only [opv, n1, n2, n3, n4, Value.cells]
     rw [hxy]
     refine any_go (i := 52) (by rfl) (by decide +kernel) (by decide +kernel) noLate_nil (go_yields (w_on (yi (t := 74) rfl rfl)) (fun w hS => s_move)) ?_
     try simp only [opv, n1, n2, n3, n4, Value.cells]
     refine any_go (i := 53) (by rfl) (by decide +kernel) (by decide +kernel) noLate_nil (off_yields (yi (t := 78) rfl rfl)) ?_
     try simp only [opv, n1, n2, n3, n4, Value.cells]
     refine any_go (i := 54) (by rfl) (by decide +kernel) (by decide +kernel) noLate_nil (off_yields (yi (t := 78) rfl rfl)) ?_
     try simp only [opv, n1, n2, n3, n4, Value.cells]
     refine any_go (i := 55) (by rfl) (by decide +kernel) (by decide +kernel) noLate_nil (off_yields (yi (t := 78) rfl rfl)) ?_
     try simp only [opv, n1, n2, n3, n4, Value.cells]
     refine any_go (i := 56) (by rfl) (by decide +kernel) (by decide +kernel) noLate_nil (go_yields (w_on (yi (t := 74) rfl rfl)) (fun w hS => s_pick_f)) ?_
     try simp only [opv, n1, n2, n3, n4, Value.cells]
     refine any_go (i := 57) (by rfl) (by decide +kernel) (by decide +kernel) noLate_nil (go_yields (w_on (yi (t := 74) rfl rfl)) (fun w hS => m_load_row Try.underlying77 (hi := ti77) (hS := hS) (hfit := by (rw [zi_size (by omega)]; rfl)))) ?_
     try simp only [opv, n1, n2, n3, n4, Value.cells, List.getElem_toArray, List.getElem_cons_zero, List.getElem_cons_succ]
     refine any_go (i := 58) (by rfl) (by decide +kernel) (by decide +kernel) noLate_nil (go_yields (w_on (yi (t := 74) rfl rfl)) (fun w hS => m_load_row Try.underlying77 (hi := ti77) (hS := hS) (hfit := by (rw [zi_size (by omega)]; rfl)))) ?_
     try simp only [opv, n1, n2, n3, n4, Value.cells, List.getElem_toArray, List.getElem_cons_zero, List.getElem_cons_succ]
     refine any_go (i := 59) (by rfl) (by decide +kernel) (by decide +kernel) noLate_nil (go_yields (w_on (yi (t := 74) rfl rfl)) (fun w hS => s_eql_agg eqv77 (hg := eg77) (hX := rfl) (hY := rfl) (h1 := by assumption) (h2 := by assumption))) ?_
     try simp only [opv, n1, n2, n3, n4, Value.cells]
     refine any_go (i := 60) (by rfl) (by decide +kernel) (by decide +kernel) noLate_nil (go_yields (w_on (yi (t := 74) rfl rfl)) (fun w hS => s_neq_bool Try.underlying4)) ?_
     try simp only [opv, n1, n2, n3, n4, Value.cells]
     rw [show decide (x = y) = false by have h := over_anti hx hy; rw [hxy, Bool.false_and] at h; exact h.symm]
     try simp only [beq_self_eq_true, Bool.not_true]
     refine any_go (i := 61) (by rfl) (by decide +kernel) (by decide +kernel) noLate_nil (go_yields w_none (fun w hS => s_pick_f)) ?_
     try simp only [opv, n1, n2, n3, n4, Value.cells]
     refine any_nil (by kernel_rfl) (fun w77 hE => ?_)
     replace hS := hS.ext hE
     refine ⟨fun _ => hS.sel (by repeat (first | exact Sel.nil | (refine Sel.cons (by repeat (exact Del.head)) ?_))), ?_⟩
     refine mix_leaf (by simp only [clob, List.foldl, n1, n2, n3, n4]) ?_
     try simp only [n1, n2]
     exact ⟨by trivial, hS.sel (by repeat (first | exact Sel.nil | (refine Sel.cons (by repeat (first | exact Del.head | apply Del.tail)) ?_)))⟩
    ·
     try simp only [n3, n4]
     try simp only [decide_eq_true_eq, decide_eq_false_iff_not, Bool.not_eq_true', Bool.not_eq_false', Int.not_lt, Int.not_le, ne_eq, Decidable.not_not] at hp2
     have hxy : overV x y = true := by simpa using hp2
     refine any_go (i := 26) (by rfl) (by decide +kernel) (by decide +kernel) noLate_nil (off_yields (yi (t := 51) rfl rfl)) ?_
     try simp only [opv, n1, n2, n3, n4, Value.cells]
     refine any_go (i := 27) (by rfl) (by decide +kernel) (by decide +kernel) noLate_nil (off_yields (yi (t := 51) rfl rfl)) ?_
     try simp only [opv, n1, n2, n3, n4, Value.cells]
     refine any_go (i := 28) (by rfl) (by decide +kernel) (by decide +kernel) noLate_nil (off_yields (yi (t := 51) rfl rfl)) ?_
     try simp only [opv, n1, n2, n3, n4, Value.cells]
     refine any_go (i := 29) (by rfl) (by decide +kernel) (by decide +kernel) noLate_nil (off_yields (yi (t := 51) rfl rfl)) ?_
     try simp only [opv, n1, n2, n3, n4, Value.cells]
     refine any_go (i := 30) (by rfl) (by decide +kernel) (by decide +kernel) noLate_nil (go_yields (w_on (yi (t := 46) rfl rfl)) (fun w hS => s_pick_f)) ?_
     try simp only [opv, n1, n2, n3, n4, Value.cells]
     refine any_go (i := 31) (by rfl) (by decide +kernel) (by decide +kernel) noLate_nil (go_yields w_none (fun w hS => s_pick_f)) ?_
     try simp only [opv, n1, n2, n3, n4, Value.cells]
     refine any_go (i := 32) (by rfl) (by decide +kernel) (by decide +kernel) noLate_nil (go_yields w_none (fun w hS => s_move)) ?_
     try simp only [opv, n1, n2, n3, n4, Value.cells]
     refine any_go (i := 33) (by rfl) (by decide +kernel) (by decide +kernel) noLate_nil (go_yields (w_on (yi (t := 58) rfl rfl)) (fun w hS => m_load_row Try.underlying77 (hi := ti77) (hS := hS) (hfit := by (rw [zi_size (by omega)]; rfl)))) ?_
     try simp only [opv, n1, n2, n3, n4, Value.cells, List.getElem_toArray, List.getElem_cons_zero, List.getElem_cons_succ]
     refine any_go (i := 34) (by rfl) (by decide +kernel) (by decide +kernel) noLate_nil (go_yields (w_on (yi (t := 58) rfl rfl)) (fun w hS => m_load_row Try.underlying77 (hi := ti77) (hS := hS) (hfit := by (rw [zi_size (by omega)]; rfl)))) ?_
     try simp only [opv, n1, n2, n3, n4, Value.cells, List.getElem_toArray, List.getElem_cons_zero, List.getElem_cons_succ]
     apply any_go (i := 35) (by rfl) (by decide +kernel) (by decide +kernel) noLate_nil (call_yields (w_on (yi (t := 58) rfl rfl)) en52 ?H7) ?K7
     case H7 =>
       intro w hS
       try simp only [opv, n1, n2, n3, n4, List.map_toArray, List.map_cons, List.map_nil, List.append_toArray, List.cons_append, List.nil_append, Array.append_empty]
       refine CallR.mono (c_atomOver x y hx hy _) ?_
       rintro _ w1 ⟨rfl, hE⟩; exact ⟨rfl, hE⟩
     try simp only [opv, n1, n2, n3, n4, Value.cells]
     rw [hxy]
     refine any_go (i := 36) (by rfl) (by decide +kernel) (by decide +kernel) noLate_nil (go_yields (w_on (yi (t := 58) rfl rfl)) (fun w hS => s_move)) ?_
     try simp only [opv, n1, n2, n3, n4, Value.cells]
     refine any_go (i := 37) (by rfl) (by decide +kernel) (by decide +kernel) noLate_nil (go_yields (w_on (yi (t := 62) rfl rfl)) (fun w hS => m_load_row Try.underlying77 (hi := ti77) (hS := hS) (hfit := by (rw [zi_size (by omega)]; rfl)))) ?_
     try simp only [opv, n1, n2, n3, n4, Value.cells, List.getElem_toArray, List.getElem_cons_zero, List.getElem_cons_succ]
     refine any_go (i := 38) (by rfl) (by decide +kernel) (by decide +kernel) noLate_nil (go_yields (w_on (yi (t := 62) rfl rfl)) (fun w hS => m_load_row Try.underlying77 (hi := ti77) (hS := hS) (hfit := by (rw [zi_size (by omega)]; rfl)))) ?_
     try simp only [opv, n1, n2, n3, n4, Value.cells, List.getElem_toArray, List.getElem_cons_zero, List.getElem_cons_succ]
     apply any_go (i := 39) (by rfl) (by decide +kernel) (by decide +kernel) noLate_nil (call_yields (w_on (yi (t := 62) rfl rfl)) en52 ?H8) ?K8
     case H8 =>
       intro w hS
       try simp only [opv, n1, n2, n3, n4, List.map_toArray, List.map_cons, List.map_nil, List.append_toArray, List.cons_append, List.nil_append, Array.append_empty]
       refine CallR.mono (c_atomOver y z hy hz _) ?_
       rintro _ w1 ⟨rfl, hE⟩; exact ⟨rfl, hE⟩
     try simp only [opv, n1, n2, n3, n4, Value.cells]
     refine any_go (i := 40) (by rfl) (by decide +kernel) (by decide +kernel) noLate_nil (go_yields (w_on (yi (t := 58) rfl rfl)) (fun w hS => s_pick_t)) ?_
     try simp only [opv, n1, n2, n3, n4, Value.cells]
     refine any_go (i := 41) (by rfl) (by decide +kernel) (by decide +kernel) noLate_nil (go_yields (w_on (yi (t := 58) rfl rfl)) (fun w hS => s_move)) ?_
     try simp only [opv, n1, n2, n3, n4, Value.cells]
     refine any_part 67 rfl (fun hp3 => ?_) (fun hp3 => ?_)
     ·
      try simp only [n3, n4]
      try simp only [decide_eq_true_eq, decide_eq_false_iff_not, Bool.not_eq_true', Bool.not_eq_false', Int.not_lt, Int.not_le, ne_eq, Decidable.not_not] at hp3
      have hyz : overV y z = true := hp3
      refine any_go (i := 42) (by rfl) (by decide +kernel) (by decide +kernel) noLate_nil (go_yields (w_on (yi (t := 67) rfl rfl)) (fun w hS => m_load_row Try.underlying77 (hi := ti77) (hS := hS) (hfit := by (rw [zi_size (by omega)]; rfl)))) ?_
      try simp only [opv, n1, n2, n3, n4, Value.cells, List.getElem_toArray, List.getElem_cons_zero, List.getElem_cons_succ]
      refine any_go (i := 43) (by rfl) (by decide +kernel) (by decide +kernel) noLate_nil (go_yields (w_on (yi (t := 67) rfl rfl)) (fun w hS => m_load_row Try.underlying77 (hi := ti77) (hS := hS) (hfit := by (rw [zi_size (by omega)]; rfl)))) ?_
      try simp only [opv, n1, n2, n3, n4, Value.cells, List.getElem_toArray, List.getElem_cons_zero, List.getElem_cons_succ]
      apply any_go (i := 44) (by rfl) (by decide +kernel) (by decide +kernel) noLate_nil (call_yields (w_on (yi (t := 67) rfl rfl)) en52 ?H9) ?K9
      case H9 =>
        intro w hS
        try simp only [opv, n1, n2, n3, n4, List.map_toArray, List.map_cons, List.map_nil, List.append_toArray, List.cons_append, List.nil_append, Array.append_empty]
        refine CallR.mono (c_atomOver x z hx hz _) ?_
        rintro _ w1 ⟨rfl, hE⟩; exact ⟨rfl, hE⟩
      try simp only [opv, n1, n2, n3, n4, Value.cells]
      rw [over_trans hx hy hz hxy hyz]
      refine any_go (i := 45) (by rfl) (by decide +kernel) (by decide +kernel) noLate_nil (go_yields (w_on (yi (t := 67) rfl rfl)) (fun w hS => s_not)) ?_
      try simp only [opv, n1, n2, n3, n4, Value.cells]
      refine any_go (i := 46) (by rfl) (by decide +kernel) (by decide +kernel) noLate_nil (go_yields (w_on (yi (t := 58) rfl rfl)) (fun w hS => s_pick_t)) ?_
      try simp only [opv, n1, n2, n3, n4, Value.cells]
      refine any_go (i := 47) (by rfl) (by decide +kernel) (by decide +kernel) noLate_nil (go_yields w_none (fun w hS => s_pick_f)) ?_
      try simp only [opv, n1, n2, n3, n4, Value.cells]
      refine any_go (i := 48) (by rfl) (by decide +kernel) (by decide +kernel) noLate_nil (go_yields w_none (fun w hS => s_move)) ?_
      try simp only [opv, n1, n2, n3, n4, Value.cells]
      refine any_go (i := 49) (by rfl) (by decide +kernel) (by decide +kernel) noLate_nil (go_yields (w_on (yi (t := 74) rfl rfl)) (fun w hS => m_load_row Try.underlying77 (hi := ti77) (hS := hS) (hfit := by (rw [zi_size (by omega)]; rfl)))) ?_
      try simp only [opv, n1, n2, n3, n4, Value.cells, List.getElem_toArray, List.getElem_cons_zero, List.getElem_cons_succ]
      refine any_go (i := 50) (by rfl) (by decide +kernel) (by decide +kernel) noLate_nil (go_yields (w_on (yi (t := 74) rfl rfl)) (fun w hS => m_load_row Try.underlying77 (hi := ti77) (hS := hS) (hfit := by (rw [zi_size (by omega)]; rfl)))) ?_
      try simp only [opv, n1, n2, n3, n4, Value.cells, List.getElem_toArray, List.getElem_cons_zero, List.getElem_cons_succ]
      apply any_go (i := 51) (by rfl) (by decide +kernel) (by decide +kernel) noLate_nil (call_yields (w_on (yi (t := 74) rfl rfl)) en52 ?H10) ?K10
      case H10 =>
        intro w hS
        try simp only [opv, n1, n2, n3, n4, List.map_toArray, List.map_cons, List.map_nil, List.append_toArray, List.cons_append, List.nil_append, Array.append_empty]
        refine CallR.mono (c_atomOver x y hx hy _) ?_
        rintro _ w1 ⟨rfl, hE⟩; exact ⟨rfl, hE⟩
      try simp only [opv, n1, n2, n3, n4, Value.cells]
      rw [hxy]
      refine any_go (i := 52) (by rfl) (by decide +kernel) (by decide +kernel) noLate_nil (go_yields (w_on (yi (t := 74) rfl rfl)) (fun w hS => s_move)) ?_
      try simp only [opv, n1, n2, n3, n4, Value.cells]
      refine any_go (i := 53) (by rfl) (by decide +kernel) (by decide +kernel) noLate_nil (go_yields (w_on (yi (t := 78) rfl rfl)) (fun w hS => m_load_row Try.underlying77 (hi := ti77) (hS := hS) (hfit := by (rw [zi_size (by omega)]; rfl)))) ?_
      try simp only [opv, n1, n2, n3, n4, Value.cells, List.getElem_toArray, List.getElem_cons_zero, List.getElem_cons_succ]
      refine any_go (i := 54) (by rfl) (by decide +kernel) (by decide +kernel) noLate_nil (go_yields (w_on (yi (t := 78) rfl rfl)) (fun w hS => m_load_row Try.underlying77 (hi := ti77) (hS := hS) (hfit := by (rw [zi_size (by omega)]; rfl)))) ?_
      try simp only [opv, n1, n2, n3, n4, Value.cells, List.getElem_toArray, List.getElem_cons_zero, List.getElem_cons_succ]
      apply any_go (i := 55) (by rfl) (by decide +kernel) (by decide +kernel) noLate_nil (call_yields (w_on (yi (t := 78) rfl rfl)) en52 ?H11) ?K11
      case H11 =>
        intro w hS
        try simp only [opv, n1, n2, n3, n4, List.map_toArray, List.map_cons, List.map_nil, List.append_toArray, List.cons_append, List.nil_append, Array.append_empty]
        refine CallR.mono (c_atomOver y x hy hx _) ?_
        rintro _ w1 ⟨rfl, hE⟩; exact ⟨rfl, hE⟩
      try simp only [opv, n1, n2, n3, n4, Value.cells]
      refine any_go (i := 56) (by rfl) (by decide +kernel) (by decide +kernel) noLate_nil (go_yields (w_on (yi (t := 74) rfl rfl)) (fun w hS => s_pick_t)) ?_
      try simp only [opv, n1, n2, n3, n4, Value.cells]
      refine any_go (i := 57) (by rfl) (by decide +kernel) (by decide +kernel) noLate_nil (go_yields (w_on (yi (t := 74) rfl rfl)) (fun w hS => m_load_row Try.underlying77 (hi := ti77) (hS := hS) (hfit := by (rw [zi_size (by omega)]; rfl)))) ?_
      try simp only [opv, n1, n2, n3, n4, Value.cells, List.getElem_toArray, List.getElem_cons_zero, List.getElem_cons_succ]
      refine any_go (i := 58) (by rfl) (by decide +kernel) (by decide +kernel) noLate_nil (go_yields (w_on (yi (t := 74) rfl rfl)) (fun w hS => m_load_row Try.underlying77 (hi := ti77) (hS := hS) (hfit := by (rw [zi_size (by omega)]; rfl)))) ?_
      try simp only [opv, n1, n2, n3, n4, Value.cells, List.getElem_toArray, List.getElem_cons_zero, List.getElem_cons_succ]
      refine any_go (i := 59) (by rfl) (by decide +kernel) (by decide +kernel) noLate_nil (go_yields (w_on (yi (t := 74) rfl rfl)) (fun w hS => s_eql_agg eqv77 (hg := eg77) (hX := rfl) (hY := rfl) (h1 := by assumption) (h2 := by assumption))) ?_
      try simp only [opv, n1, n2, n3, n4, Value.cells]
      refine any_go (i := 60) (by rfl) (by decide +kernel) (by decide +kernel) noLate_nil (go_yields (w_on (yi (t := 74) rfl rfl)) (fun w hS => s_neq_bool Try.underlying4)) ?_
      try simp only [opv, n1, n2, n3, n4, Value.cells]
      rw [show overV y x = decide (x = y) by have h := over_anti hx hy; rw [hxy, Bool.true_and] at h; exact h]
      try simp only [beq_self_eq_true, Bool.not_true]
      refine any_go (i := 61) (by rfl) (by decide +kernel) (by decide +kernel) noLate_nil (go_yields w_none (fun w hS => s_pick_f)) ?_
      try simp only [opv, n1, n2, n3, n4, Value.cells]
      refine any_nil (by kernel_rfl) (fun w78 hE => ?_)
      replace hS := hS.ext hE
      refine ⟨fun _ => hS.sel (by repeat (first | exact Sel.nil | (refine Sel.cons (by repeat (exact Del.head)) ?_))), ?_⟩
      refine mix_leaf (by simp only [clob, List.foldl, n1, n2, n3, n4]) ?_
      try simp only [n1, n2]
      exact ⟨by trivial, hS.sel (by repeat (first | exact Sel.nil | (refine Sel.cons (by repeat (first | exact Del.head | apply Del.tail)) ?_)))⟩
     ·
      try simp only [n3, n4]
      try simp only [decide_eq_true_eq, decide_eq_false_iff_not, Bool.not_eq_true', Bool.not_eq_false', Int.not_lt, Int.not_le, ne_eq, Decidable.not_not] at hp3
      have hyz : overV y z = false := by simpa using hp3
      refine any_go (i := 42) (by rfl) (by decide +kernel) (by decide +kernel) noLate_nil (off_yields (yi (t := 67) rfl rfl)) ?_
      try simp only [opv, n1, n2, n3, n4, Value.cells]
      refine any_go (i := 43) (by rfl) (by decide +kernel) (by decide +kernel) noLate_nil (off_yields (yi (t := 67) rfl rfl)) ?_
      try simp only [opv, n1, n2, n3, n4, Value.cells]
      refine any_go (i := 44) (by rfl) (by decide +kernel) (by decide +kernel) noLate_nil (off_yields (yi (t := 67) rfl rfl)) ?_
      try simp only [opv, n1, n2, n3, n4, Value.cells]
      refine any_go (i := 45) (by rfl) (by decide +kernel) (by decide +kernel) noLate_nil (off_yields (yi (t := 67) rfl rfl)) ?_
      try simp only [opv, n1, n2, n3, n4, Value.cells]
      refine any_go (i := 46) (by rfl) (by decide +kernel) (by decide +kernel) noLate_nil (go_yields (w_on (yi (t := 58) rfl rfl)) (fun w hS => s_pick_f)) ?_
      try simp only [opv, n1, n2, n3, n4, Value.cells]
      refine any_go (i := 47) (by rfl) (by decide +kernel) (by decide +kernel) noLate_nil (go_yields w_none (fun w hS => s_pick_f)) ?_
      try simp only [opv, n1, n2, n3, n4, Value.cells]
      refine any_go (i := 48) (by rfl) (by decide +kernel) (by decide +kernel) noLate_nil (go_yields w_none (fun w hS => s_move)) ?_
      try simp only [opv, n1, n2, n3, n4, Value.cells]
      refine any_go (i := 49) (by rfl) (by decide +kernel) (by decide +kernel) noLate_nil (go_yields (w_on (yi (t := 74) rfl rfl)) (fun w hS => m_load_row Try.underlying77 (hi := ti77) (hS := hS) (hfit := by (rw [zi_size (by omega)]; rfl)))) ?_
      try simp only [opv, n1, n2, n3, n4, Value.cells, List.getElem_toArray, List.getElem_cons_zero, List.getElem_cons_succ]
      refine any_go (i := 50) (by rfl) (by decide +kernel) (by decide +kernel) noLate_nil (go_yields (w_on (yi (t := 74) rfl rfl)) (fun w hS => m_load_row Try.underlying77 (hi := ti77) (hS := hS) (hfit := by (rw [zi_size (by omega)]; rfl)))) ?_
      try simp only [opv, n1, n2, n3, n4, Value.cells, List.getElem_toArray, List.getElem_cons_zero, List.getElem_cons_succ]
      apply any_go (i := 51) (by rfl) (by decide +kernel) (by decide +kernel) noLate_nil (call_yields (w_on (yi (t := 74) rfl rfl)) en52 ?H12) ?K12
      case H12 =>
        intro w hS
        try simp only [opv, n1, n2, n3, n4, List.map_toArray, List.map_cons, List.map_nil, List.append_toArray, List.cons_append, List.nil_append, Array.append_empty]
        refine CallR.mono (c_atomOver x y hx hy _) ?_
        rintro _ w1 ⟨rfl, hE⟩; exact ⟨rfl, hE⟩
      try simp only [opv, n1, n2, n3, n4, Value.cells]
      rw [hxy]
      refine any_go (i := 52) (by rfl) (by decide +kernel) (by decide +kernel) noLate_nil (go_yields (w_on (yi (t := 74) rfl rfl)) (fun w hS => s_move)) ?_
      try simp only [opv, n1, n2, n3, n4, Value.cells]
      refine any_go (i := 53) (by rfl) (by decide +kernel) (by decide +kernel) noLate_nil (go_yields (w_on (yi (t := 78) rfl rfl)) (fun w hS => m_load_row Try.underlying77 (hi := ti77) (hS := hS) (hfit := by (rw [zi_size (by omega)]; rfl)))) ?_
      try simp only [opv, n1, n2, n3, n4, Value.cells, List.getElem_toArray, List.getElem_cons_zero, List.getElem_cons_succ]
      refine any_go (i := 54) (by rfl) (by decide +kernel) (by decide +kernel) noLate_nil (go_yields (w_on (yi (t := 78) rfl rfl)) (fun w hS => m_load_row Try.underlying77 (hi := ti77) (hS := hS) (hfit := by (rw [zi_size (by omega)]; rfl)))) ?_
      try simp only [opv, n1, n2, n3, n4, Value.cells, List.getElem_toArray, List.getElem_cons_zero, List.getElem_cons_succ]
      apply any_go (i := 55) (by rfl) (by decide +kernel) (by decide +kernel) noLate_nil (call_yields (w_on (yi (t := 78) rfl rfl)) en52 ?H13) ?K13
      case H13 =>
        intro w hS
        try simp only [opv, n1, n2, n3, n4, List.map_toArray, List.map_cons, List.map_nil, List.append_toArray, List.cons_append, List.nil_append, Array.append_empty]
        refine CallR.mono (c_atomOver y x hy hx _) ?_
        rintro _ w1 ⟨rfl, hE⟩; exact ⟨rfl, hE⟩
      try simp only [opv, n1, n2, n3, n4, Value.cells]
      refine any_go (i := 56) (by rfl) (by decide +kernel) (by decide +kernel) noLate_nil (go_yields (w_on (yi (t := 74) rfl rfl)) (fun w hS => s_pick_t)) ?_
      try simp only [opv, n1, n2, n3, n4, Value.cells]
      refine any_go (i := 57) (by rfl) (by decide +kernel) (by decide +kernel) noLate_nil (go_yields (w_on (yi (t := 74) rfl rfl)) (fun w hS => m_load_row Try.underlying77 (hi := ti77) (hS := hS) (hfit := by (rw [zi_size (by omega)]; rfl)))) ?_
      try simp only [opv, n1, n2, n3, n4, Value.cells, List.getElem_toArray, List.getElem_cons_zero, List.getElem_cons_succ]
      refine any_go (i := 58) (by rfl) (by decide +kernel) (by decide +kernel) noLate_nil (go_yields (w_on (yi (t := 74) rfl rfl)) (fun w hS => m_load_row Try.underlying77 (hi := ti77) (hS := hS) (hfit := by (rw [zi_size (by omega)]; rfl)))) ?_
      try simp only [opv, n1, n2, n3, n4, Value.cells, List.getElem_toArray, List.getElem_cons_zero, List.getElem_cons_succ]
      refine any_go (i := 59) (by rfl) (by decide +kernel) (by decide +kernel) noLate_nil (go_yields (w_on (yi (t := 74) rfl rfl)) (fun w hS => s_eql_agg eqv77 (hg := eg77) (hX := rfl) (hY := rfl) (h1 := by assumption) (h2 := by assumption))) ?_
      try simp only [opv, n1, n2, n3, n4, Value.cells]
      refine any_go (i := 60) (by rfl) (by decide +kernel) (by decide +kernel) noLate_nil (go_yields (w_on (yi (t := 74) rfl rfl)) (fun w hS => s_neq_bool Try.underlying4)) ?_
      try simp only [opv, n1, n2, n3, n4, Value.cells]
      rw [show overV y x = decide (x = y) by have h := over_anti hx hy; rw [hxy, Bool.true_and] at h; exact h]
      try simp only [beq_self_eq_true, Bool.not_true]
      refine any_go (i := 61) (by rfl) (by decide +kernel) (by decide +kernel) noLate_nil (go_yields w_none (fun w hS => s_pick_f)) ?_
      try simp only [opv, n1, n2, n3, n4, Value.cells]
      refine any_nil (by kernel_rfl) (fun w79 hE => ?_)
      replace hS := hS.ext hE
      refine ⟨fun _ => hS.sel (by repeat (first | exact Sel.nil | (refine Sel.cons (by repeat (exact Del.head)) ?_))), ?_⟩
      refine mix_leaf (by simp only [clob, List.foldl, n1, n2, n3, n4]) ?_
      try simp only [n1, n2]
      exact ⟨by trivial, hS.sel (by repeat (first | exact Sel.nil | (refine Sel.cons (by repeat (first | exact Del.head | apply Del.tail)) ?_)))⟩
   ·
    try simp only [n3, n4]
    try simp only [decide_eq_true_eq, decide_eq_false_iff_not, Bool.not_eq_true', Bool.not_eq_false', Int.not_lt, Int.not_le, ne_eq, Decidable.not_not] at hp1
    have hmx : moreV x y = x := by simpa using hp1
    refine any_go (i := 15) (by rfl) (by decide +kernel) (by decide +kernel) noLate_nil (off_yields (yi (t := 40) rfl rfl)) ?_
    try simp only [opv, n1, n2, n3, n4, Value.cells]
    refine any_go (i := 16) (by rfl) (by decide +kernel) (by decide +kernel) noLate_nil (off_yields (yi (t := 40) rfl rfl)) ?_
    try simp only [opv, n1, n2, n3, n4, Value.cells]
    refine any_go (i := 17) (by rfl) (by decide +kernel) (by decide +kernel) noLate_nil (off_yields (yi (t := 40) rfl rfl)) ?_
    try simp only [opv, n1, n2, n3, n4, Value.cells]
    refine any_go (i := 18) (by rfl) (by decide +kernel) (by decide +kernel) noLate_nil (go_yields (w_on (yi (t := 36) rfl rfl)) (fun w hS => s_pick_f)) ?_
    try simp only [opv, n1, n2, n3, n4, Value.cells]
    refine any_go (i := 19) (by rfl) (by decide +kernel) (by decide +kernel) noLate_nil (go_yields w_none (fun w hS => s_pick_f)) ?_
    try simp only [opv, n1, n2, n3, n4, Value.cells]
    refine any_go (i := 20) (by rfl) (by decide +kernel) (by decide +kernel) noLate_nil (go_yields w_none (fun w hS => s_move)) ?_
    try simp only [opv, n1, n2, n3, n4, Value.cells]
    refine any_go (i := 21) (by rfl) (by decide +kernel) (by decide +kernel) noLate_nil (go_yields (w_on (yi (t := 46) rfl rfl)) (fun w hS => m_load_row Try.underlying77 (hi := ti77) (hS := hS) (hfit := by (rw [zi_size (by omega)]; rfl)))) ?_
    try simp only [opv, n1, n2, n3, n4, Value.cells, List.getElem_toArray, List.getElem_cons_zero, List.getElem_cons_succ]
    refine any_go (i := 22) (by rfl) (by decide +kernel) (by decide +kernel) noLate_nil (go_yields (w_on (yi (t := 46) rfl rfl)) (fun w hS => m_load_row Try.underlying77 (hi := ti77) (hS := hS) (hfit := by (rw [zi_size (by omega)]; rfl)))) ?_
    try simp only [opv, n1, n2, n3, n4, Value.cells, List.getElem_toArray, List.getElem_cons_zero, List.getElem_cons_succ]
    apply any_go (i := 23) (by rfl) (by decide +kernel) (by decide +kernel) noLate_nil (call_yields (w_on (yi (t := 46) rfl rfl)) en52 ?H14) ?K14
    case H14 =>
      intro w hS
      try simp only [opv, n1, n2, n3, n4, List.map_toArray, List.map_cons, List.map_nil, List.append_toArray, List.cons_append, List.nil_append, Array.append_empty]
      refine CallR.mono (c_atomOver x y hx hy _) ?_
      rintro _ w1 ⟨rfl, hE⟩; exact ⟨rfl, hE⟩
    try simp only [opv, n1, n2, n3, n4, Value.cells]
    refine any_go (i := 24) (by rfl) (by decide +kernel) (by decide +kernel) noLate_nil (go_yields (w_on (yi (t := 46) rfl rfl)) (fun w hS => s_not)) ?_
    try simp only [opv, n1, n2, n3, n4, Value.cells]
    refine any_go (i := 25) (by rfl) (by decide +kernel) (by decide +kernel) noLate_nil (go_yields (w_on (yi (t := 46) rfl rfl)) (fun w hS => s_move)) ?_
    try simp only [opv, n1, n2, n3, n4, Value.cells]
    refine any_part 51 rfl (fun hp4 => ?_) (fun hp4 => ?_)
    ·
     try simp only [n3, n4]
     try simp only [decide_eq_true_eq, decide_eq_false_iff_not, Bool.not_eq_true', Bool.not_eq_false', Int.not_lt, Int.not_le, ne_eq, Decidable.not_not] at hp4
     have hxy : overV x y = false := by simpa using hp4
     refine any_go (i := 26) (by rfl) (by decide +kernel) (by decide +kernel) noLate_nil (go_yields (w_on (yi (t := 51) rfl rfl)) (fun w hS => m_load_row Try.underlying77 (hi := ti77) (hS := hS) (hfit := by (rw [zi_size (by omega)]; rfl)))) ?_
     try simp only [opv, n1, n2, n3, n4, Value.cells, List.getElem_toArray, List.getElem_cons_zero, List.getElem_cons_succ]
     refine any_go (i := 27) (by rfl) (by decide +kernel) (by decide +kernel) noLate_nil (go_yields (w_on (yi (t := 51) rfl rfl)) (fun w hS => m_load_row Try.underlying77 (hi := ti77) (hS := hS) (hfit := by (rw [zi_size (by omega)]; rfl)))) ?_
     try simp only [opv, n1, n2, n3, n4, Value.cells, List.getElem_toArray, List.getElem_cons_zero, List.getElem_cons_succ]
     apply any_go (i := 28) (by rfl) (by decide +kernel) (by decide +kernel) noLate_nil (call_yields (w_on (yi (t := 51) rfl rfl)) en52 ?H15) ?K15
     case H15 =>
       intro w hS
       try simp only [opv, n1, n2, n3, n4, List.map_toArray, List.map_cons, List.map_nil, List.append_toArray, List.cons_append, List.nil_append, Array.append_empty]
       refine CallR.mono (c_atomOver y x hy hx _) ?_
       rintro _ w1 ⟨rfl, hE⟩; exact ⟨rfl, hE⟩
     try simp only [opv, n1, n2, n3, n4, Value.cells]
     rw [over_total hx hy hxy]
     refine any_go (i := 29) (by rfl) (by decide +kernel) (by decide +kernel) noLate_nil (go_yields (w_on (yi (t := 51) rfl rfl)) (fun w hS => s_not)) ?_
     try simp only [opv, n1, n2, n3, n4, Value.cells]
     refine any_go (i := 30) (by rfl) (by decide +kernel) (by decide +kernel) noLate_nil (go_yields (w_on (yi (t := 46) rfl rfl)) (fun w hS => s_pick_t)) ?_
     try simp only [opv, n1, n2, n3, n4, Value.cells]
     refine any_go (i := 31) (by rfl) (by decide +kernel) (by decide +kernel) noLate_nil (go_yields w_none (fun w hS => s_pick_f)) ?_
     try simp only [opv, n1, n2, n3, n4, Value.cells]
     refine any_go (i := 32) (by rfl) (by decide +kernel) (by decide +kernel) noLate_nil (go_yields w_none (fun w hS => s_move)) ?_
     try simp only [opv, n1, n2, n3, n4, Value.cells]
     refine any_go (i := 33) (by rfl) (by decide +kernel) (by decide +kernel) noLate_nil (go_yields (w_on (yi (t := 58) rfl rfl)) (fun w hS => m_load_row Try.underlying77 (hi := ti77) (hS := hS) (hfit := by (rw [zi_size (by omega)]; rfl)))) ?_
     try simp only [opv, n1, n2, n3, n4, Value.cells, List.getElem_toArray, List.getElem_cons_zero, List.getElem_cons_succ]
     refine any_go (i := 34) (by rfl) (by decide +kernel) (by decide +kernel) noLate_nil (go_yields (w_on (yi (t := 58) rfl rfl)) (fun w hS => m_load_row Try.underlying77 (hi := ti77) (hS := hS) (hfit := by (rw [zi_size (by omega)]; rfl)))) ?_
     try simp only [opv, n1, n2, n3, n4, Value.cells, List.getElem_toArray, List.getElem_cons_zero, List.getElem_cons_succ]
     apply any_go (i := 35) (by rfl) (by decide +kernel) (by decide +kernel) noLate_nil (call_yields (w_on (yi (t := 58) rfl rfl)) en52 ?H16) ?K16
     case H16 =>
       intro w hS
       try simp only [opv, n1, n2, n3, n4, List.map_toArray, List.map_cons, List.map_nil, List.append_toArray, List.cons_append, List.nil_append, Array.append_empty]
       refine CallR.mono (c_atomOver x y hx hy _) ?_
       rintro _ w1 ⟨rfl, hE⟩; exact ⟨rfl, hE⟩
     try simp only [opv, n1, n2, n3, n4, Value.cells]
     rw [hxy]
     refine any_go (i := 36) (by rfl) (by decide +kernel) (by decide +kernel) noLate_nil (go_yields (w_on (yi (t := 58) rfl rfl)) (fun w hS => s_move)) ?_
     try simp only [opv, n1, n2, n3, n4, Value.cells]
     refine any_go (i := 37) (by rfl) (by decide +kernel) (by decide +kernel) noLate_nil (off_yields (yi (t := 62) rfl rfl)) ?_
     try simp only [opv, n1, n2, n3, n4, Value.cells]
     refine any_go (i := 38) (by rfl) (by decide +kernel) (by decide +kernel) noLate_nil (off_yields (yi (t := 62) rfl rfl)) ?_
     try simp only [opv, n1, n2, n3, n4, Value.cells]
     refine any_go (i := 39) (by rfl) (by decide +kernel) (by decide +kernel) noLate_nil (off_yields (yi (t := 62) rfl rfl)) ?_
     try simp only [opv, n1, n2, n3, n4, Value.cells]
     refine any_go (i := 40) (by rfl) (by decide +kernel) (by decide +kernel) noLate_nil (go_yields (w_on (yi (t := 58) rfl rfl)) (fun w hS => s_pick_f)) ?_
     try simp only [opv, n1, n2, n3, n4, Value.cells]
     refine any_go (i := 41) (by rfl) (by decide +kernel) (by decide +kernel) noLate_nil (go_yields (w_on (yi (t := 58) rfl rfl)) (fun w hS => s_move)) ?_
     try simp only [opv, n1, n2, n3, n4, Value.cells]
     refine any_go (i := 42) (by rfl) (by decide +kernel) (by decide +kernel) noLate_nil (off_yields (yi (t := 67) rfl rfl)) ?_
     try simp only [opv, n1, n2, n3, n4, Value.cells]
     refine any_go (i := 43) (by rfl) (by decide +kernel) (by decide +kernel) noLate_nil (off_yields (yi (t := 67) rfl rfl)) ?_
     try simp only [opv, n1, n2, n3, n4, Value.cells]
     refine any_go (i := 44) (by rfl) (by decide +kernel) (by decide +kernel) noLate_nil (off_yields (yi (t := 67) rfl rfl)) ?_
     try simp only [opv, n1, n2, n3, n4, Value.cells]
     refine any_go (i := 45) (by rfl) (by decide +kernel) (by decide +kernel) noLate_nil (off_yields (yi (t := 67) rfl rfl)) ?_
     try simp only [opv, n1, n2, n3, n4, Value.cells]
     refine any_go (i := 46) (by rfl) (by decide +kernel) (by decide +kernel) noLate_nil (go_yields (w_on (yi (t := 58) rfl rfl)) (fun w hS => s_pick_f)) ?_
     try simp only [opv, n1, n2, n3, n4, Value.cells]
     refine any_go (i := 47) (by rfl) (by decide +kernel) (by decide +kernel) noLate_nil (go_yields w_none (fun w hS => s_pick_f)) ?_
     try simp only [opv, n1, n2, n3, n4, Value.cells]
     refine any_go (i := 48) (by rfl) (by decide +kernel) (by decide +kernel) noLate_nil (go_yields w_none (fun w hS => s_move)) ?_
     try simp only [opv, n1, n2, n3, n4, Value.cells]
     refine any_go (i := 49) (by rfl) (by decide +kernel) (by decide +kernel) noLate_nil (go_yields (w_on (yi (t := 74) rfl rfl)) (fun w hS => m_load_row Try.underlying77 (hi := ti77) (hS := hS) (hfit := by (rw [zi_size (by omega)]; rfl)))) ?_
     try simp only [opv, n1, n2, n3, n4, Value.cells, List.getElem_toArray, List.getElem_cons_zero, List.getElem_cons_succ]
     refine any_go (i := 50) (by rfl) (by decide +kernel) (by decide +kernel) noLate_nil (go_yields (w_on (yi (t := 74) rfl rfl)) (fun w hS => m_load_row Try.underlying77 (hi := ti77) (hS := hS) (hfit := by (rw [zi_size (by omega)]; rfl)))) ?_
     try simp only [opv, n1, n2, n3, n4, Value.cells, List.getElem_toArray, List.getElem_cons_zero, List.getElem_cons_succ]
     apply any_go (i := 51) (by rfl) (by decide +kernel) (by decide +kernel) noLate_nil (call_yields (w_on (yi (t := 74) rfl rfl)) en52 ?H17) ?K17
     case H17 =>
       intro w hS
       try simp only [opv, n1, n2, n3, n4, List.map_toArray, List.map_cons, List.map_nil, List.append_toArray, List.cons_append, List.nil_append, Array.append_empty]
       refine CallR.mono (c_atomOver x y hx hy _) ?_
       rintro _ w1 ⟨rfl, hE⟩; exact ⟨rfl, hE⟩
     try simp only [opv, n1, n2, n3, n4, Value.cells]
     rw [hxy]
     refine any_go (i := 52) (by rfl) (by decide +kernel) (by decide +kernel) noLate_nil (go_yields (w_on (yi (t := 74) rfl rfl)) (fun w hS => s_move)) ?_
     try simp only [opv, n1, n2, n3, n4, Value.cells]
     refine any_go (i := 53) (by rfl) (by decide +kernel) (by decide +kernel) noLate_nil (off_yields (yi (t := 78) rfl rfl)) ?_
     try simp only [opv, n1, n2, n3, n4, Value.cells]
     refine any_go (i := 54) (by rfl) (by decide +kernel) (by decide +kernel) noLate_nil (off_yields (yi (t := 78) rfl rfl)) ?_
     try simp only [opv, n1, n2, n3, n4, Value.cells]
     refine any_go (i := 55) (by rfl) (by decide +kernel) (by decide +kernel) noLate_nil (off_yields (yi (t := 78) rfl rfl)) ?_
     try simp only [opv, n1, n2, n3, n4, Value.cells]
     refine any_go (i := 56) (by rfl) (by decide +kernel) (by decide +kernel) noLate_nil (go_yields (w_on (yi (t := 74) rfl rfl)) (fun w hS => s_pick_f)) ?_
     try simp only [opv, n1, n2, n3, n4, Value.cells]
     refine any_go (i := 57) (by rfl) (by decide +kernel) (by decide +kernel) noLate_nil (go_yields (w_on (yi (t := 74) rfl rfl)) (fun w hS => m_load_row Try.underlying77 (hi := ti77) (hS := hS) (hfit := by (rw [zi_size (by omega)]; rfl)))) ?_
     try simp only [opv, n1, n2, n3, n4, Value.cells, List.getElem_toArray, List.getElem_cons_zero, List.getElem_cons_succ]
     refine any_go (i := 58) (by rfl) (by decide +kernel) (by decide +kernel) noLate_nil (go_yields (w_on (yi (t := 74) rfl rfl)) (fun w hS => m_load_row Try.underlying77 (hi := ti77) (hS := hS) (hfit := by (rw [zi_size (by omega)]; rfl)))) ?_
     try simp only [opv, n1, n2, n3, n4, Value.cells, List.getElem_toArray, List.getElem_cons_zero, List.getElem_cons_succ]
     refine any_go (i := 59) (by rfl) (by decide +kernel) (by decide +kernel) noLate_nil (go_yields (w_on (yi (t := 74) rfl rfl)) (fun w hS => s_eql_agg eqv77 (hg := eg77) (hX := rfl) (hY := rfl) (h1 := by assumption) (h2 := by assumption))) ?_
     try simp only [opv, n1, n2, n3, n4, Value.cells]
     refine any_go (i := 60) (by rfl) (by decide +kernel) (by decide +kernel) noLate_nil (go_yields (w_on (yi (t := 74) rfl rfl)) (fun w hS => s_neq_bool Try.underlying4)) ?_
     try simp only [opv, n1, n2, n3, n4, Value.cells]
     rw [show decide (x = y) = false by have h := over_anti hx hy; rw [hxy, Bool.false_and] at h; exact h.symm]
     try simp only [beq_self_eq_true, Bool.not_true]
     refine any_go (i := 61) (by rfl) (by decide +kernel) (by decide +kernel) noLate_nil (go_yields w_none (fun w hS => s_pick_f)) ?_
     try simp only [opv, n1, n2, n3, n4, Value.cells]
     refine any_nil (by kernel_rfl) (fun w80 hE => ?_)
     replace hS := hS.ext hE
     refine ⟨fun _ => hS.sel (by repeat (first | exact Sel.nil | (refine Sel.cons (by repeat (exact Del.head)) ?_))), ?_⟩
     refine mix_leaf (by simp only [clob, List.foldl, n1, n2, n3, n4]) ?_
     try simp only [n1, n2]
     exact ⟨by trivial, hS.sel (by repeat (first | exact Sel.nil | (refine Sel.cons (by repeat (first | exact Del.head | apply Del.tail)) ?_)))⟩
    ·
     try simp only [n3, n4]
     try simp only [decide_eq_true_eq, decide_eq_false_iff_not, Bool.not_eq_true', Bool.not_eq_false', Int.not_lt, Int.not_le, ne_eq, Decidable.not_not] at hp4
     have hxy : overV x y = true := by simpa using hp4
     refine any_go (i := 26) (by rfl) (by decide +kernel) (by decide +kernel) noLate_nil (off_yields (yi (t := 51) rfl rfl)) ?_
     try simp only [opv, n1, n2, n3, n4, Value.cells]
     refine any_go (i := 27) (by rfl) (by decide +kernel) (by decide +kernel) noLate_nil (off_yields (yi (t := 51) rfl rfl)) ?_
     try simp only [opv, n1, n2, n3, n4, Value.cells]
     refine any_go (i := 28) (by rfl) (by decide +kernel) (by decide +kernel) noLate_nil (off_yields (yi (t := 51) rfl rfl)) ?_
     try simp only [opv, n1, n2, n3, n4, Value.cells]
     refine any_go (i := 29) (by rfl) (by decide +kernel) (by decide +kernel) noLate_nil (off_yields (yi (t := 51) rfl rfl)) ?_
     try simp only [opv, n1, n2, n3, n4, Value.cells]
     refine any_go (i := 30) (by rfl) (by decide +kernel) (by decide +kernel) noLate_nil (go_yields (w_on (yi (t := 46) rfl rfl)) (fun w hS => s_pick_f)) ?_
     try simp only [opv, n1, n2, n3, n4, Value.cells]
     refine any_go (i := 31) (by rfl) (by decide +kernel) (by decide +kernel) noLate_nil (go_yields w_none (fun w hS => s_pick_f)) ?_
     try simp only [opv, n1, n2, n3, n4, Value.cells]
     refine any_go (i := 32) (by rfl) (by decide +kernel) (by decide +kernel) noLate_nil (go_yields w_none (fun w hS => s_move)) ?_
     try simp only [opv, n1, n2, n3, n4, Value.cells]
     refine any_go (i := 33) (by rfl) (by decide +kernel) (by decide +kernel) noLate_nil (go_yields (w_on (yi (t := 58) rfl rfl)) (fun w hS => m_load_row Try.underlying77 (hi := ti77) (hS := hS) (hfit := by (rw [zi_size (by omega)]; rfl)))) ?_
     try simp only [opv, n1, n2, n3, n4, Value.cells, List.getElem_toArray, List.getElem_cons_zero, List.getElem_cons_succ]
     refine any_go (i := 34) (by rfl) (by decide +kernel) (by decide +kernel) noLate_nil (go_yields (w_on (yi (t := 58) rfl rfl)) (fun w hS => m_load_row Try.underlying77 (hi := ti77) (hS := hS) (hfit := by (rw [zi_size (by omega)]; rfl)))) ?_
     try simp only [opv, n1, n2, n3, n4, Value.cells, List.getElem_toArray, List.getElem_cons_zero, List.getElem_cons_succ]
     apply any_go (i := 35) (by rfl) (by decide +kernel) (by decide +kernel) noLate_nil (call_yields (w_on (yi (t := 58) rfl rfl)) en52 ?H18) ?K18
     case H18 =>
       intro w hS
       try simp only [opv, n1, n2, n3, n4, List.map_toArray, List.map_cons, List.map_nil, List.append_toArray, List.cons_append, List.nil_append, Array.append_empty]
       refine CallR.mono (c_atomOver x y hx hy _) ?_
       rintro _ w1 ⟨rfl, hE⟩; exact ⟨rfl, hE⟩
     try simp only [opv, n1, n2, n3, n4, Value.cells]
     rw [hxy]
     refine any_go (i := 36) (by rfl) (by decide +kernel) (by decide +kernel) noLate_nil (go_yields (w_on (yi (t := 58) rfl rfl)) (fun w hS => s_move)) ?_
     try simp only [opv, n1, n2, n3, n4, Value.cells]
     refine any_go (i := 37) (by rfl) (by decide +kernel) (by decide +kernel) noLate_nil (go_yields (w_on (yi (t := 62) rfl rfl)) (fun w hS => m_load_row Try.underlying77 (hi := ti77) (hS := hS) (hfit := by (rw [zi_size (by omega)]; rfl)))) ?_
     try simp only [opv, n1, n2, n3, n4, Value.cells, List.getElem_toArray, List.getElem_cons_zero, List.getElem_cons_succ]
     refine any_go (i := 38) (by rfl) (by decide +kernel) (by decide +kernel) noLate_nil (go_yields (w_on (yi (t := 62) rfl rfl)) (fun w hS => m_load_row Try.underlying77 (hi := ti77) (hS := hS) (hfit := by (rw [zi_size (by omega)]; rfl)))) ?_
     try simp only [opv, n1, n2, n3, n4, Value.cells, List.getElem_toArray, List.getElem_cons_zero, List.getElem_cons_succ]
     apply any_go (i := 39) (by rfl) (by decide +kernel) (by decide +kernel) noLate_nil (call_yields (w_on (yi (t := 62) rfl rfl)) en52 ?H19) ?K19
     case H19 =>
       intro w hS
       try simp only [opv, n1, n2, n3, n4, List.map_toArray, List.map_cons, List.map_nil, List.append_toArray, List.cons_append, List.nil_append, Array.append_empty]
       refine CallR.mono (c_atomOver y z hy hz _) ?_
       rintro _ w1 ⟨rfl, hE⟩; exact ⟨rfl, hE⟩
     try simp only [opv, n1, n2, n3, n4, Value.cells]
     refine any_go (i := 40) (by rfl) (by decide +kernel) (by decide +kernel) noLate_nil (go_yields (w_on (yi (t := 58) rfl rfl)) (fun w hS => s_pick_t)) ?_
     try simp only [opv, n1, n2, n3, n4, Value.cells]
     refine any_go (i := 41) (by rfl) (by decide +kernel) (by decide +kernel) noLate_nil (go_yields (w_on (yi (t := 58) rfl rfl)) (fun w hS => s_move)) ?_
     try simp only [opv, n1, n2, n3, n4, Value.cells]
     refine any_part 67 rfl (fun hp5 => ?_) (fun hp5 => ?_)
     ·
      try simp only [n3, n4]
      try simp only [decide_eq_true_eq, decide_eq_false_iff_not, Bool.not_eq_true', Bool.not_eq_false', Int.not_lt, Int.not_le, ne_eq, Decidable.not_not] at hp5
      have hyz : overV y z = true := hp5
      refine any_go (i := 42) (by rfl) (by decide +kernel) (by decide +kernel) noLate_nil (go_yields (w_on (yi (t := 67) rfl rfl)) (fun w hS => m_load_row Try.underlying77 (hi := ti77) (hS := hS) (hfit := by (rw [zi_size (by omega)]; rfl)))) ?_
      try simp only [opv, n1, n2, n3, n4, Value.cells, List.getElem_toArray, List.getElem_cons_zero, List.getElem_cons_succ]
      refine any_go (i := 43) (by rfl) (by decide +kernel) (by decide +kernel) noLate_nil (go_yields (w_on (yi (t := 67) rfl rfl)) (fun w hS => m_load_row Try.underlying77 (hi := ti77) (hS := hS) (hfit := by (rw [zi_size (by omega)]; rfl)))) ?_
      try simp only [opv, n1, n2, n3, n4, Value.cells, List.getElem_toArray, List.getElem_cons_zero, List.getElem_cons_succ]
      apply any_go (i := 44) (by rfl) (by decide +kernel) (by decide +kernel) noLate_nil (call_yields (w_on (yi (t := 67) rfl rfl)) en52 ?H20) ?K20
      case H20 =>
        intro w hS
        try simp only [opv, n1, n2, n3, n4, List.map_toArray, List.map_cons, List.map_nil, List.append_toArray, List.cons_append, List.nil_append, Array.append_empty]
        refine CallR.mono (c_atomOver x z hx hz _) ?_
        rintro _ w1 ⟨rfl, hE⟩; exact ⟨rfl, hE⟩
      try simp only [opv, n1, n2, n3, n4, Value.cells]
      rw [over_trans hx hy hz hxy hyz]
      refine any_go (i := 45) (by rfl) (by decide +kernel) (by decide +kernel) noLate_nil (go_yields (w_on (yi (t := 67) rfl rfl)) (fun w hS => s_not)) ?_
      try simp only [opv, n1, n2, n3, n4, Value.cells]
      refine any_go (i := 46) (by rfl) (by decide +kernel) (by decide +kernel) noLate_nil (go_yields (w_on (yi (t := 58) rfl rfl)) (fun w hS => s_pick_t)) ?_
      try simp only [opv, n1, n2, n3, n4, Value.cells]
      refine any_go (i := 47) (by rfl) (by decide +kernel) (by decide +kernel) noLate_nil (go_yields w_none (fun w hS => s_pick_f)) ?_
      try simp only [opv, n1, n2, n3, n4, Value.cells]
      refine any_go (i := 48) (by rfl) (by decide +kernel) (by decide +kernel) noLate_nil (go_yields w_none (fun w hS => s_move)) ?_
      try simp only [opv, n1, n2, n3, n4, Value.cells]
      refine any_go (i := 49) (by rfl) (by decide +kernel) (by decide +kernel) noLate_nil (go_yields (w_on (yi (t := 74) rfl rfl)) (fun w hS => m_load_row Try.underlying77 (hi := ti77) (hS := hS) (hfit := by (rw [zi_size (by omega)]; rfl)))) ?_
      try simp only [opv, n1, n2, n3, n4, Value.cells, List.getElem_toArray, List.getElem_cons_zero, List.getElem_cons_succ]
      refine any_go (i := 50) (by rfl) (by decide +kernel) (by decide +kernel) noLate_nil (go_yields (w_on (yi (t := 74) rfl rfl)) (fun w hS => m_load_row Try.underlying77 (hi := ti77) (hS := hS) (hfit := by (rw [zi_size (by omega)]; rfl)))) ?_
      try simp only [opv, n1, n2, n3, n4, Value.cells, List.getElem_toArray, List.getElem_cons_zero, List.getElem_cons_succ]
      apply any_go (i := 51) (by rfl) (by decide +kernel) (by decide +kernel) noLate_nil (call_yields (w_on (yi (t := 74) rfl rfl)) en52 ?H21) ?K21
      case H21 =>
        intro w hS
        try simp only [opv, n1, n2, n3, n4, List.map_toArray, List.map_cons, List.map_nil, List.append_toArray, List.cons_append, List.nil_append, Array.append_empty]
        refine CallR.mono (c_atomOver x y hx hy _) ?_
        rintro _ w1 ⟨rfl, hE⟩; exact ⟨rfl, hE⟩
      try simp only [opv, n1, n2, n3, n4, Value.cells]
      rw [hxy]
      refine any_go (i := 52) (by rfl) (by decide +kernel) (by decide +kernel) noLate_nil (go_yields (w_on (yi (t := 74) rfl rfl)) (fun w hS => s_move)) ?_
      try simp only [opv, n1, n2, n3, n4, Value.cells]
      refine any_go (i := 53) (by rfl) (by decide +kernel) (by decide +kernel) noLate_nil (go_yields (w_on (yi (t := 78) rfl rfl)) (fun w hS => m_load_row Try.underlying77 (hi := ti77) (hS := hS) (hfit := by (rw [zi_size (by omega)]; rfl)))) ?_
      try simp only [opv, n1, n2, n3, n4, Value.cells, List.getElem_toArray, List.getElem_cons_zero, List.getElem_cons_succ]
      refine any_go (i := 54) (by rfl) (by decide +kernel) (by decide +kernel) noLate_nil (go_yields (w_on (yi (t := 78) rfl rfl)) (fun w hS => m_load_row Try.underlying77 (hi := ti77) (hS := hS) (hfit := by (rw [zi_size (by omega)]; rfl)))) ?_
      try simp only [opv, n1, n2, n3, n4, Value.cells, List.getElem_toArray, List.getElem_cons_zero, List.getElem_cons_succ]
      apply any_go (i := 55) (by rfl) (by decide +kernel) (by decide +kernel) noLate_nil (call_yields (w_on (yi (t := 78) rfl rfl)) en52 ?H22) ?K22
      case H22 =>
        intro w hS
        try simp only [opv, n1, n2, n3, n4, List.map_toArray, List.map_cons, List.map_nil, List.append_toArray, List.cons_append, List.nil_append, Array.append_empty]
        refine CallR.mono (c_atomOver y x hy hx _) ?_
        rintro _ w1 ⟨rfl, hE⟩; exact ⟨rfl, hE⟩
      try simp only [opv, n1, n2, n3, n4, Value.cells]
      refine any_go (i := 56) (by rfl) (by decide +kernel) (by decide +kernel) noLate_nil (go_yields (w_on (yi (t := 74) rfl rfl)) (fun w hS => s_pick_t)) ?_
      try simp only [opv, n1, n2, n3, n4, Value.cells]
      refine any_go (i := 57) (by rfl) (by decide +kernel) (by decide +kernel) noLate_nil (go_yields (w_on (yi (t := 74) rfl rfl)) (fun w hS => m_load_row Try.underlying77 (hi := ti77) (hS := hS) (hfit := by (rw [zi_size (by omega)]; rfl)))) ?_
      try simp only [opv, n1, n2, n3, n4, Value.cells, List.getElem_toArray, List.getElem_cons_zero, List.getElem_cons_succ]
      refine any_go (i := 58) (by rfl) (by decide +kernel) (by decide +kernel) noLate_nil (go_yields (w_on (yi (t := 74) rfl rfl)) (fun w hS => m_load_row Try.underlying77 (hi := ti77) (hS := hS) (hfit := by (rw [zi_size (by omega)]; rfl)))) ?_
      try simp only [opv, n1, n2, n3, n4, Value.cells, List.getElem_toArray, List.getElem_cons_zero, List.getElem_cons_succ]
      refine any_go (i := 59) (by rfl) (by decide +kernel) (by decide +kernel) noLate_nil (go_yields (w_on (yi (t := 74) rfl rfl)) (fun w hS => s_eql_agg eqv77 (hg := eg77) (hX := rfl) (hY := rfl) (h1 := by assumption) (h2 := by assumption))) ?_
      try simp only [opv, n1, n2, n3, n4, Value.cells]
      refine any_go (i := 60) (by rfl) (by decide +kernel) (by decide +kernel) noLate_nil (go_yields (w_on (yi (t := 74) rfl rfl)) (fun w hS => s_neq_bool Try.underlying4)) ?_
      try simp only [opv, n1, n2, n3, n4, Value.cells]
      rw [show overV y x = decide (x = y) by have h := over_anti hx hy; rw [hxy, Bool.true_and] at h; exact h]
      try simp only [beq_self_eq_true, Bool.not_true]
      refine any_go (i := 61) (by rfl) (by decide +kernel) (by decide +kernel) noLate_nil (go_yields w_none (fun w hS => s_pick_f)) ?_
      try simp only [opv, n1, n2, n3, n4, Value.cells]
      refine any_nil (by kernel_rfl) (fun w81 hE => ?_)
      replace hS := hS.ext hE
      refine ⟨fun _ => hS.sel (by repeat (first | exact Sel.nil | (refine Sel.cons (by repeat (exact Del.head)) ?_))), ?_⟩
      refine mix_leaf (by simp only [clob, List.foldl, n1, n2, n3, n4]) ?_
      try simp only [n1, n2]
      exact ⟨by trivial, hS.sel (by repeat (first | exact Sel.nil | (refine Sel.cons (by repeat (first | exact Del.head | apply Del.tail)) ?_)))⟩
     ·
      try simp only [n3, n4]
      try simp only [decide_eq_true_eq, decide_eq_false_iff_not, Bool.not_eq_true', Bool.not_eq_false', Int.not_lt, Int.not_le, ne_eq, Decidable.not_not] at hp5
      have hyz : overV y z = false := by simpa using hp5
      refine any_go (i := 42) (by rfl) (by decide +kernel) (by decide +kernel) noLate_nil (off_yields (yi (t := 67) rfl rfl)) ?_
      try simp only [opv, n1, n2, n3, n4, Value.cells]
      refine any_go (i := 43) (by rfl) (by decide +kernel) (by decide +kernel) noLate_nil (off_yields (yi (t := 67) rfl rfl)) ?_
      try simp only [opv, n1, n2, n3, n4, Value.cells]
      refine any_go (i := 44) (by rfl) (by decide +kernel) (by decide +kernel) noLate_nil (off_yields (yi (t := 67) rfl rfl)) ?_
      try simp only [opv, n1, n2, n3, n4, Value.cells]
      refine any_go (i := 45) (by rfl) (by decide +kernel) (by decide +kernel) noLate_nil (off_yields (yi (t := 67) rfl rfl)) ?_
      try simp only [opv, n1, n2, n3, n4, Value.cells]
      refine any_go (i := 46) (by rfl) (by decide +kernel) (by decide +kernel) noLate_nil (go_yields (w_on (yi (t := 58) rfl rfl)) (fun w hS => s_pick_f)) ?_
      try simp only [opv, n1, n2, n3, n4, Value.cells]
      refine any_go (i := 47) (by rfl) (by decide +kernel) (by decide +kernel) noLate_nil (go_yields w_none (fun w hS => s_pick_f)) ?_
      try simp only [opv, n1, n2, n3, n4, Value.cells]
      refine any_go (i := 48) (by rfl) (by decide +kernel) (by decide +kernel) noLate_nil (go_yields w_none (fun w hS => s_move)) ?_
      try simp only [opv, n1, n2, n3, n4, Value.cells]
      refine any_go (i := 49) (by rfl) (by decide +kernel) (by decide +kernel) noLate_nil (go_yields (w_on (yi (t := 74) rfl rfl)) (fun w hS => m_load_row Try.underlying77 (hi := ti77) (hS := hS) (hfit := by (rw [zi_size (by omega)]; rfl)))) ?_
      try simp only [opv, n1, n2, n3, n4, Value.cells, List.getElem_toArray, List.getElem_cons_zero, List.getElem_cons_succ]
      refine any_go (i := 50) (by rfl) (by decide +kernel) (by decide +kernel) noLate_nil (go_yields (w_on (yi (t := 74) rfl rfl)) (fun w hS => m_load_row Try.underlying77 (hi := ti77) (hS := hS) (hfit := by (rw [zi_size (by omega)]; rfl)))) ?_
      try simp only [opv, n1, n2, n3, n4, Value.cells, List.getElem_toArray, List.getElem_cons_zero, List.getElem_cons_succ]
      apply any_go (i := 51) (by rfl) (by decide +kernel) (by decide +kernel) noLate_nil (call_yields (w_on (yi (t := 74) rfl rfl)) en52 ?H23) ?K23
      case H23 =>
        intro w hS
        try simp only [opv, n1, n2, n3, n4, List.map_toArray, List.map_cons, List.map_nil, List.append_toArray, List.cons_append, List.nil_append, Array.append_empty]
        refine CallR.mono (c_atomOver x y hx hy _) ?_
        rintro _ w1 ⟨rfl, hE⟩; exact ⟨rfl, hE⟩
      try simp only [opv, n1, n2, n3, n4, Value.cells]
      rw [hxy]
      refine any_go (i := 52) (by rfl) (by decide +kernel) (by decide +kernel) noLate_nil (go_yields (w_on (yi (t := 74) rfl rfl)) (fun w hS => s_move)) ?_
      try simp only [opv, n1, n2, n3, n4, Value.cells]
      refine any_go (i := 53) (by rfl) (by decide +kernel) (by decide +kernel) noLate_nil (go_yields (w_on (yi (t := 78) rfl rfl)) (fun w hS => m_load_row Try.underlying77 (hi := ti77) (hS := hS) (hfit := by (rw [zi_size (by omega)]; rfl)))) ?_
      try simp only [opv, n1, n2, n3, n4, Value.cells, List.getElem_toArray, List.getElem_cons_zero, List.getElem_cons_succ]
      refine any_go (i := 54) (by rfl) (by decide +kernel) (by decide +kernel) noLate_nil (go_yields (w_on (yi (t := 78) rfl rfl)) (fun w hS => m_load_row Try.underlying77 (hi := ti77) (hS := hS) (hfit := by (rw [zi_size (by omega)]; rfl)))) ?_
      try simp only [opv, n1, n2, n3, n4, Value.cells, List.getElem_toArray, List.getElem_cons_zero, List.getElem_cons_succ]
      apply any_go (i := 55) (by rfl) (by decide +kernel) (by decide +kernel) noLate_nil (call_yields (w_on (yi (t := 78) rfl rfl)) en52 ?H24) ?K24
      case H24 =>
        intro w hS
        try simp only [opv, n1, n2, n3, n4, List.map_toArray, List.map_cons, List.map_nil, List.append_toArray, List.cons_append, List.nil_append, Array.append_empty]
        refine CallR.mono (c_atomOver y x hy hx _) ?_
        rintro _ w1 ⟨rfl, hE⟩; exact ⟨rfl, hE⟩
      try simp only [opv, n1, n2, n3, n4, Value.cells]
      refine any_go (i := 56) (by rfl) (by decide +kernel) (by decide +kernel) noLate_nil (go_yields (w_on (yi (t := 74) rfl rfl)) (fun w hS => s_pick_t)) ?_
      try simp only [opv, n1, n2, n3, n4, Value.cells]
      refine any_go (i := 57) (by rfl) (by decide +kernel) (by decide +kernel) noLate_nil (go_yields (w_on (yi (t := 74) rfl rfl)) (fun w hS => m_load_row Try.underlying77 (hi := ti77) (hS := hS) (hfit := by (rw [zi_size (by omega)]; rfl)))) ?_
      try simp only [opv, n1, n2, n3, n4, Value.cells, List.getElem_toArray, List.getElem_cons_zero, List.getElem_cons_succ]
      refine any_go (i := 58) (by rfl) (by decide +kernel) (by decide +kernel) noLate_nil (go_yields (w_on (yi (t := 74) rfl rfl)) (fun w hS => m_load_row Try.underlying77 (hi := ti77) (hS := hS) (hfit := by (rw [zi_size (by omega)]; rfl)))) ?_
      try simp only [opv, n1, n2, n3, n4, Value.cells, List.getElem_toArray, List.getElem_cons_zero, List.getElem_cons_succ]
      refine any_go (i := 59) (by rfl) (by decide +kernel) (by decide +kernel) noLate_nil (go_yields (w_on (yi (t := 74) rfl rfl)) (fun w hS => s_eql_agg eqv77 (hg := eg77) (hX := rfl) (hY := rfl) (h1 := by assumption) (h2 := by assumption))) ?_
      try simp only [opv, n1, n2, n3, n4, Value.cells]
      refine any_go (i := 60) (by rfl) (by decide +kernel) (by decide +kernel) noLate_nil (go_yields (w_on (yi (t := 74) rfl rfl)) (fun w hS => s_neq_bool Try.underlying4)) ?_
      try simp only [opv, n1, n2, n3, n4, Value.cells]
      rw [show overV y x = decide (x = y) by have h := over_anti hx hy; rw [hxy, Bool.true_and] at h; exact h]
      try simp only [beq_self_eq_true, Bool.not_true]
      refine any_go (i := 61) (by rfl) (by decide +kernel) (by decide +kernel) noLate_nil (go_yields w_none (fun w hS => s_pick_f)) ?_
      try simp only [opv, n1, n2, n3, n4, Value.cells]
      refine any_nil (by kernel_rfl) (fun w82 hE => ?_)
      replace hS := hS.ext hE
      refine ⟨fun _ => hS.sel (by repeat (first | exact Sel.nil | (refine Sel.cons (by repeat (exact Del.head)) ?_))), ?_⟩
      refine mix_leaf (by simp only [clob, List.foldl, n1, n2, n3, n4]) ?_
      try simp only [n1, n2]
      exact ⟨by trivial, hS.sel (by repeat (first | exact Sel.nil | (refine Sel.cons (by repeat (first | exact Del.head | apply Del.tail)) ?_)))⟩
  intro fm2 w83 hM
  obtain ⟨h87, hS⟩ := hM
  simp only [clob, List.foldl, n3, n4, h87]
  refine hK8 _ _ ?_
  refine x_cond_f (h := ?_)
  refine x_skip ?_
  refine hK7 _ _ ?_
  refine x_seq fun K9 hK9 => ?_
  refine x_seq fun K10 hK10 => ?_
  refine x_region ?_
  refine s_go (m_load_row Try.underlying79 (hi := ti79) (hS := hS) (hfit := by (rw [zi_size (by omega)]; rfl))) ?_
  try simp only [opv, n1, n2, n3, n4, Value.cells, List.getElem_toArray, List.getElem_cons_zero, List.getElem_cons_succ]
  refine s_call en53 ?_
  try simp only [opv, n1, n2, n3, n4, Value.cells, List.map_toArray, List.map_cons, List.map_nil, List.append_toArray, List.cons_append, List.nil_append, Array.append_empty]
  refine CallR.mono (c_atomRight a ha _) ?_
  rintro _ w84 ⟨rfl, hE84⟩
  replace hS := hS.ext hE84
  try simp only [opv, n1, n2, n3, n4, Value.cells]
  refine s_go (s_not) ?_
  try simp only [opv, n1, n2, n3, n4, Value.cells]
  refine x_nil ?_
  refine hK10 _ _ ?_
  refine x_cond (ht := fun hc3 => ?_) (hf := fun hc3 => ?_)
  ·
   try simp only [decide_eq_true_eq, decide_eq_false_iff_not, Bool.not_eq_true', Bool.not_eq_false', Int.not_lt, Int.not_le, ne_eq, Decidable.not_not, bne_iff_ne, beq_iff_eq, not_true_eq_false, not_false_eq_true] at hc3
   have hr : atomR a = false := by simpa using hc3
   refine x_seq fun K11 hK11 => ?_
   refine x_region ?_
   refine s_go (m_load_row Try.underlying79 (hi := ti79) (hS := hS) (hfit := by (rw [zi_size (by omega)]; rfl))) ?_
   try simp only [opv, n1, n2, n3, n4, Value.cells, List.getElem_toArray, List.getElem_cons_zero, List.getElem_cons_succ]
   refine s_call en54 ?_
   try simp only [opv, n1, n2, n3, n4, Value.cells, List.map_toArray, List.map_cons, List.map_nil, List.append_toArray, List.cons_append, List.nil_append, Array.append_empty]
   refine CallR.mono (c_atomSize a ha _) ?_
   rintro _ w85 ⟨rfl, hE85⟩
   replace hS := hS.ext hE85
   try simp only [opv, n1, n2, n3, n4, Value.cells]
   rw [atomOut_no hr]
   refine s_go (s_eql) ?_
   try simp only [opv, n1, n2, n3, n4, Value.cells]
   rw [show decide (((([] : List Int).length : Nat) : Int) = 0) = true from rfl]
   refine s_go (s_move) ?_
   try simp only [opv, n1, n2, n3, n4, Value.cells]
   refine g_on (yi (t := 94) rfl rfl) ?_
   refine s_call en50 ?_
   try simp only [opv, n1, n2, n3, n4, Value.cells, List.map_toArray, List.map_cons, List.map_nil, List.append_toArray, List.cons_append, List.nil_append, Array.append_empty]
   refine CallR.mono (c_law09alive _) ?_
   rintro _ w86 ⟨rfl, hE86⟩
   replace hS := hS.ext hE86
   try simp only [opv, n1, n2, n3, n4, Value.cells]
   refine s_go (s_pick_t) ?_
   try simp only [opv, n1, n2, n3, n4, Value.cells]
   refine s_go (s_assign) ?_
   try simp only [opv, n1, n2, n3, n4, Value.cells]
   refine x_nil ?_
   refine hK11 _ _ ?_
   refine x_ret ?_
   refine r_tmp rfl ?_
   exact ⟨rfl, hS.ext_of⟩
  ·
   try simp only [decide_eq_true_eq, decide_eq_false_iff_not, Bool.not_eq_true', Bool.not_eq_false', Int.not_lt, Int.not_le, ne_eq, Decidable.not_not, bne_iff_ne, beq_iff_eq, not_true_eq_false, not_false_eq_true] at hc3
   have hr : atomR a = true := by simpa using hc3
   have hback := atmS_atomS 0 (atomW a ++ ms)
   rw [← atomOut_yes hr, atomS_back ha hr ms, atomOut_yes hr] at hback
   have hwl := atomW_len ha
   have hwb := atomW_byt ha
   refine x_skip ?_
   refine hK9 _ _ ?_
   refine x_seq fun K12 hK12 => ?_
   refine x_region ?_
   refine s_call en28 ?_
   try simp only [opv, n1, n2, n3, n4, Value.cells, List.map_toArray, List.map_cons, List.map_nil, List.append_toArray, List.cons_append, List.nil_append, Array.append_empty]
   refine CallR.mono (c_wnew _) ?_
   rintro _ w87 ⟨p, rfl, hC87⟩
   replace hS := hS.call hC87
   simp only [List.cons_append, List.nil_append] at hS
   try simp only [opv, n1, n2, n3, n4, Value.cells]
   refine s_go (s_assign) ?_
   try simp only [opv, n1, n2, n3, n4, Value.cells]
   refine x_nil ?_
   refine hK12 _ _ ?_
   refine x_seq fun K13 hK13 => ?_
   refine x_region ?_
   refine s_go (s_move) ?_
   try simp only [opv, n1, n2, n3, n4, Value.cells]
   refine s_go (m_load_row Try.underlying79 (hi := ti79) (hS := hS) (hfit := by (rw [zi_size (by omega)]; rfl))) ?_
   try simp only [opv, n1, n2, n3, n4, Value.cells, List.getElem_toArray, List.getElem_cons_zero, List.getElem_cons_succ]
   refine s_call en55 ?_
   try simp only [opv, n1, n2, n3, n4, Value.cells, List.map_toArray, List.map_cons, List.map_nil, List.append_toArray, List.cons_append, List.nil_append, Array.append_empty]
   refine CallR.mono (c_atomWrite _ p none 0 [] (by simp) a ha (hS.owns (by repeat (first | exact Spl.nil | (apply Spl.cons (by repeat (exact Del.head))))))) ?_
   rintro _ w88 ⟨rfl, A88, c88, hC88⟩
   replace hS := hS.frame (by repeat (first | exact Spl.nil | (apply Spl.cons (by repeat (exact Del.head))))) hC88 (by intro r hr g hg; simp only [List.mem_cons, List.not_mem_nil, or_false] at hr; rcases hr with rfl | rfl | rfl <;> (simp [Res.reads] at hg; done))
   simp only [List.cons_append, List.nil_append] at hS
   try simp only [opv, n1, n2, n3, n4, Value.cells]
   refine x_nil ?_
   refine hK13 _ _ ?_
   refine x_seq fun K14 hK14 => ?_
   refine x_region ?_
   refine m_buildRow (cells := #[]) Try.underlying43 ti5 (hc := by simp only [List.map_toArray, List.map_cons, List.map_nil, opv, n1, n2, n3, n4, Value.cells, List.toList_toArray]; (repeat (refine fill_cons rfl rfl (Nat.le_of_ble_eq_true rfl) ?_)); rfl) (hS := hS) (h := fun w89 g89 hS => ?_)
   try simp only [opv, n1, n2, n3, n4, Value.cells, Array.toArray_toList] at hS ⊢
   replace hS := hS.obj_vec (sz := 1) (n := 0) rfl (by decide) .head
   refine s_go (s_move) ?_
   try simp only [opv, n1, n2, n3, n4, Value.cells]
   refine s_call en32 ?_
   try simp only [opv, n1, n2, n3, n4, Value.cells, List.map_toArray, List.map_cons, List.map_nil, List.append_toArray, List.cons_append, List.nil_append, Array.append_empty]
   refine CallR.mono (c_wout _ p _ _ (atomW a) (by omega) (hS.owns (by repeat (first | exact Spl.nil | (apply Spl.cons (by repeat (first | exact Del.head | apply Del.tail))))))) ?_
   rintro _ w90 ⟨A90, c90, rfl, hC90⟩
   replace hS := hS.frame (by repeat (first | exact Spl.nil | (apply Spl.cons (by repeat (first | exact Del.head | apply Del.tail))))) hC90 (by intro r hr g hg; simp only [List.mem_cons, List.not_mem_nil, or_false] at hr; rcases hr with rfl | rfl | rfl <;> (simp [Res.reads] at hg; done))
   simp only [List.cons_append, List.nil_append] at hS
   try simp only [opv, n1, n2, n3, n4, Value.cells]
   refine m_append_vec Try.underlying43 ti5 (hS := hS) (h := fun w91 A91 C91 hS => ?_)
   try simp only [← List.map_append, ← List.map_drop, ← List.map_take, Nat.mul_one, Nat.zero_mul, Nat.sub_zero, List.drop_zero, List.nil_append, Nat.zero_add] at hS ⊢
   try simp only [opv, n1, n2, n3, n4, Value.cells, Array.toArray_toList] at hS ⊢
   refine s_go (s_move) ?_
   try simp only [opv, n1, n2, n3, n4, Value.cells]
   refine m_append Try.underlying43 ti5 (hS := hS) (h := fun w92 A92 C92 hS => ?_)
   try simp only [← List.map_append, ← List.map_drop, ← List.map_take, Nat.mul_one, Nat.zero_mul, Nat.sub_zero, List.drop_zero, List.nil_append, Nat.zero_add] at hS ⊢
   try simp only [opv, n1, n2, n3, n4, Value.cells, Array.toArray_toList] at hS ⊢
   rw [← List.length_append] at hS ⊢
   have hcap := hS.vec_cap (by exact Has.head)
   replace hS := hS.vec_rd (by exact Upd.head)
   refine s_call en31 ?_
   try simp only [opv, n1, n2, n3, n4, Value.cells, List.map_toArray, List.map_cons, List.map_nil, List.append_toArray, List.cons_append, List.nil_append, Array.append_empty]
   refine CallR.mono (c_cFrom _ _ _ (atomW a ++ ms) (hS.hasRd (by repeat (exact Has.head))) (by simp; omega)) ?_
   rintro _ w93 ⟨q, Aa, ca, rfl, hcq, hC93⟩
   replace hS := hS.call hC93
   simp only [List.cons_append, List.nil_append] at hS
   replace hS := hS.vec_rd (by exact Upd.tail Upd.head)
   try simp only [opv, n1, n2, n3, n4, Value.cells]
   refine s_go (s_assign) ?_
   try simp only [opv, n1, n2, n3, n4, Value.cells]
   refine x_nil ?_
   refine hK14 _ _ ?_
   refine x_seq fun K15 hK15 => ?_
   refine x_mixed_c (Lc := [.obj g1 (.cells (AA a) 79 (0, 0))]) [] 0 [6, 108, 109, 110, 111, 112, 113, 114, 115, 116, 117, 118, 119, 120, 121, 122, 123, 124, 125, 126, 127, 128, 129, 130, 131, 132, 133] (fun f w => f 6 = .bool true ∧ Ext w0 w) (by kernel_rfl) (by kernel_rfl) (by kernel_rfl) (by decide) hS (fun w94 hS => ?mixpre1203) ?mixrest1203
   case mixpre1203 =>
    refine p_nil ?_
    simp only [List.length_cons, List.length_nil, Nat.reduceAdd, Nat.reduceSub]
    refine any_go (i := 0) (by rfl) (by decide +kernel) (by decide +kernel) noLate_nil (go_yields w_none (fun w hS => s_move)) ?_
    try simp only [opv, n1, n2, n3, n4, Value.cells]
    refine any_go (i := 2) (by rfl) (by decide +kernel) (by decide +kernel) noLate_nil (go_yields w_none (fun w hS => m_load_row Try.underlying79 (hi := ti79) (hS := hS) (hfit := by (rw [zi_size (by omega)]; rfl)))) ?_
    try simp only [opv, n1, n2, n3, n4, Value.cells, List.getElem_toArray, List.getElem_cons_zero, List.getElem_cons_succ]
    refine any_step [1] (by kernel_rfl) (by decide) (fun w95 hE => ⟨fun _ => (hS.ext hE).sel (by repeat (first | exact Sel.nil | (refine Sel.cons (by repeat (first | exact Del.head | apply Del.tail)) ?_))), ?_⟩)
    replace hS := hS.ext hE
    intro i hi
    simp only [List.mem_cons, List.not_mem_nil, or_false] at hi
    subst hi
    ·
     refine any_op (by rfl) ?_
     refine s_call en32 ?_
     try simp only [opv, n1, n2, n3, n4, Value.cells, List.map_toArray, List.map_cons, List.map_nil, List.append_toArray, List.cons_append, List.nil_append, Array.append_empty]
     refine CallR.mono (c_wout _ p _ _ (atomW a) (by omega) (hS.owns (by repeat (first | exact Spl.nil | (apply Spl.cons (by repeat (first | exact Del.head | apply Del.tail))))))) ?_
     rintro _ w96 ⟨A96, c96, rfl, hC96⟩
     replace hS := hS.frame (by repeat (first | exact Spl.nil | (apply Spl.cons (by repeat (first | exact Del.head | apply Del.tail))))) hC96 (by intro r hr g hg; simp only [List.mem_cons, List.not_mem_nil, or_false] at hr; rcases hr with rfl | rfl | rfl <;> (simp [Res.reads] at hg; done))
     simp only [List.cons_append, List.nil_append] at hS
     try simp only [opv, n1, n2, n3, n4, Value.cells]
     refine x_nil ?_
     refine any_step [3] (by kernel_rfl) (by decide) (fun w97 hE => ⟨fun _ => (hS.ext hE).sel (by repeat (first | exact Sel.nil | (refine Sel.cons (by repeat (first | exact Del.head | apply Del.tail)) ?_))), ?_⟩)
     replace hS := hS.ext hE
     intro i hi
     simp only [List.mem_cons, List.not_mem_nil, or_false] at hi
     subst hi
     ·
      refine any_op (by rfl) ?_
      refine s_call en56 ?_
      try simp only [opv, n1, n2, n3, n4, Value.cells, List.map_toArray, List.map_cons, List.map_nil, List.append_toArray, List.cons_append, List.nil_append, Array.append_empty]
      refine CallR.mono (c_atomBytes a ha _) ?_
      rintro _ w98 ⟨A98, c98, rfl, hC98⟩
      replace hS := hS.call hC98
      simp only [List.cons_append, List.nil_append] at hS
      rw [atomOut_yes hr] at hS ⊢
      try simp only [opv, n1, n2, n3, n4, Value.cells]
      refine x_nil ?_
      refine any_step [4] (by kernel_rfl) (by decide) (fun w99 hE => ⟨fun _ => (hS.ext hE).sel (by repeat (first | exact Sel.nil | (refine Sel.cons (by repeat (first | exact Del.head | apply Del.tail)) ?_))), ?_⟩)
      replace hS := hS.ext hE
      intro i hi
      simp only [List.mem_cons, List.not_mem_nil, or_false] at hi
      subst hi
      ·
       refine any_op (by rfl) ?_
       refine s_call en34 ?_
       try simp only [opv, n1, n2, n3, n4, Value.cells, List.map_toArray, List.map_cons, List.map_nil, List.append_toArray, List.cons_append, List.nil_append, Array.append_empty]
       refine CallR.mono (c_ref03Same _ _ _ _ _ _ _ _ _ (hS.vecRd (by repeat (first | exact Has.head | apply Has.tail))) (hS.vecRd (by repeat (exact Has.head))) (rfl) (rfl) (by omega)) ?_
       rintro _ w100 ⟨rfl, hE100⟩
       replace hS := hS.ext hE100
       try simp only [opv, n1, n2, n3, n4, Value.cells]
       try simp only [eq_self, decide_true, beq_self_eq_true, Bool.and_self]
       refine x_nil ?_
       refine any_go (i := 5) (by rfl) (by decide +kernel) (by decide +kernel) noLate_nil (go_yields w_none (fun w hS => s_move)) ?_
       try simp only [opv, n1, n2, n3, n4, Value.cells]
       refine any_go (i := 6) (by rfl) (by decide +kernel) (by decide +kernel) noLate_nil (go_yields (w_on (yi (t := 113) rfl rfl)) (fun w hS => s_move)) ?_
       try simp only [opv, n1, n2, n3, n4, Value.cells]
       refine any_go (i := 8) (by rfl) (by decide +kernel) (by decide +kernel) noLate_nil (go_yields (w_on (yi (t := 113) rfl rfl)) (fun w hS => m_load_row Try.underlying79 (hi := ti79) (hS := hS) (hfit := by (rw [zi_size (by omega)]; rfl)))) ?_
       try simp only [opv, n1, n2, n3, n4, Value.cells, List.getElem_toArray, List.getElem_cons_zero, List.getElem_cons_succ]
       refine any_step [7] (by kernel_rfl) (by decide) (fun w101 hE => ⟨fun _ => (hS.ext hE).sel (by repeat (first | exact Sel.nil | (refine Sel.cons (by repeat (first | exact Del.head | apply Del.tail)) ?_))), ?_⟩)
       replace hS := hS.ext hE
       intro i hi
       simp only [List.mem_cons, List.not_mem_nil, or_false] at hi
       subst hi
       ·
        refine any_op (by rfl) ?_
        refine g_on (yi (t := 113) rfl rfl) ?_
        refine s_call en57 ?_
        try simp only [opv, n1, n2, n3, n4, Value.cells, List.map_toArray, List.map_cons, List.map_nil, List.append_toArray, List.cons_append, List.nil_append, Array.append_empty]
        refine CallR.mono (c_atomRead _ q 0 Aa ca (atomW a ++ ms) hcq (Byt.app hwb hw) (by simp; omega) (hS.owns (by repeat (first | exact Spl.nil | (apply Spl.cons (by repeat (first | exact Del.head | apply Del.tail))))))) ?_
        rintro _ w102 ⟨rfl, Ab, cb, hcb, hR102, hC102⟩
        replace hS := hS.frame (by repeat (first | exact Spl.nil | (apply Spl.cons (by repeat (first | exact Del.head | apply Del.tail))))) hC102 (by intro r hr b hb; simp only [List.mem_cons, List.not_mem_nil, or_false] at hr; rcases hr with rfl | rfl <;> first | (simp [Res.reads] at hb; done) | exact hR102 b hb)
        simp only [List.cons_append, List.nil_append, hback] at hS hcb ⊢
        try simp only [opv, n1, n2, n3, n4, Value.cells]
        refine x_nil ?_
        refine any_step [9] (by kernel_rfl) (by decide) (fun w103 hE => ⟨fun _ => (hS.ext hE).sel (by repeat (first | exact Sel.nil | (refine Sel.cons (by repeat (first | exact Del.head | apply Del.tail)) ?_))), ?_⟩)
        replace hS := hS.ext hE
        intro i hi
        simp only [List.mem_cons, List.not_mem_nil, or_false] at hi
        subst hi
        ·
         refine any_op (by rfl) ?_
         refine g_on (yi (t := 113) rfl rfl) ?_
         refine s_go (s_eql_agg eqv79 (hg := eg79) (hX := rfl) (hY := rfl) (h1 := by assumption) (h2 := by assumption)) ?_
         try simp only [opv, n1, n2, n3, n4, Value.cells]
         try simp only [eq_self, decide_true, beq_self_eq_true, Bool.and_self]
         refine x_nil ?_
         refine any_go (i := 10) (by rfl) (by decide +kernel) (by decide +kernel) noLate_nil (go_yields w_none (fun w hS => s_pick_t)) ?_
         try simp only [opv, n1, n2, n3, n4, Value.cells]
         refine any_go (i := 11) (by rfl) (by decide +kernel) (by decide +kernel) noLate_nil (go_yields w_none (fun w hS => s_move)) ?_
         try simp only [opv, n1, n2, n3, n4, Value.cells]
         refine any_go (i := 12) (by rfl) (by decide +kernel) (by decide +kernel) noLate_nil (go_yields (w_on (yi (t := 119) rfl rfl)) (fun w hS => s_move)) ?_
         try simp only [opv, n1, n2, n3, n4, Value.cells]
         refine any_step [13] (by kernel_rfl) (by decide) (fun w104 hE => ⟨fun _ => (hS.ext hE).sel (by repeat (first | exact Sel.nil | (refine Sel.cons (by repeat (first | exact Del.head | apply Del.tail)) ?_))), ?_⟩)
         replace hS := hS.ext hE
         intro i hi
         simp only [List.mem_cons, List.not_mem_nil, or_false] at hi
         subst hi
         ·
          refine any_op (by rfl) ?_
          refine g_on (yi (t := 119) rfl rfl) ?_
          refine s_call en35 ?_
          try simp only [opv, n1, n2, n3, n4, Value.cells, List.map_toArray, List.map_cons, List.map_nil, List.append_toArray, List.cons_append, List.nil_append, Array.append_empty]
          refine CallR.mono (c_cErr _ q (0) Ab cb (ms) hcb (hS.owns (by repeat (first | exact Spl.nil | (apply Spl.cons (by repeat (exact Del.head))))))) ?_
          rintro _ w105 ⟨rfl, hC105⟩
          replace hS := hS.frame (by repeat (first | exact Spl.nil | (apply Spl.cons (by repeat (exact Del.head))))) hC105 (by intro r hr g hg; simp only [List.mem_cons, List.not_mem_nil, or_false] at hr; rcases hr with rfl | rfl | rfl <;> first | (simp [Res.reads] at hg; done) | exact .inr ⟨_, by simp, .inr hg⟩)
          simp only [List.cons_append, List.nil_append] at hS
          try simp only [opv, n1, n2, n3, n4, Value.cells]
          refine x_nil ?_
          refine any_go (i := 14) (by rfl) (by decide +kernel) (by decide +kernel) noLate_nil (go_yields (w_on (yi (t := 119) rfl rfl)) (fun w hS => s_eql)) ?_
          try simp only [opv, n1, n2, n3, n4, Value.cells]
          try simp only [eq_self, decide_true, beq_self_eq_true, Bool.and_self]
          refine any_go (i := 15) (by rfl) (by decide +kernel) (by decide +kernel) noLate_nil (go_yields w_none (fun w hS => s_pick_t)) ?_
          try simp only [opv, n1, n2, n3, n4, Value.cells]
          refine any_go (i := 16) (by rfl) (by decide +kernel) (by decide +kernel) noLate_nil (go_yields w_none (fun w hS => s_move)) ?_
          try simp only [opv, n1, n2, n3, n4, Value.cells]
          refine any_go (i := 17) (by rfl) (by decide +kernel) (by decide +kernel) noLate_nil (go_yields (w_on (yi (t := 124) rfl rfl)) (fun w hS => s_move)) ?_
          try simp only [opv, n1, n2, n3, n4, Value.cells]
          refine any_go (i := 19) (by rfl) (by decide +kernel) (by decide +kernel) noLate_nil (go_yields (w_on (yi (t := 124) rfl rfl)) (fun w hS => s_move)) ?_
          try simp only [opv, n1, n2, n3, n4, Value.cells]
          refine any_go (i := 20) (by rfl) (by decide +kernel) (by decide +kernel) noLate_nil (go_yields (w_on (yi (t := 124) rfl rfl)) (fun w hS => s_len_sl Try.underlying43)) ?_
          try simp only [opv, n1, n2, n3, n4, Value.cells]
          refine any_step [18] (by kernel_rfl) (by decide) (fun w106 hE => ⟨fun _ => (hS.ext hE).sel (by repeat (first | exact Sel.nil | (refine Sel.cons (by repeat (first | exact Del.head | apply Del.tail)) ?_))), ?_⟩)
          replace hS := hS.ext hE
          intro i hi
          simp only [List.mem_cons, List.not_mem_nil, or_false] at hi
          subst hi
          ·
           refine any_op (by rfl) ?_
           refine g_on (yi (t := 124) rfl rfl) ?_
           refine s_call en39 ?_
           try simp only [opv, n1, n2, n3, n4, Value.cells, List.map_toArray, List.map_cons, List.map_nil, List.append_toArray, List.cons_append, List.nil_append, Array.append_empty]
           refine CallR.mono (c_cLeft _ q (0) Ab cb (ms) hcb (hS.owns (by repeat (first | exact Spl.nil | (apply Spl.cons (by repeat (exact Del.head))))))) ?_
           rintro _ w107 ⟨rfl, hC107⟩
           replace hS := hS.frame (by repeat (first | exact Spl.nil | (apply Spl.cons (by repeat (exact Del.head))))) hC107 (by intro r hr g hg; simp only [List.mem_cons, List.not_mem_nil, or_false] at hr; rcases hr with rfl | rfl | rfl <;> first | (simp [Res.reads] at hg; done) | exact .inr ⟨_, by simp, .inr hg⟩)
           simp only [List.cons_append, List.nil_append] at hS
           try simp only [opv, n1, n2, n3, n4, Value.cells]
           refine x_nil ?_
           refine any_go (i := 21) (by rfl) (by decide +kernel) (by decide +kernel) noLate_nil (go_yields (w_on (yi (t := 124) rfl rfl)) (fun w hS => s_eql)) ?_
           try simp only [opv, n1, n2, n3, n4, Value.cells]
           try simp only [eq_self, decide_true, beq_self_eq_true, Bool.and_self]
           refine any_go (i := 22) (by rfl) (by decide +kernel) (by decide +kernel) noLate_nil (go_yields w_none (fun w hS => s_pick_t)) ?_
           try simp only [opv, n1, n2, n3, n4, Value.cells]
           refine any_go (i := 23) (by rfl) (by decide +kernel) (by decide +kernel) noLate_nil (go_yields w_none (fun w hS => s_move)) ?_
           try simp only [opv, n1, n2, n3, n4, Value.cells]
           apply any_go (i := 24) (by rfl) (by decide +kernel) (by decide +kernel) noLate_nil (call_yields (w_on (yi (t := 131) rfl rfl)) en50 ?H25) ?K25
           case H25 =>
             intro w hS
             try simp only [opv, n1, n2, n3, n4, List.map_toArray, List.map_cons, List.map_nil, List.append_toArray, List.cons_append, List.nil_append, Array.append_empty]
             refine CallR.mono (c_law09alive _) ?_
             rintro _ w1 ⟨rfl, hE⟩; exact ⟨rfl, hE⟩
           try simp only [opv, n1, n2, n3, n4, Value.cells]
           refine any_go (i := 25) (by rfl) (by decide +kernel) (by decide +kernel) noLate_nil (go_yields w_none (fun w hS => s_pick_t)) ?_
           try simp only [opv, n1, n2, n3, n4, Value.cells]
           refine any_go (i := 26) (by rfl) (by decide +kernel) (by decide +kernel) noLate_nil (go_yields w_none (fun w hS => s_assign)) ?_
           try simp only [opv, n1, n2, n3, n4, Value.cells]
           refine any_nil (by kernel_rfl) (fun w108 hE => ?_)
           replace hS := hS.ext hE
           refine ⟨fun _ => hS.sel (by repeat (first | exact Sel.nil | (refine Sel.cons (by repeat (first | exact Del.head | apply Del.tail)) ?_))), ?_⟩
           refine mix_leaf (by simp only [clob, List.foldl, n1, n2, n3, n4]) ?_
           try simp only [n1, n2]
           exact ⟨by trivial, hS.ext_of⟩
   intro fm3 w109 hM
   obtain ⟨h6, hEE⟩ := hM
   simp only [clob, List.foldl, n3, n4, h6]
   refine hK15 _ _ ?_
   refine x_ret ?_
   refine r_tmp rfl ?_
   exact ⟨rfl, hEE⟩
end Go.Proofs.Ytpjpaipkkcengaa
namespace Go.Proofs.Ytpjpaipkkcengaa
open Go.ChangeShapes Go.WideShapes Go.ChangeAt Go.RowKit
theorem own0 : ownKnob Try.prog.godebug = none := by kernel_rfl
theorem laidOut0 : laidOutB Try.prog = true := by kernel_rfl
theorem fl5 : Flat Try.prog 5 [LK.int .u8] := flat_int Try.underlying5
theorem fl58 : Flat Try.prog 58 [LK.int .u16] := flat_int Try.underlying58
theorem fl42 : Flat Try.prog 42 (List.replicate 8 [LK.int .u8]).flatten := flat_arr Try.underlying42 fl5 rfl (by kernel_rfl) (by kernel_rfl)
theorem fl25 : Flat Try.prog 25 [LK.int .u32] := flat_int Try.underlying25
theorem fl60 : Flat Try.prog 60 ([LK.int .u8] ++ ([LK.int .u16] ++ ((List.replicate 8 [LK.int .u8]).flatten ++ ([LK.int .u8] ++ ([LK.int .u32] ++ ([])))))) := flat_struct Try.underlying60 (.cons rfl fl5 rfl (by kernel_rfl) (.cons rfl fl58 rfl (by kernel_rfl) (.cons rfl fl42 rfl (by kernel_rfl) (.cons rfl fl5 rfl (by kernel_rfl) (.cons rfl fl25 rfl (by kernel_rfl) (.nil)))))) (by kernel_rfl)
theorem fl40 : Flat Try.prog 40 [LK.int .u64] := flat_int Try.underlying40
theorem fl77 : Flat Try.prog 77 ([LK.int .u64] ++ ((List.replicate 8 [LK.int .u8]).flatten ++ ([]))) := flat_struct Try.underlying77 (.cons rfl fl40 rfl (by kernel_rfl) (.cons rfl fl42 rfl (by kernel_rfl) (.nil))) (by kernel_rfl)
theorem fl79 : Flat Try.prog 79 (([LK.int .u8] ++ ([LK.int .u16] ++ ((List.replicate 8 [LK.int .u8]).flatten ++ ([LK.int .u8] ++ ([LK.int .u32] ++ ([])))))) ++ (([LK.int .u64] ++ ((List.replicate 8 [LK.int .u8]).flatten ++ ([]))) ++ ([]))) := flat_struct Try.underlying79 (.cons rfl fl60 rfl (by kernel_rfl) (.cons rfl fl77 rfl (by kernel_rfl) (.nil))) (by kernel_rfl)
theorem fl80 : Flat Try.prog 80 (List.replicate 3 ([LK.int .u64] ++ ((List.replicate 8 [LK.int .u8]).flatten ++ ([])))).flatten := flat_arr Try.underlying80 fl77 rfl (by kernel_rfl) (by kernel_rfl)
end Go.Proofs.Ytpjpaipkkcengaa
namespace Go.Proofs.Ytpjpaipkkcengaa
theorem ws_cons {c : Char} (h : c ≠ Char.ofNat 32) (x : List Char) : wordsSigns (c :: x) = (match wordsSigns x with | w :: ws => (c :: w) :: ws | [] => [[c]]) := by
  conv => lhs; unfold wordsSigns
  split
  · simp_all
  · next h1 => exact absurd (by simpa using (List.cons.inj h1).1) h
  · next h1 => obtain ⟨rfl, rfl⟩ := List.cons.inj h1; rfl
theorem ws_app (b : List Char) : ∀ (a : List Char), (∀ c ∈ a, c ≠ Char.ofNat 32) → wordsSigns (a ++ Char.ofNat 32 :: b) = a :: wordsSigns b
  | [], _ => rfl
  | c :: r, h => by
    rw [List.cons_append, ws_cons (h c (by simp)), ws_app b r (fun x hx => h x (by simp [hx]))]
/-- the head's words: harness, a sum, cut -/
theorem head_words {P : Program} {s b : List Char} (he : P.initOrder = String.ofList ("harness".toList ++ Char.ofNat 32 :: (s ++ Char.ofNat 32 :: ("cut".toList ++ Char.ofNat 32 :: b)))) (hs : isSumSigns s = true) (hb : ∀ c ∈ s, c ≠ Char.ofNat 32) :
    ∃ R, behindMainWord (wordsSigns P.initOrder.toList) = "cut".toList :: R := by
  refine ⟨wordsSigns b, ?_⟩
  rw [he, String.toList_ofList, ws_app _ _ (by decide), ws_app _ _ hb, ws_app _ _ (by decide)]
  simp only [behindMainWord, hs, beq_self_eq_true, Bool.true_or, Bool.and_self, if_true]
theorem e_gc : ("cut".toList == "gc".toList) = false := by decide
theorem e_spec : ("cut".toList == "spec".toList) = false := by decide
theorem e_car : ("cut".toList == "carried".toList) = false := by decide
theorem e_sl (R : List (List Char)) : stripLifts liftWords ("cut".toList :: R) = ([], "cut".toList :: R) := by
  have h : ∀ (l : List String), (∀ o ∈ l, ("cut".toList == o.toList) = false) → stripLifts l ("cut".toList :: R) = ([], "cut".toList :: R) := by
    intro l
    induction l with
    | nil => intro _; rfl
    | cons o os ih => intro hl; rw [stripLifts, hl o (by simp)]; simp only [Bool.false_eq_true, if_false]; exact ih fun x hx => hl x (by simp [hx])
  exact h liftWords (by decide)
section
variable {P : Program} (h : ∃ R, behindMainWord (wordsSigns P.initOrder.toList) = "cut".toList :: R)
include h
theorem make_of : P.make = some .cut := by
  obtain ⟨R, h⟩ := h
  unfold Program.make
  rw [h]
  simp only [e_gc, e_spec, beq_self_eq_true, Bool.or_self, Bool.true_or, Bool.false_eq_true, if_false, if_true]
theorem lifts_of : P.liftsFinal = false := by
  obtain ⟨R, h⟩ := h
  unfold Program.liftsFinal Program.headLifts
  rw [h, e_sl]
  show (_ || _) = false
  rfl
theorem enter_of (hl : P.laysLater = false) (hr : P.bearsReflect = false) (hd : P.doorFits [] = true) : P.mayEnter = true := by
  obtain ⟨R, h⟩ := h
  unfold Program.mayEnter
  rw [h]
  dsimp only
  rw [e_sl, hl, hr]
  simp only [hd, e_gc, e_spec, e_car, beq_self_eq_true, Bool.or_self, Bool.false_and, Bool.not_false, Bool.or_true, Bool.and_true, List.head?_cons, List.contains_nil]
end
theorem closed_of {P : Program} {f : FuncId} {fn : Func} {s : ChangeSpec} {c : OpenClaim} (hm : P.make = some .cut) (hl : P.liftsFinal = false) (he : P.mayEnter = true) (h2 : laidOutB P = true) (h3 : mapsRowed P = true) (hst : (P.stops == []) = true) (hk : (P.stopKnobs == []) = true)
    (hp : P.plainKeys = c.plainKeys) (hh : P.stopsHeard = true) (i1 : P.inPlace f = c.inPlace) (i2 : P.unfollowed f = c.unfollowed) (i3 : P.recurses f = c.recurses) (i4 : P.varsNamed f = c.named)
    (rest : (c.wf (OpenSpec.ofChange s) && fn.params.all (P.readableRec ·) && namedTie P c.named s.vars && (c.stops == []) && (c.knobs == []) &&
      (c.maps == (fn.params.toList ++ s.plain.varTypes P).any (P.mapsRec ·)) && (c.ifaces == (fn.params.toList ++ s.plain.varTypes P).any (P.ifacesRec ·)) && (c.mapsOut == P.mapsAmong fn.resultTypes.toList) &&
      (c.loops == (fn.params.toList ++ s.plain.varTypes P).any (P.loopsFrom ·)) && (c.wideKeys == (fn.params.toList ++ s.plain.varTypes P ++ fn.resultTypes.toList).any (P.wideKeysFrom ·)) &&
      s.vars.all (P.varReadable ·) && fn.resultTypes.all (fun t => P.readableRec t && decide (t < P.types.size)) && (c.ifacesOut == fn.resultTypes.toList.any (P.ifacesRec ·)) && (c.loopsOut == fn.resultTypes.toList.any (P.loopsFrom ·)) && c.shortTexts.isNone && (c.lifted == false) && (some Make.cut == some c.make) &&
      (c.kinds == (if c.domain.isEmpty then [] else fn.params.toList.map fun t => match P.underlying t with | some (.int k) => some k | _ => none)) && (c.pinned == c.pinnedBy) &&
      (c.veiled == (fn.params.toList ++ s.plain.varTypes P ++ fn.resultTypes.toList).any (P.veiledRec ·)) && c.veiledFits P fn.params.toList (fn.params.toList ++ s.plain.varTypes P ++ fn.resultTypes.toList)) = true) : joinedFacts P f fn s c = true := by
  simp only [Bool.and_eq_true] at rest
  unfold joinedFacts
  rw [hm, hl, he, h2, h3, hst, hk, hp, hh, i1, i2, i3, i4]
  simp only [beq_self_eq_true, Bool.and_eq_true, Bool.and_true]
  have hkd := rest.1.1.1.2
  simp only [rest, and_self]
  exact ⟨⟨⟨⟨trivial, hkd⟩, trivial⟩, trivial⟩, trivial⟩
end Go.Proofs.Ytpjpaipkkcengaa
namespace Go.Proofs.Ytpjpaipkkcengaa
def ioS : List Nat := [100, 48, 57, 50, 100, 97, 48, 97, 54, 97, 55, 100, 53, 57, 52, 54, 49, 55, 55, 54, 97, 100, 97, 57, 51, 55, 57, 99, 56, 99, 48, 52, 48, 49, 53, 50, 101, 49, 49, 53, 100, 53, 101, 56, 49, 97, 53, 50, 100, 101, 51, 52, 101, 102, 50, 102, 52, 51, 97, 56, 49, 98, 97, 56]
def ioB : List Nat := [97, 116, 32, 104, 97, 110, 100, 99, 97, 114, 116, 47, 104, 97, 110, 100, 99, 97, 114, 116, 108, 97, 119, 49, 50, 46, 86, 101, 99, 67, 111, 117, 110, 116, 115, 32, 104, 97, 110, 100, 99, 97, 114, 116, 47, 104, 97, 110, 100, 99, 97, 114, 116, 108, 97, 119, 48, 55, 46, 87, 105, 114, 101, 66, 97, 99, 107, 32, 104, 97, 110, 100, 99, 97, 114, 116, 47, 104, 97, 110, 100, 99, 97, 114, 116, 108, 97, 119, 48, 56, 46, 75, 101, 121, 82, 101, 97, 100, 115, 32, 104, 97, 110, 100, 99, 97, 114, 116, 47, 104, 97, 110, 100, 99, 97, 114, 116, 108, 97, 119, 48, 56, 46, 75, 101, 121, 66, 97, 99, 107, 32, 104, 97, 110, 100, 99, 97, 114, 116, 47, 104, 97, 110, 100, 99, 97, 114, 116, 108, 97, 119, 48, 57, 46, 65, 116, 111, 109, 66, 97, 99, 107, 32, 104, 97, 110, 100, 99, 97, 114, 116, 47, 104, 97, 110, 100, 99, 97, 114, 116, 108, 97, 119, 51, 52, 46, 66, 111, 117, 110, 100, 65, 116, 111, 109, 115, 32, 104, 97, 110, 100, 99, 97, 114, 116, 47, 104, 97, 110, 100, 99, 97, 114, 116, 108, 97, 119, 50, 55, 46, 70, 114, 97, 109, 101, 82, 101, 97, 100, 115, 32, 104, 97, 110, 100, 99, 97, 114, 116, 47, 104, 97, 110, 100, 99, 97, 114, 116, 108, 97, 119, 50, 55, 46, 70, 114, 97, 109, 101, 84, 117, 114, 110, 101, 100, 32, 104, 97, 110, 100, 99, 97, 114, 116, 47, 104, 97, 110, 100, 99, 97, 114, 116, 108, 97, 119, 50, 55, 46, 70, 114, 97, 109, 101, 66, 97, 99, 107, 32, 104, 97, 110, 100, 99, 97, 114, 116, 47, 104, 97, 110, 100, 99, 97, 114, 116, 108, 97, 119, 50, 55, 46, 70, 114, 97, 109, 101, 67, 111, 100, 101, 115, 32, 104, 97, 110, 100, 99, 97, 114, 116, 47, 104, 97, 110, 100, 99, 97, 114, 116, 108, 97, 119, 49, 51, 46, 68, 111, 116, 115, 65, 100, 100, 115, 32, 104, 97, 110, 100, 99, 97, 114, 116, 47, 104, 97, 110, 100, 99, 97, 114, 116, 108, 97, 119, 49, 51, 46, 68, 111, 116, 115, 65, 108, 111, 110, 101, 32, 104, 97, 110, 100, 99, 97, 114, 116, 47, 104, 97, 110, 100, 99, 97, 114, 116, 108, 97, 119, 49, 51, 46, 68, 111, 116, 115, 74, 111, 105, 110, 115, 32, 104, 97, 110, 100, 99, 97, 114, 116, 47, 104, 97, 110, 100, 99, 97, 114, 116, 108, 97, 119, 49, 48, 46, 76, 97, 116, 65, 108, 108, 32, 104, 97, 110, 100, 99, 97, 114, 116, 47, 104, 97, 110, 100, 99, 97, 114, 116, 108, 97, 119, 49, 48, 46, 76, 97, 116, 78, 111, 114, 109, 115, 32, 104, 97, 110, 100, 99, 97, 114, 116, 47, 104, 97, 110, 100, 99, 97, 114, 116, 108, 97, 119, 49, 48, 46, 76, 97, 116, 74, 111, 105, 110, 115, 32, 104, 97, 110, 100, 99, 97, 114, 116, 47, 104, 97, 110, 100, 99, 97, 114, 116, 108, 97, 119, 49, 48, 46, 76, 97, 116, 76, 101, 97, 115, 116]
theorem io_eq : Try.prog.initOrder = String.ofList ("harness".toList ++ Char.ofNat 32 :: (ioS.map Char.ofNat ++ Char.ofNat 32 :: ("cut".toList ++ Char.ofNat 32 :: ioB.map Char.ofNat))) := by kernel_rfl
theorem io_sum : isSumSigns (ioS.map Char.ofNat) = true := by kernel_rfl
theorem io_hd : ∃ R, behindMainWord (wordsSigns Try.prog.initOrder.toList) = "cut".toList :: R := head_words io_eq io_sum (by decide)
theorem p_make : Try.prog.make = some .cut := make_of io_hd
theorem p_lifts : Try.prog.liftsFinal = false := lifts_of io_hd
theorem p_ll : Try.prog.laysLater = false := by kernel_rfl
theorem p_br : Try.prog.bearsReflect = false := by kernel_rfl
theorem p_df : Try.prog.doorFits [] = true := by kernel_rfl
theorem p_enter : Try.prog.mayEnter = true := enter_of io_hd p_ll p_br p_df
theorem p_rowed : mapsRowed Try.prog = true := by kernel_rfl
theorem p_stops : (Try.prog.stops == []) = true := by kernel_rfl
theorem p_knobs : (Try.prog.stopKnobs == []) = true := by kernel_rfl
theorem p_keys : Try.prog.plainKeys = false := by kernel_rfl
theorem p_heard : Try.prog.stopsHeard = true := by kernel_rfl
end Go.Proofs.Ytpjpaipkkcengaa
