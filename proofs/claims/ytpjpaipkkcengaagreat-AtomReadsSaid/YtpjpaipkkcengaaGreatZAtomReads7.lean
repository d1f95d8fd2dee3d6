/- Rules, plain words and walks that the claim leans on: Ff, Fg, Tb, Vj, Tc. -/
import Derived.Test.YtpjpaipkkcengaaGreatZAtomReads6
set_option linter.unusedSimpArgs false
set_option linter.unusedVariables false
set_option linter.unusedSimpArgs false
set_option linter.unusedVariables false
set_option maxHeartbeats 1500000
set_option maxRecDepth 100000
namespace Go.Proofs.YtpjpaipkkcengaaGreat
open Go.RowKit

theorem in_fail {e e2 : Int} {xs : List Int} {st : Int × List Int} (h0 : (keyS e xs).2.1 = 0) (hV : (valP (kn (keyS e xs).1 0) (keyS e xs).2.1 (keyS e xs).2.2).2 = failS true e2 st) (hs : st.1 = 0) (he : ¬ e2 = 0) : atmS e xs = (atom0, e2, []) := by
  have hf := failS_new (e2 := e2) hs he
  rw [atmS_no h0 (by rw [hV, hf]; exact he), hV, hf]
theorem keyT_e0 {s : Int} {n : Nat} {e : Int} {xs : List Int} (h : ¬ (keyS.keyT s n e xs).2.1 = 0) : (keyS.keyT s n e xs).1 = key0 := by
  unfold keyS.keyT keyS.keyQ at h ⊢
  repeat' split
  all_goals first | rfl | (exfalso; apply h; repeat' split; all_goals assumption)
theorem keyS_e0 {e : Int} {xs : List Int} (h : ¬ kn (keyS e xs).1 0 = 0) : (keyS e xs).2.1 = 0 := by
  by_cases h0 : (keyS e xs).2.1 = 0
  · exact h0
  · refine absurd ?_ h
    have : (keyS e xs).1 = key0 := by
      unfold keyS at h0 ⊢
      repeat' split
      all_goals first | rfl | exact keyT_e0 (by simp_all) | (simp_all; done)
    rw [this]; rfl
theorem in_err {e : Int} {xs : List Int} {st : Int × List Int} (h0 : (keyS e xs).2.1 = 0) (hV : (valP (kn (keyS e xs).1 0) (keyS e xs).2.1 (keyS e xs).2.2).2 = st) (hs : ¬ st.1 = 0) : atmS e xs = (atom0, st) := by
  rw [atmS_no h0 (by rw [hV]; exact hs), hV]
theorem in_ok {e : Int} {xs v : List Int} {st : Int × List Int} (h0 : (keyS e xs).2.1 = 0) (hV : valP (kn (keyS e xs).1 0) (keyS e xs).2.1 (keyS e xs).2.2 = (v, st)) (hs : st.1 = 0) : atmS e xs = ((keyS e xs).1 ++ v, st) := by
  rw [atmS_yes h0 (by rw [hV]; exact hs), hV]
theorem at_set12 {k : List Int} {u : Nat} (hk : k.length = 12) : (k ++ mkV 0 nm0).set 12 (u : Int) = k ++ mkV u nm0 := by
  rw [List.set_append_right _ _ (by omega), hk]; rfl
theorem at_text {k t t' : List Int} {n : Nat} (hk : k.length = 12) (h : t.length = 8) (h' : t'.length = 8) : splice (AA (k ++ mkV n t)).toList 13 (ic .u8 t').toList = zi atomKs (k ++ mkV n t') := by
  have e : ∀ u : List Int, zi atomKs (k ++ u) = zi keyKs k ++ zi valKs u := fun u => zi_app (k1 := keyKs) (k2 := valKs) (by simpa using hk)
  have l1 : (zi keyKs k).length = 12 := zi_len (by simpa using hk)
  have hm := mkV_text (n := n) h h'
  show splice (zi atomKs (k ++ mkV n t)) 13 (ic .u8 t').toList = _
  rw [e, e, ← hm]
  show splice (zi keyKs k ++ zi valKs (mkV n t)) 13 _ = zi keyKs k ++ splice (zi valKs (mkV n t)) 1 _
  have hc : (ic .u8 t').toList.length = 8 := by rw [← h']; simp [ic]
  unfold splice
  rw [hc, List.take_append, List.drop_append, l1, List.take_of_length_le (by omega), List.drop_eq_nil_of_le (by omega)]
  simp
theorem at_get12 {k t : List Int} {u : Nat} (hk : k.length = 12) : (k ++ mkV u t).getD 12 0 = (u : Int) := by
  rw [List.getD_eq_getElem?_getD, List.getElem?_append_right (by omega), hk]; rfl

theorem c_ref09fail (w0 : World) (g : Nat) (A : Option Addr) (c : Nat) (xs : List Int) (hc : xs.length ≤ c) (e2 : Int) (hM : St (OwnB [.obj g (.cells #[.slice A xs.length c, .int .i64 0] 44 (0, 0)), .rd A 1 xs.length (xs.map (Value.int .u8))]) w0 w0 [.obj g (.cells #[.slice A xs.length c, .int .i64 0] 44 (0, 0)), .rd A 1 xs.length (xs.map (Value.int .u8))]) :
    CallR Tryz.prog 30 #[.pointer (some ⟨g, 0, none⟩), .int .i64 e2] w0 fun v w' => v = .agg (AA atom0) ∧ CrSt w0 w' [.obj g (.cells #[.slice A xs.length c, .int .i64 0] 44 (0, 0)), .rd A 1 xs.length (xs.map (Value.int .u8))] g e2 [] [] := by
 have hS := hM
 have h0l : atom0.length = 21 := rfl
 refine c_enter (l := [.pointer (some ⟨g, 0, none⟩), .int .i64 e2, undef, undef, undef, undef, undef, undef, undef]) Tryz.func30 rfl (by simp only [Tryz.ntmps30, List.size_toArray, List.length_cons, List.length_nil, Nat.reduceAdd, Nat.reduceSub, Array.replicate_succ, Array.replicate_zero, List.push_toArray, List.append_toArray, List.nil_append, List.cons_append]) ?_
 refine x_seq fun K1 hK1 => ?_
 refine x_region ?_
 refine m_alloc ti32 hS (fun w1 g1 hS => ?_)
 try simp only [opv, nZ, Value.cells, Array.toArray_toList] at hS ⊢
 replace hS : St (OwnB [.obj g (.cells #[.slice A xs.length c, .int .i64 0] 44 (0, 0)), .rd A 1 xs.length (xs.map (Value.int .u8))]) w0 w1 (.obj g1 (.cells (AA atom0) 32 (0, 0)) :: _) := hS
 refine x_nil ?_
 refine hK1 _ _ ?_
 refine x_seq fun K2 hK2 => ?_
 refine x_region ?_
 refine s_go (s_move) ?_
 try simp only [opv, nZ, Value.cells]
 refine s_go (s_move) ?_
 try simp only [opv, nZ, Value.cells]
 refine s_call en60 ?_
 try simp only [opv, nZ, Value.cells, List.map_toArray, List.map_cons, List.map_nil, List.append_toArray, List.cons_append, List.nil_append, Array.append_empty]
 refine CallR.mono (c_ref08Fail _ g A c xs hc e2 (hS.owns (by repeat (first | exact Spl.nil | (apply Spl.cons (by repeat (first | exact Del.head | apply Del.tail))))))) ?_
 rintro _ w2 ⟨rfl, Aa, ca, hcpa, hRa, hCa⟩
 have hYa := RdIn.trans hM hS (by repeat (first | exact Spl.nil | (apply Spl.cons (by repeat (first | exact Del.head | apply Del.tail))))) hRa (by intro s hs q hb; simp only [List.mem_cons, List.not_mem_nil, or_false] at hs; rcases hs with rfl | rfl <;> first | (simp [Res.reads] at hb; done) | exact .inr ⟨_, List.mem_cons_of_mem _ (List.mem_cons_self ..), .inr hb⟩)
 replace hS := hS.frame (by repeat (first | exact Spl.nil | (apply Spl.cons (by repeat (first | exact Del.head | apply Del.tail))))) hCa (by intro r hr b hb; simp only [List.mem_cons, List.not_mem_nil, or_false] at hr; rcases hr with rfl | rfl <;> (simp [Res.reads] at hb; done))
 replace hRa := hYa
 simp only [List.cons_append, List.nil_append] at hS
 try simp only [opv, nZ, Value.cells]
 refine x_nil ?_
 refine hK2 _ _ ?_
 refine x_seq fun K3 hK3 => ?_
 refine x_region ?_
 refine s_go (s_build_struct (cells := #[.int .u8 0, .int .u16 0, .int .u8 0, .int .u8 0, .int .u8 0, .int .u8 0, .int .u8 0, .int .u8 0, .int .u8 0, .int .u8 0, .int .u8 0, .int .u32 0, .int .u64 0, .int .u8 0, .int .u8 0, .int .u8 0, .int .u8 0, .int .u8 0, .int .u8 0, .int .u8 0, .int .u8 0]) Tryz.underlying32 ti32 bp32 (hc := by simp only [List.map_toArray, List.map_cons, List.map_nil, opv, nZ, Value.cells, List.toList_toArray]; (repeat (refine fill_cons rfl rfl (Nat.le_of_ble_eq_true rfl) ?_)); rfl)) ?_
 try simp only [opv, nZ, Value.cells]
 rw [show (#[.int .u8 0, .int .u16 0, .int .u8 0, .int .u8 0, .int .u8 0, .int .u8 0, .int .u8 0, .int .u8 0, .int .u8 0, .int .u8 0, .int .u8 0, .int .u32 0, .int .u64 0, .int .u8 0, .int .u8 0, .int .u8 0, .int .u8 0, .int .u8 0, .int .u8 0, .int .u8 0, .int .u8 0] : Array Value) = AA atom0 from rfl]
 refine m_store_obj ti32 (hS := hS) (hc := by exact zi_whole (by omega) (by omega)) (hv := by rfl) (hfit := by (rw [zi_size (by omega)]; decide)) (h1 := by exact zi_one _ _) (h := fun w3 hS => ?_)
 try simp only [opv, nZ, Value.cells, Array.toArray_toList] at hS ⊢
 refine x_nil ?_
 refine hK3 _ _ ?_
 refine x_ret ?_
 refine r_cell_agg rfl Tryz.underlying32 ti32 (hS := hS) (hfit := by (rw [zi_size (by omega)]; rfl)) (hR := ?_)
 exact ⟨rfl, _, _, by assumption, by assumption, hS.sel (by repeat (first | exact Sel.nil | (refine Sel.cons (by repeat (exact Del.head)) ?_)))⟩
theorem c_ref09In (w0 : World) (g : Nat) (e : Int) (A : Option Addr) (c : Nat) (xs : List Int) (hc : xs.length ≤ c) (hw : Byt xs) (hn : xs.length ≤ 1000000000) (hM : St (OwnB [.obj g (.cells #[.slice A xs.length c, .int .i64 e] 44 (0, 0)), .rd A 1 xs.length (xs.map (Value.int .u8))]) w0 w0 [.obj g (.cells #[.slice A xs.length c, .int .i64 e] 44 (0, 0)), .rd A 1 xs.length (xs.map (Value.int .u8))]) :
    CallR Tryz.prog 13 #[.pointer (some ⟨g, 0, none⟩)] w0 fun v w' => v = .agg (AA (atmS e xs).1) ∧ CrSt w0 w' [.obj g (.cells #[.slice A xs.length c, .int .i64 e] 44 (0, 0)), .rd A 1 xs.length (xs.map (Value.int .u8))] g (atmS e xs).2.1 (atmS e xs).2.2 [] := by
 have hS := hM
 have hk12 := keyS_l12 e hw
 have hkb := keyS_byt (e := e) hw
 have hkl := keyS_len (e := e) (xs := xs)
 have hke := (keyS_key (e := e) hw).e0
 have h0l : atom0.length = 21 := rfl
 have hv0l : (mkV 0 nm0).length = 9 := rfl
 have hl1 : ((keyS e xs).1 ++ mkV 0 nm0).length = 21 := by rw [List.length_append]; omega
 refine c_enter (l := [.pointer (some ⟨g, 0, none⟩), undef, undef, undef, undef, undef, undef, undef, undef, undef, undef, undef, undef, undef, undef, undef, undef, undef, undef, undef, undef, undef, undef, undef, undef, undef, undef, undef, undef, undef, undef, undef, undef, undef, undef, undef, undef, undef, undef, undef, undef, undef, undef, undef, undef, undef, undef, undef, undef, undef, undef, undef, undef, undef, undef, undef, undef, undef, undef, undef, undef, undef, undef, undef, undef, undef, undef, undef, undef, undef, undef, undef, undef, undef, undef, undef, undef, undef, undef, undef, undef, undef, undef, undef, undef, undef, undef, undef, undef, undef, undef, undef, undef, undef, undef, undef, undef, undef, undef, undef, undef, undef, undef, undef, undef, undef, undef, undef, undef]) Tryz.func13 rfl (by simp only [Tryz.ntmps13, List.size_toArray, List.length_cons, List.length_nil, Nat.reduceAdd, Nat.reduceSub, Array.replicate_succ, Array.replicate_zero, List.push_toArray, List.append_toArray, List.nil_append, List.cons_append]) ?_
 refine x_seq fun K1 hK1 => ?_
 refine x_region ?_
 refine m_alloc ti32 hS (fun w1 g1 hS => ?_)
 try simp only [opv, nZ, Value.cells, Array.toArray_toList] at hS ⊢
 replace hS : St (OwnB [.obj g (.cells #[.slice A xs.length c, .int .i64 e] 44 (0, 0)), .rd A 1 xs.length (xs.map (Value.int .u8))]) w0 w1 (.obj g1 (.cells (AA atom0) 32 (0, 0)) :: _) := hS
 refine x_nil ?_
 refine hK1 _ _ ?_
 refine x_seq fun K2 hK2 => ?_
 refine x_region ?_
 refine s_go (s_move) ?_
 try simp only [opv, nZ, Value.cells]
 refine s_call en28 ?_
 try simp only [opv, nZ, Value.cells, List.map_toArray, List.map_cons, List.map_nil, List.append_toArray, List.cons_append, List.nil_append, Array.append_empty]
 refine CallR.mono (c_ref08In _ g e A c xs hc hw hn (hS.owns (by repeat (first | exact Spl.nil | (apply Spl.cons (by repeat (first | exact Del.head | apply Del.tail))))))) ?_
 rintro _ w2 ⟨rfl, Aa, ca, hcpa, hRa, hCa⟩
 have hYa := RdIn.trans hM hS (by repeat (first | exact Spl.nil | (apply Spl.cons (by repeat (first | exact Del.head | apply Del.tail))))) hRa (by intro s hs q hb; simp only [List.mem_cons, List.not_mem_nil, or_false] at hs; rcases hs with rfl | rfl <;> first | (simp [Res.reads] at hb; done) | exact .inr ⟨_, List.mem_cons_of_mem _ (List.mem_cons_self ..), .inr hb⟩)
 replace hS := hS.frame (by repeat (first | exact Spl.nil | (apply Spl.cons (by repeat (first | exact Del.head | apply Del.tail))))) hCa (by intro r hr b hb; simp only [List.mem_cons, List.not_mem_nil, or_false] at hr; rcases hr with rfl | rfl <;> first | (simp [Res.reads] at hb; done) | exact hRa b hb)
 replace hRa := hYa
 simp only [List.cons_append, List.nil_append] at hS
 try simp only [opv, nZ, Value.cells]
 refine s_go (s_build_struct (cells := AA ((keyS e xs).1 ++ mkV 0 nm0)) Tryz.underlying32 ti32 bp32 (hc := by simp only [List.map_toArray, List.map_cons, List.map_nil, opv, nZ, Value.cells, List.toList_toArray]; exact fill_key rfl hk12 rfl)) ?_
 try simp only [opv, nZ, Value.cells]
 refine m_alloc ti32 hS (fun w3 g3 hS => ?_)
 try simp only [opv, nZ, Value.cells, Array.toArray_toList] at hS ⊢
 replace hS : St (OwnB [.obj g (.cells #[.slice A xs.length c, .int .i64 e] 44 (0, 0)), .rd A 1 xs.length (xs.map (Value.int .u8))]) w0 w3 (.obj g3 (.cells (AA atom0) 32 (0, 0)) :: _) := hS
 refine m_store_obj ti32 (hS := hS) (hc := by exact zi_whole (by omega) (by omega)) (hv := by (show (zi _ _).toArray.size = _; rw [zi_size (by omega)]; rfl)) (hfit := by (rw [zi_size (by omega)]; decide)) (h1 := by exact zi_one _ _) (h := fun w4 hS => ?_)
 try simp only [opv, nZ, Value.cells, Array.toArray_toList] at hS ⊢
 refine x_nil ?_
 refine hK2 _ _ ?_
 refine x_seq fun K3 hK3 => ?_
 refine x_seq fun K4 hK4 => ?_
 refine x_region ?_
 refine s_go (m_fieldAddr Tryz.underlying32 (hi := ti27)) ?_
 try simp only [opv, nZ, Value.cells, Nat.zero_add, Nat.add_zero, List.getElem_toArray, List.getElem_cons_zero, List.getElem_cons_succ]
 refine s_go (m_fieldAddr Tryz.underlying27 (hi := ti5)) ?_
 try simp only [opv, nZ, Value.cells, Nat.zero_add, Nat.add_zero, List.getElem_toArray, List.getElem_cons_zero, List.getElem_cons_succ]
 refine s_go (m_load_obj Tryz.underlying5 (hS := hS) (hv := by exact zi_get rfl (by omega))) ?_
 try simp only [opv, nZ, Value.cells, List.getElem_toArray, List.getElem_cons_zero, List.getElem_cons_succ]
 rw [show ((keyS e xs).1 ++ mkV 0 nm0).getD 0 0 = ((kn (keyS e xs).1 0 : Nat) : Int) by rw [← hke]; exact getD_app0 (by omega)]
 refine x_nil ?_
 refine hK4 _ _ ?_
 refine x_block ?_
 refine x_seq fun K5 hK5 => ?_
 refine x_region ?_
 refine s_go (s_eql) ?_
 try simp only [opv, nZ, Value.cells]
 refine s_go (s_assign) ?_
 try simp only [opv, nZ, Value.cells]
 refine x_nil ?_
 refine hK5 _ _ ?_
 refine x_cond (ht := fun hc1 => ?_) (hf := fun hc1 => ?_)
 ·
  try simp only [decide_eq_true_eq, decide_eq_false_iff_not, Bool.not_eq_true', Bool.not_eq_false', Int.not_lt, Int.not_le, ne_eq, Decidable.not_not, bne_iff_ne, beq_iff_eq, not_true_eq_false, not_false_eq_true] at hc1
  have hk1 : kn (keyS e xs).1 0 = 1 := by omega
  have hkE := keyS_e0 (e := e) (xs := xs) (by omega)
  have hov := oneS_val (e := (keyS e xs).2.1) hkb
  obtain ⟨u1, hu1⟩ := Int.eq_ofNat_of_zero_le hov.1
  rw [hu1] at hov
  have hV1 : valP (kn (keyS e xs).1 0) (keyS e xs).2.1 (keyS e xs).2.2 = (mkV u1 nm0, failS (decide (¬ (u1 : Int) = 1) && decide (¬ (u1 : Int) = 2)) 3 (oneS (keyS e xs).2.1 (keyS e xs).2.2).2) := by rw [valP_1 hk1, hu1, Int.toNat_natCast]
  have hl3 : ((keyS e xs).1 ++ mkV u1 nm0).length = 21 := by rw [List.length_append, hk12, mkV_len (show nm0.length = 8 from rfl)]
  refine x_seq fun K6 hK6 => ?_
  refine x_region ?_
  refine s_go (s_move) ?_
  try simp only [opv, nZ, Value.cells]
  refine s_go (s_build_struct (cells := #[_, .int .u64 0, .int .u8 0, .int .u8 0, .int .u8 0, .int .u8 0, .int .u8 0, .int .u8 0, .int .u8 0, .int .u8 0, .int .u8 0, .slice none 0 0, .int .i64 0]) Tryz.underlying58 ti58 bp58 (hc := by simp only [List.map_toArray, List.map_cons, List.map_nil, opv, nZ, Value.cells, List.toList_toArray]; (repeat (refine fill_cons rfl rfl (Nat.le_of_ble_eq_true rfl) ?_)); rfl)) ?_
  try simp only [opv, nZ, Value.cells]
  refine s_call en29 ?_
  try simp only [opv, nZ, Value.cells, List.map_toArray, List.map_cons, List.map_nil, List.append_toArray, List.cons_append, List.nil_append, Array.append_empty]
  refine CallR.mono (c_ref07Read _ g (keyS e xs).2.1 Aa ca (keyS e xs).2.2 hcpa hkb (by omega) ⟨1, 0, 0, nm0, none, 0, [], 0⟩ (by decide) (by decide) (hS.owns (by repeat (first | exact Spl.nil | (apply Spl.cons (by repeat (first | exact Del.head | apply Del.tail))))))) ?_
  rintro _ w5 ⟨Bb, kb, rfl, hQb, Ab, cb, hcpb, hRb, hCb⟩
  have hYb := RdIn.trans hM hS (by repeat (first | exact Spl.nil | (apply Spl.cons (by repeat (first | exact Del.head | apply Del.tail))))) hRb (by intro s hs q hb; simp only [List.mem_cons, List.not_mem_nil, or_false] at hs; rcases hs with rfl | rfl <;> first | (simp [Res.reads] at hb; done) | exact hRa q hb)
  replace hS := hS.frame (by repeat (first | exact Spl.nil | (apply Spl.cons (by repeat (first | exact Del.head | apply Del.tail))))) hCb (by intro r hr b hb; simp only [List.mem_cons, List.not_mem_nil, or_false] at hr; rcases hr with rfl | rfl | rfl <;> first | (simp [Res.reads] at hb; done) | exact hRb b hb | exact hQb b hb)
  replace hRb := hYb
  simp only [List.cons_append, List.nil_append] at hS
  simp only [rdS_b] at hS hcpb hRb ⊢
  try simp only [opv, nZ, Value.cells]
  refine s_go (s_field_one Tryz.underlying58 (hu := Tryz.underlying5) (hv := by rfl)) ?_
  try simp only [opv, nZ, Value.cells, List.getElem_toArray, List.getElem_cons_zero, List.getElem_cons_succ]
  rw [hu1]
  refine s_go (s_conv Tryz.underlying5 Tryz.underlying28 (hc := by exact wr_u64 (by omega) (by omega))) ?_
  try simp only [opv, nZ, Value.cells]
  refine s_go (m_fieldAddr Tryz.underlying32 (hi := ti30)) ?_
  try simp only [opv, nZ, Value.cells, Nat.zero_add, Nat.add_zero, List.getElem_toArray, List.getElem_cons_zero, List.getElem_cons_succ]
  refine s_go (m_fieldAddr Tryz.underlying30 (hi := ti28)) ?_
  try simp only [opv, nZ, Value.cells, Nat.zero_add, Nat.add_zero, List.getElem_toArray, List.getElem_cons_zero, List.getElem_cons_succ]
  refine m_store_obj ti28 (hS := hS) (hc := by exact zi_set rfl (by omega)) (hv := by rfl) (hfit := by (rw [zi_size (by omega)]; decide)) (h1 := by simp [opv, Value.cells, Value.oneCell']) (h := fun w6 hS => ?_)
  try simp only [opv, nZ, Value.cells, Array.toArray_toList] at hS ⊢
  rw [at_set12 hk12] at hS
  refine x_nil ?_
  refine hK6 _ _ ?_
  refine x_seq fun K7 hK7 => ?_
  refine x_region ?_
  refine s_go (s_move) ?_
  try simp only [opv, nZ, Value.cells]
  refine s_go (s_nilCheck) ?_
  try simp only [opv, nZ, Value.cells]
  refine s_go (m_fieldAddr Tryz.underlying44 (hi := ti42)) ?_
  try simp only [opv, nZ, Value.cells, Nat.zero_add, Nat.add_zero, List.getElem_toArray, List.getElem_cons_zero, List.getElem_cons_succ]
  refine s_go (m_load_obj Tryz.underlying42 (hS := hS) (hv := by rfl)) ?_
  try simp only [opv, nZ, Value.cells, List.getElem_toArray, List.getElem_cons_zero, List.getElem_cons_succ]
  refine s_go (s_eql) ?_
  try simp only [opv, nZ, Value.cells]
  refine s_part 23 rfl (fun hp1 => ?_) (fun hp1 => ?_)
  ·
   try simp only [n3, n4]
   try simp only [decide_eq_true_eq, decide_eq_false_iff_not, Bool.not_eq_true', Bool.not_eq_false', Int.not_lt, Int.not_le, ne_eq, Decidable.not_not] at hp1
   have hE1 : (oneS (keyS e xs).2.1 (keyS e xs).2.2).2.1 = 0 := hp1
   refine s_go (s_move) ?_
   try simp only [opv, nZ, Value.cells]
   refine g_on (yi (t := 24) rfl rfl) ?_
   refine s_go (m_fieldAddr Tryz.underlying32 (hi := ti30)) ?_
   try simp only [opv, nZ, Value.cells, Nat.zero_add, Nat.add_zero, List.getElem_toArray, List.getElem_cons_zero, List.getElem_cons_succ]
   refine g_on (yi (t := 24) rfl rfl) ?_
   refine s_go (m_fieldAddr Tryz.underlying30 (hi := ti28)) ?_
   try simp only [opv, nZ, Value.cells, Nat.zero_add, Nat.add_zero, List.getElem_toArray, List.getElem_cons_zero, List.getElem_cons_succ]
   refine g_on (yi (t := 24) rfl rfl) ?_
   refine s_go (m_load_obj Tryz.underlying28 (hS := hS) (hv := by exact zi_get rfl (by omega))) ?_
   try simp only [opv, nZ, Value.cells, List.getElem_toArray, List.getElem_cons_zero, List.getElem_cons_succ]
   rw [at_get12 hk12]
   refine g_on (yi (t := 24) rfl rfl) ?_
   refine s_go (s_neq) ?_
   try simp only [opv, nZ, Value.cells]
   refine s_part 28 rfl (fun hp2 => ?_) (fun hp2 => ?_)
   ·
    try simp only [n3, n4]
    try simp only [decide_eq_true_eq, decide_eq_false_iff_not, Bool.not_eq_true', Bool.not_eq_false', Int.not_lt, Int.not_le, ne_eq, Decidable.not_not] at hp2
    refine s_go (s_pick_t) ?_
    try simp only [opv, nZ, Value.cells]
    refine s_go (s_move) ?_
    try simp only [opv, nZ, Value.cells]
    refine g_on (yi (t := 30) rfl rfl) ?_
    refine s_go (m_fieldAddr Tryz.underlying32 (hi := ti30)) ?_
    try simp only [opv, nZ, Value.cells, Nat.zero_add, Nat.add_zero, List.getElem_toArray, List.getElem_cons_zero, List.getElem_cons_succ]
    refine g_on (yi (t := 30) rfl rfl) ?_
    refine s_go (m_fieldAddr Tryz.underlying30 (hi := ti28)) ?_
    try simp only [opv, nZ, Value.cells, Nat.zero_add, Nat.add_zero, List.getElem_toArray, List.getElem_cons_zero, List.getElem_cons_succ]
    refine g_on (yi (t := 30) rfl rfl) ?_
    refine s_go (m_load_obj Tryz.underlying28 (hS := hS) (hv := by exact zi_get rfl (by omega))) ?_
    try simp only [opv, nZ, Value.cells, List.getElem_toArray, List.getElem_cons_zero, List.getElem_cons_succ]
    rw [at_get12 hk12]
    refine g_on (yi (t := 30) rfl rfl) ?_
    refine s_go (s_neq) ?_
    try simp only [opv, nZ, Value.cells]
    refine s_go (s_pick_t) ?_
    try simp only [opv, nZ, Value.cells]
    refine x_nil ?_
    refine hK7 _ _ ?_
    refine x_cond (ht := fun hc2 => ?_) (hf := fun hc2 => ?_)
    ·
     try simp only [decide_eq_true_eq, decide_eq_false_iff_not, Bool.not_eq_true', Bool.not_eq_false', Int.not_lt, Int.not_le, ne_eq, Decidable.not_not, bne_iff_ne, beq_iff_eq, not_true_eq_false, not_false_eq_true] at hc2
     have hz := in_fail (st := (oneS (keyS e xs).2.1 (keyS e xs).2.2).2) hkE (by rw [hV1, decide_eq_true (show ¬ ((u1 : Nat) : Int) = 1 by omega), decide_eq_true (show ¬ ((u1 : Nat) : Int) = 2 by omega)]; rfl) hE1 (by decide)
     rw [hE1] at hS
     refine x_seq fun K8 hK8 => ?_
     refine x_region ?_
     refine s_go (s_move) ?_
     try simp only [opv, nZ, Value.cells]
     refine s_call en30 ?_
     try simp only [opv, nZ, Value.cells, List.map_toArray, List.map_cons, List.map_nil, List.append_toArray, List.cons_append, List.nil_append, Array.append_empty]
     refine CallR.mono (c_ref09fail _ g Ab cb (oneS (keyS e xs).2.1 (keyS e xs).2.2).2.2 hcpb 3 (hS.owns (by repeat (first | exact Spl.nil | (apply Spl.cons (by repeat (exact Del.head))))))) ?_
     rintro _ w7 ⟨rfl, Af, cf, hcpf, hRf, hCf⟩
     have hYf := RdIn.trans hM hS (by repeat (first | exact Spl.nil | (apply Spl.cons (by repeat (exact Del.head))))) hRf (by intro s hs q hb; simp only [List.mem_cons, List.not_mem_nil, or_false] at hs; rcases hs with rfl | rfl <;> first | (simp [Res.reads] at hb; done) | exact hRb q hb)
     replace hS := hS.frame (by repeat (first | exact Spl.nil | (apply Spl.cons (by repeat (exact Del.head))))) hCf (by intro r hr b hb; simp only [List.mem_cons, List.not_mem_nil, or_false] at hr; rcases hr with rfl | rfl <;> (simp [Res.reads] at hb; done))
     replace hRf := hYf
     simp only [List.cons_append, List.nil_append] at hS
     try simp only [opv, nZ, Value.cells]
     refine m_store_obj ti32 (hS := hS) (hc := by exact zi_whole (by omega) (by omega)) (hv := by rfl) (hfit := by (rw [zi_size (by omega)]; decide)) (h1 := by exact zi_one _ _) (h := fun w8 hS => ?_)
     try simp only [opv, nZ, Value.cells, Array.toArray_toList] at hS ⊢
     refine x_nil ?_
     refine hK8 _ _ ?_
     refine x_ret ?_
     refine r_cell_agg rfl Tryz.underlying32 ti32 (hS := hS) (hfit := by (rw [zi_size (by omega)]; rfl)) (hR := ?_)
     exact ⟨by rw [hz], _, _, by rw [hz]; assumption, by rw [hz]; assumption, by rw [hz]; exact hS.sel (by repeat (first | exact Sel.nil | (refine Sel.cons (by repeat (exact Del.head)) ?_)))⟩
    ·
     try simp only [decide_eq_true_eq, decide_eq_false_iff_not, Bool.not_eq_true', Bool.not_eq_false', Int.not_lt, Int.not_le, ne_eq, Decidable.not_not, bne_iff_ne, beq_iff_eq, not_true_eq_false, not_false_eq_true] at hc2
     have hW : valP (kn (keyS e xs).1 0) (keyS e xs).2.1 (keyS e xs).2.2 = (mkV u1 nm0, (oneS (keyS e xs).2.1 (keyS e xs).2.2).2) := by rw [hV1]; congr 1; (rw [decide_eq_false (show ¬ ¬ ((u1 : Nat) : Int) = 2 by omega), Bool.and_false, failS_no])
     refine x_skip ?_
     refine hK3 _ _ ?_
     refine x_seq fun K9 hK9 => ?_
     refine x_seq fun K10 hK10 => ?_
     refine x_region ?_
     refine s_go (s_move) ?_
     try simp only [opv, nZ, Value.cells]
     refine s_go (s_nilCheck) ?_
     try simp only [opv, nZ, Value.cells]
     refine s_go (m_fieldAddr Tryz.underlying44 (hi := ti42)) ?_
     try simp only [opv, nZ, Value.cells, Nat.zero_add, Nat.add_zero, List.getElem_toArray, List.getElem_cons_zero, List.getElem_cons_succ]
     refine s_go (m_load_obj Tryz.underlying42 (hS := hS) (hv := by rfl)) ?_
     try simp only [opv, nZ, Value.cells, List.getElem_toArray, List.getElem_cons_zero, List.getElem_cons_succ]
     refine s_go (s_neq) ?_
     try simp only [opv, nZ, Value.cells]
     refine x_nil ?_
     refine hK10 _ _ ?_
     refine x_cond (ht := fun hc3 => ?_) (hf := fun hc3 => ?_)
     ·
      try simp only [decide_eq_true_eq, decide_eq_false_iff_not, Bool.not_eq_true', Bool.not_eq_false', Int.not_lt, Int.not_le, ne_eq, Decidable.not_not, bne_iff_ne, beq_iff_eq, not_true_eq_false, not_false_eq_true] at hc3
      (exfalso; omega)
     ·
      try simp only [decide_eq_true_eq, decide_eq_false_iff_not, Bool.not_eq_true', Bool.not_eq_false', Int.not_lt, Int.not_le, ne_eq, Decidable.not_not, bne_iff_ne, beq_iff_eq, not_true_eq_false, not_false_eq_true] at hc3
      have hz := in_ok hkE hW hc3
      refine x_skip ?_
      refine hK9 _ _ ?_
      refine x_seq fun K12 hK12 => ?_
      refine x_region ?_
      refine s_go (m_load_row Tryz.underlying32 (hi := ti32) (hS := hS) (hfit := by (rw [zi_size (by omega)]; rfl))) ?_
      try simp only [opv, nZ, Value.cells, List.getElem_toArray, List.getElem_cons_zero, List.getElem_cons_succ]
      refine m_store_obj ti32 (hS := hS) (hc := by exact zi_whole (by omega) (by omega)) (hv := by (show (zi _ _).toArray.size = _; rw [zi_size (by omega)]; rfl)) (hfit := by (rw [zi_size (by omega)]; decide)) (h1 := by exact zi_one _ _) (h := fun w10 hS => ?_)
      try simp only [opv, nZ, Value.cells, Array.toArray_toList] at hS ⊢
      refine x_nil ?_
      refine hK12 _ _ ?_
      refine x_ret ?_
      refine r_cell_agg rfl Tryz.underlying32 ti32 (hS := hS) (hfit := by (rw [zi_size (by omega)]; rfl)) (hR := ?_)
      exact ⟨by rw [hz], _, _, by rw [hz]; assumption, by rw [hz]; assumption, by rw [hz]; exact hS.sel (by repeat (first | exact Sel.nil | (refine Sel.cons (by repeat (exact Del.head)) ?_)))⟩
   ·
    try simp only [n3, n4]
    try simp only [decide_eq_true_eq, decide_eq_false_iff_not, Bool.not_eq_true', Bool.not_eq_false', Int.not_lt, Int.not_le, ne_eq, Decidable.not_not] at hp2
    refine s_go (s_pick_t) ?_
    try simp only [opv, nZ, Value.cells]
    refine s_go (s_move) ?_
    try simp only [opv, nZ, Value.cells]
    refine g_off (yi (t := 30) rfl rfl) ?_
    try simp only [opv, nZ, Value.cells]
    refine g_off (yi (t := 30) rfl rfl) ?_
    try simp only [opv, nZ, Value.cells]
    refine g_off (yi (t := 30) rfl rfl) ?_
    try simp only [opv, nZ, Value.cells]
    refine g_off (yi (t := 30) rfl rfl) ?_
    try simp only [opv, nZ, Value.cells]
    refine s_go (s_pick_f) ?_
    try simp only [opv, nZ, Value.cells]
    refine x_nil ?_
    refine hK7 _ _ ?_
    refine x_cond_f (h := ?_)
    have hW : valP (kn (keyS e xs).1 0) (keyS e xs).2.1 (keyS e xs).2.2 = (mkV u1 nm0, (oneS (keyS e xs).2.1 (keyS e xs).2.2).2) := by rw [hV1]; congr 1; (rw [decide_eq_false (show ¬ ¬ ((u1 : Nat) : Int) = 1 by omega), Bool.false_and, failS_no])
    refine x_skip ?_
    refine hK3 _ _ ?_
    refine x_seq fun K13 hK13 => ?_
    refine x_seq fun K14 hK14 => ?_
    refine x_region ?_
    refine s_go (s_move) ?_
    try simp only [opv, nZ, Value.cells]
    refine s_go (s_nilCheck) ?_
    try simp only [opv, nZ, Value.cells]
    refine s_go (m_fieldAddr Tryz.underlying44 (hi := ti42)) ?_
    try simp only [opv, nZ, Value.cells, Nat.zero_add, Nat.add_zero, List.getElem_toArray, List.getElem_cons_zero, List.getElem_cons_succ]
    refine s_go (m_load_obj Tryz.underlying42 (hS := hS) (hv := by rfl)) ?_
    try simp only [opv, nZ, Value.cells, List.getElem_toArray, List.getElem_cons_zero, List.getElem_cons_succ]
    refine s_go (s_neq) ?_
    try simp only [opv, nZ, Value.cells]
    refine x_nil ?_
    refine hK14 _ _ ?_
    refine x_cond (ht := fun hc5 => ?_) (hf := fun hc5 => ?_)
    ·
     try simp only [decide_eq_true_eq, decide_eq_false_iff_not, Bool.not_eq_true', Bool.not_eq_false', Int.not_lt, Int.not_le, ne_eq, Decidable.not_not, bne_iff_ne, beq_iff_eq, not_true_eq_false, not_false_eq_true] at hc5
     (exfalso; omega)
    ·
     try simp only [decide_eq_true_eq, decide_eq_false_iff_not, Bool.not_eq_true', Bool.not_eq_false', Int.not_lt, Int.not_le, ne_eq, Decidable.not_not, bne_iff_ne, beq_iff_eq, not_true_eq_false, not_false_eq_true] at hc5
     have hz := in_ok hkE hW hc5
     refine x_skip ?_
     refine hK13 _ _ ?_
     refine x_seq fun K16 hK16 => ?_
     refine x_region ?_
     refine s_go (m_load_row Tryz.underlying32 (hi := ti32) (hS := hS) (hfit := by (rw [zi_size (by omega)]; rfl))) ?_
     try simp only [opv, nZ, Value.cells, List.getElem_toArray, List.getElem_cons_zero, List.getElem_cons_succ]
     refine m_store_obj ti32 (hS := hS) (hc := by exact zi_whole (by omega) (by omega)) (hv := by (show (zi _ _).toArray.size = _; rw [zi_size (by omega)]; rfl)) (hfit := by (rw [zi_size (by omega)]; decide)) (h1 := by exact zi_one _ _) (h := fun w12 hS => ?_)
     try simp only [opv, nZ, Value.cells, Array.toArray_toList] at hS ⊢
     refine x_nil ?_
     refine hK16 _ _ ?_
     refine x_ret ?_
     refine r_cell_agg rfl Tryz.underlying32 ti32 (hS := hS) (hfit := by (rw [zi_size (by omega)]; rfl)) (hR := ?_)
     exact ⟨by rw [hz], _, _, by rw [hz]; assumption, by rw [hz]; assumption, by rw [hz]; exact hS.sel (by repeat (first | exact Sel.nil | (refine Sel.cons (by repeat (exact Del.head)) ?_)))⟩
  ·
   try simp only [n3, n4]
   try simp only [decide_eq_true_eq, decide_eq_false_iff_not, Bool.not_eq_true', Bool.not_eq_false', Int.not_lt, Int.not_le, ne_eq, Decidable.not_not] at hp1
   have hE1 : ¬ (oneS (keyS e xs).2.1 (keyS e xs).2.2).2.1 = 0 := hp1
   refine s_go (s_move) ?_
   try simp only [opv, nZ, Value.cells]
   refine g_off (yi (t := 24) rfl rfl) ?_
   try simp only [opv, nZ, Value.cells]
   refine g_off (yi (t := 24) rfl rfl) ?_
   try simp only [opv, nZ, Value.cells]
   refine g_off (yi (t := 24) rfl rfl) ?_
   try simp only [opv, nZ, Value.cells]
   refine g_off (yi (t := 24) rfl rfl) ?_
   try simp only [opv, nZ, Value.cells]
   refine s_go (s_pick_f) ?_
   try simp only [opv, nZ, Value.cells]
   refine s_go (s_move) ?_
   try simp only [opv, nZ, Value.cells]
   refine g_off (yi (t := 30) rfl rfl) ?_
   try simp only [opv, nZ, Value.cells]
   refine g_off (yi (t := 30) rfl rfl) ?_
   try simp only [opv, nZ, Value.cells]
   refine g_off (yi (t := 30) rfl rfl) ?_
   try simp only [opv, nZ, Value.cells]
   refine g_off (yi (t := 30) rfl rfl) ?_
   try simp only [opv, nZ, Value.cells]
   refine s_go (s_pick_f) ?_
   try simp only [opv, nZ, Value.cells]
   refine x_nil ?_
   refine hK7 _ _ ?_
   refine x_cond_f (h := ?_)
   have hW : valP (kn (keyS e xs).1 0) (keyS e xs).2.1 (keyS e xs).2.2 = (mkV u1 nm0, (oneS (keyS e xs).2.1 (keyS e xs).2.2).2) := by rw [hV1]; congr 1; exact failS_err hE1 (oneS_ok (fun h => absurd hkE h) hE1)
   refine x_skip ?_
   refine hK3 _ _ ?_
   refine x_seq fun K17 hK17 => ?_
   refine x_seq fun K18 hK18 => ?_
   refine x_region ?_
   refine s_go (s_move) ?_
   try simp only [opv, nZ, Value.cells]
   refine s_go (s_nilCheck) ?_
   try simp only [opv, nZ, Value.cells]
   refine s_go (m_fieldAddr Tryz.underlying44 (hi := ti42)) ?_
   try simp only [opv, nZ, Value.cells, Nat.zero_add, Nat.add_zero, List.getElem_toArray, List.getElem_cons_zero, List.getElem_cons_succ]
   refine s_go (m_load_obj Tryz.underlying42 (hS := hS) (hv := by rfl)) ?_
   try simp only [opv, nZ, Value.cells, List.getElem_toArray, List.getElem_cons_zero, List.getElem_cons_succ]
   refine s_go (s_neq) ?_
   try simp only [opv, nZ, Value.cells]
   refine x_nil ?_
   refine hK18 _ _ ?_
   refine x_cond (ht := fun hc7 => ?_) (hf := fun hc7 => ?_)
   ·
    try simp only [decide_eq_true_eq, decide_eq_false_iff_not, Bool.not_eq_true', Bool.not_eq_false', Int.not_lt, Int.not_le, ne_eq, Decidable.not_not, bne_iff_ne, beq_iff_eq, not_true_eq_false, not_false_eq_true] at hc7
    have hz := in_err hkE (by rw [hW]) hc7
    refine x_seq fun K19 hK19 => ?_
    refine x_region ?_
    refine s_go (s_build_struct (cells := #[.int .u8 0, .int .u16 0, .int .u8 0, .int .u8 0, .int .u8 0, .int .u8 0, .int .u8 0, .int .u8 0, .int .u8 0, .int .u8 0, .int .u8 0, .int .u32 0, .int .u64 0, .int .u8 0, .int .u8 0, .int .u8 0, .int .u8 0, .int .u8 0, .int .u8 0, .int .u8 0, .int .u8 0]) Tryz.underlying32 ti32 bp32 (hc := by simp only [List.map_toArray, List.map_cons, List.map_nil, opv, nZ, Value.cells, List.toList_toArray]; (repeat (refine fill_cons rfl rfl (Nat.le_of_ble_eq_true rfl) ?_)); rfl)) ?_
    try simp only [opv, nZ, Value.cells]
    rw [show (#[.int .u8 0, .int .u16 0, .int .u8 0, .int .u8 0, .int .u8 0, .int .u8 0, .int .u8 0, .int .u8 0, .int .u8 0, .int .u8 0, .int .u8 0, .int .u32 0, .int .u64 0, .int .u8 0, .int .u8 0, .int .u8 0, .int .u8 0, .int .u8 0, .int .u8 0, .int .u8 0, .int .u8 0] : Array Value) = AA atom0 from rfl]
    refine m_store_obj ti32 (hS := hS) (hc := by exact zi_whole (by omega) (by omega)) (hv := by rfl) (hfit := by (rw [zi_size (by omega)]; decide)) (h1 := by exact zi_one _ _) (h := fun w13 hS => ?_)
    try simp only [opv, nZ, Value.cells, Array.toArray_toList] at hS ⊢
    refine x_nil ?_
    refine hK19 _ _ ?_
    refine x_ret ?_
    refine r_cell_agg rfl Tryz.underlying32 ti32 (hS := hS) (hfit := by (rw [zi_size (by omega)]; rfl)) (hR := ?_)
    exact ⟨by rw [hz], _, _, by rw [hz]; assumption, by rw [hz]; assumption, by rw [hz]; exact hS.sel (by repeat (first | exact Sel.nil | (refine Sel.cons (by repeat (exact Del.head)) ?_)))⟩
   ·
    try simp only [decide_eq_true_eq, decide_eq_false_iff_not, Bool.not_eq_true', Bool.not_eq_false', Int.not_lt, Int.not_le, ne_eq, Decidable.not_not, bne_iff_ne, beq_iff_eq, not_true_eq_false, not_false_eq_true] at hc7
    (exfalso; omega)
 ·
  try simp only [decide_eq_true_eq, decide_eq_false_iff_not, Bool.not_eq_true', Bool.not_eq_false', Int.not_lt, Int.not_le, ne_eq, Decidable.not_not, bne_iff_ne, beq_iff_eq, not_true_eq_false, not_false_eq_true] at hc1
  refine x_seq fun K21 hK21 => ?_
  refine x_seq fun K22 hK22 => ?_
  refine x_region ?_
  refine s_go (s_eql) ?_
  try simp only [opv, nZ, Value.cells]
  refine s_go (s_assign) ?_
  try simp only [opv, nZ, Value.cells]
  refine x_nil ?_
  refine hK22 _ _ ?_
  refine x_cond (ht := fun hc8 => ?_) (hf := fun hc8 => ?_)
  ·
   try simp only [decide_eq_true_eq, decide_eq_false_iff_not, Bool.not_eq_true', Bool.not_eq_false', Int.not_lt, Int.not_le, ne_eq, Decidable.not_not, bne_iff_ne, beq_iff_eq, not_true_eq_false, not_false_eq_true] at hc8
   refine x_skip ?_
   refine hK21 _ _ ?_
   refine x_cond (ht := fun hc9 => ?_) (hf := fun hc9 => ?_)
   ·
    try simp only [decide_eq_true_eq, decide_eq_false_iff_not, Bool.not_eq_true', Bool.not_eq_false', Int.not_lt, Int.not_le, ne_eq, Decidable.not_not, bne_iff_ne, beq_iff_eq, not_true_eq_false, not_false_eq_true] at hc9
    refine x_seq fun K23 hK23 => ?_
    refine x_region ?_
    have hk23 : kn (keyS e xs).1 0 = 2 ∨ kn (keyS e xs).1 0 = 3 := by omega
    have hkE := keyS_e0 (e := e) (xs := xs) (by omega)
    have hnl := numS_le 4294967295 (keyS e xs).2.1 (keyS e xs).2.2
    have hV2 := valP_2 (e := (keyS e xs).2.1) (xs := (keyS e xs).2.2) hk23
    have hl3 : ((keyS e xs).1 ++ mkV (numS 4294967295 (keyS e xs).2.1 (keyS e xs).2.2).1 nm0).length = 21 := by rw [List.length_append, hk12, mkV_len (show nm0.length = 8 from rfl)]
    refine s_go (s_move) ?_
    try simp only [opv, nZ, Value.cells]
    refine s_go (s_build_struct (cells := #[.int .i64 0, _, .int .u8 0, .int .u8 0, .int .u8 0, .int .u8 0, .int .u8 0, .int .u8 0, .int .u8 0, .int .u8 0, .int .u8 0, .slice none 0 0, .int .i64 0]) Tryz.underlying58 ti58 bp58 (hc := by simp only [List.map_toArray, List.map_cons, List.map_nil, opv, nZ, Value.cells, List.toList_toArray]; (repeat (refine fill_cons rfl rfl (Nat.le_of_ble_eq_true rfl) ?_)); rfl)) ?_
    try simp only [opv, nZ, Value.cells]
    refine s_call en29 ?_
    try simp only [opv, nZ, Value.cells, List.map_toArray, List.map_cons, List.map_nil, List.append_toArray, List.cons_append, List.nil_append, Array.append_empty]
    refine CallR.mono (c_ref07Read _ g (keyS e xs).2.1 Aa ca (keyS e xs).2.2 hcpa hkb (by omega) ⟨0, 4294967295, 0, nm0, none, 0, [], 0⟩ (by decide) (by decide) (hS.owns (by repeat (first | exact Spl.nil | (apply Spl.cons (by repeat (first | exact Del.head | apply Del.tail))))))) ?_
    rintro _ w15 ⟨Bb, kb, rfl, hQb, Ab, cb, hcpb, hRb, hCb⟩
    have hYb := RdIn.trans hM hS (by repeat (first | exact Spl.nil | (apply Spl.cons (by repeat (first | exact Del.head | apply Del.tail))))) hRb (by intro s hs q hb; simp only [List.mem_cons, List.not_mem_nil, or_false] at hs; rcases hs with rfl | rfl <;> first | (simp [Res.reads] at hb; done) | exact hRa q hb)
    replace hS := hS.frame (by repeat (first | exact Spl.nil | (apply Spl.cons (by repeat (first | exact Del.head | apply Del.tail))))) hCb (by intro r hr b hb; simp only [List.mem_cons, List.not_mem_nil, or_false] at hr; rcases hr with rfl | rfl | rfl <;> first | (simp [Res.reads] at hb; done) | exact hRb b hb | exact hQb b hb)
    replace hRb := hYb
    simp only [List.cons_append, List.nil_append] at hS
    simp only [rdS_u] at hS hcpb hRb ⊢
    try simp only [opv, nZ, Value.cells]
    refine s_go (s_field_one Tryz.underlying58 (hu := Tryz.underlying28) (hv := by rfl)) ?_
    try simp only [opv, nZ, Value.cells, List.getElem_toArray, List.getElem_cons_zero, List.getElem_cons_succ]
    refine s_go (m_fieldAddr Tryz.underlying32 (hi := ti30)) ?_
    try simp only [opv, nZ, Value.cells, Nat.zero_add, Nat.add_zero, List.getElem_toArray, List.getElem_cons_zero, List.getElem_cons_succ]
    refine s_go (m_fieldAddr Tryz.underlying30 (hi := ti28)) ?_
    try simp only [opv, nZ, Value.cells, Nat.zero_add, Nat.add_zero, List.getElem_toArray, List.getElem_cons_zero, List.getElem_cons_succ]
    refine m_store_obj ti28 (hS := hS) (hc := by exact zi_set rfl (by omega)) (hv := by rfl) (hfit := by (rw [zi_size (by omega)]; decide)) (h1 := by simp [opv, Value.cells, Value.oneCell']) (h := fun w16 hS => ?_)
    try simp only [opv, nZ, Value.cells, Array.toArray_toList] at hS ⊢
    rw [at_set12 hk12] at hS
    refine x_nil ?_
    refine hK23 _ _ ?_
    refine x_seq fun K24 hK24 => ?_
    refine x_region ?_
    refine s_go (s_move) ?_
    try simp only [opv, nZ, Value.cells]
    refine s_go (s_nilCheck) ?_
    try simp only [opv, nZ, Value.cells]
    refine s_go (m_fieldAddr Tryz.underlying44 (hi := ti42)) ?_
    try simp only [opv, nZ, Value.cells, Nat.zero_add, Nat.add_zero, List.getElem_toArray, List.getElem_cons_zero, List.getElem_cons_succ]
    refine s_go (m_load_obj Tryz.underlying42 (hS := hS) (hv := by rfl)) ?_
    try simp only [opv, nZ, Value.cells, List.getElem_toArray, List.getElem_cons_zero, List.getElem_cons_succ]
    refine s_go (s_eql) ?_
    try simp only [opv, nZ, Value.cells]
    refine s_part 51 rfl (fun hp3 => ?_) (fun hp3 => ?_)
    ·
     try simp only [n3, n4]
     try simp only [decide_eq_true_eq, decide_eq_false_iff_not, Bool.not_eq_true', Bool.not_eq_false', Int.not_lt, Int.not_le, ne_eq, Decidable.not_not] at hp3
     have hE1 : (numS 4294967295 (keyS e xs).2.1 (keyS e xs).2.2).2.1 = 0 := hp3
     refine s_go (s_move) ?_
     try simp only [opv, nZ, Value.cells]
     refine g_on (yi (t := 52) rfl rfl) ?_
     refine s_go (m_fieldAddr Tryz.underlying32 (hi := ti30)) ?_
     try simp only [opv, nZ, Value.cells, Nat.zero_add, Nat.add_zero, List.getElem_toArray, List.getElem_cons_zero, List.getElem_cons_succ]
     refine g_on (yi (t := 52) rfl rfl) ?_
     refine s_go (m_fieldAddr Tryz.underlying30 (hi := ti28)) ?_
     try simp only [opv, nZ, Value.cells, Nat.zero_add, Nat.add_zero, List.getElem_toArray, List.getElem_cons_zero, List.getElem_cons_succ]
     refine g_on (yi (t := 52) rfl rfl) ?_
     refine s_go (m_load_obj Tryz.underlying28 (hS := hS) (hv := by exact zi_get rfl (by omega))) ?_
     try simp only [opv, nZ, Value.cells, List.getElem_toArray, List.getElem_cons_zero, List.getElem_cons_succ]
     rw [at_get12 hk12]
     refine g_on (yi (t := 52) rfl rfl) ?_
     refine s_go (s_eql) ?_
     try simp only [opv, nZ, Value.cells]
     refine s_go (s_pick_t) ?_
     try simp only [opv, nZ, Value.cells]
     refine x_nil ?_
     refine hK24 _ _ ?_
     refine x_cond (ht := fun hc10 => ?_) (hf := fun hc10 => ?_)
     ·
      try simp only [decide_eq_true_eq, decide_eq_false_iff_not, Bool.not_eq_true', Bool.not_eq_false', Int.not_lt, Int.not_le, ne_eq, Decidable.not_not, bne_iff_ne, beq_iff_eq, not_true_eq_false, not_false_eq_true] at hc10
      have hz := in_fail (st := (numS 4294967295 (keyS e xs).2.1 (keyS e xs).2.2).2) hkE (by rw [hV2, decide_eq_true (show (numS 4294967295 (keyS e xs).2.1 (keyS e xs).2.2).1 = 0 by omega)]) hE1 (by decide)
      rw [hE1] at hS
      refine x_seq fun K25 hK25 => ?_
      refine x_region ?_
      refine s_go (s_move) ?_
      try simp only [opv, nZ, Value.cells]
      refine s_call en30 ?_
      try simp only [opv, nZ, Value.cells, List.map_toArray, List.map_cons, List.map_nil, List.append_toArray, List.cons_append, List.nil_append, Array.append_empty]
      refine CallR.mono (c_ref09fail _ g Ab cb (numS 4294967295 (keyS e xs).2.1 (keyS e xs).2.2).2.2 hcpb 3 (hS.owns (by repeat (first | exact Spl.nil | (apply Spl.cons (by repeat (exact Del.head))))))) ?_
      rintro _ w17 ⟨rfl, Af, cf, hcpf, hRf, hCf⟩
      have hYf := RdIn.trans hM hS (by repeat (first | exact Spl.nil | (apply Spl.cons (by repeat (exact Del.head))))) hRf (by intro s hs q hb; simp only [List.mem_cons, List.not_mem_nil, or_false] at hs; rcases hs with rfl | rfl <;> first | (simp [Res.reads] at hb; done) | exact hRb q hb)
      replace hS := hS.frame (by repeat (first | exact Spl.nil | (apply Spl.cons (by repeat (exact Del.head))))) hCf (by intro r hr b hb; simp only [List.mem_cons, List.not_mem_nil, or_false] at hr; rcases hr with rfl | rfl <;> (simp [Res.reads] at hb; done))
      replace hRf := hYf
      simp only [List.cons_append, List.nil_append] at hS
      try simp only [opv, nZ, Value.cells]
      refine m_store_obj ti32 (hS := hS) (hc := by exact zi_whole (by omega) (by omega)) (hv := by rfl) (hfit := by (rw [zi_size (by omega)]; decide)) (h1 := by exact zi_one _ _) (h := fun w18 hS => ?_)
      try simp only [opv, nZ, Value.cells, Array.toArray_toList] at hS ⊢
      refine x_nil ?_
      refine hK25 _ _ ?_
      refine x_ret ?_
      refine r_cell_agg rfl Tryz.underlying32 ti32 (hS := hS) (hfit := by (rw [zi_size (by omega)]; rfl)) (hR := ?_)
      exact ⟨by rw [hz], _, _, by rw [hz]; assumption, by rw [hz]; assumption, by rw [hz]; exact hS.sel (by repeat (first | exact Sel.nil | (refine Sel.cons (by repeat (exact Del.head)) ?_)))⟩
     ·
      try simp only [decide_eq_true_eq, decide_eq_false_iff_not, Bool.not_eq_true', Bool.not_eq_false', Int.not_lt, Int.not_le, ne_eq, Decidable.not_not, bne_iff_ne, beq_iff_eq, not_true_eq_false, not_false_eq_true] at hc10
      have hW : valP (kn (keyS e xs).1 0) (keyS e xs).2.1 (keyS e xs).2.2 = (mkV (numS 4294967295 (keyS e xs).2.1 (keyS e xs).2.2).1 nm0, (numS 4294967295 (keyS e xs).2.1 (keyS e xs).2.2).2) := by rw [hV2]; congr 1; (rw [decide_eq_false (show ¬ (numS 4294967295 (keyS e xs).2.1 (keyS e xs).2.2).1 = 0 by omega), failS_no])
      refine x_skip ?_
      refine hK3 _ _ ?_
      refine x_seq fun K26 hK26 => ?_
      refine x_seq fun K27 hK27 => ?_
      refine x_region ?_
      refine s_go (s_move) ?_
      try simp only [opv, nZ, Value.cells]
      refine s_go (s_nilCheck) ?_
      try simp only [opv, nZ, Value.cells]
      refine s_go (m_fieldAddr Tryz.underlying44 (hi := ti42)) ?_
      try simp only [opv, nZ, Value.cells, Nat.zero_add, Nat.add_zero, List.getElem_toArray, List.getElem_cons_zero, List.getElem_cons_succ]
      refine s_go (m_load_obj Tryz.underlying42 (hS := hS) (hv := by rfl)) ?_
      try simp only [opv, nZ, Value.cells, List.getElem_toArray, List.getElem_cons_zero, List.getElem_cons_succ]
      refine s_go (s_neq) ?_
      try simp only [opv, nZ, Value.cells]
      refine x_nil ?_
      refine hK27 _ _ ?_
      refine x_cond (ht := fun hc11 => ?_) (hf := fun hc11 => ?_)
      ·
       try simp only [decide_eq_true_eq, decide_eq_false_iff_not, Bool.not_eq_true', Bool.not_eq_false', Int.not_lt, Int.not_le, ne_eq, Decidable.not_not, bne_iff_ne, beq_iff_eq, not_true_eq_false, not_false_eq_true] at hc11
       (exfalso; omega)
      ·
       try simp only [decide_eq_true_eq, decide_eq_false_iff_not, Bool.not_eq_true', Bool.not_eq_false', Int.not_lt, Int.not_le, ne_eq, Decidable.not_not, bne_iff_ne, beq_iff_eq, not_true_eq_false, not_false_eq_true] at hc11
       have hz := in_ok hkE hW hc11
       refine x_skip ?_
       refine hK26 _ _ ?_
       refine x_seq fun K29 hK29 => ?_
       refine x_region ?_
       refine s_go (m_load_row Tryz.underlying32 (hi := ti32) (hS := hS) (hfit := by (rw [zi_size (by omega)]; rfl))) ?_
       try simp only [opv, nZ, Value.cells, List.getElem_toArray, List.getElem_cons_zero, List.getElem_cons_succ]
       refine m_store_obj ti32 (hS := hS) (hc := by exact zi_whole (by omega) (by omega)) (hv := by (show (zi _ _).toArray.size = _; rw [zi_size (by omega)]; rfl)) (hfit := by (rw [zi_size (by omega)]; decide)) (h1 := by exact zi_one _ _) (h := fun w20 hS => ?_)
       try simp only [opv, nZ, Value.cells, Array.toArray_toList] at hS ⊢
       refine x_nil ?_
       refine hK29 _ _ ?_
       refine x_ret ?_
       refine r_cell_agg rfl Tryz.underlying32 ti32 (hS := hS) (hfit := by (rw [zi_size (by omega)]; rfl)) (hR := ?_)
       exact ⟨by rw [hz], _, _, by rw [hz]; assumption, by rw [hz]; assumption, by rw [hz]; exact hS.sel (by repeat (first | exact Sel.nil | (refine Sel.cons (by repeat (exact Del.head)) ?_)))⟩
    ·
     try simp only [n3, n4]
     try simp only [decide_eq_true_eq, decide_eq_false_iff_not, Bool.not_eq_true', Bool.not_eq_false', Int.not_lt, Int.not_le, ne_eq, Decidable.not_not] at hp3
     have hE1 : ¬ (numS 4294967295 (keyS e xs).2.1 (keyS e xs).2.2).2.1 = 0 := hp3
     refine s_go (s_move) ?_
     try simp only [opv, nZ, Value.cells]
     refine g_off (yi (t := 52) rfl rfl) ?_
     try simp only [opv, nZ, Value.cells]
     refine g_off (yi (t := 52) rfl rfl) ?_
     try simp only [opv, nZ, Value.cells]
     refine g_off (yi (t := 52) rfl rfl) ?_
     try simp only [opv, nZ, Value.cells]
     refine g_off (yi (t := 52) rfl rfl) ?_
     try simp only [opv, nZ, Value.cells]
     refine s_go (s_pick_f) ?_
     try simp only [opv, nZ, Value.cells]
     refine x_nil ?_
     refine hK24 _ _ ?_
     refine x_cond_f (h := ?_)
     have hW : valP (kn (keyS e xs).1 0) (keyS e xs).2.1 (keyS e xs).2.2 = (mkV (numS 4294967295 (keyS e xs).2.1 (keyS e xs).2.2).1 nm0, (numS 4294967295 (keyS e xs).2.1 (keyS e xs).2.2).2) := by rw [hV2]; congr 1; exact failS_err hE1 (numS_ok (fun h => absurd hkE h) hE1)
     refine x_skip ?_
     refine hK3 _ _ ?_
     refine x_seq fun K30 hK30 => ?_
     refine x_seq fun K31 hK31 => ?_
     refine x_region ?_
     refine s_go (s_move) ?_
     try simp only [opv, nZ, Value.cells]
     refine s_go (s_nilCheck) ?_
     try simp only [opv, nZ, Value.cells]
     refine s_go (m_fieldAddr Tryz.underlying44 (hi := ti42)) ?_
     try simp only [opv, nZ, Value.cells, Nat.zero_add, Nat.add_zero, List.getElem_toArray, List.getElem_cons_zero, List.getElem_cons_succ]
     refine s_go (m_load_obj Tryz.underlying42 (hS := hS) (hv := by rfl)) ?_
     try simp only [opv, nZ, Value.cells, List.getElem_toArray, List.getElem_cons_zero, List.getElem_cons_succ]
     refine s_go (s_neq) ?_
     try simp only [opv, nZ, Value.cells]
     refine x_nil ?_
     refine hK31 _ _ ?_
     refine x_cond (ht := fun hc13 => ?_) (hf := fun hc13 => ?_)
     ·
      try simp only [decide_eq_true_eq, decide_eq_false_iff_not, Bool.not_eq_true', Bool.not_eq_false', Int.not_lt, Int.not_le, ne_eq, Decidable.not_not, bne_iff_ne, beq_iff_eq, not_true_eq_false, not_false_eq_true] at hc13
      have hz := in_err hkE (by rw [hW]) hc13
      refine x_seq fun K32 hK32 => ?_
      refine x_region ?_
      refine s_go (s_build_struct (cells := #[.int .u8 0, .int .u16 0, .int .u8 0, .int .u8 0, .int .u8 0, .int .u8 0, .int .u8 0, .int .u8 0, .int .u8 0, .int .u8 0, .int .u8 0, .int .u32 0, .int .u64 0, .int .u8 0, .int .u8 0, .int .u8 0, .int .u8 0, .int .u8 0, .int .u8 0, .int .u8 0, .int .u8 0]) Tryz.underlying32 ti32 bp32 (hc := by simp only [List.map_toArray, List.map_cons, List.map_nil, opv, nZ, Value.cells, List.toList_toArray]; (repeat (refine fill_cons rfl rfl (Nat.le_of_ble_eq_true rfl) ?_)); rfl)) ?_
      try simp only [opv, nZ, Value.cells]
      rw [show (#[.int .u8 0, .int .u16 0, .int .u8 0, .int .u8 0, .int .u8 0, .int .u8 0, .int .u8 0, .int .u8 0, .int .u8 0, .int .u8 0, .int .u8 0, .int .u32 0, .int .u64 0, .int .u8 0, .int .u8 0, .int .u8 0, .int .u8 0, .int .u8 0, .int .u8 0, .int .u8 0, .int .u8 0] : Array Value) = AA atom0 from rfl]
      refine m_store_obj ti32 (hS := hS) (hc := by exact zi_whole (by omega) (by omega)) (hv := by rfl) (hfit := by (rw [zi_size (by omega)]; decide)) (h1 := by exact zi_one _ _) (h := fun w21 hS => ?_)
      try simp only [opv, nZ, Value.cells, Array.toArray_toList] at hS ⊢
      refine x_nil ?_
      refine hK32 _ _ ?_
      refine x_ret ?_
      refine r_cell_agg rfl Tryz.underlying32 ti32 (hS := hS) (hfit := by (rw [zi_size (by omega)]; rfl)) (hR := ?_)
      exact ⟨by rw [hz], _, _, by rw [hz]; assumption, by rw [hz]; assumption, by rw [hz]; exact hS.sel (by repeat (first | exact Sel.nil | (refine Sel.cons (by repeat (exact Del.head)) ?_)))⟩
     ·
      try simp only [decide_eq_true_eq, decide_eq_false_iff_not, Bool.not_eq_true', Bool.not_eq_false', Int.not_lt, Int.not_le, ne_eq, Decidable.not_not, bne_iff_ne, beq_iff_eq, not_true_eq_false, not_false_eq_true] at hc13
      (exfalso; omega)
   ·
    try simp only [decide_eq_true_eq, decide_eq_false_iff_not, Bool.not_eq_true', Bool.not_eq_false', Int.not_lt, Int.not_le, ne_eq, Decidable.not_not, bne_iff_ne, beq_iff_eq, not_true_eq_false, not_false_eq_true] at hc9
    (exfalso; omega)
  ·
   try simp only [decide_eq_true_eq, decide_eq_false_iff_not, Bool.not_eq_true', Bool.not_eq_false', Int.not_lt, Int.not_le, ne_eq, Decidable.not_not, bne_iff_ne, beq_iff_eq, not_true_eq_false, not_false_eq_true] at hc8
   refine x_region ?_
   refine s_go (s_eql) ?_
   try simp only [opv, nZ, Value.cells]
   refine s_go (s_assign) ?_
   try simp only [opv, nZ, Value.cells]
   refine x_nil ?_
   refine hK21 _ _ ?_
   refine x_cond (ht := fun hc26 => ?_) (hf := fun hc26 => ?_)
   ·
    try simp only [decide_eq_true_eq, decide_eq_false_iff_not, Bool.not_eq_true', Bool.not_eq_false', Int.not_lt, Int.not_le, ne_eq, Decidable.not_not, bne_iff_ne, beq_iff_eq, not_true_eq_false, not_false_eq_true] at hc26
    refine x_seq fun K65 hK65 => ?_
    refine x_region ?_
    have hk23 : kn (keyS e xs).1 0 = 2 ∨ kn (keyS e xs).1 0 = 3 := by omega
    have hkE := keyS_e0 (e := e) (xs := xs) (by omega)
    have hnl := numS_le 4294967295 (keyS e xs).2.1 (keyS e xs).2.2
    have hV2 := valP_2 (e := (keyS e xs).2.1) (xs := (keyS e xs).2.2) hk23
    have hl3 : ((keyS e xs).1 ++ mkV (numS 4294967295 (keyS e xs).2.1 (keyS e xs).2.2).1 nm0).length = 21 := by rw [List.length_append, hk12, mkV_len (show nm0.length = 8 from rfl)]
    refine s_go (s_move) ?_
    try simp only [opv, nZ, Value.cells]
    refine s_go (s_build_struct (cells := #[.int .i64 0, _, .int .u8 0, .int .u8 0, .int .u8 0, .int .u8 0, .int .u8 0, .int .u8 0, .int .u8 0, .int .u8 0, .int .u8 0, .slice none 0 0, .int .i64 0]) Tryz.underlying58 ti58 bp58 (hc := by simp only [List.map_toArray, List.map_cons, List.map_nil, opv, nZ, Value.cells, List.toList_toArray]; (repeat (refine fill_cons rfl rfl (Nat.le_of_ble_eq_true rfl) ?_)); rfl)) ?_
    try simp only [opv, nZ, Value.cells]
    refine s_call en29 ?_
    try simp only [opv, nZ, Value.cells, List.map_toArray, List.map_cons, List.map_nil, List.append_toArray, List.cons_append, List.nil_append, Array.append_empty]
    refine CallR.mono (c_ref07Read _ g (keyS e xs).2.1 Aa ca (keyS e xs).2.2 hcpa hkb (by omega) ⟨0, 4294967295, 0, nm0, none, 0, [], 0⟩ (by decide) (by decide) (hS.owns (by repeat (first | exact Spl.nil | (apply Spl.cons (by repeat (first | exact Del.head | apply Del.tail))))))) ?_
    rintro _ w49 ⟨Bb, kb, rfl, hQb, Ab, cb, hcpb, hRb, hCb⟩
    have hYb := RdIn.trans hM hS (by repeat (first | exact Spl.nil | (apply Spl.cons (by repeat (first | exact Del.head | apply Del.tail))))) hRb (by intro s hs q hb; simp only [List.mem_cons, List.not_mem_nil, or_false] at hs; rcases hs with rfl | rfl <;> first | (simp [Res.reads] at hb; done) | exact hRa q hb)
    replace hS := hS.frame (by repeat (first | exact Spl.nil | (apply Spl.cons (by repeat (first | exact Del.head | apply Del.tail))))) hCb (by intro r hr b hb; simp only [List.mem_cons, List.not_mem_nil, or_false] at hr; rcases hr with rfl | rfl | rfl <;> first | (simp [Res.reads] at hb; done) | exact hRb b hb | exact hQb b hb)
    replace hRb := hYb
    simp only [List.cons_append, List.nil_append] at hS
    simp only [rdS_u] at hS hcpb hRb ⊢
    try simp only [opv, nZ, Value.cells]
    refine s_go (s_field_one Tryz.underlying58 (hu := Tryz.underlying28) (hv := by rfl)) ?_
    try simp only [opv, nZ, Value.cells, List.getElem_toArray, List.getElem_cons_zero, List.getElem_cons_succ]
    refine s_go (m_fieldAddr Tryz.underlying32 (hi := ti30)) ?_
    try simp only [opv, nZ, Value.cells, Nat.zero_add, Nat.add_zero, List.getElem_toArray, List.getElem_cons_zero, List.getElem_cons_succ]
    refine s_go (m_fieldAddr Tryz.underlying30 (hi := ti28)) ?_
    try simp only [opv, nZ, Value.cells, Nat.zero_add, Nat.add_zero, List.getElem_toArray, List.getElem_cons_zero, List.getElem_cons_succ]
    refine m_store_obj ti28 (hS := hS) (hc := by exact zi_set rfl (by omega)) (hv := by rfl) (hfit := by (rw [zi_size (by omega)]; decide)) (h1 := by simp [opv, Value.cells, Value.oneCell']) (h := fun w50 hS => ?_)
    try simp only [opv, nZ, Value.cells, Array.toArray_toList] at hS ⊢
    rw [at_set12 hk12] at hS
    refine x_nil ?_
    refine hK65 _ _ ?_
    refine x_seq fun K66 hK66 => ?_
    refine x_region ?_
    refine s_go (s_move) ?_
    try simp only [opv, nZ, Value.cells]
    refine s_go (s_nilCheck) ?_
    try simp only [opv, nZ, Value.cells]
    refine s_go (m_fieldAddr Tryz.underlying44 (hi := ti42)) ?_
    try simp only [opv, nZ, Value.cells, Nat.zero_add, Nat.add_zero, List.getElem_toArray, List.getElem_cons_zero, List.getElem_cons_succ]
    refine s_go (m_load_obj Tryz.underlying42 (hS := hS) (hv := by rfl)) ?_
    try simp only [opv, nZ, Value.cells, List.getElem_toArray, List.getElem_cons_zero, List.getElem_cons_succ]
    refine s_go (s_eql) ?_
    try simp only [opv, nZ, Value.cells]
    refine s_part 51 rfl (fun hp7 => ?_) (fun hp7 => ?_)
    ·
     try simp only [n3, n4]
     try simp only [decide_eq_true_eq, decide_eq_false_iff_not, Bool.not_eq_true', Bool.not_eq_false', Int.not_lt, Int.not_le, ne_eq, Decidable.not_not] at hp7
     have hE1 : (numS 4294967295 (keyS e xs).2.1 (keyS e xs).2.2).2.1 = 0 := hp7
     refine s_go (s_move) ?_
     try simp only [opv, nZ, Value.cells]
     refine g_on (yi (t := 52) rfl rfl) ?_
     refine s_go (m_fieldAddr Tryz.underlying32 (hi := ti30)) ?_
     try simp only [opv, nZ, Value.cells, Nat.zero_add, Nat.add_zero, List.getElem_toArray, List.getElem_cons_zero, List.getElem_cons_succ]
     refine g_on (yi (t := 52) rfl rfl) ?_
     refine s_go (m_fieldAddr Tryz.underlying30 (hi := ti28)) ?_
     try simp only [opv, nZ, Value.cells, Nat.zero_add, Nat.add_zero, List.getElem_toArray, List.getElem_cons_zero, List.getElem_cons_succ]
     refine g_on (yi (t := 52) rfl rfl) ?_
     refine s_go (m_load_obj Tryz.underlying28 (hS := hS) (hv := by exact zi_get rfl (by omega))) ?_
     try simp only [opv, nZ, Value.cells, List.getElem_toArray, List.getElem_cons_zero, List.getElem_cons_succ]
     rw [at_get12 hk12]
     refine g_on (yi (t := 52) rfl rfl) ?_
     refine s_go (s_eql) ?_
     try simp only [opv, nZ, Value.cells]
     refine s_go (s_pick_t) ?_
     try simp only [opv, nZ, Value.cells]
     refine x_nil ?_
     refine hK66 _ _ ?_
     refine x_cond (ht := fun hc27 => ?_) (hf := fun hc27 => ?_)
     ·
      try simp only [decide_eq_true_eq, decide_eq_false_iff_not, Bool.not_eq_true', Bool.not_eq_false', Int.not_lt, Int.not_le, ne_eq, Decidable.not_not, bne_iff_ne, beq_iff_eq, not_true_eq_false, not_false_eq_true] at hc27
      have hz := in_fail (st := (numS 4294967295 (keyS e xs).2.1 (keyS e xs).2.2).2) hkE (by rw [hV2, decide_eq_true (show (numS 4294967295 (keyS e xs).2.1 (keyS e xs).2.2).1 = 0 by omega)]) hE1 (by decide)
      rw [hE1] at hS
      refine x_seq fun K67 hK67 => ?_
      refine x_region ?_
      refine s_go (s_move) ?_
      try simp only [opv, nZ, Value.cells]
      refine s_call en30 ?_
      try simp only [opv, nZ, Value.cells, List.map_toArray, List.map_cons, List.map_nil, List.append_toArray, List.cons_append, List.nil_append, Array.append_empty]
      refine CallR.mono (c_ref09fail _ g Ab cb (numS 4294967295 (keyS e xs).2.1 (keyS e xs).2.2).2.2 hcpb 3 (hS.owns (by repeat (first | exact Spl.nil | (apply Spl.cons (by repeat (exact Del.head))))))) ?_
      rintro _ w51 ⟨rfl, Af, cf, hcpf, hRf, hCf⟩
      have hYf := RdIn.trans hM hS (by repeat (first | exact Spl.nil | (apply Spl.cons (by repeat (exact Del.head))))) hRf (by intro s hs q hb; simp only [List.mem_cons, List.not_mem_nil, or_false] at hs; rcases hs with rfl | rfl <;> first | (simp [Res.reads] at hb; done) | exact hRb q hb)
      replace hS := hS.frame (by repeat (first | exact Spl.nil | (apply Spl.cons (by repeat (exact Del.head))))) hCf (by intro r hr b hb; simp only [List.mem_cons, List.not_mem_nil, or_false] at hr; rcases hr with rfl | rfl <;> (simp [Res.reads] at hb; done))
      replace hRf := hYf
      simp only [List.cons_append, List.nil_append] at hS
      try simp only [opv, nZ, Value.cells]
      refine m_store_obj ti32 (hS := hS) (hc := by exact zi_whole (by omega) (by omega)) (hv := by rfl) (hfit := by (rw [zi_size (by omega)]; decide)) (h1 := by exact zi_one _ _) (h := fun w52 hS => ?_)
      try simp only [opv, nZ, Value.cells, Array.toArray_toList] at hS ⊢
      refine x_nil ?_
      refine hK67 _ _ ?_
      refine x_ret ?_
      refine r_cell_agg rfl Tryz.underlying32 ti32 (hS := hS) (hfit := by (rw [zi_size (by omega)]; rfl)) (hR := ?_)
      exact ⟨by rw [hz], _, _, by rw [hz]; assumption, by rw [hz]; assumption, by rw [hz]; exact hS.sel (by repeat (first | exact Sel.nil | (refine Sel.cons (by repeat (exact Del.head)) ?_)))⟩
     ·
      try simp only [decide_eq_true_eq, decide_eq_false_iff_not, Bool.not_eq_true', Bool.not_eq_false', Int.not_lt, Int.not_le, ne_eq, Decidable.not_not, bne_iff_ne, beq_iff_eq, not_true_eq_false, not_false_eq_true] at hc27
      have hW : valP (kn (keyS e xs).1 0) (keyS e xs).2.1 (keyS e xs).2.2 = (mkV (numS 4294967295 (keyS e xs).2.1 (keyS e xs).2.2).1 nm0, (numS 4294967295 (keyS e xs).2.1 (keyS e xs).2.2).2) := by rw [hV2]; congr 1; (rw [decide_eq_false (show ¬ (numS 4294967295 (keyS e xs).2.1 (keyS e xs).2.2).1 = 0 by omega), failS_no])
      refine x_skip ?_
      refine hK3 _ _ ?_
      refine x_seq fun K68 hK68 => ?_
      refine x_seq fun K69 hK69 => ?_
      refine x_region ?_
      refine s_go (s_move) ?_
      try simp only [opv, nZ, Value.cells]
      refine s_go (s_nilCheck) ?_
      try simp only [opv, nZ, Value.cells]
      refine s_go (m_fieldAddr Tryz.underlying44 (hi := ti42)) ?_
      try simp only [opv, nZ, Value.cells, Nat.zero_add, Nat.add_zero, List.getElem_toArray, List.getElem_cons_zero, List.getElem_cons_succ]
      refine s_go (m_load_obj Tryz.underlying42 (hS := hS) (hv := by rfl)) ?_
      try simp only [opv, nZ, Value.cells, List.getElem_toArray, List.getElem_cons_zero, List.getElem_cons_succ]
      refine s_go (s_neq) ?_
      try simp only [opv, nZ, Value.cells]
      refine x_nil ?_
      refine hK69 _ _ ?_
      refine x_cond (ht := fun hc28 => ?_) (hf := fun hc28 => ?_)
      ·
       try simp only [decide_eq_true_eq, decide_eq_false_iff_not, Bool.not_eq_true', Bool.not_eq_false', Int.not_lt, Int.not_le, ne_eq, Decidable.not_not, bne_iff_ne, beq_iff_eq, not_true_eq_false, not_false_eq_true] at hc28
       (exfalso; omega)
      ·
       try simp only [decide_eq_true_eq, decide_eq_false_iff_not, Bool.not_eq_true', Bool.not_eq_false', Int.not_lt, Int.not_le, ne_eq, Decidable.not_not, bne_iff_ne, beq_iff_eq, not_true_eq_false, not_false_eq_true] at hc28
       have hz := in_ok hkE hW hc28
       refine x_skip ?_
       refine hK68 _ _ ?_
       refine x_seq fun K71 hK71 => ?_
       refine x_region ?_
       refine s_go (m_load_row Tryz.underlying32 (hi := ti32) (hS := hS) (hfit := by (rw [zi_size (by omega)]; rfl))) ?_
       try simp only [opv, nZ, Value.cells, List.getElem_toArray, List.getElem_cons_zero, List.getElem_cons_succ]
       refine m_store_obj ti32 (hS := hS) (hc := by exact zi_whole (by omega) (by omega)) (hv := by (show (zi _ _).toArray.size = _; rw [zi_size (by omega)]; rfl)) (hfit := by (rw [zi_size (by omega)]; decide)) (h1 := by exact zi_one _ _) (h := fun w54 hS => ?_)
       try simp only [opv, nZ, Value.cells, Array.toArray_toList] at hS ⊢
       refine x_nil ?_
       refine hK71 _ _ ?_
       refine x_ret ?_
       refine r_cell_agg rfl Tryz.underlying32 ti32 (hS := hS) (hfit := by (rw [zi_size (by omega)]; rfl)) (hR := ?_)
       exact ⟨by rw [hz], _, _, by rw [hz]; assumption, by rw [hz]; assumption, by rw [hz]; exact hS.sel (by repeat (first | exact Sel.nil | (refine Sel.cons (by repeat (exact Del.head)) ?_)))⟩
    ·
     try simp only [n3, n4]
     try simp only [decide_eq_true_eq, decide_eq_false_iff_not, Bool.not_eq_true', Bool.not_eq_false', Int.not_lt, Int.not_le, ne_eq, Decidable.not_not] at hp7
     have hE1 : ¬ (numS 4294967295 (keyS e xs).2.1 (keyS e xs).2.2).2.1 = 0 := hp7
     refine s_go (s_move) ?_
     try simp only [opv, nZ, Value.cells]
     refine g_off (yi (t := 52) rfl rfl) ?_
     try simp only [opv, nZ, Value.cells]
     refine g_off (yi (t := 52) rfl rfl) ?_
     try simp only [opv, nZ, Value.cells]
     refine g_off (yi (t := 52) rfl rfl) ?_
     try simp only [opv, nZ, Value.cells]
     refine g_off (yi (t := 52) rfl rfl) ?_
     try simp only [opv, nZ, Value.cells]
     refine s_go (s_pick_f) ?_
     try simp only [opv, nZ, Value.cells]
     refine x_nil ?_
     refine hK66 _ _ ?_
     refine x_cond_f (h := ?_)
     have hW : valP (kn (keyS e xs).1 0) (keyS e xs).2.1 (keyS e xs).2.2 = (mkV (numS 4294967295 (keyS e xs).2.1 (keyS e xs).2.2).1 nm0, (numS 4294967295 (keyS e xs).2.1 (keyS e xs).2.2).2) := by rw [hV2]; congr 1; exact failS_err hE1 (numS_ok (fun h => absurd hkE h) hE1)
     refine x_skip ?_
     refine hK3 _ _ ?_
     refine x_seq fun K72 hK72 => ?_
     refine x_seq fun K73 hK73 => ?_
     refine x_region ?_
     refine s_go (s_move) ?_
     try simp only [opv, nZ, Value.cells]
     refine s_go (s_nilCheck) ?_
     try simp only [opv, nZ, Value.cells]
     refine s_go (m_fieldAddr Tryz.underlying44 (hi := ti42)) ?_
     try simp only [opv, nZ, Value.cells, Nat.zero_add, Nat.add_zero, List.getElem_toArray, List.getElem_cons_zero, List.getElem_cons_succ]
     refine s_go (m_load_obj Tryz.underlying42 (hS := hS) (hv := by rfl)) ?_
     try simp only [opv, nZ, Value.cells, List.getElem_toArray, List.getElem_cons_zero, List.getElem_cons_succ]
     refine s_go (s_neq) ?_
     try simp only [opv, nZ, Value.cells]
     refine x_nil ?_
     refine hK73 _ _ ?_
     refine x_cond (ht := fun hc30 => ?_) (hf := fun hc30 => ?_)
     ·
      try simp only [decide_eq_true_eq, decide_eq_false_iff_not, Bool.not_eq_true', Bool.not_eq_false', Int.not_lt, Int.not_le, ne_eq, Decidable.not_not, bne_iff_ne, beq_iff_eq, not_true_eq_false, not_false_eq_true] at hc30
      have hz := in_err hkE (by rw [hW]) hc30
      refine x_seq fun K74 hK74 => ?_
      refine x_region ?_
      refine s_go (s_build_struct (cells := #[.int .u8 0, .int .u16 0, .int .u8 0, .int .u8 0, .int .u8 0, .int .u8 0, .int .u8 0, .int .u8 0, .int .u8 0, .int .u8 0, .int .u8 0, .int .u32 0, .int .u64 0, .int .u8 0, .int .u8 0, .int .u8 0, .int .u8 0, .int .u8 0, .int .u8 0, .int .u8 0, .int .u8 0]) Tryz.underlying32 ti32 bp32 (hc := by simp only [List.map_toArray, List.map_cons, List.map_nil, opv, nZ, Value.cells, List.toList_toArray]; (repeat (refine fill_cons rfl rfl (Nat.le_of_ble_eq_true rfl) ?_)); rfl)) ?_
      try simp only [opv, nZ, Value.cells]
      rw [show (#[.int .u8 0, .int .u16 0, .int .u8 0, .int .u8 0, .int .u8 0, .int .u8 0, .int .u8 0, .int .u8 0, .int .u8 0, .int .u8 0, .int .u8 0, .int .u32 0, .int .u64 0, .int .u8 0, .int .u8 0, .int .u8 0, .int .u8 0, .int .u8 0, .int .u8 0, .int .u8 0, .int .u8 0] : Array Value) = AA atom0 from rfl]
      refine m_store_obj ti32 (hS := hS) (hc := by exact zi_whole (by omega) (by omega)) (hv := by rfl) (hfit := by (rw [zi_size (by omega)]; decide)) (h1 := by exact zi_one _ _) (h := fun w55 hS => ?_)
      try simp only [opv, nZ, Value.cells, Array.toArray_toList] at hS ⊢
      refine x_nil ?_
      refine hK74 _ _ ?_
      refine x_ret ?_
      refine r_cell_agg rfl Tryz.underlying32 ti32 (hS := hS) (hfit := by (rw [zi_size (by omega)]; rfl)) (hR := ?_)
      exact ⟨by rw [hz], _, _, by rw [hz]; assumption, by rw [hz]; assumption, by rw [hz]; exact hS.sel (by repeat (first | exact Sel.nil | (refine Sel.cons (by repeat (exact Del.head)) ?_)))⟩
     ·
      try simp only [decide_eq_true_eq, decide_eq_false_iff_not, Bool.not_eq_true', Bool.not_eq_false', Int.not_lt, Int.not_le, ne_eq, Decidable.not_not, bne_iff_ne, beq_iff_eq, not_true_eq_false, not_false_eq_true] at hc30
      (exfalso; omega)
   ·
    try simp only [decide_eq_true_eq, decide_eq_false_iff_not, Bool.not_eq_true', Bool.not_eq_false', Int.not_lt, Int.not_le, ne_eq, Decidable.not_not, bne_iff_ne, beq_iff_eq, not_true_eq_false, not_false_eq_true] at hc26
    refine x_seq fun K76 hK76 => ?_
    refine x_region ?_
    refine s_go (s_eql) ?_
    try simp only [opv, nZ, Value.cells]
    refine s_go (s_assign) ?_
    try simp only [opv, nZ, Value.cells]
    refine x_nil ?_
    refine hK76 _ _ ?_
    refine x_cond (ht := fun hc31 => ?_) (hf := fun hc31 => ?_)
    ·
     try simp only [decide_eq_true_eq, decide_eq_false_iff_not, Bool.not_eq_true', Bool.not_eq_false', Int.not_lt, Int.not_le, ne_eq, Decidable.not_not, bne_iff_ne, beq_iff_eq, not_true_eq_false, not_false_eq_true] at hc31
     refine x_seq fun K77 hK77 => ?_
     refine x_region ?_
     have hk4 : kn (keyS e xs).1 0 = 4 := by omega
     have hkE := keyS_e0 (e := e) (xs := xs) (by omega)
     have hnl := numS_le 1099511627775 (keyS e xs).2.1 (keyS e xs).2.2
     have hV4 := valP_4 (e := (keyS e xs).2.1) (xs := (keyS e xs).2.2) hk4
     have hl3 : ((keyS e xs).1 ++ mkV (numS 1099511627775 (keyS e xs).2.1 (keyS e xs).2.2).1 nm0).length = 21 := by rw [List.length_append, hk12, mkV_len (show nm0.length = 8 from rfl)]
     refine s_go (s_move) ?_
     try simp only [opv, nZ, Value.cells]
     refine s_go (s_build_struct (cells := #[.int .i64 0, _, .int .u8 0, .int .u8 0, .int .u8 0, .int .u8 0, .int .u8 0, .int .u8 0, .int .u8 0, .int .u8 0, .int .u8 0, .slice none 0 0, .int .i64 0]) Tryz.underlying58 ti58 bp58 (hc := by simp only [List.map_toArray, List.map_cons, List.map_nil, opv, nZ, Value.cells, List.toList_toArray]; (repeat (refine fill_cons rfl rfl (Nat.le_of_ble_eq_true rfl) ?_)); rfl)) ?_
     try simp only [opv, nZ, Value.cells]
     refine s_call en29 ?_
     try simp only [opv, nZ, Value.cells, List.map_toArray, List.map_cons, List.map_nil, List.append_toArray, List.cons_append, List.nil_append, Array.append_empty]
     refine CallR.mono (c_ref07Read _ g (keyS e xs).2.1 Aa ca (keyS e xs).2.2 hcpa hkb (by omega) ⟨0, 1099511627775, 0, nm0, none, 0, [], 0⟩ (by decide) (by decide) (hS.owns (by repeat (first | exact Spl.nil | (apply Spl.cons (by repeat (first | exact Del.head | apply Del.tail))))))) ?_
     rintro _ w57 ⟨Bb, kb, rfl, hQb, Ab, cb, hcpb, hRb, hCb⟩
     have hYb := RdIn.trans hM hS (by repeat (first | exact Spl.nil | (apply Spl.cons (by repeat (first | exact Del.head | apply Del.tail))))) hRb (by intro s hs q hb; simp only [List.mem_cons, List.not_mem_nil, or_false] at hs; rcases hs with rfl | rfl <;> first | (simp [Res.reads] at hb; done) | exact hRa q hb)
     replace hS := hS.frame (by repeat (first | exact Spl.nil | (apply Spl.cons (by repeat (first | exact Del.head | apply Del.tail))))) hCb (by intro r hr b hb; simp only [List.mem_cons, List.not_mem_nil, or_false] at hr; rcases hr with rfl | rfl | rfl <;> first | (simp [Res.reads] at hb; done) | exact hRb b hb | exact hQb b hb)
     replace hRb := hYb
     simp only [List.cons_append, List.nil_append] at hS
     simp only [rdS_u] at hS hcpb hRb ⊢
     try simp only [opv, nZ, Value.cells]
     refine s_go (s_field_one Tryz.underlying58 (hu := Tryz.underlying28) (hv := by rfl)) ?_
     try simp only [opv, nZ, Value.cells, List.getElem_toArray, List.getElem_cons_zero, List.getElem_cons_succ]
     refine s_go (m_fieldAddr Tryz.underlying32 (hi := ti30)) ?_
     try simp only [opv, nZ, Value.cells, Nat.zero_add, Nat.add_zero, List.getElem_toArray, List.getElem_cons_zero, List.getElem_cons_succ]
     refine s_go (m_fieldAddr Tryz.underlying30 (hi := ti28)) ?_
     try simp only [opv, nZ, Value.cells, Nat.zero_add, Nat.add_zero, List.getElem_toArray, List.getElem_cons_zero, List.getElem_cons_succ]
     refine m_store_obj ti28 (hS := hS) (hc := by exact zi_set rfl (by omega)) (hv := by rfl) (hfit := by (rw [zi_size (by omega)]; decide)) (h1 := by simp [opv, Value.cells, Value.oneCell']) (h := fun w58 hS => ?_)
     try simp only [opv, nZ, Value.cells, Array.toArray_toList] at hS ⊢
     rw [at_set12 hk12] at hS
     refine x_nil ?_
     refine hK77 _ _ ?_
     refine x_seq fun K78 hK78 => ?_
     refine x_seq fun K79 hK79 => ?_
     refine x_region ?_
     refine s_go (s_move) ?_
     try simp only [opv, nZ, Value.cells]
     refine s_go (s_nilCheck) ?_
     try simp only [opv, nZ, Value.cells]
     refine s_go (m_fieldAddr Tryz.underlying44 (hi := ti42)) ?_
     try simp only [opv, nZ, Value.cells, Nat.zero_add, Nat.add_zero, List.getElem_toArray, List.getElem_cons_zero, List.getElem_cons_succ]
     refine s_go (m_load_obj Tryz.underlying42 (hS := hS) (hv := by rfl)) ?_
     try simp only [opv, nZ, Value.cells, List.getElem_toArray, List.getElem_cons_zero, List.getElem_cons_succ]
     refine s_go (s_eql) ?_
     try simp only [opv, nZ, Value.cells]
     refine s_part 72 rfl (fun hp8 => ?_) (fun hp8 => ?_)
     ·
      try simp only [n3, n4]
      try simp only [decide_eq_true_eq, decide_eq_false_iff_not, Bool.not_eq_true', Bool.not_eq_false', Int.not_lt, Int.not_le, ne_eq, Decidable.not_not] at hp8
      have hE1 : (numS 1099511627775 (keyS e xs).2.1 (keyS e xs).2.2).2.1 = 0 := hp8
      refine s_go (s_move) ?_
      try simp only [opv, nZ, Value.cells]
      refine g_on (yi (t := 73) rfl rfl) ?_
      refine s_go (m_fieldAddr Tryz.underlying32 (hi := ti30)) ?_
      try simp only [opv, nZ, Value.cells, Nat.zero_add, Nat.add_zero, List.getElem_toArray, List.getElem_cons_zero, List.getElem_cons_succ]
      refine g_on (yi (t := 73) rfl rfl) ?_
      refine s_go (m_fieldAddr Tryz.underlying30 (hi := ti28)) ?_
      try simp only [opv, nZ, Value.cells, Nat.zero_add, Nat.add_zero, List.getElem_toArray, List.getElem_cons_zero, List.getElem_cons_succ]
      refine g_on (yi (t := 73) rfl rfl) ?_
      refine s_go (m_load_obj Tryz.underlying28 (hS := hS) (hv := by exact zi_get rfl (by omega))) ?_
      try simp only [opv, nZ, Value.cells, List.getElem_toArray, List.getElem_cons_zero, List.getElem_cons_succ]
      rw [at_get12 hk12]
      refine g_on (yi (t := 73) rfl rfl) ?_
      refine s_go (s_rem (hc := rem_nat (p := 256))) ?_
      try simp only [opv, nZ, Value.cells]
      refine g_on (yi (t := 73) rfl rfl) ?_
      refine s_go (s_geq) ?_
      try simp only [opv, nZ, Value.cells]
      refine s_go (s_pick_t) ?_
      try simp only [opv, nZ, Value.cells]
      refine x_nil ?_
      refine hK79 _ _ ?_
      refine x_cond (ht := fun hc32 => ?_) (hf := fun hc32 => ?_)
      ·
       try simp only [decide_eq_true_eq, decide_eq_false_iff_not, Bool.not_eq_true', Bool.not_eq_false', Int.not_lt, Int.not_le, ne_eq, Decidable.not_not, bne_iff_ne, beq_iff_eq, not_true_eq_false, not_false_eq_true] at hc32
       have hse : stampE (numS 1099511627775 (keyS e xs).2.1 (keyS e xs).2.2).1 = 2 := if_pos (.inl (by omega))
       have hz := in_fail (e2 := 2) (st := (numS 1099511627775 (keyS e xs).2.1 (keyS e xs).2.2).2) hkE (by rw [hV4, hse, show decide (¬ (2 : Int) = 0) = true from rfl, failS_new hE1 (by decide)]; rfl) hE1 (by decide)
       rw [hE1] at hS
       refine x_seq fun K80 hK80 => ?_
       refine x_region ?_
       refine s_go (s_move) ?_
       try simp only [opv, nZ, Value.cells]
       refine s_call en30 ?_
       try simp only [opv, nZ, Value.cells, List.map_toArray, List.map_cons, List.map_nil, List.append_toArray, List.cons_append, List.nil_append, Array.append_empty]
       refine CallR.mono (c_ref09fail _ g Ab cb (numS 1099511627775 (keyS e xs).2.1 (keyS e xs).2.2).2.2 hcpb 2 (hS.owns (by repeat (first | exact Spl.nil | (apply Spl.cons (by repeat (exact Del.head))))))) ?_
       rintro _ w59 ⟨rfl, Af, cf, hcpf, hRf, hCf⟩
       have hYf := RdIn.trans hM hS (by repeat (first | exact Spl.nil | (apply Spl.cons (by repeat (exact Del.head))))) hRf (by intro s hs q hb; simp only [List.mem_cons, List.not_mem_nil, or_false] at hs; rcases hs with rfl | rfl <;> first | (simp [Res.reads] at hb; done) | exact hRb q hb)
       replace hS := hS.frame (by repeat (first | exact Spl.nil | (apply Spl.cons (by repeat (exact Del.head))))) hCf (by intro r hr b hb; simp only [List.mem_cons, List.not_mem_nil, or_false] at hr; rcases hr with rfl | rfl <;> (simp [Res.reads] at hb; done))
       replace hRf := hYf
       simp only [List.cons_append, List.nil_append] at hS
       try simp only [opv, nZ, Value.cells]
       refine m_store_obj ti32 (hS := hS) (hc := by exact zi_whole (by omega) (by omega)) (hv := by rfl) (hfit := by (rw [zi_size (by omega)]; decide)) (h1 := by exact zi_one _ _) (h := fun w60 hS => ?_)
       try simp only [opv, nZ, Value.cells, Array.toArray_toList] at hS ⊢
       refine x_nil ?_
       refine hK80 _ _ ?_
       refine x_ret ?_
       refine r_cell_agg rfl Tryz.underlying32 ti32 (hS := hS) (hfit := by (rw [zi_size (by omega)]; rfl)) (hR := ?_)
       exact ⟨by rw [hz], _, _, by rw [hz]; assumption, by rw [hz]; assumption, by rw [hz]; exact hS.sel (by repeat (first | exact Sel.nil | (refine Sel.cons (by repeat (exact Del.head)) ?_)))⟩
      ·
       try simp only [decide_eq_true_eq, decide_eq_false_iff_not, Bool.not_eq_true', Bool.not_eq_false', Int.not_lt, Int.not_le, ne_eq, Decidable.not_not, bne_iff_ne, beq_iff_eq, not_true_eq_false, not_false_eq_true] at hc32
       refine x_skip ?_
       refine hK78 _ _ ?_
       refine x_seq fun K81 hK81 => ?_
       refine x_seq fun K82 hK82 => ?_
       refine x_region ?_
       refine s_go (s_move) ?_
       try simp only [opv, nZ, Value.cells]
       refine s_go (s_nilCheck) ?_
       try simp only [opv, nZ, Value.cells]
       refine s_go (m_fieldAddr Tryz.underlying44 (hi := ti42)) ?_
       try simp only [opv, nZ, Value.cells, Nat.zero_add, Nat.add_zero, List.getElem_toArray, List.getElem_cons_zero, List.getElem_cons_succ]
       refine s_go (m_load_obj Tryz.underlying42 (hS := hS) (hv := by rfl)) ?_
       try simp only [opv, nZ, Value.cells, List.getElem_toArray, List.getElem_cons_zero, List.getElem_cons_succ]
       refine s_go (s_eql) ?_
       try simp only [opv, nZ, Value.cells]
       refine s_part 86 rfl (fun hp9 => ?_) (fun hp9 => ?_)
       ·
        try simp only [n3, n4]
        try simp only [decide_eq_true_eq, decide_eq_false_iff_not, Bool.not_eq_true', Bool.not_eq_false', Int.not_lt, Int.not_le, ne_eq, Decidable.not_not] at hp9
        refine s_go (s_move) ?_
        try simp only [opv, nZ, Value.cells]
        refine g_on (yi (t := 87) rfl rfl) ?_
        refine s_go (m_fieldAddr Tryz.underlying32 (hi := ti30)) ?_
        try simp only [opv, nZ, Value.cells, Nat.zero_add, Nat.add_zero, List.getElem_toArray, List.getElem_cons_zero, List.getElem_cons_succ]
        refine g_on (yi (t := 87) rfl rfl) ?_
        refine s_go (m_fieldAddr Tryz.underlying30 (hi := ti28)) ?_
        try simp only [opv, nZ, Value.cells, Nat.zero_add, Nat.add_zero, List.getElem_toArray, List.getElem_cons_zero, List.getElem_cons_succ]
        refine g_on (yi (t := 87) rfl rfl) ?_
        refine s_go (m_load_obj Tryz.underlying28 (hS := hS) (hv := by exact zi_get rfl (by omega))) ?_
        try simp only [opv, nZ, Value.cells, List.getElem_toArray, List.getElem_cons_zero, List.getElem_cons_succ]
        rw [at_get12 hk12]
        refine g_on (yi (t := 87) rfl rfl) ?_
        refine s_go (s_quo (hc := quo_u64 (r := (numS 1099511627775 (keyS e xs).2.1 (keyS e xs).2.2).1) (p := 256) (by omega))) ?_
        try simp only [opv, nZ, Value.cells]
        refine g_on (yi (t := 87) rfl rfl) ?_
        refine s_go (s_eql) ?_
        try simp only [opv, nZ, Value.cells]
        refine s_go (s_pick_t) ?_
        try simp only [opv, nZ, Value.cells]
        refine x_nil ?_
        refine hK82 _ _ ?_
        refine x_cond (ht := fun hc33 => ?_) (hf := fun hc33 => ?_)
        ·
         try simp only [decide_eq_true_eq, decide_eq_false_iff_not, Bool.not_eq_true', Bool.not_eq_false', Int.not_lt, Int.not_le, ne_eq, Decidable.not_not, bne_iff_ne, beq_iff_eq, not_true_eq_false, not_false_eq_true] at hc33
         have hse : stampE (numS 1099511627775 (keyS e xs).2.1 (keyS e xs).2.2).1 = 3 := by rw [stampE, if_neg (by omega), if_pos (by omega)]
         have hz := in_fail (e2 := 3) (st := (numS 1099511627775 (keyS e xs).2.1 (keyS e xs).2.2).2) hkE (by rw [hV4, hse, show decide (¬ (3 : Int) = 0) = true from rfl, failS_new hE1 (by decide)]; rfl) hE1 (by decide)
         rw [hE1] at hS
         refine x_seq fun K83 hK83 => ?_
         refine x_region ?_
         refine s_go (s_move) ?_
         try simp only [opv, nZ, Value.cells]
         refine s_call en30 ?_
         try simp only [opv, nZ, Value.cells, List.map_toArray, List.map_cons, List.map_nil, List.append_toArray, List.cons_append, List.nil_append, Array.append_empty]
         refine CallR.mono (c_ref09fail _ g Ab cb (numS 1099511627775 (keyS e xs).2.1 (keyS e xs).2.2).2.2 hcpb 3 (hS.owns (by repeat (first | exact Spl.nil | (apply Spl.cons (by repeat (exact Del.head))))))) ?_
         rintro _ w61 ⟨rfl, Af, cf, hcpf, hRf, hCf⟩
         have hYf := RdIn.trans hM hS (by repeat (first | exact Spl.nil | (apply Spl.cons (by repeat (exact Del.head))))) hRf (by intro s hs q hb; simp only [List.mem_cons, List.not_mem_nil, or_false] at hs; rcases hs with rfl | rfl <;> first | (simp [Res.reads] at hb; done) | exact hRb q hb)
         replace hS := hS.frame (by repeat (first | exact Spl.nil | (apply Spl.cons (by repeat (exact Del.head))))) hCf (by intro r hr b hb; simp only [List.mem_cons, List.not_mem_nil, or_false] at hr; rcases hr with rfl | rfl <;> (simp [Res.reads] at hb; done))
         replace hRf := hYf
         simp only [List.cons_append, List.nil_append] at hS
         try simp only [opv, nZ, Value.cells]
         refine m_store_obj ti32 (hS := hS) (hc := by exact zi_whole (by omega) (by omega)) (hv := by rfl) (hfit := by (rw [zi_size (by omega)]; decide)) (h1 := by exact zi_one _ _) (h := fun w62 hS => ?_)
         try simp only [opv, nZ, Value.cells, Array.toArray_toList] at hS ⊢
         refine x_nil ?_
         refine hK83 _ _ ?_
         refine x_ret ?_
         refine r_cell_agg rfl Tryz.underlying32 ti32 (hS := hS) (hfit := by (rw [zi_size (by omega)]; rfl)) (hR := ?_)
         exact ⟨by rw [hz], _, _, by rw [hz]; assumption, by rw [hz]; assumption, by rw [hz]; exact hS.sel (by repeat (first | exact Sel.nil | (refine Sel.cons (by repeat (exact Del.head)) ?_)))⟩
        ·
         try simp only [decide_eq_true_eq, decide_eq_false_iff_not, Bool.not_eq_true', Bool.not_eq_false', Int.not_lt, Int.not_le, ne_eq, Decidable.not_not, bne_iff_ne, beq_iff_eq, not_true_eq_false, not_false_eq_true] at hc33
         refine x_skip ?_
         refine hK81 _ _ ?_
         refine x_region ?_
         have hF : failS (decide (¬ stampE (numS 1099511627775 (keyS e xs).2.1 (keyS e xs).2.2).1 = 0)) (stampE (numS 1099511627775 (keyS e xs).2.1 (keyS e xs).2.2).1) (numS 1099511627775 (keyS e xs).2.1 (keyS e xs).2.2).2 = (numS 1099511627775 (keyS e xs).2.1 (keyS e xs).2.2).2 := by (rw [decide_eq_false (fun h => h (stampE_0.2 (by omega))), failS_no])
         rw [hF] at hV4
         have hW := hV4
         have hn8 := namS_len (numS 1099511627775 (keyS e xs).2.1 (keyS e xs).2.2).2.1 (numS 1099511627775 (keyS e xs).2.1 (keyS e xs).2.2).2.2
         have hbl := numS_len 1099511627775 (keyS e xs).2.1 (keyS e xs).2.2
         have hl4 : ((keyS e xs).1 ++ mkV (numS 1099511627775 (keyS e xs).2.1 (keyS e xs).2.2).1 (namS (numS 1099511627775 (keyS e xs).2.1 (keyS e xs).2.2).2.1 (numS 1099511627775 (keyS e xs).2.1 (keyS e xs).2.2).2.2).1).length = 21 := by rw [List.length_append, hk12, mkV_len hn8]
         refine s_go (s_move) ?_
         try simp only [opv, nZ, Value.cells]
         refine s_go (s_build_struct (cells := #[_, .int .u64 0, .int .u8 0, .int .u8 0, .int .u8 0, .int .u8 0, .int .u8 0, .int .u8 0, .int .u8 0, .int .u8 0, .int .u8 0, .slice none 0 0, .int .i64 0]) Tryz.underlying58 ti58 bp58 (hc := by simp only [List.map_toArray, List.map_cons, List.map_nil, opv, nZ, Value.cells, List.toList_toArray]; (repeat (refine fill_cons rfl rfl (Nat.le_of_ble_eq_true rfl) ?_)); rfl)) ?_
         try simp only [opv, nZ, Value.cells]
         refine s_call en29 ?_
         try simp only [opv, nZ, Value.cells, List.map_toArray, List.map_cons, List.map_nil, List.append_toArray, List.cons_append, List.nil_append, Array.append_empty]
         refine CallR.mono (c_ref07Read _ g (numS 1099511627775 (keyS e xs).2.1 (keyS e xs).2.2).2.1 Ab cb (numS 1099511627775 (keyS e xs).2.1 (keyS e xs).2.2).2.2 hcpb (numS_byt hkb) (by omega) ⟨2, 0, 0, nm0, none, 0, [], 0⟩ (by decide) (by decide) (hS.owns (by repeat (first | exact Spl.nil | (apply Spl.cons (by repeat (exact Del.head))))))) ?_
         rintro _ w63 ⟨Bc, kc, rfl, hQc, Ac, cc, hcpc, hRc, hCc⟩
         have hYc := RdIn.trans hM hS (by repeat (first | exact Spl.nil | (apply Spl.cons (by repeat (exact Del.head))))) hRc (by intro s hs q hb; simp only [List.mem_cons, List.not_mem_nil, or_false] at hs; rcases hs with rfl | rfl <;> first | (simp [Res.reads] at hb; done) | exact hRb q hb)
         replace hS := hS.frame (by repeat (first | exact Spl.nil | (apply Spl.cons (by repeat (exact Del.head))))) hCc (by intro r hr b hb; simp only [List.mem_cons, List.not_mem_nil, or_false] at hr; rcases hr with rfl | rfl | rfl <;> first | (simp [Res.reads] at hb; done) | exact hRc b hb | exact hQc b hb)
         replace hRc := hYc
         simp only [List.cons_append, List.nil_append] at hS
         simp only [rdS_n] at hS hcpc hRc ⊢
         try simp only [opv, nZ, Value.cells]
         refine s_go (s_field_agg Tryz.underlying58 (hu := Tryz.underlying24) (hi := ti24)) ?_
         try simp only [opv, nZ, Value.cells, List.getElem_toArray, List.getElem_cons_zero, List.getElem_cons_succ]
         rw [pA_x hn8]
         refine s_go (m_fieldAddr Tryz.underlying32 (hi := ti30)) ?_
         try simp only [opv, nZ, Value.cells, Nat.zero_add, Nat.add_zero, List.getElem_toArray, List.getElem_cons_zero, List.getElem_cons_succ]
         refine s_go (m_fieldAddr Tryz.underlying30 (hi := ti24)) ?_
         try simp only [opv, nZ, Value.cells, Nat.zero_add, Nat.add_zero, List.getElem_toArray, List.getElem_cons_zero, List.getElem_cons_succ]
         refine m_store_obj ti24 (hS := hS) (hc := at_text hk12 rfl hn8) (hv := by (show (ic .u8 _).size = 8; rw [ic_size]; exact hn8)) (hfit := by (rw [zi_size (by omega)]; decide)) (h1 := by exact ic_one _ _) (h := fun w64 hS => ?_)
         try simp only [opv, nZ, Value.cells, Array.toArray_toList] at hS ⊢
         refine x_nil ?_
         refine hK3 _ _ ?_
         refine x_seq fun K84 hK84 => ?_
         refine x_seq fun K85 hK85 => ?_
         refine x_region ?_
         refine s_go (s_move) ?_
         try simp only [opv, nZ, Value.cells]
         refine s_go (s_nilCheck) ?_
         try simp only [opv, nZ, Value.cells]
         refine s_go (m_fieldAddr Tryz.underlying44 (hi := ti42)) ?_
         try simp only [opv, nZ, Value.cells, Nat.zero_add, Nat.add_zero, List.getElem_toArray, List.getElem_cons_zero, List.getElem_cons_succ]
         refine s_go (m_load_obj Tryz.underlying42 (hS := hS) (hv := by rfl)) ?_
         try simp only [opv, nZ, Value.cells, List.getElem_toArray, List.getElem_cons_zero, List.getElem_cons_succ]
         refine s_go (s_neq) ?_
         try simp only [opv, nZ, Value.cells]
         refine x_nil ?_
         refine hK85 _ _ ?_
         refine x_cond (ht := fun hc34 => ?_) (hf := fun hc34 => ?_)
         ·
          try simp only [decide_eq_true_eq, decide_eq_false_iff_not, Bool.not_eq_true', Bool.not_eq_false', Int.not_lt, Int.not_le, ne_eq, Decidable.not_not, bne_iff_ne, beq_iff_eq, not_true_eq_false, not_false_eq_true] at hc34
          have hz := in_err hkE (by rw [hW]) hc34
          refine x_seq fun K86 hK86 => ?_
          refine x_region ?_
          refine s_go (s_build_struct (cells := #[.int .u8 0, .int .u16 0, .int .u8 0, .int .u8 0, .int .u8 0, .int .u8 0, .int .u8 0, .int .u8 0, .int .u8 0, .int .u8 0, .int .u8 0, .int .u32 0, .int .u64 0, .int .u8 0, .int .u8 0, .int .u8 0, .int .u8 0, .int .u8 0, .int .u8 0, .int .u8 0, .int .u8 0]) Tryz.underlying32 ti32 bp32 (hc := by simp only [List.map_toArray, List.map_cons, List.map_nil, opv, nZ, Value.cells, List.toList_toArray]; (repeat (refine fill_cons rfl rfl (Nat.le_of_ble_eq_true rfl) ?_)); rfl)) ?_
          try simp only [opv, nZ, Value.cells]
          rw [show (#[.int .u8 0, .int .u16 0, .int .u8 0, .int .u8 0, .int .u8 0, .int .u8 0, .int .u8 0, .int .u8 0, .int .u8 0, .int .u8 0, .int .u8 0, .int .u32 0, .int .u64 0, .int .u8 0, .int .u8 0, .int .u8 0, .int .u8 0, .int .u8 0, .int .u8 0, .int .u8 0, .int .u8 0] : Array Value) = AA atom0 from rfl]
          refine m_store_obj ti32 (hS := hS) (hc := by exact zi_whole (by omega) (by omega)) (hv := by rfl) (hfit := by (rw [zi_size (by omega)]; decide)) (h1 := by exact zi_one _ _) (h := fun w65 hS => ?_)
          try simp only [opv, nZ, Value.cells, Array.toArray_toList] at hS ⊢
          refine x_nil ?_
          refine hK86 _ _ ?_
          refine x_ret ?_
          refine r_cell_agg rfl Tryz.underlying32 ti32 (hS := hS) (hfit := by (rw [zi_size (by omega)]; rfl)) (hR := ?_)
          exact ⟨by rw [hz], _, _, by rw [hz]; assumption, by rw [hz]; assumption, by rw [hz]; exact hS.sel (by repeat (first | exact Sel.nil | (refine Sel.cons (by repeat (exact Del.head)) ?_)))⟩
         ·
          try simp only [decide_eq_true_eq, decide_eq_false_iff_not, Bool.not_eq_true', Bool.not_eq_false', Int.not_lt, Int.not_le, ne_eq, Decidable.not_not, bne_iff_ne, beq_iff_eq, not_true_eq_false, not_false_eq_true] at hc34
          have hz := in_ok hkE hW hc34
          refine x_skip ?_
          refine hK84 _ _ ?_
          refine x_seq fun K87 hK87 => ?_
          refine x_region ?_
          refine s_go (m_load_row Tryz.underlying32 (hi := ti32) (hS := hS) (hfit := by (rw [zi_size (by omega)]; rfl))) ?_
          try simp only [opv, nZ, Value.cells, List.getElem_toArray, List.getElem_cons_zero, List.getElem_cons_succ]
          refine m_store_obj ti32 (hS := hS) (hc := by exact zi_whole (by omega) (by omega)) (hv := by (show (zi _ _).toArray.size = _; rw [zi_size (by omega)]; rfl)) (hfit := by (rw [zi_size (by omega)]; decide)) (h1 := by exact zi_one _ _) (h := fun w66 hS => ?_)
          try simp only [opv, nZ, Value.cells, Array.toArray_toList] at hS ⊢
          refine x_nil ?_
          refine hK87 _ _ ?_
          refine x_ret ?_
          refine r_cell_agg rfl Tryz.underlying32 ti32 (hS := hS) (hfit := by (rw [zi_size (by omega)]; rfl)) (hR := ?_)
          exact ⟨by rw [hz], _, _, by rw [hz]; assumption, by rw [hz]; assumption, by rw [hz]; exact hS.sel (by repeat (first | exact Sel.nil | (refine Sel.cons (by repeat (exact Del.head)) ?_)))⟩
       ·
        try simp only [n3, n4]
        try simp only [decide_eq_true_eq, decide_eq_false_iff_not, Bool.not_eq_true', Bool.not_eq_false', Int.not_lt, Int.not_le, ne_eq, Decidable.not_not] at hp9
        (exfalso; omega)
     ·
      try simp only [n3, n4]
      try simp only [decide_eq_true_eq, decide_eq_false_iff_not, Bool.not_eq_true', Bool.not_eq_false', Int.not_lt, Int.not_le, ne_eq, Decidable.not_not] at hp8
      have hE1 : ¬ (numS 1099511627775 (keyS e xs).2.1 (keyS e xs).2.2).2.1 = 0 := hp8
      refine s_go (s_move) ?_
      try simp only [opv, nZ, Value.cells]
      refine g_off (yi (t := 73) rfl rfl) ?_
      try simp only [opv, nZ, Value.cells]
      refine g_off (yi (t := 73) rfl rfl) ?_
      try simp only [opv, nZ, Value.cells]
      refine g_off (yi (t := 73) rfl rfl) ?_
      try simp only [opv, nZ, Value.cells]
      refine g_off (yi (t := 73) rfl rfl) ?_
      try simp only [opv, nZ, Value.cells]
      refine g_off (yi (t := 73) rfl rfl) ?_
      try simp only [opv, nZ, Value.cells]
      refine s_go (s_pick_f) ?_
      try simp only [opv, nZ, Value.cells]
      refine x_nil ?_
      refine hK79 _ _ ?_
      refine x_cond_f (h := ?_)
      refine x_skip ?_
      refine hK78 _ _ ?_
      refine x_seq fun K92 hK92 => ?_
      refine x_seq fun K93 hK93 => ?_
      refine x_region ?_
      refine s_go (s_move) ?_
      try simp only [opv, nZ, Value.cells]
      refine s_go (s_nilCheck) ?_
      try simp only [opv, nZ, Value.cells]
      refine s_go (m_fieldAddr Tryz.underlying44 (hi := ti42)) ?_
      try simp only [opv, nZ, Value.cells, Nat.zero_add, Nat.add_zero, List.getElem_toArray, List.getElem_cons_zero, List.getElem_cons_succ]
      refine s_go (m_load_obj Tryz.underlying42 (hS := hS) (hv := by rfl)) ?_
      try simp only [opv, nZ, Value.cells, List.getElem_toArray, List.getElem_cons_zero, List.getElem_cons_succ]
      refine s_go (s_eql) ?_
      try simp only [opv, nZ, Value.cells]
      refine s_part 86 rfl (fun hp10 => ?_) (fun hp10 => ?_)
      ·
       try simp only [n3, n4]
       try simp only [decide_eq_true_eq, decide_eq_false_iff_not, Bool.not_eq_true', Bool.not_eq_false', Int.not_lt, Int.not_le, ne_eq, Decidable.not_not] at hp10
       (exfalso; omega)
      ·
       try simp only [n3, n4]
       try simp only [decide_eq_true_eq, decide_eq_false_iff_not, Bool.not_eq_true', Bool.not_eq_false', Int.not_lt, Int.not_le, ne_eq, Decidable.not_not] at hp10
       refine s_go (s_move) ?_
       try simp only [opv, nZ, Value.cells]
       refine g_off (yi (t := 87) rfl rfl) ?_
       try simp only [opv, nZ, Value.cells]
       refine g_off (yi (t := 87) rfl rfl) ?_
       try simp only [opv, nZ, Value.cells]
       refine g_off (yi (t := 87) rfl rfl) ?_
       try simp only [opv, nZ, Value.cells]
       refine g_off (yi (t := 87) rfl rfl) ?_
       try simp only [opv, nZ, Value.cells]
       refine g_off (yi (t := 87) rfl rfl) ?_
       try simp only [opv, nZ, Value.cells]
       refine s_go (s_pick_f) ?_
       try simp only [opv, nZ, Value.cells]
       refine x_nil ?_
       refine hK93 _ _ ?_
       refine x_cond_f (h := ?_)
       refine x_skip ?_
       refine hK92 _ _ ?_
       refine x_region ?_
       have hF : failS (decide (¬ stampE (numS 1099511627775 (keyS e xs).2.1 (keyS e xs).2.2).1 = 0)) (stampE (numS 1099511627775 (keyS e xs).2.1 (keyS e xs).2.2).1) (numS 1099511627775 (keyS e xs).2.1 (keyS e xs).2.2).2 = (numS 1099511627775 (keyS e xs).2.1 (keyS e xs).2.2).2 := by exact failS_err hE1 (numS_ok (fun h => absurd hkE h) hE1)
       rw [hF] at hV4
       have hW := hV4
       have hn8 := namS_len (numS 1099511627775 (keyS e xs).2.1 (keyS e xs).2.2).2.1 (numS 1099511627775 (keyS e xs).2.1 (keyS e xs).2.2).2.2
       have hbl := numS_len 1099511627775 (keyS e xs).2.1 (keyS e xs).2.2
       have hl4 : ((keyS e xs).1 ++ mkV (numS 1099511627775 (keyS e xs).2.1 (keyS e xs).2.2).1 (namS (numS 1099511627775 (keyS e xs).2.1 (keyS e xs).2.2).2.1 (numS 1099511627775 (keyS e xs).2.1 (keyS e xs).2.2).2.2).1).length = 21 := by rw [List.length_append, hk12, mkV_len hn8]
       refine s_go (s_move) ?_
       try simp only [opv, nZ, Value.cells]
       refine s_go (s_build_struct (cells := #[_, .int .u64 0, .int .u8 0, .int .u8 0, .int .u8 0, .int .u8 0, .int .u8 0, .int .u8 0, .int .u8 0, .int .u8 0, .int .u8 0, .slice none 0 0, .int .i64 0]) Tryz.underlying58 ti58 bp58 (hc := by simp only [List.map_toArray, List.map_cons, List.map_nil, opv, nZ, Value.cells, List.toList_toArray]; (repeat (refine fill_cons rfl rfl (Nat.le_of_ble_eq_true rfl) ?_)); rfl)) ?_
       try simp only [opv, nZ, Value.cells]
       refine s_call en29 ?_
       try simp only [opv, nZ, Value.cells, List.map_toArray, List.map_cons, List.map_nil, List.append_toArray, List.cons_append, List.nil_append, Array.append_empty]
       refine CallR.mono (c_ref07Read _ g (numS 1099511627775 (keyS e xs).2.1 (keyS e xs).2.2).2.1 Ab cb (numS 1099511627775 (keyS e xs).2.1 (keyS e xs).2.2).2.2 hcpb (numS_byt hkb) (by omega) ⟨2, 0, 0, nm0, none, 0, [], 0⟩ (by decide) (by decide) (hS.owns (by repeat (first | exact Spl.nil | (apply Spl.cons (by repeat (exact Del.head))))))) ?_
       rintro _ w77 ⟨Bc, kc, rfl, hQc, Ac, cc, hcpc, hRc, hCc⟩
       have hYc := RdIn.trans hM hS (by repeat (first | exact Spl.nil | (apply Spl.cons (by repeat (exact Del.head))))) hRc (by intro s hs q hb; simp only [List.mem_cons, List.not_mem_nil, or_false] at hs; rcases hs with rfl | rfl <;> first | (simp [Res.reads] at hb; done) | exact hRb q hb)
       replace hS := hS.frame (by repeat (first | exact Spl.nil | (apply Spl.cons (by repeat (exact Del.head))))) hCc (by intro r hr b hb; simp only [List.mem_cons, List.not_mem_nil, or_false] at hr; rcases hr with rfl | rfl | rfl <;> first | (simp [Res.reads] at hb; done) | exact hRc b hb | exact hQc b hb)
       replace hRc := hYc
       simp only [List.cons_append, List.nil_append] at hS
       simp only [rdS_n] at hS hcpc hRc ⊢
       try simp only [opv, nZ, Value.cells]
       refine s_go (s_field_agg Tryz.underlying58 (hu := Tryz.underlying24) (hi := ti24)) ?_
       try simp only [opv, nZ, Value.cells, List.getElem_toArray, List.getElem_cons_zero, List.getElem_cons_succ]
       rw [pA_x hn8]
       refine s_go (m_fieldAddr Tryz.underlying32 (hi := ti30)) ?_
       try simp only [opv, nZ, Value.cells, Nat.zero_add, Nat.add_zero, List.getElem_toArray, List.getElem_cons_zero, List.getElem_cons_succ]
       refine s_go (m_fieldAddr Tryz.underlying30 (hi := ti24)) ?_
       try simp only [opv, nZ, Value.cells, Nat.zero_add, Nat.add_zero, List.getElem_toArray, List.getElem_cons_zero, List.getElem_cons_succ]
       refine m_store_obj ti24 (hS := hS) (hc := at_text hk12 rfl hn8) (hv := by (show (ic .u8 _).size = 8; rw [ic_size]; exact hn8)) (hfit := by (rw [zi_size (by omega)]; decide)) (h1 := by exact ic_one _ _) (h := fun w78 hS => ?_)
       try simp only [opv, nZ, Value.cells, Array.toArray_toList] at hS ⊢
       refine x_nil ?_
       refine hK3 _ _ ?_
       refine x_seq fun K99 hK99 => ?_
       refine x_seq fun K100 hK100 => ?_
       refine x_region ?_
       refine s_go (s_move) ?_
       try simp only [opv, nZ, Value.cells]
       refine s_go (s_nilCheck) ?_
       try simp only [opv, nZ, Value.cells]
       refine s_go (m_fieldAddr Tryz.underlying44 (hi := ti42)) ?_
       try simp only [opv, nZ, Value.cells, Nat.zero_add, Nat.add_zero, List.getElem_toArray, List.getElem_cons_zero, List.getElem_cons_succ]
       refine s_go (m_load_obj Tryz.underlying42 (hS := hS) (hv := by rfl)) ?_
       try simp only [opv, nZ, Value.cells, List.getElem_toArray, List.getElem_cons_zero, List.getElem_cons_succ]
       refine s_go (s_neq) ?_
       try simp only [opv, nZ, Value.cells]
       refine x_nil ?_
       refine hK100 _ _ ?_
       refine x_cond (ht := fun hc41 => ?_) (hf := fun hc41 => ?_)
       ·
        try simp only [decide_eq_true_eq, decide_eq_false_iff_not, Bool.not_eq_true', Bool.not_eq_false', Int.not_lt, Int.not_le, ne_eq, Decidable.not_not, bne_iff_ne, beq_iff_eq, not_true_eq_false, not_false_eq_true] at hc41
        have hz := in_err hkE (by rw [hW]) hc41
        refine x_seq fun K101 hK101 => ?_
        refine x_region ?_
        refine s_go (s_build_struct (cells := #[.int .u8 0, .int .u16 0, .int .u8 0, .int .u8 0, .int .u8 0, .int .u8 0, .int .u8 0, .int .u8 0, .int .u8 0, .int .u8 0, .int .u8 0, .int .u32 0, .int .u64 0, .int .u8 0, .int .u8 0, .int .u8 0, .int .u8 0, .int .u8 0, .int .u8 0, .int .u8 0, .int .u8 0]) Tryz.underlying32 ti32 bp32 (hc := by simp only [List.map_toArray, List.map_cons, List.map_nil, opv, nZ, Value.cells, List.toList_toArray]; (repeat (refine fill_cons rfl rfl (Nat.le_of_ble_eq_true rfl) ?_)); rfl)) ?_
        try simp only [opv, nZ, Value.cells]
        rw [show (#[.int .u8 0, .int .u16 0, .int .u8 0, .int .u8 0, .int .u8 0, .int .u8 0, .int .u8 0, .int .u8 0, .int .u8 0, .int .u8 0, .int .u8 0, .int .u32 0, .int .u64 0, .int .u8 0, .int .u8 0, .int .u8 0, .int .u8 0, .int .u8 0, .int .u8 0, .int .u8 0, .int .u8 0] : Array Value) = AA atom0 from rfl]
        refine m_store_obj ti32 (hS := hS) (hc := by exact zi_whole (by omega) (by omega)) (hv := by rfl) (hfit := by (rw [zi_size (by omega)]; decide)) (h1 := by exact zi_one _ _) (h := fun w79 hS => ?_)
        try simp only [opv, nZ, Value.cells, Array.toArray_toList] at hS ⊢
        refine x_nil ?_
        refine hK101 _ _ ?_
        refine x_ret ?_
        refine r_cell_agg rfl Tryz.underlying32 ti32 (hS := hS) (hfit := by (rw [zi_size (by omega)]; rfl)) (hR := ?_)
        exact ⟨by rw [hz], _, _, by rw [hz]; assumption, by rw [hz]; assumption, by rw [hz]; exact hS.sel (by repeat (first | exact Sel.nil | (refine Sel.cons (by repeat (exact Del.head)) ?_)))⟩
       ·
        try simp only [decide_eq_true_eq, decide_eq_false_iff_not, Bool.not_eq_true', Bool.not_eq_false', Int.not_lt, Int.not_le, ne_eq, Decidable.not_not, bne_iff_ne, beq_iff_eq, not_true_eq_false, not_false_eq_true] at hc41
        have hz := in_ok hkE hW hc41
        refine x_skip ?_
        refine hK99 _ _ ?_
        refine x_seq fun K102 hK102 => ?_
        refine x_region ?_
        refine s_go (m_load_row Tryz.underlying32 (hi := ti32) (hS := hS) (hfit := by (rw [zi_size (by omega)]; rfl))) ?_
        try simp only [opv, nZ, Value.cells, List.getElem_toArray, List.getElem_cons_zero, List.getElem_cons_succ]
        refine m_store_obj ti32 (hS := hS) (hc := by exact zi_whole (by omega) (by omega)) (hv := by (show (zi _ _).toArray.size = _; rw [zi_size (by omega)]; rfl)) (hfit := by (rw [zi_size (by omega)]; decide)) (h1 := by exact zi_one _ _) (h := fun w80 hS => ?_)
        try simp only [opv, nZ, Value.cells, Array.toArray_toList] at hS ⊢
        refine x_nil ?_
        refine hK102 _ _ ?_
        refine x_ret ?_
        refine r_cell_agg rfl Tryz.underlying32 ti32 (hS := hS) (hfit := by (rw [zi_size (by omega)]; rfl)) (hR := ?_)
        exact ⟨by rw [hz], _, _, by rw [hz]; assumption, by rw [hz]; assumption, by rw [hz]; exact hS.sel (by repeat (first | exact Sel.nil | (refine Sel.cons (by repeat (exact Del.head)) ?_)))⟩
    ·
     try simp only [decide_eq_true_eq, decide_eq_false_iff_not, Bool.not_eq_true', Bool.not_eq_false', Int.not_lt, Int.not_le, ne_eq, Decidable.not_not, bne_iff_ne, beq_iff_eq, not_true_eq_false, not_false_eq_true] at hc31
     have hW := valP_0 (s := kn (keyS e xs).1 0) (e := (keyS e xs).2.1) (xs := (keyS e xs).2.2) (by omega) (by omega) (by omega) (by omega)
     refine x_skip ?_
     refine hK3 _ _ ?_
     refine x_seq fun K103 hK103 => ?_
     refine x_seq fun K104 hK104 => ?_
     refine x_region ?_
     refine s_go (s_move) ?_
     try simp only [opv, nZ, Value.cells]
     refine s_go (s_nilCheck) ?_
     try simp only [opv, nZ, Value.cells]
     refine s_go (m_fieldAddr Tryz.underlying44 (hi := ti42)) ?_
     try simp only [opv, nZ, Value.cells, Nat.zero_add, Nat.add_zero, List.getElem_toArray, List.getElem_cons_zero, List.getElem_cons_succ]
     refine s_go (m_load_obj Tryz.underlying42 (hS := hS) (hv := by rfl)) ?_
     try simp only [opv, nZ, Value.cells, List.getElem_toArray, List.getElem_cons_zero, List.getElem_cons_succ]
     refine s_go (s_neq) ?_
     try simp only [opv, nZ, Value.cells]
     refine x_nil ?_
     refine hK104 _ _ ?_
     refine x_cond (ht := fun hc42 => ?_) (hf := fun hc42 => ?_)
     ·
      try simp only [decide_eq_true_eq, decide_eq_false_iff_not, Bool.not_eq_true', Bool.not_eq_false', Int.not_lt, Int.not_le, ne_eq, Decidable.not_not, bne_iff_ne, beq_iff_eq, not_true_eq_false, not_false_eq_true] at hc42
      have hz := atmS_key hc42
      refine x_seq fun K105 hK105 => ?_
      refine x_region ?_
      refine s_go (s_build_struct (cells := #[.int .u8 0, .int .u16 0, .int .u8 0, .int .u8 0, .int .u8 0, .int .u8 0, .int .u8 0, .int .u8 0, .int .u8 0, .int .u8 0, .int .u8 0, .int .u32 0, .int .u64 0, .int .u8 0, .int .u8 0, .int .u8 0, .int .u8 0, .int .u8 0, .int .u8 0, .int .u8 0, .int .u8 0]) Tryz.underlying32 ti32 bp32 (hc := by simp only [List.map_toArray, List.map_cons, List.map_nil, opv, nZ, Value.cells, List.toList_toArray]; (repeat (refine fill_cons rfl rfl (Nat.le_of_ble_eq_true rfl) ?_)); rfl)) ?_
      try simp only [opv, nZ, Value.cells]
      rw [show (#[.int .u8 0, .int .u16 0, .int .u8 0, .int .u8 0, .int .u8 0, .int .u8 0, .int .u8 0, .int .u8 0, .int .u8 0, .int .u8 0, .int .u8 0, .int .u32 0, .int .u64 0, .int .u8 0, .int .u8 0, .int .u8 0, .int .u8 0, .int .u8 0, .int .u8 0, .int .u8 0, .int .u8 0] : Array Value) = AA atom0 from rfl]
      refine m_store_obj ti32 (hS := hS) (hc := by exact zi_whole (by omega) (by omega)) (hv := by rfl) (hfit := by (rw [zi_size (by omega)]; decide)) (h1 := by exact zi_one _ _) (h := fun w81 hS => ?_)
      try simp only [opv, nZ, Value.cells, Array.toArray_toList] at hS ⊢
      refine x_nil ?_
      refine hK105 _ _ ?_
      refine x_ret ?_
      refine r_cell_agg rfl Tryz.underlying32 ti32 (hS := hS) (hfit := by (rw [zi_size (by omega)]; rfl)) (hR := ?_)
      exact ⟨by rw [hz], _, _, by rw [hz]; assumption, by rw [hz]; assumption, by rw [hz]; exact hS.selA⟩
     ·
      try simp only [decide_eq_true_eq, decide_eq_false_iff_not, Bool.not_eq_true', Bool.not_eq_false', Int.not_lt, Int.not_le, ne_eq, Decidable.not_not, bne_iff_ne, beq_iff_eq, not_true_eq_false, not_false_eq_true] at hc42
      have hz := in_ok hc42 hW hc42
      refine x_skip ?_
      refine hK103 _ _ ?_
      refine x_seq fun K106 hK106 => ?_
      refine x_region ?_
      refine s_go (m_load_row Tryz.underlying32 (hi := ti32) (hS := hS) (hfit := by (rw [zi_size (by omega)]; rfl))) ?_
      try simp only [opv, nZ, Value.cells, List.getElem_toArray, List.getElem_cons_zero, List.getElem_cons_succ]
      refine m_store_obj ti32 (hS := hS) (hc := by exact zi_whole (by omega) (by omega)) (hv := by (show (zi _ _).toArray.size = _; rw [zi_size (by omega)]; rfl)) (hfit := by (rw [zi_size (by omega)]; decide)) (h1 := by exact zi_one _ _) (h := fun w82 hS => ?_)
      try simp only [opv, nZ, Value.cells, Array.toArray_toList] at hS ⊢
      refine x_nil ?_
      refine hK106 _ _ ?_
      refine x_ret ?_
      refine r_cell_agg rfl Tryz.underlying32 ti32 (hS := hS) (hfit := by (rw [zi_size (by omega)]; rfl)) (hR := ?_)
      exact ⟨by rw [hz], _, _, by rw [hz]; assumption, by rw [hz]; assumption, by rw [hz]; exact hS.selA⟩
end Go.Proofs.YtpjpaipkkcengaaGreat
set_option linter.unusedSimpArgs false
set_option linter.unusedVariables false
set_option maxHeartbeats 2000000
set_option maxRecDepth 100000
namespace Go.Proofs.YtpjpaipkkcengaaGreat
open Go.RowKit

theorem atmS_21 (e : Int) {xs : List Int} (hw : Byt xs) : (atmS e xs).1.length = 21 := by
  have hk := keyS_l12 e hw
  by_cases h : (keyS e xs).2.1 = 0
  · by_cases h2 : (valP (kn (keyS e xs).1 0) (keyS e xs).2.1 (keyS e xs).2.2).2.1 = 0
    · rw [atmS_yes h h2]
      show ((keyS e xs).1 ++ (valP _ _ _).1).length = 21
      rw [List.length_append, hk, valP_len]
    · rw [atmS_no h h2]; rfl
  · rw [atmS_key h]; rfl

theorem c_AtomReads (w0 : World) (a : List Int) (ha : AtomOk a) (A : Option Addr) (c : Nat) (xs : List Int) (hx : Rd w0 A 1 xs.length (xs.map (Value.int .u8))) (hw : Byt xs) (hxc : xs.length ≤ c) (hxb : xs.length ≤ 140737488355000) (sd : Nat) (hsd : sd < 18446744073709551616)  :
    CallR Tryz.prog 3 #[.agg (AA a), .slice A xs.length c, .int .u64 (sd : Int)] w0 fun v w' => v = .bool true ∧ Ext w0 w' := by
 have hS := (St.start (S := NoB) w0).rd_old hx
 have hal := ha.len
 have hk := ha.key
 have hv := ha.val
 have hvl := hv.len
 have hkl := hk.len
 have h00 := akey_0 hal
 have htl := vtext_len hvl
 have htb := hv.text
 have hvb := hv.b0
 have hol := atomOut_len ha
 obtain ⟨z, hz⟩ : ∃ z, atmS 0 xs = z := ⟨_, rfl⟩
 have hzl := atmS_21 0 hw
 rw [hz] at hzl
 refine c_enter (l := [.agg (AA a), .slice A xs.length c, .int .u64 (sd : Int), undef, undef, undef, undef, undef, undef, undef, undef, undef, undef, undef, undef, undef, undef, undef, undef, undef, undef, undef, undef, undef, undef, undef, undef, undef, undef, undef, undef, undef, undef, undef, undef, undef, undef, undef, undef, undef, undef, undef, undef, undef, undef, undef, undef, undef, undef, undef, undef, undef, undef, undef, undef, undef, undef, undef, undef, undef, undef, undef, undef, undef, undef, undef, undef, undef]) Tryz.func3 rfl (by simp only [Tryz.ntmps3, List.size_toArray, List.length_cons, List.length_nil, Nat.reduceAdd, Nat.reduceSub, Array.replicate_succ, Array.replicate_zero, List.push_toArray, List.append_toArray, List.nil_append, List.cons_append]) ?_
 refine x_seq fun K1 hK1 => ?_
 refine x_region ?_
 refine m_box hS (fun w1 g1 hS => ?_)
 try simp only [opv, nZ, Value.cells, Array.toArray_toList] at hS ⊢
 refine s_go (s_assign) ?_
 try simp only [opv, nZ, Value.cells]
 refine x_nil ?_
 refine hK1 _ _ ?_
 refine x_seq fun K2 hK2 => ?_
 refine x_seq fun K3 hK3 => ?_
 refine x_region ?_
 refine s_go (s_move) ?_
 try simp only [opv, nZ, Value.cells]
 refine s_go (s_len_sl Tryz.underlying33) ?_
 try simp only [opv, nZ, Value.cells]
 refine s_go (s_gtr) ?_
 try simp only [opv, nZ, Value.cells]
 refine x_nil ?_
 refine hK3 _ _ ?_
 refine x_cond (ht := fun hc1 => ?_) (hf := fun hc1 => ?_)
 ·
  try simp only [decide_eq_true_eq, decide_eq_false_iff_not, Bool.not_eq_true', Bool.not_eq_false', Int.not_lt, Int.not_le, ne_eq, Decidable.not_not, bne_iff_ne, beq_iff_eq, not_true_eq_false, not_false_eq_true] at hc1
  refine x_seq fun K4 hK4 => ?_
  refine x_region ?_
  refine s_call en4 ?_
  try simp only [opv, nZ, Value.cells, List.map_toArray, List.map_cons, List.map_nil, List.append_toArray, List.cons_append, List.nil_append, Array.append_empty]
  refine CallR.mono (c_law09alive _) ?_
  rintro _ w2 ⟨rfl, hE2⟩
  replace hS := hS.ext hE2
  try simp only [opv, nZ, Value.cells]
  refine s_go (s_assign) ?_
  try simp only [opv, nZ, Value.cells]
  refine x_nil ?_
  refine hK4 _ _ ?_
  refine x_ret ?_
  refine r_tmp rfl ?_
  exact ⟨rfl, hS.ext_of⟩
 ·
  try simp only [decide_eq_true_eq, decide_eq_false_iff_not, Bool.not_eq_true', Bool.not_eq_false', Int.not_lt, Int.not_le, ne_eq, Decidable.not_not, bne_iff_ne, beq_iff_eq, not_true_eq_false, not_false_eq_true] at hc1
  refine x_skip ?_
  refine hK2 _ _ ?_
  refine x_seq fun K5 hK5 => ?_
  refine x_seq fun K6 hK6 => ?_
  refine x_mixed_c (Lc := [.obj g1 (.cells (AA a) 32 (0, 0)), .rd A 1 xs.length (xs.map (Value.int .u8))]) [] 0 [13, 14, 15, 16, 17, 18, 19, 20, 21, 22, 23, 24, 25, 26, 27, 28, 29, 30, 31, 32, 33, 34, 35] (fun f w => f 35 = .bool false ∧ St NoB w0 w [.obj g1 (.cells (AA a) 32 (0, 0)), .rd A 1 xs.length (xs.map (Value.int .u8))]) (by kernel_rfl) (by kernel_rfl) (by kernel_rfl) (by decide) hS (fun w3 hS => ?mixpre301) ?mixrest301
  case mixpre301 =>
   refine p_nil ?_
   simp only [List.length_cons, List.length_nil, Nat.reduceAdd, Nat.reduceSub]
   refine any_go (i := 0) (by rfl) (by decide +kernel) (by decide +kernel) noLate_nil (go_yields w_none (fun w hS => m_load_row Tryz.underlying32 (hi := ti32) (hS := hS) (hfit := by (rw [zi_size (by omega)]; rfl)))) ?_
   try simp only [opv, nZ, Value.cells, List.getElem_toArray, List.getElem_cons_zero, List.getElem_cons_succ]
   refine any_go (i := 2) (by rfl) (by decide +kernel) (by decide +kernel) noLate_nil (go_yields w_none (fun w hS => m_load_row Tryz.underlying32 (hi := ti32) (hS := hS) (hfit := by (rw [zi_size (by omega)]; rfl)))) ?_
   try simp only [opv, nZ, Value.cells, List.getElem_toArray, List.getElem_cons_zero, List.getElem_cons_succ]
   refine any_step [1] (by kernel_rfl) (by decide) (fun w4 hE => ⟨fun _ => (hS.ext hE).sel (by repeat (first | exact Sel.nil | (refine Sel.cons (by repeat (exact Del.head)) ?_))), ?_⟩)
   replace hS := hS.ext hE
   intro i hi
   simp only [List.mem_cons, List.not_mem_nil, or_false] at hi
   subst hi
   ·
    refine any_op (by rfl) ?_
    refine s_call en6 ?_
    try simp only [opv, nZ, Value.cells, List.map_toArray, List.map_cons, List.map_nil, List.append_toArray, List.cons_append, List.nil_append, Array.append_empty]
    refine CallR.mono (c_atomBytes a ha _) ?_
    rintro _ w5 ⟨A5, c5, rfl, hC5⟩
    replace hS := hS.call hC5
    simp only [List.cons_append, List.nil_append] at hS
    try simp only [opv, nZ, Value.cells]
    refine x_nil ?_
    refine any_step [3] (by kernel_rfl) (by decide) (fun w6 hE => ⟨fun _ => (hS.ext hE).sel (by repeat (first | exact Sel.nil | (refine Sel.cons (by repeat (first | exact Del.head | apply Del.tail)) ?_))), ?_⟩)
    replace hS := hS.ext hE
    intro i hi
    simp only [List.mem_cons, List.not_mem_nil, or_false] at hi
    subst hi
    ·
     refine any_op (by rfl) ?_
     refine s_call en7 ?_
     try simp only [opv, nZ, Value.cells, List.map_toArray, List.map_cons, List.map_nil, List.append_toArray, List.cons_append, List.nil_append, Array.append_empty]
     refine CallR.mono (c_ref09Bytes a ha _) ?_
     rintro _ w7 ⟨A7, c7, rfl, hC7⟩
     replace hS := hS.call hC7
     simp only [List.cons_append, List.nil_append] at hS
     try simp only [opv, nZ, Value.cells]
     refine x_nil ?_
     refine any_step [4] (by kernel_rfl) (by decide) (fun w8 hE => ⟨fun _ => (hS.ext hE).sel (by repeat (first | exact Sel.nil | (refine Sel.cons (by repeat (first | exact Del.head | apply Del.tail)) ?_))), ?_⟩)
     replace hS := hS.ext hE
     intro i hi
     simp only [List.mem_cons, List.not_mem_nil, or_false] at hi
     subst hi
     ·
      refine any_op (by rfl) ?_
      refine s_call en5 ?_
      try simp only [opv, nZ, Value.cells, List.map_toArray, List.map_cons, List.map_nil, List.append_toArray, List.cons_append, List.nil_append, Array.append_empty]
      refine CallR.mono (c_ref03Same _ _ _ _ _ _ _ _ _ (hS.vecRd (by repeat (first | exact Has.head | apply Has.tail))) (hS.vecRd (by repeat (exact Has.head))) (rfl) (rfl) (by omega)) ?_
      rintro _ w9 ⟨rfl, hE9⟩
      replace hS := hS.ext hE9
      try simp only [opv, nZ, Value.cells]
      try simp only [eq_self, decide_true, beq_self_eq_true, Bool.and_self]
      refine x_nil ?_
      refine any_go (i := 5) (by rfl) (by decide +kernel) (by decide +kernel) noLate_nil (go_yields w_none (fun w hS => s_not)) ?_
      try simp only [opv, nZ, Value.cells]
      try simp only [Bool.not_true]
      refine any_go (i := 6) (by rfl) (by decide +kernel) (by decide +kernel) noLate_nil (go_yields w_none (fun w hS => s_move)) ?_
      try simp only [opv, nZ, Value.cells]
      refine any_go (i := 7) (by rfl) (by decide +kernel) (by decide +kernel) noLate_nil (go_yields (w_on (yi (t := 19) rfl rfl)) (fun w hS => m_load_row Tryz.underlying32 (hi := ti32) (hS := hS) (hfit := by (rw [zi_size (by omega)]; rfl)))) ?_
      try simp only [opv, nZ, Value.cells, List.getElem_toArray, List.getElem_cons_zero, List.getElem_cons_succ]
      apply any_go (i := 8) (by rfl) (by decide +kernel) (by decide +kernel) noLate_nil (call_yields (w_on (yi (t := 19) rfl rfl)) en8 ?H1) ?K1
      case H1 =>
        intro w hS
        try simp only [opv, nZ, List.map_toArray, List.map_cons, List.map_nil, List.append_toArray, List.cons_append, List.nil_append, Array.append_empty]
        refine CallR.mono (c_atomSize a ha _) ?_
        rintro _ w1 ⟨rfl, hE⟩; exact ⟨rfl, hE⟩
      try simp only [opv, nZ, Value.cells]
      refine any_go (i := 9) (by rfl) (by decide +kernel) (by decide +kernel) noLate_nil (go_yields (w_on (yi (t := 19) rfl rfl)) (fun w hS => m_load_row Tryz.underlying32 (hi := ti32) (hS := hS) (hfit := by (rw [zi_size (by omega)]; rfl)))) ?_
      try simp only [opv, nZ, Value.cells, List.getElem_toArray, List.getElem_cons_zero, List.getElem_cons_succ]
      refine any_step [10] (by kernel_rfl) (by decide) (fun w10 hE => ⟨fun _ => (hS.ext hE).sel (by repeat (first | exact Sel.nil | (refine Sel.cons (by repeat (first | exact Del.head | apply Del.tail)) ?_))), ?_⟩)
      replace hS := hS.ext hE
      intro i hi
      simp only [List.mem_cons, List.not_mem_nil, or_false] at hi
      subst hi
      ·
       refine any_op (by rfl) ?_
       refine g_on (yi (t := 19) rfl rfl) ?_
       refine s_call en7 ?_
       try simp only [opv, nZ, Value.cells, List.map_toArray, List.map_cons, List.map_nil, List.append_toArray, List.cons_append, List.nil_append, Array.append_empty]
       refine CallR.mono (c_ref09Bytes a ha _) ?_
       rintro _ w11 ⟨A11, c11, rfl, hC11⟩
       replace hS := hS.call hC11
       simp only [List.cons_append, List.nil_append] at hS
       try simp only [opv, nZ, Value.cells]
       refine x_nil ?_
       refine any_go (i := 11) (by rfl) (by decide +kernel) (by decide +kernel) noLate_nil (go_yields (w_on (yi (t := 19) rfl rfl)) (fun w hS => s_len_sl Tryz.underlying33)) ?_
       try simp only [opv, nZ, Value.cells]
       refine any_go (i := 12) (by rfl) (by decide +kernel) (by decide +kernel) noLate_nil (go_yields (w_on (yi (t := 19) rfl rfl)) (fun w hS => s_neq)) ?_
       try simp only [opv, nZ, Value.cells]
       try simp only [ne_eq, not_true_eq_false, decide_false, eq_self, decide_true]
       refine any_go (i := 13) (by rfl) (by decide +kernel) (by decide +kernel) noLate_nil (go_yields w_none (fun w hS => s_pick_f)) ?_
       try simp only [opv, nZ, Value.cells]
       refine any_go (i := 14) (by rfl) (by decide +kernel) (by decide +kernel) noLate_nil (go_yields w_none (fun w hS => s_move)) ?_
       try simp only [opv, nZ, Value.cells]
       refine any_go (i := 15) (by rfl) (by decide +kernel) (by decide +kernel) noLate_nil (go_yields (w_on (yi (t := 27) rfl rfl)) (fun w hS => s_move)) ?_
       try simp only [opv, nZ, Value.cells]
       refine any_go (i := 16) (by rfl) (by decide +kernel) (by decide +kernel) noLate_nil (go_yields (w_on (yi (t := 27) rfl rfl)) (fun w hS => m_load_row Tryz.underlying32 (hi := ti32) (hS := hS) (hfit := by (rw [zi_size (by omega)]; rfl)))) ?_
       try simp only [opv, nZ, Value.cells, List.getElem_toArray, List.getElem_cons_zero, List.getElem_cons_succ]
       apply any_go (i := 17) (by rfl) (by decide +kernel) (by decide +kernel) noLate_nil (call_yields (w_on (yi (t := 27) rfl rfl)) en9 ?H2) ?K2
       case H2 =>
         intro w hS
         try simp only [opv, nZ, List.map_toArray, List.map_cons, List.map_nil, List.append_toArray, List.cons_append, List.nil_append, Array.append_empty]
         refine CallR.mono (c_atomSum sd hsd a ha _) ?_
         rintro _ w1 ⟨rfl, hE⟩; exact ⟨rfl, hE⟩
       try simp only [opv, nZ, Value.cells]
       refine any_go (i := 18) (by rfl) (by decide +kernel) (by decide +kernel) noLate_nil (go_yields (w_on (yi (t := 27) rfl rfl)) (fun w hS => s_move)) ?_
       try simp only [opv, nZ, Value.cells]
       refine any_go (i := 19) (by rfl) (by decide +kernel) (by decide +kernel) noLate_nil (go_yields (w_on (yi (t := 27) rfl rfl)) (fun w hS => m_load_row Tryz.underlying32 (hi := ti32) (hS := hS) (hfit := by (rw [zi_size (by omega)]; rfl)))) ?_
       try simp only [opv, nZ, Value.cells, List.getElem_toArray, List.getElem_cons_zero, List.getElem_cons_succ]
       apply any_go (i := 20) (by rfl) (by decide +kernel) (by decide +kernel) noLate_nil (call_yields (w_on (yi (t := 27) rfl rfl)) en10 ?H3) ?K3
       case H3 =>
         intro w hS
         try simp only [opv, nZ, List.map_toArray, List.map_cons, List.map_nil, List.append_toArray, List.cons_append, List.nil_append, Array.append_empty]
         refine CallR.mono (c_ref09Sum sd hsd a ha _) ?_
         rintro _ w1 ⟨rfl, hE⟩; exact ⟨rfl, hE⟩
       try simp only [opv, nZ, Value.cells]
       refine any_go (i := 21) (by rfl) (by decide +kernel) (by decide +kernel) noLate_nil (go_yields (w_on (yi (t := 27) rfl rfl)) (fun w hS => s_neq)) ?_
       try simp only [opv, nZ, Value.cells]
       try simp only [ne_eq, not_true_eq_false, decide_false, eq_self, decide_true]
       refine any_go (i := 22) (by rfl) (by decide +kernel) (by decide +kernel) noLate_nil (go_yields w_none (fun w hS => s_pick_f)) ?_
       try simp only [opv, nZ, Value.cells]
       refine any_nil (by kernel_rfl) (fun w12 hE => ?_)
       replace hS := hS.ext hE
       refine ⟨fun _ => hS.selA, ?_⟩
       refine mix_leaf (by simp only [clob, List.foldl, nZ]) ?_
       try simp only [n1, n2]
       exact ⟨by trivial, hS.selA⟩
  intro fm1 w13 hM
  obtain ⟨h35, hS⟩ := hM
  simp only [clob, List.foldl, n3, n4, h35]
  refine hK6 _ _ ?_
  refine x_cond_f (h := ?_)
  refine x_skip ?_
  refine hK5 _ _ ?_
  refine x_seq fun K7 hK7 => ?_
  refine x_region ?_
  refine s_go (s_move) ?_
  try simp only [opv, nZ, Value.cells]
  refine s_call en11 ?_
  try simp only [opv, nZ, Value.cells, List.map_toArray, List.map_cons, List.map_nil, List.append_toArray, List.cons_append, List.nil_append, Array.append_empty]
  refine CallR.mono (c_cFrom _ A c xs (hS.hasRd (by repeat (first | exact Has.head | apply Has.tail))) (by omega)) ?_
  rintro _ w14 ⟨p, A14, c14, rfl, hcp, hC14⟩
  replace hS := hS.call hC14
  simp only [List.cons_append, List.nil_append] at hS
  replace hS := hS.vec_rd (by exact Upd.tail Upd.head)
  try simp only [opv, nZ, Value.cells]
  refine s_go (s_move) ?_
  try simp only [opv, nZ, Value.cells]
  refine s_go (s_build_struct (cells := #[_, .int .i64 0]) Tryz.underlying44 ti44 bp44 (hc := by simp only [List.map_toArray, List.map_cons, List.map_nil, opv, nZ, Value.cells, List.toList_toArray]; (repeat (refine fill_cons rfl rfl (Nat.le_of_ble_eq_true rfl) ?_)); rfl)) ?_
  try simp only [opv, nZ, Value.cells]
  refine m_box hS (fun w15 g15 hS => ?_)
  try simp only [opv, nZ, Value.cells, Array.toArray_toList] at hS ⊢
  obtain ⟨q, hq⟩ : ∃ q, q = g15 := ⟨_, rfl⟩
  rw [← hq] at hS ⊢
  refine s_go (s_assign) ?_
  try simp only [opv, nZ, Value.cells]
  refine s_go (s_assign) ?_
  try simp only [opv, nZ, Value.cells]
  refine x_nil ?_
  refine hK7 _ _ ?_
  refine x_seq fun K8 hK8 => ?_
  refine x_mixed_c (Lc := [.obj g1 (.cells (AA a) 32 (0, 0))]) [] 0 [6, 41, 42, 43, 44, 45, 46, 47, 48, 49, 50, 51, 52, 53, 54, 55, 56, 57, 58, 59, 60, 61, 62, 63, 64, 65, 66, 67] (fun f w => f 6 = .bool true ∧ Ext w0 w) (by kernel_rfl) (by kernel_rfl) (by kernel_rfl) (by decide) hS (fun w16 hS => ?mixpre602) ?mixrest602
  case mixpre602 =>
   refine p_nil ?_
   simp only [List.length_cons, List.length_nil, Nat.reduceAdd, Nat.reduceSub]
   refine any_go (i := 0) (by rfl) (by decide +kernel) (by decide +kernel) noLate_nil (go_yields w_none (fun w hS => s_move)) ?_
   try simp only [opv, nZ, Value.cells]
   refine any_go (i := 2) (by rfl) (by decide +kernel) (by decide +kernel) noLate_nil (go_yields w_none (fun w hS => s_move)) ?_
   try simp only [opv, nZ, Value.cells]
   refine any_step [1] (by kernel_rfl) (by decide) (fun w17 hE => ⟨fun _ => (hS.ext hE).sel (by repeat (first | exact Sel.nil | (refine Sel.cons (by repeat (first | exact Del.head | apply Del.tail)) ?_))), ?_⟩)
   replace hS := hS.ext hE
   intro i hi
   simp only [List.mem_cons, List.not_mem_nil, or_false] at hi
   subst hi
   ·
    refine any_op (by rfl) ?_
    refine s_call en12 ?_
    try simp only [opv, nZ, Value.cells, List.map_toArray, List.map_cons, List.map_nil, List.append_toArray, List.cons_append, List.nil_append, Array.append_empty]
    refine CallR.mono (c_atomRead _ p 0 _ _ xs (by assumption) hw (by omega) (hS.owns (by repeat (first | exact Spl.nil | (apply Spl.cons (by repeat (first | exact Del.head | apply Del.tail))))))) ?_
    rintro _ w18 ⟨rfl, Aa, ca, hca, hR18, hC18⟩
    replace hS := hS.frame (by repeat (first | exact Spl.nil | (apply Spl.cons (by repeat (first | exact Del.head | apply Del.tail))))) hC18 (by intro r hr b hb; simp only [List.mem_cons, List.not_mem_nil, or_false] at hr; rcases hr with rfl | rfl <;> first | (simp [Res.reads] at hb; done) | exact hR18 b hb)
    simp only [List.cons_append, List.nil_append, hz] at hS hca ⊢
    try simp only [opv, nZ, Value.cells]
    refine x_nil ?_
    refine any_step [3] (by kernel_rfl) (by decide) (fun w19 hE => ⟨fun _ => (hS.ext hE).sel (by repeat (first | exact Sel.nil | (refine Sel.cons (by repeat (first | exact Del.head | apply Del.tail)) ?_))), ?_⟩)
    replace hS := hS.ext hE
    intro i hi
    simp only [List.mem_cons, List.not_mem_nil, or_false] at hi
    subst hi
    ·
     refine any_op (by rfl) ?_
     refine s_call en13 ?_
     try simp only [opv, nZ, Value.cells, List.map_toArray, List.map_cons, List.map_nil, List.append_toArray, List.cons_append, List.nil_append, Array.append_empty]
     refine CallR.mono (c_ref09In _ q 0 A c xs hxc hw (by omega) (hS.owns (by repeat (first | exact Spl.nil | (apply Spl.cons (by repeat (first | exact Del.head | apply Del.tail))))))) ?_
     rintro _ w20 ⟨rfl, Ab, cb, hcb, hR20, hC20⟩
     replace hS := hS.frame (by repeat (first | exact Spl.nil | (apply Spl.cons (by repeat (first | exact Del.head | apply Del.tail))))) hC20 (by intro r hr b hb; simp only [List.mem_cons, List.not_mem_nil, or_false] at hr; rcases hr with rfl | rfl <;> first | (simp [Res.reads] at hb; done) | exact hR20 b hb)
     simp only [List.cons_append, List.nil_append, hz] at hS hcb ⊢
     try simp only [opv, nZ, Value.cells]
     refine x_nil ?_
     refine any_step [4] (by kernel_rfl) (by decide) (fun w21 hE => ⟨fun _ => (hS.ext hE).sel (by repeat (first | exact Sel.nil | (refine Sel.cons (by repeat (first | exact Del.head | apply Del.tail)) ?_))), ?_⟩)
     replace hS := hS.ext hE
     intro i hi
     simp only [List.mem_cons, List.not_mem_nil, or_false] at hi
     subst hi
     ·
      refine any_op (by rfl) ?_
      refine s_go (s_eql_agg eqv32 (hg := eg32) (hX := rfl) (hY := rfl) (h1 := by assumption) (h2 := by assumption)) ?_
      try simp only [opv, nZ, Value.cells]
      try simp only [eq_self, decide_true, beq_self_eq_true, Bool.and_self]
      refine x_nil ?_
      refine any_go (i := 5) (by rfl) (by decide +kernel) (by decide +kernel) noLate_nil (go_yields w_none (fun w hS => s_move)) ?_
      try simp only [opv, nZ, Value.cells]
      refine any_go (i := 6) (by rfl) (by decide +kernel) (by decide +kernel) noLate_nil (go_yields (w_on (yi (t := 46) rfl rfl)) (fun w hS => s_move)) ?_
      try simp only [opv, nZ, Value.cells]
      refine any_go (i := 8) (by rfl) (by decide +kernel) (by decide +kernel) noLate_nil (go_yields (w_on (yi (t := 46) rfl rfl)) (fun w hS => s_move)) ?_
      try simp only [opv, nZ, Value.cells]
      refine any_go (i := 9) (by rfl) (by decide +kernel) (by decide +kernel) noLate_nil (go_yields (w_on (yi (t := 46) rfl rfl)) (fun w hS => s_nilCheck)) ?_
      try simp only [opv, nZ, Value.cells]
      refine any_go (i := 10) (by rfl) (by decide +kernel) (by decide +kernel) noLate_nil (go_yields (w_on (yi (t := 46) rfl rfl)) (fun w hS => m_fieldAddr Tryz.underlying44 (hi := ti42))) ?_
      try simp only [opv, nZ, Value.cells, Nat.zero_add, Nat.add_zero, List.getElem_toArray, List.getElem_cons_zero, List.getElem_cons_succ]
      refine any_step [7, 11] (by kernel_rfl) (by decide) (fun w22 hE => ⟨fun _ => (hS.ext hE).sel (by repeat (first | exact Sel.nil | (refine Sel.cons (by repeat (first | exact Del.head | apply Del.tail)) ?_))), ?_⟩)
      replace hS := hS.ext hE
      intro i hi
      simp only [List.mem_cons, List.not_mem_nil, or_false] at hi
      rcases hi with rfl | rfl
      ·
       refine any_op (by rfl) ?_
       refine g_on (yi (t := 46) rfl rfl) ?_
       refine s_call en14 ?_
       try simp only [opv, nZ, Value.cells, List.map_toArray, List.map_cons, List.map_nil, List.append_toArray, List.cons_append, List.nil_append, Array.append_empty]
       refine CallR.mono (c_cErr _ p (z.2.1) Aa ca (z.2.2) hca (hS.owns (by repeat (first | exact Spl.nil | (apply Spl.cons (by repeat (first | exact Del.head | apply Del.tail))))))) ?_
       rintro _ w23 ⟨rfl, hC23⟩
       replace hS := hS.frame (by repeat (first | exact Spl.nil | (apply Spl.cons (by repeat (first | exact Del.head | apply Del.tail))))) hC23 (by intro r hr g hg; simp only [List.mem_cons, List.not_mem_nil, or_false] at hr; rcases hr with rfl | rfl | rfl <;> first | (simp [Res.reads] at hg; done) | exact .inr ⟨_, by simp, .inr hg⟩)
       simp only [List.cons_append, List.nil_append] at hS
       try simp only [opv, nZ, Value.cells]
       refine x_nil ?_
       refine any_step [11] (by kernel_rfl) (by decide) (fun w24 hE => ⟨fun _ => (hS.ext hE).sel (by repeat (first | exact Sel.nil | (refine Sel.cons (by repeat (first | exact Del.head | apply Del.tail)) ?_))), ?_⟩)
       replace hS := hS.ext hE
       intro i hi
       simp only [List.mem_cons, List.not_mem_nil, or_false] at hi
       subst hi
       ·
        refine any_op (by rfl) ?_
        refine g_on (yi (t := 46) rfl rfl) ?_
        refine s_go (m_load_obj Tryz.underlying42 (hS := hS) (hv := by rfl)) ?_
        try simp only [opv, nZ, Value.cells, List.getElem_toArray, List.getElem_cons_zero, List.getElem_cons_succ]
        refine x_nil ?_
        refine any_go (i := 12) (by rfl) (by decide +kernel) (by decide +kernel) noLate_nil (go_yields (w_on (yi (t := 46) rfl rfl)) (fun w hS => s_eql)) ?_
        try simp only [opv, nZ, Value.cells]
        try simp only [eq_self, decide_true, beq_self_eq_true, Bool.and_self]
        refine any_go (i := 13) (by rfl) (by decide +kernel) (by decide +kernel) noLate_nil (go_yields w_none (fun w hS => s_pick_t)) ?_
        try simp only [opv, nZ, Value.cells]
        refine any_go (i := 14) (by rfl) (by decide +kernel) (by decide +kernel) noLate_nil (go_yields w_none (fun w hS => s_move)) ?_
        try simp only [opv, nZ, Value.cells]
        refine any_go (i := 15) (by rfl) (by decide +kernel) (by decide +kernel) noLate_nil (go_yields (w_on (yi (t := 55) rfl rfl)) (fun w hS => s_move)) ?_
        try simp only [opv, nZ, Value.cells]
        refine any_go (i := 17) (by rfl) (by decide +kernel) (by decide +kernel) noLate_nil (go_yields (w_on (yi (t := 55) rfl rfl)) (fun w hS => s_move)) ?_
        try simp only [opv, nZ, Value.cells]
        refine any_go (i := 18) (by rfl) (by decide +kernel) (by decide +kernel) noLate_nil (go_yields (w_on (yi (t := 55) rfl rfl)) (fun w hS => s_nilCheck)) ?_
        try simp only [opv, nZ, Value.cells]
        refine any_go (i := 19) (by rfl) (by decide +kernel) (by decide +kernel) noLate_nil (go_yields (w_on (yi (t := 55) rfl rfl)) (fun w hS => m_fieldAddr Tryz.underlying44 (hi := ti33))) ?_
        try simp only [opv, nZ, Value.cells, Nat.zero_add, Nat.add_zero, List.getElem_toArray, List.getElem_cons_zero, List.getElem_cons_succ]
        refine any_step [16, 20] (by kernel_rfl) (by decide) (fun w25 hE => ⟨fun _ => (hS.ext hE).sel (by repeat (first | exact Sel.nil | (refine Sel.cons (by repeat (first | exact Del.head | apply Del.tail)) ?_))), ?_⟩)
        replace hS := hS.ext hE
        intro i hi
        simp only [List.mem_cons, List.not_mem_nil, or_false] at hi
        rcases hi with rfl | rfl
        ·
         refine any_op (by rfl) ?_
         refine g_on (yi (t := 55) rfl rfl) ?_
         refine s_call en15 ?_
         try simp only [opv, nZ, Value.cells, List.map_toArray, List.map_cons, List.map_nil, List.append_toArray, List.cons_append, List.nil_append, Array.append_empty]
         refine CallR.mono (c_cLeft _ p (z.2.1) Aa ca (z.2.2) hca (hS.owns (by repeat (first | exact Spl.nil | (apply Spl.cons (by repeat (exact Del.head))))))) ?_
         rintro _ w26 ⟨rfl, hC26⟩
         replace hS := hS.frame (by repeat (first | exact Spl.nil | (apply Spl.cons (by repeat (exact Del.head))))) hC26 (by intro r hr g hg; simp only [List.mem_cons, List.not_mem_nil, or_false] at hr; rcases hr with rfl | rfl | rfl <;> first | (simp [Res.reads] at hg; done) | exact .inr ⟨_, by simp, .inr hg⟩)
         simp only [List.cons_append, List.nil_append] at hS
         try simp only [opv, nZ, Value.cells]
         refine x_nil ?_
         refine any_step [20] (by kernel_rfl) (by decide) (fun w27 hE => ⟨fun _ => (hS.ext hE).sel (by repeat (first | exact Sel.nil | (refine Sel.cons (by repeat (first | exact Del.head | apply Del.tail)) ?_))), ?_⟩)
         replace hS := hS.ext hE
         intro i hi
         simp only [List.mem_cons, List.not_mem_nil, or_false] at hi
         subst hi
         ·
          refine any_op (by rfl) ?_
          refine g_on (yi (t := 55) rfl rfl) ?_
          refine s_go (m_load_obj Tryz.underlying33 (hS := hS) (hv := by rfl)) ?_
          try simp only [opv, nZ, Value.cells, List.getElem_toArray, List.getElem_cons_zero, List.getElem_cons_succ]
          refine x_nil ?_
          refine any_go (i := 21) (by rfl) (by decide +kernel) (by decide +kernel) noLate_nil (go_yields (w_on (yi (t := 55) rfl rfl)) (fun w hS => s_len_sl Tryz.underlying33)) ?_
          try simp only [opv, nZ, Value.cells]
          refine any_go (i := 22) (by rfl) (by decide +kernel) (by decide +kernel) noLate_nil (go_yields (w_on (yi (t := 55) rfl rfl)) (fun w hS => s_eql)) ?_
          try simp only [opv, nZ, Value.cells]
          try simp only [eq_self, decide_true, beq_self_eq_true, Bool.and_self]
          refine any_go (i := 23) (by rfl) (by decide +kernel) (by decide +kernel) noLate_nil (go_yields w_none (fun w hS => s_pick_t)) ?_
          try simp only [opv, nZ, Value.cells]
          refine any_go (i := 24) (by rfl) (by decide +kernel) (by decide +kernel) noLate_nil (go_yields w_none (fun w hS => s_move)) ?_
          try simp only [opv, nZ, Value.cells]
          apply any_go (i := 25) (by rfl) (by decide +kernel) (by decide +kernel) noLate_nil (call_yields (w_on (yi (t := 65) rfl rfl)) en4 ?H4) ?K4
          case H4 =>
            intro w hS
            try simp only [opv, nZ, List.map_toArray, List.map_cons, List.map_nil, List.append_toArray, List.cons_append, List.nil_append, Array.append_empty]
            refine CallR.mono (c_law09alive _) ?_
            rintro _ w1 ⟨rfl, hE⟩; exact ⟨rfl, hE⟩
          try simp only [opv, nZ, Value.cells]
          refine any_go (i := 26) (by rfl) (by decide +kernel) (by decide +kernel) noLate_nil (go_yields w_none (fun w hS => s_pick_t)) ?_
          try simp only [opv, nZ, Value.cells]
          refine any_go (i := 27) (by rfl) (by decide +kernel) (by decide +kernel) noLate_nil (go_yields w_none (fun w hS => s_assign)) ?_
          try simp only [opv, nZ, Value.cells]
          refine any_nil (by kernel_rfl) (fun w28 hE => ?_)
          replace hS := hS.ext hE
          refine ⟨fun _ => hS.selA, ?_⟩
          refine mix_leaf (by simp only [clob, List.foldl, nZ]) ?_
          try simp only [n1, n2]
          exact ⟨by trivial, hS.ext_of⟩
        ·
         refine any_op (by rfl) ?_
         refine g_on (yi (t := 55) rfl rfl) ?_
         refine s_go (m_load_obj Tryz.underlying33 (hS := hS) (hv := by rfl)) ?_
         try simp only [opv, nZ, Value.cells, List.getElem_toArray, List.getElem_cons_zero, List.getElem_cons_succ]
         refine x_nil ?_
         refine any_go (i := 21) (by rfl) (by decide +kernel) (by decide +kernel) noLate_nil (go_yields (w_on (yi (t := 55) rfl rfl)) (fun w hS => s_len_sl Tryz.underlying33)) ?_
         try simp only [opv, nZ, Value.cells]
         refine any_step [16] (by kernel_rfl) (by decide) (fun w29 hE => ⟨fun _ => (hS.ext hE).sel (by repeat (first | exact Sel.nil | (refine Sel.cons (by repeat (first | exact Del.head | apply Del.tail)) ?_))), ?_⟩)
         replace hS := hS.ext hE
         intro i hi
         simp only [List.mem_cons, List.not_mem_nil, or_false] at hi
         subst hi
         ·
          refine any_op (by rfl) ?_
          refine g_on (yi (t := 55) rfl rfl) ?_
          refine s_call en15 ?_
          try simp only [opv, nZ, Value.cells, List.map_toArray, List.map_cons, List.map_nil, List.append_toArray, List.cons_append, List.nil_append, Array.append_empty]
          refine CallR.mono (c_cLeft _ p (z.2.1) Aa ca (z.2.2) hca (hS.owns (by repeat (first | exact Spl.nil | (apply Spl.cons (by repeat (exact Del.head))))))) ?_
          rintro _ w30 ⟨rfl, hC30⟩
          replace hS := hS.frame (by repeat (first | exact Spl.nil | (apply Spl.cons (by repeat (exact Del.head))))) hC30 (by intro r hr g hg; simp only [List.mem_cons, List.not_mem_nil, or_false] at hr; rcases hr with rfl | rfl | rfl <;> first | (simp [Res.reads] at hg; done) | exact .inr ⟨_, by simp, .inr hg⟩)
          simp only [List.cons_append, List.nil_append] at hS
          try simp only [opv, nZ, Value.cells]
          refine x_nil ?_
          refine any_go (i := 22) (by rfl) (by decide +kernel) (by decide +kernel) noLate_nil (go_yields (w_on (yi (t := 55) rfl rfl)) (fun w hS => s_eql)) ?_
          try simp only [opv, nZ, Value.cells]
          try simp only [eq_self, decide_true, beq_self_eq_true, Bool.and_self]
          refine any_go (i := 23) (by rfl) (by decide +kernel) (by decide +kernel) noLate_nil (go_yields w_none (fun w hS => s_pick_t)) ?_
          try simp only [opv, nZ, Value.cells]
          refine any_go (i := 24) (by rfl) (by decide +kernel) (by decide +kernel) noLate_nil (go_yields w_none (fun w hS => s_move)) ?_
          try simp only [opv, nZ, Value.cells]
          apply any_go (i := 25) (by rfl) (by decide +kernel) (by decide +kernel) noLate_nil (call_yields (w_on (yi (t := 65) rfl rfl)) en4 ?H5) ?K5
          case H5 =>
            intro w hS
            try simp only [opv, nZ, List.map_toArray, List.map_cons, List.map_nil, List.append_toArray, List.cons_append, List.nil_append, Array.append_empty]
            refine CallR.mono (c_law09alive _) ?_
            rintro _ w1 ⟨rfl, hE⟩; exact ⟨rfl, hE⟩
          try simp only [opv, nZ, Value.cells]
          refine any_go (i := 26) (by rfl) (by decide +kernel) (by decide +kernel) noLate_nil (go_yields w_none (fun w hS => s_pick_t)) ?_
          try simp only [opv, nZ, Value.cells]
          refine any_go (i := 27) (by rfl) (by decide +kernel) (by decide +kernel) noLate_nil (go_yields w_none (fun w hS => s_assign)) ?_
          try simp only [opv, nZ, Value.cells]
          refine any_nil (by kernel_rfl) (fun w31 hE => ?_)
          replace hS := hS.ext hE
          refine ⟨fun _ => hS.selA, ?_⟩
          refine mix_leaf (by simp only [clob, List.foldl, nZ]) ?_
          try simp only [n1, n2]
          exact ⟨by trivial, hS.ext_of⟩
      ·
       refine any_op (by rfl) ?_
       refine g_on (yi (t := 46) rfl rfl) ?_
       refine s_go (m_load_obj Tryz.underlying42 (hS := hS) (hv := by rfl)) ?_
       try simp only [opv, nZ, Value.cells, List.getElem_toArray, List.getElem_cons_zero, List.getElem_cons_succ]
       refine x_nil ?_
       refine any_step [7] (by kernel_rfl) (by decide) (fun w32 hE => ⟨fun _ => (hS.ext hE).sel (by repeat (first | exact Sel.nil | (refine Sel.cons (by repeat (first | exact Del.head | apply Del.tail)) ?_))), ?_⟩)
       replace hS := hS.ext hE
       intro i hi
       simp only [List.mem_cons, List.not_mem_nil, or_false] at hi
       subst hi
       ·
        refine any_op (by rfl) ?_
        refine g_on (yi (t := 46) rfl rfl) ?_
        refine s_call en14 ?_
        try simp only [opv, nZ, Value.cells, List.map_toArray, List.map_cons, List.map_nil, List.append_toArray, List.cons_append, List.nil_append, Array.append_empty]
        refine CallR.mono (c_cErr _ p (z.2.1) Aa ca (z.2.2) hca (hS.owns (by repeat (first | exact Spl.nil | (apply Spl.cons (by repeat (first | exact Del.head | apply Del.tail))))))) ?_
        rintro _ w33 ⟨rfl, hC33⟩
        replace hS := hS.frame (by repeat (first | exact Spl.nil | (apply Spl.cons (by repeat (first | exact Del.head | apply Del.tail))))) hC33 (by intro r hr g hg; simp only [List.mem_cons, List.not_mem_nil, or_false] at hr; rcases hr with rfl | rfl | rfl <;> first | (simp [Res.reads] at hg; done) | exact .inr ⟨_, by simp, .inr hg⟩)
        simp only [List.cons_append, List.nil_append] at hS
        try simp only [opv, nZ, Value.cells]
        refine x_nil ?_
        refine any_go (i := 12) (by rfl) (by decide +kernel) (by decide +kernel) noLate_nil (go_yields (w_on (yi (t := 46) rfl rfl)) (fun w hS => s_eql)) ?_
        try simp only [opv, nZ, Value.cells]
        try simp only [eq_self, decide_true, beq_self_eq_true, Bool.and_self]
        refine any_go (i := 13) (by rfl) (by decide +kernel) (by decide +kernel) noLate_nil (go_yields w_none (fun w hS => s_pick_t)) ?_
        try simp only [opv, nZ, Value.cells]
        refine any_go (i := 14) (by rfl) (by decide +kernel) (by decide +kernel) noLate_nil (go_yields w_none (fun w hS => s_move)) ?_
        try simp only [opv, nZ, Value.cells]
        refine any_go (i := 15) (by rfl) (by decide +kernel) (by decide +kernel) noLate_nil (go_yields (w_on (yi (t := 55) rfl rfl)) (fun w hS => s_move)) ?_
        try simp only [opv, nZ, Value.cells]
        refine any_go (i := 17) (by rfl) (by decide +kernel) (by decide +kernel) noLate_nil (go_yields (w_on (yi (t := 55) rfl rfl)) (fun w hS => s_move)) ?_
        try simp only [opv, nZ, Value.cells]
        refine any_go (i := 18) (by rfl) (by decide +kernel) (by decide +kernel) noLate_nil (go_yields (w_on (yi (t := 55) rfl rfl)) (fun w hS => s_nilCheck)) ?_
        try simp only [opv, nZ, Value.cells]
        refine any_go (i := 19) (by rfl) (by decide +kernel) (by decide +kernel) noLate_nil (go_yields (w_on (yi (t := 55) rfl rfl)) (fun w hS => m_fieldAddr Tryz.underlying44 (hi := ti33))) ?_
        try simp only [opv, nZ, Value.cells, Nat.zero_add, Nat.add_zero, List.getElem_toArray, List.getElem_cons_zero, List.getElem_cons_succ]
        refine any_step [16, 20] (by kernel_rfl) (by decide) (fun w34 hE => ⟨fun _ => (hS.ext hE).sel (by repeat (first | exact Sel.nil | (refine Sel.cons (by repeat (first | exact Del.head | apply Del.tail)) ?_))), ?_⟩)
        replace hS := hS.ext hE
        intro i hi
        simp only [List.mem_cons, List.not_mem_nil, or_false] at hi
        rcases hi with rfl | rfl
        ·
         refine any_op (by rfl) ?_
         refine g_on (yi (t := 55) rfl rfl) ?_
         refine s_call en15 ?_
         try simp only [opv, nZ, Value.cells, List.map_toArray, List.map_cons, List.map_nil, List.append_toArray, List.cons_append, List.nil_append, Array.append_empty]
         refine CallR.mono (c_cLeft _ p (z.2.1) Aa ca (z.2.2) hca (hS.owns (by repeat (first | exact Spl.nil | (apply Spl.cons (by repeat (exact Del.head))))))) ?_
         rintro _ w35 ⟨rfl, hC35⟩
         replace hS := hS.frame (by repeat (first | exact Spl.nil | (apply Spl.cons (by repeat (exact Del.head))))) hC35 (by intro r hr g hg; simp only [List.mem_cons, List.not_mem_nil, or_false] at hr; rcases hr with rfl | rfl | rfl <;> first | (simp [Res.reads] at hg; done) | exact .inr ⟨_, by simp, .inr hg⟩)
         simp only [List.cons_append, List.nil_append] at hS
         try simp only [opv, nZ, Value.cells]
         refine x_nil ?_
         refine any_step [20] (by kernel_rfl) (by decide) (fun w36 hE => ⟨fun _ => (hS.ext hE).sel (by repeat (first | exact Sel.nil | (refine Sel.cons (by repeat (first | exact Del.head | apply Del.tail)) ?_))), ?_⟩)
         replace hS := hS.ext hE
         intro i hi
         simp only [List.mem_cons, List.not_mem_nil, or_false] at hi
         subst hi
         ·
          refine any_op (by rfl) ?_
          refine g_on (yi (t := 55) rfl rfl) ?_
          refine s_go (m_load_obj Tryz.underlying33 (hS := hS) (hv := by rfl)) ?_
          try simp only [opv, nZ, Value.cells, List.getElem_toArray, List.getElem_cons_zero, List.getElem_cons_succ]
          refine x_nil ?_
          refine any_go (i := 21) (by rfl) (by decide +kernel) (by decide +kernel) noLate_nil (go_yields (w_on (yi (t := 55) rfl rfl)) (fun w hS => s_len_sl Tryz.underlying33)) ?_
          try simp only [opv, nZ, Value.cells]
          refine any_go (i := 22) (by rfl) (by decide +kernel) (by decide +kernel) noLate_nil (go_yields (w_on (yi (t := 55) rfl rfl)) (fun w hS => s_eql)) ?_
          try simp only [opv, nZ, Value.cells]
          try simp only [eq_self, decide_true, beq_self_eq_true, Bool.and_self]
          refine any_go (i := 23) (by rfl) (by decide +kernel) (by decide +kernel) noLate_nil (go_yields w_none (fun w hS => s_pick_t)) ?_
          try simp only [opv, nZ, Value.cells]
          refine any_go (i := 24) (by rfl) (by decide +kernel) (by decide +kernel) noLate_nil (go_yields w_none (fun w hS => s_move)) ?_
          try simp only [opv, nZ, Value.cells]
          apply any_go (i := 25) (by rfl) (by decide +kernel) (by decide +kernel) noLate_nil (call_yields (w_on (yi (t := 65) rfl rfl)) en4 ?H6) ?K6
          case H6 =>
            intro w hS
            try simp only [opv, nZ, List.map_toArray, List.map_cons, List.map_nil, List.append_toArray, List.cons_append, List.nil_append, Array.append_empty]
            refine CallR.mono (c_law09alive _) ?_
            rintro _ w1 ⟨rfl, hE⟩; exact ⟨rfl, hE⟩
          try simp only [opv, nZ, Value.cells]
          refine any_go (i := 26) (by rfl) (by decide +kernel) (by decide +kernel) noLate_nil (go_yields w_none (fun w hS => s_pick_t)) ?_
          try simp only [opv, nZ, Value.cells]
          refine any_go (i := 27) (by rfl) (by decide +kernel) (by decide +kernel) noLate_nil (go_yields w_none (fun w hS => s_assign)) ?_
          try simp only [opv, nZ, Value.cells]
          refine any_nil (by kernel_rfl) (fun w37 hE => ?_)
          replace hS := hS.ext hE
          refine ⟨fun _ => hS.selA, ?_⟩
          refine mix_leaf (by simp only [clob, List.foldl, nZ]) ?_
          try simp only [n1, n2]
          exact ⟨by trivial, hS.ext_of⟩
        ·
         refine any_op (by rfl) ?_
         refine g_on (yi (t := 55) rfl rfl) ?_
         refine s_go (m_load_obj Tryz.underlying33 (hS := hS) (hv := by rfl)) ?_
         try simp only [opv, nZ, Value.cells, List.getElem_toArray, List.getElem_cons_zero, List.getElem_cons_succ]
         refine x_nil ?_
         refine any_go (i := 21) (by rfl) (by decide +kernel) (by decide +kernel) noLate_nil (go_yields (w_on (yi (t := 55) rfl rfl)) (fun w hS => s_len_sl Tryz.underlying33)) ?_
         try simp only [opv, nZ, Value.cells]
         refine any_step [16] (by kernel_rfl) (by decide) (fun w38 hE => ⟨fun _ => (hS.ext hE).sel (by repeat (first | exact Sel.nil | (refine Sel.cons (by repeat (first | exact Del.head | apply Del.tail)) ?_))), ?_⟩)
         replace hS := hS.ext hE
         intro i hi
         simp only [List.mem_cons, List.not_mem_nil, or_false] at hi
         subst hi
         ·
          refine any_op (by rfl) ?_
          refine g_on (yi (t := 55) rfl rfl) ?_
          refine s_call en15 ?_
          try simp only [opv, nZ, Value.cells, List.map_toArray, List.map_cons, List.map_nil, List.append_toArray, List.cons_append, List.nil_append, Array.append_empty]
          refine CallR.mono (c_cLeft _ p (z.2.1) Aa ca (z.2.2) hca (hS.owns (by repeat (first | exact Spl.nil | (apply Spl.cons (by repeat (exact Del.head))))))) ?_
          rintro _ w39 ⟨rfl, hC39⟩
          replace hS := hS.frame (by repeat (first | exact Spl.nil | (apply Spl.cons (by repeat (exact Del.head))))) hC39 (by intro r hr g hg; simp only [List.mem_cons, List.not_mem_nil, or_false] at hr; rcases hr with rfl | rfl | rfl <;> first | (simp [Res.reads] at hg; done) | exact .inr ⟨_, by simp, .inr hg⟩)
          simp only [List.cons_append, List.nil_append] at hS
          try simp only [opv, nZ, Value.cells]
          refine x_nil ?_
          refine any_go (i := 22) (by rfl) (by decide +kernel) (by decide +kernel) noLate_nil (go_yields (w_on (yi (t := 55) rfl rfl)) (fun w hS => s_eql)) ?_
          try simp only [opv, nZ, Value.cells]
          try simp only [eq_self, decide_true, beq_self_eq_true, Bool.and_self]
          refine any_go (i := 23) (by rfl) (by decide +kernel) (by decide +kernel) noLate_nil (go_yields w_none (fun w hS => s_pick_t)) ?_
          try simp only [opv, nZ, Value.cells]
          refine any_go (i := 24) (by rfl) (by decide +kernel) (by decide +kernel) noLate_nil (go_yields w_none (fun w hS => s_move)) ?_
          try simp only [opv, nZ, Value.cells]
          apply any_go (i := 25) (by rfl) (by decide +kernel) (by decide +kernel) noLate_nil (call_yields (w_on (yi (t := 65) rfl rfl)) en4 ?H7) ?K7
          case H7 =>
            intro w hS
            try simp only [opv, nZ, List.map_toArray, List.map_cons, List.map_nil, List.append_toArray, List.cons_append, List.nil_append, Array.append_empty]
            refine CallR.mono (c_law09alive _) ?_
            rintro _ w1 ⟨rfl, hE⟩; exact ⟨rfl, hE⟩
          try simp only [opv, nZ, Value.cells]
          refine any_go (i := 26) (by rfl) (by decide +kernel) (by decide +kernel) noLate_nil (go_yields w_none (fun w hS => s_pick_t)) ?_
          try simp only [opv, nZ, Value.cells]
          refine any_go (i := 27) (by rfl) (by decide +kernel) (by decide +kernel) noLate_nil (go_yields w_none (fun w hS => s_assign)) ?_
          try simp only [opv, nZ, Value.cells]
          refine any_nil (by kernel_rfl) (fun w40 hE => ?_)
          replace hS := hS.ext hE
          refine ⟨fun _ => hS.selA, ?_⟩
          refine mix_leaf (by simp only [clob, List.foldl, nZ]) ?_
          try simp only [n1, n2]
          exact ⟨by trivial, hS.ext_of⟩
  intro fm2 w41 hM
  obtain ⟨h6, hEE⟩ := hM
  simp only [clob, List.foldl, n3, n4, h6]
  refine hK8 _ _ ?_
  refine x_ret ?_
  refine r_tmp rfl ?_
  exact ⟨rfl, hEE⟩
end Go.Proofs.YtpjpaipkkcengaaGreat
namespace Go.Proofs.YtpjpaipkkcengaaGreat
open Go.ChangeShapes Go.WideShapes Go.ChangeAt Go.RowKit
theorem own0 : ownKnob Tryz.prog.godebug = none := by kernel_rfl
theorem laidOut0 : laidOutB Tryz.prog = true := by kernel_rfl
theorem fl5 : Flat Tryz.prog 5 [LK.int .u8] := flat_int Tryz.underlying5
theorem fl22 : Flat Tryz.prog 22 [LK.int .u16] := flat_int Tryz.underlying22
theorem fl24 : Flat Tryz.prog 24 (List.replicate 8 [LK.int .u8]).flatten := flat_arr Tryz.underlying24 fl5 rfl (by kernel_rfl) (by kernel_rfl)
theorem fl25 : Flat Tryz.prog 25 [LK.int .u32] := flat_int Tryz.underlying25
theorem fl27 : Flat Tryz.prog 27 ([LK.int .u8] ++ ([LK.int .u16] ++ ((List.replicate 8 [LK.int .u8]).flatten ++ ([LK.int .u8] ++ ([LK.int .u32] ++ ([])))))) := flat_struct Tryz.underlying27 (.cons rfl fl5 rfl (by kernel_rfl) (.cons rfl fl22 rfl (by kernel_rfl) (.cons rfl fl24 rfl (by kernel_rfl) (.cons rfl fl5 rfl (by kernel_rfl) (.cons rfl fl25 rfl (by kernel_rfl) (.nil)))))) (by kernel_rfl)
theorem fl28 : Flat Tryz.prog 28 [LK.int .u64] := flat_int Tryz.underlying28
theorem fl30 : Flat Tryz.prog 30 ([LK.int .u64] ++ ((List.replicate 8 [LK.int .u8]).flatten ++ ([]))) := flat_struct Tryz.underlying30 (.cons rfl fl28 rfl (by kernel_rfl) (.cons rfl fl24 rfl (by kernel_rfl) (.nil))) (by kernel_rfl)
theorem fl32 : Flat Tryz.prog 32 (([LK.int .u8] ++ ([LK.int .u16] ++ ((List.replicate 8 [LK.int .u8]).flatten ++ ([LK.int .u8] ++ ([LK.int .u32] ++ ([])))))) ++ (([LK.int .u64] ++ ((List.replicate 8 [LK.int .u8]).flatten ++ ([]))) ++ ([]))) := flat_struct Tryz.underlying32 (.cons rfl fl27 rfl (by kernel_rfl) (.cons rfl fl30 rfl (by kernel_rfl) (.nil))) (by kernel_rfl)
end Go.Proofs.YtpjpaipkkcengaaGreat
namespace Go.Proofs.YtpjpaipkkcengaaGreat
theorem ws_cons {c : Char} (h : c ≠ Char.ofNat 32) (x : List Char) : wordsSigns (c :: x) = (match wordsSigns x with | w :: ws => (c :: w) :: ws | [] => [[c]]) := by
  conv => lhs; unfold wordsSigns
  split
  · simp_all
  · next h1 => exact absurd (by simpa using (List.cons.inj h1).1) h
  · next h1 => obtain ⟨rfl, rfl⟩ := List.cons.inj h1; rfl
theorem ws_app (b : List Char) : ∀ (a : List Char), (∀ c ∈ a, c ≠ Char.ofNat 32) → wordsSigns (a ++ Char.ofNat 32 :: b) = a :: wordsSigns b
  | [], _ => rfl
  | c :: r, h => by
    rw [List.cons_append, ws_cons (h c (by simp)), ws_app b r (fun x hx => h x (by simp [hx]))]
/-- the head's words: harness, a sum, cut -/
theorem head_words {P : Program} {s b : List Char} (he : P.initOrder = String.ofList ("harness".toList ++ Char.ofNat 32 :: (s ++ Char.ofNat 32 :: ("cut".toList ++ Char.ofNat 32 :: b)))) (hs : isSumSigns s = true) (hb : ∀ c ∈ s, c ≠ Char.ofNat 32) :
    ∃ R, behindMainWord (wordsSigns P.initOrder.toList) = "cut".toList :: R := by
  refine ⟨wordsSigns b, ?_⟩
  rw [he, String.toList_ofList, ws_app _ _ (by decide), ws_app _ _ hb, ws_app _ _ (by decide)]
  simp only [behindMainWord, hs, beq_self_eq_true, Bool.true_or, Bool.and_self, if_true]
theorem e_gc : ("cut".toList == "gc".toList) = false := by decide
theorem e_spec : ("cut".toList == "spec".toList) = false := by decide
theorem e_car : ("cut".toList == "carried".toList) = false := by decide
theorem e_sl (R : List (List Char)) : stripLifts liftWords ("cut".toList :: R) = ([], "cut".toList :: R) := by
  have h : ∀ (l : List String), (∀ o ∈ l, ("cut".toList == o.toList) = false) → stripLifts l ("cut".toList :: R) = ([], "cut".toList :: R) := by
    intro l
    induction l with
    | nil => intro _; rfl
    | cons o os ih => intro hl; rw [stripLifts, hl o (by simp)]; simp only [Bool.false_eq_true, if_false]; exact ih fun x hx => hl x (by simp [hx])
  exact h liftWords (by decide)
section
variable {P : Program} (h : ∃ R, behindMainWord (wordsSigns P.initOrder.toList) = "cut".toList :: R)
include h
theorem make_of : P.make = some .cut := by
  obtain ⟨R, h⟩ := h
  unfold Program.make
  rw [h]
  simp only [e_gc, e_spec, beq_self_eq_true, Bool.or_self, Bool.true_or, Bool.false_eq_true, if_false, if_true]
theorem lifts_of : P.liftsFinal = false := by
  obtain ⟨R, h⟩ := h
  unfold Program.liftsFinal Program.headLifts
  rw [h, e_sl]
  show (_ || _) = false
  rfl
theorem enter_of (hl : P.laysLater = false) (hr : P.bearsReflect = false) (hd : P.doorFits [] = true) : P.mayEnter = true := by
  obtain ⟨R, h⟩ := h
  unfold Program.mayEnter
  rw [h]
  dsimp only
  rw [e_sl, hl, hr]
  simp only [hd, e_gc, e_spec, e_car, beq_self_eq_true, Bool.or_self, Bool.false_and, Bool.not_false, Bool.or_true, Bool.and_true, List.head?_cons, List.contains_nil]
end
theorem closed_of {P : Program} {f : FuncId} {fn : Func} {s : ChangeSpec} {c : OpenClaim} (hm : P.make = some .cut) (hl : P.liftsFinal = false) (he : P.mayEnter = true) (h2 : laidOutB P = true) (h3 : mapsRowed P = true) (hst : (P.stops == []) = true) (hk : (P.stopKnobs == []) = true)
    (hp : P.plainKeys = c.plainKeys) (hh : P.stopsHeard = true) (i1 : P.inPlace f = c.inPlace) (i2 : P.unfollowed f = c.unfollowed) (i3 : P.recurses f = c.recurses) (i4 : P.varsNamed f = c.named)
    (rest : (c.wf (OpenSpec.ofChange s) && fn.params.all (P.readableRec ·) && namedTie P c.named s.vars && (c.stops == []) && (c.knobs == []) &&
      (c.maps == (fn.params.toList ++ s.plain.varTypes P).any (P.mapsRec ·)) && (c.ifaces == (fn.params.toList ++ s.plain.varTypes P).any (P.ifacesRec ·)) && (c.mapsOut == P.mapsAmong fn.resultTypes.toList) &&
      (c.loops == (fn.params.toList ++ s.plain.varTypes P).any (P.loopsFrom ·)) && (c.wideKeys == (fn.params.toList ++ s.plain.varTypes P ++ fn.resultTypes.toList).any (P.wideKeysFrom ·)) &&
      s.vars.all (P.varReadable ·) && fn.resultTypes.all (fun t => P.readableRec t && decide (t < P.types.size)) && (c.ifacesOut == fn.resultTypes.toList.any (P.ifacesRec ·)) && (c.loopsOut == fn.resultTypes.toList.any (P.loopsFrom ·)) && c.shortTexts.isNone && (c.lifted == false) && (some Make.cut == some c.make) &&
      (c.kinds == (if c.domain.isEmpty then [] else fn.params.toList.map fun t => match P.underlying t with | some (.int k) => some k | _ => none)) && (c.pinned == c.pinnedBy) &&
      (c.veiled == (fn.params.toList ++ s.plain.varTypes P ++ fn.resultTypes.toList).any (P.veiledRec ·)) && c.veiledFits P fn.params.toList (fn.params.toList ++ s.plain.varTypes P ++ fn.resultTypes.toList)) = true) : joinedFacts P f fn s c = true := by
  simp only [Bool.and_eq_true] at rest
  unfold joinedFacts
  rw [hm, hl, he, h2, h3, hst, hk, hp, hh, i1, i2, i3, i4]
  simp only [beq_self_eq_true, Bool.and_eq_true, Bool.and_true]
  have hkd := rest.1.1.1.2
  simp only [rest, and_self]
  exact ⟨⟨⟨⟨trivial, hkd⟩, trivial⟩, trivial⟩, trivial⟩
end Go.Proofs.YtpjpaipkkcengaaGreat
namespace Go.Proofs.YtpjpaipkkcengaaGreat
def ioS : List Nat := [97, 51, 49, 102, 97, 48, 97, 100, 49, 51, 54, 48, 56, 51, 50, 55, 48, 102, 54, 53, 57, 57, 56, 97, 102, 49, 52, 99, 50, 55, 52, 97, 99, 54, 99, 101, 54, 51, 51, 97, 98, 98, 48, 54, 50, 98, 56, 55, 100, 97, 53, 55, 100, 102, 56, 54, 53, 54, 100, 49, 98, 101, 56, 102]
def ioB : List Nat := [97, 116, 32, 104, 97, 110, 100, 99, 97, 114, 116, 47, 104, 97, 110, 100, 99, 97, 114, 116, 108, 97, 119, 48, 57, 46, 65, 116, 111, 109, 82, 101, 97, 100, 115]
theorem io_eq : Tryz.prog.initOrder = String.ofList ("harness".toList ++ Char.ofNat 32 :: (ioS.map Char.ofNat ++ Char.ofNat 32 :: ("cut".toList ++ Char.ofNat 32 :: ioB.map Char.ofNat))) := by kernel_rfl
theorem io_sum : isSumSigns (ioS.map Char.ofNat) = true := by kernel_rfl
theorem io_hd : ∃ R, behindMainWord (wordsSigns Tryz.prog.initOrder.toList) = "cut".toList :: R := head_words io_eq io_sum (by decide)
theorem p_make : Tryz.prog.make = some .cut := make_of io_hd
theorem p_lifts : Tryz.prog.liftsFinal = false := lifts_of io_hd
theorem p_ll : Tryz.prog.laysLater = false := by kernel_rfl
theorem p_br : Tryz.prog.bearsReflect = false := by kernel_rfl
theorem p_df : Tryz.prog.doorFits [] = true := by kernel_rfl
theorem p_enter : Tryz.prog.mayEnter = true := enter_of io_hd p_ll p_br p_df
theorem p_rowed : mapsRowed Tryz.prog = true := by kernel_rfl
theorem p_stops : (Tryz.prog.stops == []) = true := by kernel_rfl
theorem p_knobs : (Tryz.prog.stopKnobs == []) = true := by kernel_rfl
theorem p_keys : Tryz.prog.plainKeys = true := by kernel_rfl
theorem p_heard : Tryz.prog.stopsHeard = true := by kernel_rfl
end Go.Proofs.YtpjpaipkkcengaaGreat
