/- Rules, plain words and walks that the claim leans on: Ro, Rp, Lzopen, Tb, Vj, Tc. -/
import Derived.Test.YtffmanidnlbjjaaGreatZDotsSeen5
set_option linter.unusedSimpArgs false
set_option linter.unusedVariables false
set_option linter.unusedSimpArgs false
set_option linter.unusedVariables false
set_option maxHeartbeats 3000000
set_option maxRecDepth 100000
namespace Go.Proofs.YtffmanidnlbjjaaGreat
open Go.RowKit

/-- the dots of a state -/
def dtS (s : List (List Int)) : List Int := (s.filter fun a => decide (kn a 0 = 1)).map fun a => (dotN (akey a) : Int)
theorem dt_take {s : List (List Int)} {k : Nat} {x : List Int} (hk : k < s.length) (hx : s.getD k [] = x) : (kn x 0 = 1 → dtS (s.take (k + 1)) = dtS (s.take k) ++ [(dotN (akey x) : Int)]) ∧ (¬ kn x 0 = 1 → dtS (s.take (k + 1)) = dtS (s.take k)) := by
  rw [take_snoc hk, hx, dtS, List.filter_append, List.map_append]
  refine ⟨fun h => ?_, fun h => ?_⟩
  · rw [List.filter_cons_of_pos (by simpa using h)]; rfl
  · rw [List.filter_cons_of_neg (by simpa using h)]; simp [dtS]
theorem arow_sort {l : List (List Int)} {k : Nat} (hk : k < l.length) (hv : AOks l) : (arows l)[k * 21]? = some (.int .u8 (kn (l.getD k []) 0 : Int)) := by
  have h := congrArg (fun a : Array Value => a[0]?) (arow_key hk hv)
  have hkx := (hv.get hk).key
  have h2 : (KA (akey (l.getD k [])))[0]? = some (.int .u8 ((akey (l.getD k [])).getD 0 0)) := zi_get rfl (by have := hkx.len; omega)
  rw [hkx.e0, (akey_k (hv.get hk).len).1] at h2
  rw [← h2, ← h]
  simp [List.getElem?_take, List.getElem?_drop]
theorem dt_len (s : List (List Int)) : (dtS s).length ≤ s.length := by rw [dtS, List.length_map]; exact List.length_filter_le _ _
theorem dt_u64 {s : List (List Int)} (h : AOks s) : U64s (dtS s) := fun x hx => by
  obtain ⟨a, ha, rfl⟩ := List.mem_map.1 hx
  have := dotN_lt (h a (List.mem_filter.1 ha).1).key
  omega
theorem mem_dt {s : List (List Int)} (h : AOks s) {x : Int} : x ∈ dtS s ↔ ∃ a ∈ s, kn (akey a) 0 = 1 ∧ (dotN (akey a) : Int) = x := by
  unfold dtS
  rw [List.mem_map]
  constructor
  · rintro ⟨a, ha, rfl⟩
    obtain ⟨h1, h2⟩ := List.mem_filter.1 ha
    exact ⟨a, h1, by rw [(akey_k (h a h1).len).1]; simpa using h2, rfl⟩
  · rintro ⟨a, ha, h1, rfl⟩
    exact ⟨a, List.mem_filter.2 ⟨ha, by rw [(akey_k (h a ha).len).1] at h1; simpa using h1⟩, rfl⟩
theorem add_mem {v l m : List Int} (hv : VOk v) (h : ∀ x, x ∈ l ↔ x ∈ m) : addS v l = addS v m :=
  (add_nrm hv l).uniq (add_nrm hv m) fun x => by unfold HasD; rw [h]
theorem key_join {l r : List (List Int)} (hl : AOks l) (hr : AOks r) (k : List Int) : (∃ a ∈ normP (l ++ r), akey a = k) ↔ (∃ a ∈ normP l, akey a = k) ∨ ∃ a ∈ normP r, akey a = k := by
  have key : ∀ {s : List (List Int)}, (∃ a ∈ s, akey a = k) ↔ 0 < rnk (fnd k s) := by
    intro s
    cases hf : fnd k s with
    | none =>
      rw [fnd_none] at hf
      exact ⟨fun ⟨a, ha, e⟩ => absurd e (hf a ha), fun h => by simp [rnk] at h⟩
    | some v => exact ⟨fun _ => by simp [rnk], fun _ => by obtain ⟨a, ha, e, _⟩ := fnd_mem hf; exact ⟨a, ha, e⟩⟩
  rw [key, key, key, val_join hl hr]; omega
theorem dt_join {l r : List (List Int)} (hl : AOks l) (hr : AOks r) : addS (List.replicate 16 0) (dtS (normP (l ++ r))) = joinS (addS (List.replicate 16 0) (dtS (normP l))) (addS (List.replicate 16 0) (dtS (normP r))) := by
  rw [← step_join]
  refine add_mem VOk.zero fun x => ?_
  rw [List.mem_append, List.mem_reverse, mem_dt (norm_sta (hl.app hr)).ok, mem_dt (norm_sta hl).ok, mem_dt (norm_sta hr).ok]
  constructor
  · rintro ⟨a, ha, h1, rfl⟩
    rcases (key_join hl hr (akey a)).1 ⟨a, ha, rfl⟩ with ⟨b, hb, e⟩ | ⟨b, hb, e⟩
    · exact .inr ⟨b, hb, by rw [e]; exact h1, by rw [e]⟩
    · exact .inl ⟨b, hb, by rw [e]; exact h1, by rw [e]⟩
  · rintro (⟨b, hb, h1, rfl⟩ | ⟨b, hb, h1, rfl⟩)
    · obtain ⟨a, ha, e⟩ := (key_join hl hr (akey b)).2 (.inr ⟨b, hb, rfl⟩)
      exact ⟨a, ha, by rw [e]; exact h1, by rw [e]⟩
    · obtain ⟨a, ha, e⟩ := (key_join hl hr (akey b)).2 (.inl ⟨b, hb, rfl⟩)
      exact ⟨a, ha, by rw [e]; exact h1, by rw [e]⟩

theorem c_dotsSeen (w0 : World) (A : Option Addr) (c : Nat) (l : List (List Int)) (hr : Rd w0 A 21 l.length (arows l)) (hv : AOks l) (hn : l.length ≤ 1000000000)  :
    CallR Tryz.prog 13 #[.slice A l.length c] w0 fun v w' => ∃ (D : Option Addr) (e : Nat), v = .agg (SetC (addS (List.replicate 16 0) (dtS (normP l))).1 (.slice D (addS (List.replicate 16 0) (dtS (normP l))).2.length e)) ∧ St NoB w0 w' [.vec D e 84 1 (addS (List.replicate 16 0) (dtS (normP l))).2.length (List.map (Value.int .u64) (addS (List.replicate 16 0) (dtS (normP l))).2)] := by
 have hS := St.rd1 (S := NoB) hr
 have hno := (norm_sta hv).ok
 have hkn := (norm_sta hv).knd
 have hnl := arows_len (normP l)
 have hnb := norm_len l
 have h0l : (List.replicate 16 (0 : Int)).length = 16 := rfl
 have hps := addS_ok VOk.zero (dtS (normP l))
 have hpl := hps.1.len
 have hdu := dt_u64 hno
 have hdn := dt_len (normP l)
 refine y_enter (l := [.slice A l.length c, undef, undef, undef, undef, undef, undef, undef, undef, undef, undef, undef, undef, undef, undef, undef, undef, undef, undef]) Tryz.func13 rfl (by simp only [Tryz.ntmps13, List.size_toArray, List.length_cons, List.length_nil, Nat.reduceAdd, Nat.reduceSub, Array.replicate_succ, Array.replicate_zero, List.push_toArray, List.append_toArray, List.nil_append, List.cons_append]) ?_
 refine y_seq fun K1 hK1 => ?_
 refine y_region (by kernel_rfl) ?_
 refine m_alloc ti29 hS (fun w1 g1 hS => ?_)
 try simp only [opv, n1, n2, n3, n4, Value.cells, Array.toArray_toList] at hS ⊢
 replace hS : St NoB w0 w1 (.obj g1 (.cells (SetC (List.replicate 16 0) (.slice none 0 0)) 29 (0, 0)) :: _) := hS
 obtain ⟨gbr, hgbr⟩ : ∃ z, z = g1 := ⟨_, rfl⟩
 rw [← hgbr] at hS ⊢
 refine y_nilf ?_
 refine hK1 _ _ ?_
 refine y_seq fun K2 hK2 => ?_
 refine y_region (by kernel_rfl) ?_
 refine m_alloc ti27 hS (fun w2 g2 hS => ?_)
 try simp only [opv, n1, n2, n3, n4, Value.cells, Array.toArray_toList] at hS ⊢
 obtain ⟨gs, hgs⟩ : ∃ z, z = g2 := ⟨_, rfl⟩
 rw [← hgs] at hS ⊢
 replace hS := hS.nil_vec 84 1
 refine y_nilf ?_
 refine hK2 _ _ ?_
 refine y_seq fun K3 hK3 => ?_
 refine y_seq fun K4 hK4 => ?_
 refine y_region (by kernel_rfl) ?_
 refine s_go (s_move) ?_
 try simp only [opv, n1, n2, n3, n4, Value.cells]
 refine s_call en52 ?_
 try simp only [opv, n1, n2, n3, n4, Value.cells, List.map_toArray, List.map_cons, List.map_nil, List.append_toArray, List.cons_append, List.nil_append, Array.append_empty]
 refine CallR.mono (c_latEach A c l _) ?_
 rintro _ w3 ⟨b, rfl, hC3⟩
 replace hS := hS.call hC3
 simp only [List.cons_append, List.nil_append] at hS
 try simp only [opv, n1, n2, n3, n4, Value.cells]
 refine y_nilf ?_
 refine hK4 _ _ ?_
 refine y_block ?_
 replace hS : St NoB w0 w3 [.obj b (.cells #[.slice A l.length c] 22 (0, 0)), .rd A 21 (l).length (arows (l)), .obj gs (.cells #[.slice none 0 0] 27 (0, 0)), .vec none 0 84 1 0 [], .obj gbr (.cells (SetC (List.replicate 16 0) (.slice none 0 0)) 29 (0, 0))] := hS.sel (by repeat (first | exact Sel.nil | (refine Sel.cons (by repeat (first | exact Del.head | apply Del.tail)) ?_)))
 refine y_range rfl en107 (i_latEach b A c l hv hn) (fun _ => rfl) hS (by repeat (first | exact Spl.nil | (apply Spl.cons (by repeat (first | exact Del.head | apply Del.tail))))) (fun k L => k ≤ (normP l).length ∧ ∃ (O : Option Addr) (oc : Nat), L = [.obj gs (.cells #[.slice O (dtS ((normP l).take k)).length oc] 27 (0, 0)), .vec O oc 84 1 (dtS ((normP l).take k)).length (List.map (Value.int .u64) (dtS ((normP l).take k))), .obj gbr (.cells (SetC (List.replicate 16 0) (.slice none 0 0)) 29 (0, 0))]) (fun L => False) [] ?rfh1 ?rfr1 (fun D1 T1 w4 R1 hC hS => ?rfd1) (fun D1 T1 w5 R1 hX hS => ?rft1) ?rfe1
 case rfh1 =>
  exact ⟨Nat.zero_le _, none, 0, rfl⟩
 case rfr1 =>
  intro k1 w6 R1 T1 lr1 hk1 hC hS
  obtain ⟨hk0, O, oc, rfl⟩ := hC
  simp only [List.cons_append, List.nil_append] at hS
  simp only [List.toList_toArray, entL, List.zip_cons_cons, List.zip_nil_left, List.foldl_cons, List.foldl_nil, n3, n4]
  obtain ⟨x, hx⟩ : ∃ x, (normP l).getD k1 [] = x := ⟨_, rfl⟩
  have ha : AtomOk x := by rw [← hx]; exact hno.get (by omega)
  have hal := ha.len
  have hk12 := ha.key.len
  have hvx := ha.val
  have hx9 := hvx.len
  simp only [hx]
  have hkx := ha.key
  have hk01 := akey_k hal
  have hdt := dt_take hk1 hx
  have hdl := dt_len ((normP l).take k1)
  have hlt : ((normP l).take k1).length ≤ (normP l).length := by rw [List.length_take]; omega
  refine y_region (by kernel_rfl) ?_
  refine m_alloc ti83 hS (fun w7 g7 hS => ?_)
  try simp only [opv, n1, n2, n3, n4, Value.cells, Array.toArray_toList] at hS ⊢
  have h0l : key0.length = 12 := rfl
  replace hS : St _ _ w7 (.obj g7 (.cells (KA key0) 83 (0, 0)) :: _) := hS
  obtain ⟨gk, hgk⟩ : ∃ z, z = g7 := ⟨_, rfl⟩
  rw [← hgk] at hS ⊢
  first | refine m_store_obj ti83 (hS := hS) (hc := by first | exact zi_set rfl (by omega) | exact zi_whole (by omega) (by omega) | (first | exact splice_ic (by first | omega | (simp [*]; done) | (simp [*]; omega)) | exact splice_il (by first | omega | (simp [*]; done) | (simp [*]; omega)) | exact splice_whole (by first | (simp [opv, Value.cells, *]; done) | rfl) | (simp only [opv, n1, n2, Value.cells, splice, List.take_succ_cons, List.take_zero, List.drop_succ_cons, List.drop_zero, List.length_cons, List.length_nil, Nat.zero_add, Nat.reduceAdd, List.append_assoc, List.cons_append, List.nil_append]; rfl))) (hv := by first | rfl | (show (zi _ _).toArray.size = _; rw [zi_size (by omega)]; rfl) | (simp [opv, Value.cells, *]; done)) (hfit := by first | omega | (rw [zi_size (by omega)]; first | rfl | decide) | (simp only [ic_size, List.length_map, List.size_toArray]; first | omega | decide) | rfl | (simp [*]; done) | (simp [*]; omega)) (h1 := by first | exact zi_one _ _ | exact ic_one _ _ | simp [opv, Value.cells, Value.oneCell']) (h := fun w8 hS => ?_) | refine m_store_vec ti83 (hS := hS) (hc := by first | exact zi_set rfl (by omega) | exact zi_whole (by omega) (by omega) | (first | exact splice_ic (by first | omega | (simp [*]; done) | (simp [*]; omega)) | exact splice_il (by first | omega | (simp [*]; done) | (simp [*]; omega)) | exact splice_whole (by first | (simp [opv, Value.cells, *]; done) | rfl) | (simp only [opv, n1, n2, Value.cells, splice, List.take_succ_cons, List.take_zero, List.drop_succ_cons, List.drop_zero, List.length_cons, List.length_nil, Nat.zero_add, Nat.reduceAdd, List.append_assoc, List.cons_append, List.nil_append]; rfl))) (hv := by first | rfl | (show (zi _ _).toArray.size = _; rw [zi_size (by omega)]; rfl) | (simp [opv, Value.cells, *]; done)) (hfit := by first | omega | (rw [zi_size (by omega)]; first | rfl | decide) | (simp only [ic_size, List.length_map, List.size_toArray]; first | omega | decide) | rfl | (simp [*]; done) | (simp [*]; omega)) (h1 := by first | exact zi_one _ _ | exact ic_one _ _ | simp [opv, Value.cells, Value.oneCell']) (h := fun w8 hS => ?_)
  try simp only [opv, n1, n2, n3, n4, Value.cells, Array.toArray_toList] at hS ⊢
  refine y_nilf ?_
  refine round_open hS (by repeat (first | exact App.nil | apply App.cons)) (fun w9 T2 hS => ?_)
  simp only [List.cons_append, List.nil_append] at hS
  refine y_block ?_
  refine y_seq fun K5 hK5 => ?_
  refine y_region (by kernel_rfl) ?_
  first | refine s_go (m_fieldAddr Tryz.underlying83 (hi := ti5)) ?_ | refine s_go (m_fieldAddr_rd Tryz.underlying83 (hi := ti5) (hS := hS)) ?_ | refine s_go (m_fieldAddr_vec Tryz.underlying83 (hi := ti5) (hS := hS)) ?_
  try simp only [opv, n1, n2, n3, n4, Value.cells, Nat.zero_add, Nat.add_zero, List.getElem_toArray, List.getElem_cons_zero, List.getElem_cons_succ]
  first | refine s_go (m_load_obj Tryz.underlying5 (hS := hS) (hv := by first | rfl | exact zi_get rfl (by omega) | exact ic_get (by omega) | exact il_get (by omega))) ?_ | refine s_go (m_load_bx Tryz.underlying5 (hS := hS) (hv := by first | rfl | exact zi_get rfl (by omega) | exact ic_get (by omega) | exact il_get (by omega))) ?_ | refine s_go (m_load_rd Tryz.underlying5 (hS := hS) (hv := by first | rfl | exact zi_get rfl (by omega) | exact ic_get (by omega) | exact il_get (by omega))) ?_ | refine s_go (m_load_vec Tryz.underlying5 (hS := hS) (hv := by first | rfl | exact zi_get rfl (by omega) | exact ic_get (by omega) | exact il_get (by omega))) ?_
  try simp only [opv, n1, n2, n3, n4, Value.cells, List.getElem_toArray, List.getElem_cons_zero, List.getElem_cons_succ]
  rw [hkx.e0, hk01.1]
  refine s_go (s_eql) ?_
  try simp only [opv, n1, n2, n3, n4, Value.cells]
  refine y_nilf ?_
  refine hK5 _ _ ?_
  refine y_cond (ht := fun hc1 => ?_) (hf := fun hc1 => ?_)
  ·
   try simp only [decide_eq_true_eq, decide_eq_false_iff_not, Bool.not_eq_true', Bool.not_eq_false', Int.not_lt, Int.not_le, ne_eq, Decidable.not_not, bne_iff_ne, beq_iff_eq, not_true_eq_false, not_false_eq_true] at hc1
   have hst := hdt.1 (by omega)
   refine y_mixed_c (Lc := [.obj gk (.cells (KA (akey x)) 83 (0, 0)), .obj gs (.cells #[.slice O (dtS ((normP l).take k1)).length oc] 27 (0, 0))]) [5] 0 [12, 13, 14, 15, 16] (fun f w => ∃ (O2 : Option Addr) (oc2 : Nat), St NoB w0 w (.obj gs (.cells #[.slice O2 (dtS ((normP l).take (k1 + 1))).length oc2] 27 (0, 0)) :: .vec O2 oc2 84 1 (dtS ((normP l).take (k1 + 1))).length (List.map (Value.int .u64) (dtS ((normP l).take (k1 + 1)))) :: .obj gbr (.cells (SetC (List.replicate 16 0) (.slice none 0 0)) 29 (0, 0)) :: T2)) (by kernel_rfl) (by kernel_rfl) (by kernel_rfl) (by decide) (by kernel_rfl) hS (fun w10 hS => ?mixpre501) ?mixrest501
   case mixpre501 =>
    refine p_nil ?_
    simp only [List.length_cons, List.length_nil, Nat.reduceAdd, Nat.reduceSub]
    first | refine any_go (i := 0) (by rfl) (by decide +kernel) (by decide +kernel) (by unfold noLate; decide) (go_yields w_none (fun w hS => m_load_obj Tryz.underlying27 (hS := hS) (hv := by first | rfl | exact zi_get rfl (by omega) | exact ic_get (by omega) | exact il_get (by omega)))) ?_ | refine any_go (i := 0) (by rfl) (by decide +kernel) (by decide +kernel) (by unfold noLate; decide) (go_yields w_none (fun w hS => m_load_bx Tryz.underlying27 (hS := hS) (hv := by first | rfl | exact zi_get rfl (by omega) | exact ic_get (by omega) | exact il_get (by omega)))) ?_ | refine any_go (i := 0) (by rfl) (by decide +kernel) (by decide +kernel) (by unfold noLate; decide) (go_yields w_none (fun w hS => m_load_rd Tryz.underlying27 (hS := hS) (hv := by first | rfl | exact zi_get rfl (by omega) | exact ic_get (by omega) | exact il_get (by omega)))) ?_ | refine any_go (i := 0) (by rfl) (by decide +kernel) (by decide +kernel) (by unfold noLate; decide) (go_yields w_none (fun w hS => m_load_vec Tryz.underlying27 (hS := hS) (hv := by first | rfl | exact zi_get rfl (by omega) | exact ic_get (by omega) | exact il_get (by omega)))) ?_
    try simp only [opv, n1, n2, n3, n4, Value.cells, List.getElem_toArray, List.getElem_cons_zero, List.getElem_cons_succ]
    first | refine any_go (i := 1) (by rfl) (by decide +kernel) (by decide +kernel) (by unfold noLate; decide) (go_yields w_none (fun w hS => m_load_row Tryz.underlying83 (hi := ti83) (hS := hS) (hfit := by first | omega | (rw [zi_size (by omega)]; first | rfl | decide) | (simp only [ic_size, List.length_map, List.size_toArray]; first | omega | decide) | rfl | (simp [*]; done) | (simp [*]; omega)))) ?_ | refine any_go (i := 1) (by rfl) (by decide +kernel) (by decide +kernel) (by unfold noLate; decide) (go_yields w_none (fun w hS => m_loada_obj Tryz.underlying83 (hi := ti83) (hS := hS) (hfit := by first | omega | (rw [zi_size (by omega)]; first | rfl | decide) | (simp only [ic_size, List.length_map, List.size_toArray]; first | omega | decide) | rfl | (simp [*]; done) | (simp [*]; omega)))) ?_ | refine any_go (i := 1) (by rfl) (by decide +kernel) (by decide +kernel) (by unfold noLate; decide) (go_yields w_none (fun w hS => m_loada_bx Tryz.underlying83 (hi := ti83) (hS := hS) (hfit := by first | omega | (rw [zi_size (by omega)]; first | rfl | decide) | (simp only [ic_size, List.length_map, List.size_toArray]; first | omega | decide) | rfl | (simp [*]; done) | (simp [*]; omega)))) ?_ | refine any_go (i := 1) (by rfl) (by decide +kernel) (by decide +kernel) (by unfold noLate; decide) (go_yields w_none (fun w hS => m_loada_rd Tryz.underlying83 (hi := ti83) (hS := hS) (hfit := by first | omega | (rw [zi_size (by omega)]; first | rfl | decide) | (simp only [ic_size, List.length_map, List.size_toArray]; first | omega | decide) | rfl | (simp [*]; done) | (simp [*]; omega)))) ?_ | refine any_go (i := 1) (by rfl) (by decide +kernel) (by decide +kernel) (by unfold noLate; decide) (go_yields w_none (fun w hS => m_loada_vec Tryz.underlying83 (hi := ti83) (hS := hS) (hfit := by first | omega | (rw [zi_size (by omega)]; first | rfl | decide) | (simp only [ic_size, List.length_map, List.size_toArray]; first | omega | decide) | rfl | (simp [*]; done) | (simp [*]; omega)))) ?_
    try simp only [opv, n1, n2, n3, n4, Value.cells, List.getElem_toArray, List.getElem_cons_zero, List.getElem_cons_succ]
    apply any_go (i := 2) (by rfl) (by decide +kernel) (by decide +kernel) (by unfold noLate; decide) (call_yields w_none en53 ?H1) ?K1
    case H1 =>
      intro w hS
      try simp only [opv, n1, n2, n3, n4, List.map_toArray, List.map_cons, List.map_nil, List.append_toArray, List.cons_append, List.nil_append, Array.append_empty]
      refine CallR.mono (c_keyDot (akey x) hkx _) ?_
      rintro _ w1 ⟨rfl, hE⟩; exact ⟨rfl, hE⟩
    try simp only [opv, n1, n2, n3, n4, Value.cells]
    refine any_step [3] (by kernel_rfl) (by decide) (fun w11 hE => ⟨fun _ => (hS.ext hE).sel (by repeat (first | exact Sel.nil | exact Sel.self | (refine Sel.cons (by repeat (first | exact Del.head | apply Del.tail)) ?_) | apply Sel.skip)), ?_⟩)
    replace hS := hS.ext hE
    intro i hi
    simp only [List.mem_cons, List.not_mem_nil, or_false] at hi
    subst hi
    ·
     refine any_op (by rfl) ?_
     refine m_buildRow (cells := #[_]) Tryz.underlying27 ti84 (hc := by simp only [List.map_toArray, List.map_cons, List.map_nil, opv, n1, n2, n3, n4, Value.cells, List.toList_toArray]; (repeat (refine fill_cons rfl rfl (Nat.le_of_ble_eq_true rfl) ?_)); rfl) (hS := hS) (h := fun w12 g12 hS => ?_)
     try simp only [opv, n1, n2, n3, n4, Value.cells, Array.toArray_toList] at hS ⊢
     replace hS := hS.obj_rd (sz := 1) (n := 1) rfl .head
     refine x_nil ?_
     refine any_step [4] (by kernel_rfl) (by decide) (fun w13 hE => ⟨fun _ => (hS.ext hE).sel (by repeat (first | exact Sel.nil | exact Sel.self | (refine Sel.cons (by repeat (first | exact Del.head | apply Del.tail)) ?_) | apply Sel.skip)), ?_⟩)
     replace hS := hS.ext hE
     intro i hi
     simp only [List.mem_cons, List.not_mem_nil, or_false] at hi
     subst hi
     ·
      refine any_op (by rfl) ?_
      refine m_append Tryz.underlying27 ti84 (hS := hS) (news := [(dotN (akey x) : Int)].map (Value.int .u64)) (h := fun w14 A14 C14 hS => ?_)
      try simp only [← List.map_append, ← List.map_drop, ← List.map_take, Nat.mul_one, Nat.zero_mul, Nat.sub_zero, List.drop_zero, List.nil_append, Nat.zero_add] at hS ⊢
      try simp only [opv, n1, n2, n3, n4, Value.cells, Array.toArray_toList] at hS ⊢
      refine x_nil ?_
      refine any_step [5] (by kernel_rfl) (by decide) (fun w15 hE => ⟨fun _ => (hS.ext hE).sel (by repeat (first | exact Sel.nil | exact Sel.self | (refine Sel.cons (by repeat (first | exact Del.head | apply Del.tail)) ?_) | apply Sel.skip)), ?_⟩)
      replace hS := hS.ext hE
      intro i hi
      simp only [List.mem_cons, List.not_mem_nil, or_false] at hi
      subst hi
      ·
       refine any_op (by rfl) ?_
       first | refine m_store_obj ti27 (hS := hS) (hc := by first | exact zi_set rfl (by omega) | exact zi_whole (by omega) (by omega) | (first | exact splice_ic (by first | omega | (simp [*]; done) | (simp [*]; omega)) | exact splice_il (by first | omega | (simp [*]; done) | (simp [*]; omega)) | exact splice_whole (by first | (simp [opv, Value.cells, *]; done) | rfl) | (simp only [opv, n1, n2, Value.cells, splice, List.take_succ_cons, List.take_zero, List.drop_succ_cons, List.drop_zero, List.length_cons, List.length_nil, Nat.zero_add, Nat.reduceAdd, List.append_assoc, List.cons_append, List.nil_append]; rfl))) (hv := by first | rfl | (show (zi _ _).toArray.size = _; rw [zi_size (by omega)]; rfl) | (simp [opv, Value.cells, *]; done)) (hfit := by first | omega | (rw [zi_size (by omega)]; first | rfl | decide) | (simp only [ic_size, List.length_map, List.size_toArray]; first | omega | decide) | rfl | (simp [*]; done) | (simp [*]; omega)) (h1 := by first | exact zi_one _ _ | exact ic_one _ _ | simp [opv, Value.cells, Value.oneCell']) (h := fun w16 hS => ?_) | refine m_store_vec ti27 (hS := hS) (hc := by first | exact zi_set rfl (by omega) | exact zi_whole (by omega) (by omega) | (first | exact splice_ic (by first | omega | (simp [*]; done) | (simp [*]; omega)) | exact splice_il (by first | omega | (simp [*]; done) | (simp [*]; omega)) | exact splice_whole (by first | (simp [opv, Value.cells, *]; done) | rfl) | (simp only [opv, n1, n2, Value.cells, splice, List.take_succ_cons, List.take_zero, List.drop_succ_cons, List.drop_zero, List.length_cons, List.length_nil, Nat.zero_add, Nat.reduceAdd, List.append_assoc, List.cons_append, List.nil_append]; rfl))) (hv := by first | rfl | (show (zi _ _).toArray.size = _; rw [zi_size (by omega)]; rfl) | (simp [opv, Value.cells, *]; done)) (hfit := by first | omega | (rw [zi_size (by omega)]; first | rfl | decide) | (simp only [ic_size, List.length_map, List.size_toArray]; first | omega | decide) | rfl | (simp [*]; done) | (simp [*]; omega)) (h1 := by first | exact zi_one _ _ | exact ic_one _ _ | simp [opv, Value.cells, Value.oneCell']) (h := fun w16 hS => ?_)
       try simp only [opv, n1, n2, n3, n4, Value.cells, Array.toArray_toList] at hS ⊢
       refine x_nil ?_
       refine any_nil (by kernel_rfl) (fun w17 hE => ?_)
       replace hS := hS.ext hE
       refine ⟨fun hl => absurd (hl 5 (by decide)) (by decide +kernel), ?_⟩
       refine mix_leaf (by simp only [clob, List.foldl, n1, n2, n3, n4]) ?_
       try simp only [n1, n2]
       rw [hst, List.length_append]
       exact ⟨_, _, hS.sel (by repeat (first | exact Sel.self | (refine Sel.cons (by repeat (first | exact Del.head | apply Del.tail)) ?_) | apply Sel.skip))⟩
   intro fm1 w18 hM
   obtain ⟨O2, oc2, hS⟩ := hM
   simp only [clob, List.foldl, n3, n4]
   first
   | exact ⟨_, ⟨by omega, _, _, rfl⟩, hS.sel (by repeat (first | exact Sel.self | (refine Sel.cons (by repeat (first | exact Del.head | apply Del.tail)) ?_) | apply Sel.skip))⟩
   | (rw [← hst] at hS; exact ⟨_, ⟨by omega, _, _, rfl⟩, hS.sel (by repeat (first | exact Sel.self | (refine Sel.cons (by repeat (first | exact Del.head | apply Del.tail)) ?_) | apply Sel.skip))⟩)
  ·
   try simp only [decide_eq_true_eq, decide_eq_false_iff_not, Bool.not_eq_true', Bool.not_eq_false', Int.not_lt, Int.not_le, ne_eq, Decidable.not_not, bne_iff_ne, beq_iff_eq, not_true_eq_false, not_false_eq_true] at hc1
   have hst := hdt.2 (by omega)
   refine y_skip ?_
   first
   | exact ⟨_, ⟨by omega, _, _, rfl⟩, hS.sel (by repeat (first | exact Sel.self | (refine Sel.cons (by repeat (first | exact Del.head | apply Del.tail)) ?_) | apply Sel.skip))⟩
   | (rw [← hst] at hS; exact ⟨_, ⟨by omega, _, _, rfl⟩, hS.sel (by repeat (first | exact Sel.self | (refine Sel.cons (by repeat (first | exact Del.head | apply Del.tail)) ?_) | apply Sel.skip))⟩)
 case rfd1 =>
  obtain ⟨hk0, O, oc, rfl⟩ := hC
  simp only [List.cons_append, List.nil_append] at hS
  rw [List.take_of_length_le (Nat.le_refl _)] at hS
  refine hK3 _ _ ?_
  refine y_seq fun K6 hK6 => ?_
  refine y_region (by kernel_rfl) ?_
  first | refine s_go (m_load_obj Tryz.underlying27 (hS := hS) (hv := by first | rfl | exact zi_get rfl (by omega) | exact ic_get (by omega) | exact il_get (by omega))) ?_ | refine s_go (m_load_bx Tryz.underlying27 (hS := hS) (hv := by first | rfl | exact zi_get rfl (by omega) | exact ic_get (by omega) | exact il_get (by omega))) ?_ | refine s_go (m_load_rd Tryz.underlying27 (hS := hS) (hv := by first | rfl | exact zi_get rfl (by omega) | exact ic_get (by omega) | exact il_get (by omega))) ?_ | refine s_go (m_load_vec Tryz.underlying27 (hS := hS) (hv := by first | rfl | exact zi_get rfl (by omega) | exact ic_get (by omega) | exact il_get (by omega))) ?_
  try simp only [opv, n1, n2, n3, n4, Value.cells, List.getElem_toArray, List.getElem_cons_zero, List.getElem_cons_succ]
  refine s_call en49 ?_
  try simp only [opv, n1, n2, n3, n4, Value.cells, List.map_toArray, List.map_cons, List.map_nil, List.append_toArray, List.cons_append, List.nil_append, Array.append_empty]
  refine CallR.mono (c_dotsOf _ O oc (dtS (normP l)) (hS.vecRd (by repeat (first | exact Has.head | apply Has.tail))) hdu (by omega)) ?_
  rintro _ w19 ⟨De, ee, rfl, hC19⟩
  replace hS := hS.call hC19
  simp only [List.cons_append, List.nil_append, List.append_nil] at hS ⊢
  try simp only [opv, n1, n2, n3, n4, Value.cells]
  refine m_store_obj ti29 (hS := hS) (hv := setC_size (by assumption) _) (h1 := set_one _ _ _ _) (hfit := by rw [setC_size (by assumption)]; omega) (hc := set_whole (by assumption) (by assumption) _ _) (h := fun w20 hS => ?_)
  try simp only [opv, n1, n2, n3, n4, Value.cells, Array.toArray_toList] at hS ⊢
  refine y_nilf ?_
  refine hK6 _ _ ?_
  refine y_ret ?_
  refine rm_mark hS (by repeat (first | exact Upd.head | apply Upd.tail)) (fun w21 hS => ?_)
  refine rm_nil ?_
  refine r_cell_agg rfl Tryz.underlying29 ti29 (hS := hS) (hfit := by rw [setC_size (by assumption)]) (hR := ?_)
  exact ⟨_, _, rfl, hS.sel (by repeat (first | exact Sel.nil | (refine Sel.cons (by repeat (first | exact Del.head | apply Del.tail)) ?_)))⟩
 case rft1 =>
  exact hX.elim
 case rfe1 =>
  exact y_ex_nil
theorem c_ref13Seen (w0 : World) (A : Option Addr) (c : Nat) (l : List (List Int)) (hr : Rd w0 A 21 l.length (arows l)) (hv : AOks l) (hn : l.length ≤ 1000000000)  :
    CallR Tryz.prog 16 #[.slice A l.length c] w0 fun v w' => ∃ (D : Option Addr) (e : Nat), v = .agg (SetC (addS (List.replicate 16 0) (dtS (normP l))).1 (.slice D (addS (List.replicate 16 0) (dtS (normP l))).2.length e)) ∧ St NoB w0 w' [.vec D e 84 1 (addS (List.replicate 16 0) (dtS (normP l))).2.length (List.map (Value.int .u64) (addS (List.replicate 16 0) (dtS (normP l))).2)] := by
 have hS := St.rd1 (S := NoB) hr
 have hsn := norm_sta hv
 have hno := hsn.ok
 have hnb := norm_len l
 have hnl := arows_len (normP l)
 have h0l : (List.replicate 16 (0 : Int)).length = 16 := rfl
 have hps := addS_ok VOk.zero (dtS (normP l))
 have hpl := hps.1.len
 have hdn := dt_len (normP l)
 refine c_enter (l := [.slice A l.length c, undef, undef, undef, undef, undef, undef, undef, undef, undef, undef, undef, undef, undef, undef, undef, undef, undef, undef, undef, undef, undef, undef, undef, undef, undef, undef, undef, undef, undef, undef, undef]) Tryz.func16 rfl (by simp only [Tryz.ntmps16, List.size_toArray, List.length_cons, List.length_nil, Nat.reduceAdd, Nat.reduceSub, Array.replicate_succ, Array.replicate_zero, List.push_toArray, List.append_toArray, List.nil_append, List.cons_append]) ?_
 refine x_seq fun K1 hK1 => ?_
 refine x_region ?_
 refine m_alloc ti33 hS (fun w1 g1 hS => ?_)
 try simp only [opv, n1, n2, n3, n4, Value.cells, Array.toArray_toList] at hS ⊢
 replace hS : St NoB w0 w1 (.obj g1 (.cells (SetC (List.replicate 16 0) (.slice none 0 0)) 33 (0, 0)) :: _) := hS
 obtain ⟨gbr, hgbr⟩ : ∃ z, z = g1 := ⟨_, rfl⟩
 rw [← hgbr] at hS ⊢
 refine x_nil ?_
 refine hK1 _ _ ?_
 refine x_seq fun K2 hK2 => ?_
 refine x_region ?_
 refine s_go (s_move) ?_
 try simp only [opv, n1, n2, n3, n4, Value.cells]
 refine s_call en24 ?_
 try simp only [opv, n1, n2, n3, n4, Value.cells, List.map_toArray, List.map_cons, List.map_nil, List.append_toArray, List.cons_append, List.nil_append, Array.append_empty]
 refine CallR.mono (c_ref10Norm _ A c l (hS.hasRd (by repeat (first | exact Has.head | apply Has.tail))) hv hn) ?_
 rintro _ w2 ⟨Bn, cn, rfl, hR2⟩
 replace hS := hS.back hR2
 try simp only [opv, n1, n2, n3, n4, Value.cells]
 refine s_go (s_assign) ?_
 try simp only [opv, n1, n2, n3, n4, Value.cells]
 refine x_nil ?_
 refine hK2 _ _ ?_
 refine x_seq fun K3 hK3 => ?_
 refine x_region ?_
 refine s_go (s_build_struct (cells := #[.int .u32 0, .int .u32 0, .int .u32 0, .int .u32 0, .int .u32 0, .int .u32 0, .int .u32 0, .int .u32 0, .int .u32 0, .int .u32 0, .int .u32 0, .int .u32 0, .int .u32 0, .int .u32 0, .int .u32 0, .int .u32 0, .slice none 0 0]) Tryz.underlying33 ti33 bp33 (hc := by simp only [List.map_toArray, List.map_cons, List.map_nil, opv, n1, n2, n3, n4, Value.cells, List.toList_toArray]; (repeat (refine fill_cons rfl rfl (Nat.le_of_ble_eq_true rfl) ?_)); rfl)) ?_
 try simp only [opv, n1, n2, n3, n4, Value.cells]
 rw [show (#[.int .u32 0, .int .u32 0, .int .u32 0, .int .u32 0, .int .u32 0, .int .u32 0, .int .u32 0, .int .u32 0, .int .u32 0, .int .u32 0, .int .u32 0, .int .u32 0, .int .u32 0, .int .u32 0, .int .u32 0, .int .u32 0, .slice none 0 0] : Array Value) = SetC (List.replicate 16 0) (.slice none 0 0) from rfl]
 refine m_alloc ti33 hS (fun w3 g3 hS => ?_)
 try simp only [opv, n1, n2, n3, n4, Value.cells, Array.toArray_toList] at hS ⊢
 replace hS : St NoB w0 w3 (.obj g3 (.cells (SetC (List.replicate 16 0) (.slice none 0 0)) 33 (0, 0)) :: _) := hS
 obtain ⟨gbo, hgbo⟩ : ∃ z, z = g3 := ⟨_, rfl⟩
 rw [← hgbo] at hS ⊢
 refine m_store_obj ti33 (hS := hS) (hv := setC_size (by assumption) _) (h1 := set_one _ _ _ _) (hfit := by rw [setC_size (by assumption)]; omega) (hc := set_whole (by assumption) (by assumption) _ _) (h := fun w4 hS => ?_)
 try simp only [opv, n1, n2, n3, n4, Value.cells, Array.toArray_toList] at hS ⊢
 refine x_nil ?_
 refine hK3 _ _ ?_
 refine x_seq fun K4 hK4 => ?_
 refine x_seq fun K5 hK5 => ?_
 refine x_region ?_
 refine s_go (s_assign) ?_
 try simp only [opv, n1, n2, n3, n4, Value.cells]
 refine x_nil ?_
 refine hK5 _ _ ?_
 refine x_block ?_
 refine x_loop [4, 8, 9, 10, 11, 12, 13, 14, 15, 16, 17, 18, 19, 20, 21, 22, 23, 24, 25, 26, 27, 28, 29] (fun m f w => ∃ (k : Nat) (E : Option Addr) (ec : Nat) (o : List Int), k ≤ (normP l).length ∧ m = (normP l).length - k ∧ f 4 = .int .i64 (k : Int) ∧ (dtS ((normP l).take k)).foldl (putC (List.replicate 16 0)) [] = o ∧ St NoB w0 w [.obj gbo (.cells (SetC (List.replicate 16 0) (.slice E o.length ec)) 33 (0, 0)), .rd E 1 o.length (List.map (Value.int .u64) o), .obj gbr (.cells (SetC (List.replicate 16 0) (.slice none 0 0)) 33 (0, 0)), .rd Bn 21 (normP l).length (arows (normP l))]) ((normP l).length) ?init1 (fun m1 f1 wl1 hI => ?_)
 case init1 =>
  try simp only [opv, n1, n2, n3, n4, Value.cells]
  replace hS := hS.rd_none none 1
  exact ⟨0, none, 0, [], by omega, rfl, rfl, rfl, hS.sel (by repeat (first | exact Sel.nil | (refine Sel.cons (by repeat (first | exact Del.head | apply Del.tail)) ?_)))⟩
 obtain ⟨k, E, ec, o, hk, hm, h4, ho, hS⟩ := hI
 simp only [clob, List.foldl, n3, n4, h4]
 obtain ⟨x, hx⟩ : ∃ x, (normP l).getD k [] = x := ⟨_, rfl⟩
 have hPo := (puts_pre (l := (dtS ((normP l).take k))) (pre_nil VOk.zero)).1
 have hol := puts_len (l := (dtS ((normP l).take k))) (pre_nil VOk.zero)
 rw [ho] at hPo hol
 have hdk := dt_len ((normP l).take k)
 rw [List.length_take] at hdk
 rw [List.length_nil] at hol
 refine x_seq fun K6 hK6 => ?_
 refine x_seq fun K7 hK7 => ?_
 refine x_region ?_
 refine s_go (s_move) ?_
 try simp only [opv, n1, n2, n3, n4, Value.cells]
 refine s_go (s_move) ?_
 try simp only [opv, n1, n2, n3, n4, Value.cells]
 refine s_go (s_len_sl Tryz.underlying22) ?_
 try simp only [opv, n1, n2, n3, n4, Value.cells]
 refine s_go (s_lss) ?_
 try simp only [opv, n1, n2, n3, n4, Value.cells]
 refine x_nil ?_
 refine hK7 _ _ ?_
 refine x_cond (ht := fun hc1 => ?_) (hf := fun hc1 => ?_)
 ·
  try simp only [decide_eq_true_eq, decide_eq_false_iff_not, Bool.not_eq_true', Bool.not_eq_false', Int.not_lt, Int.not_le, ne_eq, Decidable.not_not, bne_iff_ne, beq_iff_eq, not_true_eq_false, not_false_eq_true] at hc1
  have ha : AtomOk x := by rw [← hx]; exact hno.get (by omega)
  have hal := ha.len
  have hkx := ha.key
  have hk12 := hkx.len
  have hk01 := akey_k hal
  have hdt := dt_take (k := k) (by omega) hx
  have hdb := dotN_lt hkx
  refine x_skip ?_
  refine hK6 _ _ ?_
  refine x_seq fun K8 hK8 => ?_
  refine x_block ?_
  refine x_seq fun K9 hK9 => ?_
  refine x_region ?_
  refine s_go (s_move) ?_
  try simp only [opv, n1, n2, n3, n4, Value.cells]
  refine s_go (s_move) ?_
  try simp only [opv, n1, n2, n3, n4, Value.cells]
  first | refine s_go (m_indexAddr_rd Tryz.underlying22 ti88 (hS := hS)) ?_ | refine s_go (m_indexAddr_vec Tryz.underlying22 ti88 (hS := hS)) ?_
  try simp only [opv, n1, n2, n3, n4, Value.cells, Nat.mul_one, Nat.zero_add, Int.toNat_natCast, Int.reduceToNat]
  first | refine s_go (m_fieldAddr Tryz.underlying88 (hi := ti83)) ?_ | refine s_go (m_fieldAddr_rd Tryz.underlying88 (hi := ti83) (hS := hS)) ?_ | refine s_go (m_fieldAddr_vec Tryz.underlying88 (hi := ti83) (hS := hS)) ?_
  try simp only [opv, n1, n2, n3, n4, Value.cells, Nat.zero_add, Nat.add_zero, List.getElem_toArray, List.getElem_cons_zero, List.getElem_cons_succ]
  first | refine s_go (m_fieldAddr Tryz.underlying83 (hi := ti5)) ?_ | refine s_go (m_fieldAddr_rd Tryz.underlying83 (hi := ti5) (hS := hS)) ?_ | refine s_go (m_fieldAddr_vec Tryz.underlying83 (hi := ti5) (hS := hS)) ?_
  try simp only [opv, n1, n2, n3, n4, Value.cells, Nat.zero_add, Nat.add_zero, List.getElem_toArray, List.getElem_cons_zero, List.getElem_cons_succ]
  first | refine s_go (m_load_obj Tryz.underlying5 (hS := hS) (hv := arow_sort (by omega) hno)) ?_ | refine s_go (m_load_bx Tryz.underlying5 (hS := hS) (hv := arow_sort (by omega) hno)) ?_ | refine s_go (m_load_rd Tryz.underlying5 (hS := hS) (hv := arow_sort (by omega) hno)) ?_ | refine s_go (m_load_vec Tryz.underlying5 (hS := hS) (hv := arow_sort (by omega) hno)) ?_
  try simp only [opv, n1, n2, n3, n4, Value.cells, List.getElem_toArray, List.getElem_cons_zero, List.getElem_cons_succ]
  rw [hx]
  refine s_go (s_eql) ?_
  try simp only [opv, n1, n2, n3, n4, Value.cells]
  refine x_nil ?_
  refine hK9 _ _ ?_
  refine x_cond (ht := fun hc2 => ?_) (hf := fun hc2 => ?_)
  ·
   try simp only [decide_eq_true_eq, decide_eq_false_iff_not, Bool.not_eq_true', Bool.not_eq_false', Int.not_lt, Int.not_le, ne_eq, Decidable.not_not, bne_iff_ne, beq_iff_eq, not_true_eq_false, not_false_eq_true] at hc2
   have hst := hdt.1 (by omega)
   refine x_mixed_c (Lc := [.obj gbo (.cells (SetC (List.replicate 16 0) (.slice E o.length ec)) 33 (0, 0)), .rd E 1 o.length (List.map (Value.int .u64) o), .obj gbr (.cells (SetC (List.replicate 16 0) (.slice none 0 0)) 33 (0, 0)), .rd Bn 21 (normP l).length (arows (normP l))]) [9] 0 [21, 22, 23, 24, 25, 26, 27, 28, 29] (fun f w => ∃ (E2 : Option Addr) (ec2 : Nat), St NoB w0 w [.obj gbo (.cells (SetC (List.replicate 16 0) (.slice E2 (putC (List.replicate 16 0) o (dotN (akey x) : Int)).length ec2)) 33 (0, 0)), .rd E2 1 (putC (List.replicate 16 0) o (dotN (akey x) : Int)).length (List.map (Value.int .u64) (putC (List.replicate 16 0) o (dotN (akey x) : Int))), .obj gbr (.cells (SetC (List.replicate 16 0) (.slice none 0 0)) 33 (0, 0)), .rd Bn 21 (normP l).length (arows (normP l))]) (by kernel_rfl) (by kernel_rfl) (by kernel_rfl) (by decide) hS (fun w5 hS => ?mixpre701) ?mixrest701
   case mixpre701 =>
    refine p_nil ?_
    simp only [List.length_cons, List.length_nil, Nat.reduceAdd, Nat.reduceSub]
    refine any_go (i := 0) (by rfl) (by decide +kernel) (by decide +kernel) (by unfold noLate; decide) (go_yields w_none (fun w hS => m_load_row Tryz.underlying33 (hi := ti33) (hS := hS) (hfit := by rw [setC_size (by assumption)]))) ?_
    try simp only [opv, n1, n2, n3, n4, Value.cells, List.getElem_toArray, List.getElem_cons_zero, List.getElem_cons_succ]
    refine any_go (i := 1) (by rfl) (by decide +kernel) (by decide +kernel) (by unfold noLate; decide) (go_yields w_none (fun w hS => s_move)) ?_
    try simp only [opv, n1, n2, n3, n4, Value.cells]
    refine any_go (i := 2) (by rfl) (by decide +kernel) (by decide +kernel) (by unfold noLate; decide) (go_yields w_none (fun w hS => s_move)) ?_
    try simp only [opv, n1, n2, n3, n4, Value.cells]
    first | refine any_go (i := 3) (by rfl) (by decide +kernel) (by decide +kernel) (by unfold noLate; decide) (go_yields w_none (fun w hS => m_indexAddr_rd Tryz.underlying22 ti88 (hS := hS))) ?_ | refine any_go (i := 3) (by rfl) (by decide +kernel) (by decide +kernel) (by unfold noLate; decide) (go_yields w_none (fun w hS => m_indexAddr_vec Tryz.underlying22 ti88 (hS := hS))) ?_
    try simp only [opv, n1, n2, n3, n4, Value.cells, Nat.mul_one, Nat.zero_add, Int.toNat_natCast, Int.reduceToNat]
    first | refine any_go (i := 4) (by rfl) (by decide +kernel) (by decide +kernel) (by unfold noLate; decide) (go_yields w_none (fun w hS => m_fieldAddr Tryz.underlying88 (hi := ti83))) ?_ | refine any_go (i := 4) (by rfl) (by decide +kernel) (by decide +kernel) (by unfold noLate; decide) (go_yields w_none (fun w hS => m_fieldAddr_rd Tryz.underlying88 (hi := ti83) (hS := hS))) ?_ | refine any_go (i := 4) (by rfl) (by decide +kernel) (by decide +kernel) (by unfold noLate; decide) (go_yields w_none (fun w hS => m_fieldAddr_vec Tryz.underlying88 (hi := ti83) (hS := hS))) ?_
    try simp only [opv, n1, n2, n3, n4, Value.cells, Nat.zero_add, Nat.add_zero, List.getElem_toArray, List.getElem_cons_zero, List.getElem_cons_succ]
    first | refine any_go (i := 5) (by rfl) (by decide +kernel) (by decide +kernel) (by unfold noLate; decide) (go_yields w_none (fun w hS => m_load_row Tryz.underlying83 (hi := ti83) (hS := hS) (hfit := by rw [arows_len]; omega))) ?_ | refine any_go (i := 5) (by rfl) (by decide +kernel) (by decide +kernel) (by unfold noLate; decide) (go_yields w_none (fun w hS => m_loada_obj Tryz.underlying83 (hi := ti83) (hS := hS) (hfit := by rw [arows_len]; omega))) ?_ | refine any_go (i := 5) (by rfl) (by decide +kernel) (by decide +kernel) (by unfold noLate; decide) (go_yields w_none (fun w hS => m_loada_bx Tryz.underlying83 (hi := ti83) (hS := hS) (hfit := by rw [arows_len]; omega))) ?_ | refine any_go (i := 5) (by rfl) (by decide +kernel) (by decide +kernel) (by unfold noLate; decide) (go_yields w_none (fun w hS => m_loada_rd Tryz.underlying83 (hi := ti83) (hS := hS) (hfit := by rw [arows_len]; omega))) ?_ | refine any_go (i := 5) (by rfl) (by decide +kernel) (by decide +kernel) (by unfold noLate; decide) (go_yields w_none (fun w hS => m_loada_vec Tryz.underlying83 (hi := ti83) (hS := hS) (hfit := by rw [arows_len]; omega))) ?_
    try simp only [opv, n1, n2, n3, n4, Value.cells, List.getElem_toArray, List.getElem_cons_zero, List.getElem_cons_succ]
    rw [arow_key (by omega) hno, hx]
    apply any_go (i := 6) (by rfl) (by decide +kernel) (by decide +kernel) (by unfold noLate; decide) (call_yields w_none en55 ?H1) ?K1
    case H1 =>
      intro w hS
      try simp only [opv, n1, n2, n3, n4, List.map_toArray, List.map_cons, List.map_nil, List.append_toArray, List.cons_append, List.nil_append, Array.append_empty]
      refine CallR.mono (c_ref08Words (akey x) hkx _) ?_
      rintro _ w1 ⟨rfl, hE⟩; exact ⟨rfl, hE⟩
    try simp only [opv, n1, n2, n3, n4, Value.cells]
    refine any_go (i := 7) (by rfl) (by decide +kernel) (by decide +kernel) (by unfold noLate; decide) (go_yields w_none (fun w hS => s_index_one Tryz.underlying98 ti84 Tryz.underlying84 (hv := (show (ic .u64 (wordsL (akey x)))[2]? = some (.int .u64 (dotN (akey x) : Int)) from rfl)))) ?_
    try simp only [opv, n1, n2, n3, n4, Value.cells, Nat.mul_one, Nat.zero_add, Int.toNat_natCast, Int.reduceToNat]
    refine any_step [8] (by kernel_rfl) (by decide) (fun w6 hE => ⟨fun _ => (hS.ext hE).sel (by repeat (first | exact Sel.nil | (refine Sel.cons (by repeat (first | exact Del.head | apply Del.tail)) ?_))), ?_⟩)
    replace hS := hS.ext hE
    intro i hi
    simp only [List.mem_cons, List.not_mem_nil, or_false] at hi
    subst hi
    ·
     refine any_op (by rfl) ?_
     refine s_call en54 ?_
     try simp only [opv, n1, n2, n3, n4, Value.cells, List.map_toArray, List.map_cons, List.map_nil, List.append_toArray, List.cons_append, List.nil_append, Array.append_empty]
     refine CallR.mono (c_ref13put _ (List.replicate 16 0) VOk.zero E ec o (hS.hasRd (by repeat (first | exact Has.head | apply Has.tail))) (pre_u64 hPo) (by omega) (dotN (akey x)) (by omega) hPo) ?_
     rintro _ w7 ⟨E7, ec7, rfl, hU7⟩
     replace hS := hS.uback hU7
     try simp only [opv, n1, n2, n3, n4, Value.cells]
     refine x_nil ?_
     refine any_step [9] (by kernel_rfl) (by decide) (fun w8 hE => ⟨fun _ => (hS.ext hE).sel (by repeat (first | exact Sel.nil | (refine Sel.cons (by repeat (first | exact Del.head | apply Del.tail)) ?_))), ?_⟩)
     replace hS := hS.ext hE
     intro i hi
     simp only [List.mem_cons, List.not_mem_nil, or_false] at hi
     subst hi
     ·
      refine any_op (by rfl) ?_
      refine m_store_obj ti33 (hS := hS) (hv := setC_size (by assumption) _) (h1 := set_one _ _ _ _) (hfit := by rw [setC_size (by assumption)]; omega) (hc := set_whole (by assumption) (by assumption) _ _) (h := fun w9 hS => ?_)
      try simp only [opv, n1, n2, n3, n4, Value.cells, Array.toArray_toList] at hS ⊢
      refine x_nil ?_
      refine any_nil (by kernel_rfl) (fun w10 hE => ?_)
      replace hS := hS.ext hE
      refine ⟨fun hl => absurd (hl 9 (by decide)) (by decide +kernel), ?_⟩
      refine mix_leaf (by simp only [clob, List.foldl, n1, n2, n3, n4]) ?_
      try simp only [n1, n2]
      exact ⟨_, _, hS.sel (by repeat (first | exact Sel.nil | (refine Sel.cons (by repeat (first | exact Del.head | apply Del.tail)) ?_)))⟩
   intro fm1 w11 hM
   obtain ⟨E2, ec2, hS⟩ := hM
   simp only [clob, List.foldl, n3, n4]
   refine hK8 _ _ ?_
   refine x_region ?_
   refine s_go (s_move) ?_
   try simp only [opv, n1, n2, n3, n4, Value.cells]
   refine s_go (s_add (hc := by first | exact wr_i64 (by omega) (by omega) | rfl)) ?_
   try simp only [opv, n1, n2, n3, n4, Value.cells]
   refine s_go (s_assign) ?_
   try simp only [opv, n1, n2, n3, n4, Value.cells]
   refine x_nil ?_
   refine loop_back (m' := (normP l).length - (k + 1)) (by simp only [clob, List.foldl, n1, n2, n3, n4]) ?_ ?_
   · try simp only [opv, n1, n2, n3, n4, Value.cells]
     first
     | exact ⟨k + 1, _, _, putC (List.replicate 16 0) o (dotN (akey x) : Int), by omega, by omega, by rfl, by rw [hst, List.foldl_append, ho]; rfl, hS.sel (by repeat (first | exact Sel.nil | (refine Sel.cons (by repeat (first | exact Del.head | apply Del.tail)) ?_)))⟩
     | exact ⟨k + 1, _, _, o, by omega, by omega, by rfl, by rw [hst, ho], hS.sel (by repeat (first | exact Sel.nil | (refine Sel.cons (by repeat (first | exact Del.head | apply Del.tail)) ?_)))⟩
   · omega
  ·
   try simp only [decide_eq_true_eq, decide_eq_false_iff_not, Bool.not_eq_true', Bool.not_eq_false', Int.not_lt, Int.not_le, ne_eq, Decidable.not_not, bne_iff_ne, beq_iff_eq, not_true_eq_false, not_false_eq_true] at hc2
   have hst := hdt.2 (by omega)
   refine x_skip ?_
   refine hK8 _ _ ?_
   refine x_region ?_
   refine s_go (s_move) ?_
   try simp only [opv, n1, n2, n3, n4, Value.cells]
   refine s_go (s_add (hc := by first | exact wr_i64 (by omega) (by omega) | rfl)) ?_
   try simp only [opv, n1, n2, n3, n4, Value.cells]
   refine s_go (s_assign) ?_
   try simp only [opv, n1, n2, n3, n4, Value.cells]
   refine x_nil ?_
   refine loop_back (m' := (normP l).length - (k + 1)) (by simp only [clob, List.foldl, n1, n2, n3, n4]) ?_ ?_
   · try simp only [opv, n1, n2, n3, n4, Value.cells]
     first
     | exact ⟨k + 1, _, _, putC (List.replicate 16 0) o (dotN (akey x) : Int), by omega, by omega, by rfl, by rw [hst, List.foldl_append, ho]; rfl, hS.sel (by repeat (first | exact Sel.nil | (refine Sel.cons (by repeat (first | exact Del.head | apply Del.tail)) ?_)))⟩
     | exact ⟨k + 1, _, _, o, by omega, by omega, by rfl, by rw [hst, ho], hS.sel (by repeat (first | exact Sel.nil | (refine Sel.cons (by repeat (first | exact Del.head | apply Del.tail)) ?_)))⟩
   · omega
 ·
  try simp only [decide_eq_true_eq, decide_eq_false_iff_not, Bool.not_eq_true', Bool.not_eq_false', Int.not_lt, Int.not_le, ne_eq, Decidable.not_not, bne_iff_ne, beq_iff_eq, not_true_eq_false, not_false_eq_true] at hc1
  obtain rfl : k = (normP l).length := by omega
  rw [List.take_of_length_le (Nat.le_refl _)] at ho
  refine x_exit (look_here ?_)
  refine hK4 _ _ ?_
  refine x_seq fun K10 hK10 => ?_
  refine x_region ?_
  have hoe : addS (List.replicate 16 0) o = (addS (List.replicate 16 0) (dtS (normP l))) := by rw [← ho]; exact refadd_end VOk.zero
  have hov := (addS_ok VOk.zero o).1.len
  refine s_go (m_load_row Tryz.underlying33 (hi := ti33) (hS := hS) (hfit := by rw [setC_size (by assumption)])) ?_
  try simp only [opv, n1, n2, n3, n4, Value.cells, List.getElem_toArray, List.getElem_cons_zero, List.getElem_cons_succ]
  refine s_call en56 ?_
  try simp only [opv, n1, n2, n3, n4, Value.cells, List.map_toArray, List.map_cons, List.map_nil, List.append_toArray, List.cons_append, List.nil_append, Array.append_empty]
  refine CallR.mono (c_ref13settle _ (List.replicate 16 0) VOk.zero E ec o (hS.hasRd (by repeat (first | exact Has.head | apply Has.tail))) (pre_u64 hPo) (by omega) hPo) ?_
  rintro _ w12 ⟨D, e, rfl, hC12⟩
  replace hS := hS.call hC12
  simp only [List.cons_append, List.nil_append, List.append_nil] at hS ⊢
  try simp only [opv, n1, n2, n3, n4, Value.cells]
  refine m_store_obj ti33 (hS := hS) (hv := setC_size (by assumption) _) (h1 := set_one _ _ _ _) (hfit := by rw [setC_size (by assumption)]; omega) (hc := set_whole (by assumption) (by assumption) _ _) (h := fun w13 hS => ?_)
  try simp only [opv, n1, n2, n3, n4, Value.cells, Array.toArray_toList] at hS ⊢
  refine x_nil ?_
  refine hK10 _ _ ?_
  refine x_ret ?_
  refine r_cell_agg rfl Tryz.underlying33 ti33 (hS := hS) (hfit := by rw [setC_size (by assumption)]) (hR := ?_)
  rw [← hoe]
  exact ⟨_, _, rfl, hS.sel (by repeat (first | exact Sel.nil | (refine Sel.cons (by repeat (first | exact Del.head | apply Del.tail)) ?_)))⟩
end Go.Proofs.YtffmanidnlbjjaaGreat
set_option linter.unusedSimpArgs false
set_option linter.unusedVariables false
set_option maxHeartbeats 3000000
set_option maxRecDepth 100000
namespace Go.Proofs.YtffmanidnlbjjaaGreat
open Go.RowKit
theorem c_DotsSeen (w0 : World) (A : Option Addr) (c : Nat) (l : List (List Int)) (hr : Rd w0 A 21 l.length (arows l)) (hv : AOks l) (B : Option Addr) (d : Nat) (r : List (List Int)) (hr2 : Rd w0 B 21 r.length (arows r)) (hv2 : AOks r) (hn : l.length + r.length ≤ 900000000000000)  :
    CallR Tryz.prog 3 #[.slice A l.length c, .slice B r.length d] w0 fun v w' => v = .bool true ∧ Ext w0 w' := by
 have hS := St.rd2 (S := NoB) hr hr2
 have h0l : (List.replicate 16 (0 : Int)).length = 16 := rfl
 have hno := (norm_sta hv).ok
 have hno2 := (norm_sta hv2).ok
 have hnb := norm_len l
 have hnb2 := norm_len r
 have hnb3 := norm_len (l ++ r)
 rw [List.length_append] at hnb3
 have hla : (l ++ r).length = l.length + r.length := List.length_append ..
 have hd1 := dt_len (normP l)
 have hd2 := dt_len (normP r)
 obtain ⟨pa, hpa⟩ : ∃ z, addS (List.replicate 16 0) (dtS (normP l)) = z := ⟨_, rfl⟩
 obtain ⟨pb, hpb⟩ : ∃ z, addS (List.replicate 16 0) (dtS (normP r)) = z := ⟨_, rfl⟩
 obtain ⟨pj, hpj⟩ : ∃ z, joinS pa pb = z := ⟨_, rfl⟩
 have hjn : addS (List.replicate 16 0) (dtS (normP (l ++ r))) = pj := by rw [dt_join hv hv2, hpa, hpb, hpj]
 have hna : NS pa.1 pa.2 := by rw [← hpa]; exact (add_nrm VOk.zero _).ns
 have hnb' : NS pb.1 pb.2 := by rw [← hpb]; exact (add_nrm VOk.zero _).ns
 have hnj : NS pj.1 pj.2 := by rw [← hpj]; exact ns_join hna hnb'
 have hau : U64s pa.2 := fun x hx => may_u64 (hna.may x hx)
 have hbu : U64s pb.2 := fun x hx => may_u64 (hnb'.may x hx)
 have hju : U64s pj.2 := fun x hx => may_u64 (hnj.may x hx)
 have hal : pa.2.length ≤ (dtS (normP l)).length := by rw [← hpa]; exact (addS_ok VOk.zero _).2.2
 have hbl : pb.2.length ≤ (dtS (normP r)).length := by rw [← hpb]; exact (addS_ok VOk.zero _).2.2
 have hjl : pj.2.length ≤ pa.2.length + pb.2.length := by have h := (addS_ok (vok_join hna.vok hnb'.vok) (pa.2 ++ pb.2)).2.2; rw [List.length_append] at h; rw [← hpj]; exact h
 have hal6 := hna.vok.len
 have hbl6 := hnb'.vok.len
 have hjl6 := hnj.vok.len
 have hida : addS pa.1 pa.2 = pa := ns_add hna
 refine c_enter (l := [.slice A l.length c, .slice B r.length d, undef, undef, undef, undef, undef, undef, undef, undef, undef, undef, undef, undef, undef, undef, undef, undef, undef, undef, undef, undef, undef, undef, undef, undef, undef, undef, undef, undef, undef, undef, undef, undef, undef, undef, undef, undef, undef, undef, undef, undef, undef, undef, undef, undef, undef, undef]) Tryz.func3 rfl (by simp only [Tryz.ntmps3, List.size_toArray, List.length_cons, List.length_nil, Nat.reduceAdd, Nat.reduceSub, Array.replicate_succ, Array.replicate_zero, List.push_toArray, List.append_toArray, List.nil_append, List.cons_append]) ?_
 refine x_seq fun K1 hK1 => ?_
 refine x_region ?_
 refine s_go (s_assign) ?_
 try simp only [opv, n1, n2, n3, n4, Value.cells]
 refine x_nil ?_
 refine hK1 _ _ ?_
 refine x_seq fun K2 hK2 => ?_
 refine x_seq fun K3 hK3 => ?_
 refine x_region ?_
 refine s_go (s_move) ?_
 try simp only [opv, n1, n2, n3, n4, Value.cells]
 refine s_go (s_len_sl Tryz.underlying22) ?_
 try simp only [opv, n1, n2, n3, n4, Value.cells]
 refine s_go (s_gtr) ?_
 try simp only [opv, n1, n2, n3, n4, Value.cells]
 refine s_go (s_move) ?_
 try simp only [opv, n1, n2, n3, n4, Value.cells]
 refine s_part 11 rfl (fun hp1 => ?_) (fun hp1 => ?_)
 ·
  try simp only [n3, n4]
  try simp only [decide_eq_true_eq, decide_eq_false_iff_not, Bool.not_eq_true', Bool.not_eq_false', Int.not_lt, Int.not_le, ne_eq, Decidable.not_not] at hp1
  first
  | (exfalso; omega)
  | skip
    refine g_off (yi (t := 11) rfl rfl) ?_
    try simp only [opv, n1, n2, n3, n4, Value.cells]
    refine g_off (yi (t := 11) rfl rfl) ?_
    try simp only [opv, n1, n2, n3, n4, Value.cells]
    refine g_off (yi (t := 11) rfl rfl) ?_
    try simp only [opv, n1, n2, n3, n4, Value.cells]
    first | refine s_go (s_pick_t) ?_ | refine s_go (s_pick_f) ?_
    try simp only [opv, n1, n2, n3, n4, Value.cells]
    refine x_nil ?_
    refine hK3 _ _ ?_
    refine x_cond_t (h := ?_)
    refine x_seq fun K4 hK4 => ?_
    refine x_region ?_
    refine s_call en12 ?_
    try simp only [opv, n1, n2, n3, n4, Value.cells, List.map_toArray, List.map_cons, List.map_nil, List.append_toArray, List.cons_append, List.nil_append, Array.append_empty]
    refine CallR.mono (c_law13alive _) ?_
    rintro _ w1 ⟨rfl, hE1⟩
    replace hS := hS.ext hE1
    try simp only [opv, n1, n2, n3, n4, Value.cells]
    refine s_go (s_assign) ?_
    try simp only [opv, n1, n2, n3, n4, Value.cells]
    refine x_nil ?_
    refine hK4 _ _ ?_
    refine x_ret ?_
    refine r_tmp rfl ?_
    first | exact ⟨rfl, hEE⟩ | exact ⟨rfl, hS.ext_of⟩
 ·
  try simp only [n3, n4]
  try simp only [decide_eq_true_eq, decide_eq_false_iff_not, Bool.not_eq_true', Bool.not_eq_false', Int.not_lt, Int.not_le, ne_eq, Decidable.not_not] at hp1
  first
  | (exfalso; omega)
  | skip
    refine g_on (yi (t := 11) rfl rfl) ?_
    refine s_go (s_move) ?_
    try simp only [opv, n1, n2, n3, n4, Value.cells]
    refine g_on (yi (t := 11) rfl rfl) ?_
    refine s_go (s_len_sl Tryz.underlying22) ?_
    try simp only [opv, n1, n2, n3, n4, Value.cells]
    refine g_on (yi (t := 11) rfl rfl) ?_
    refine s_go (s_gtr) ?_
    try simp only [opv, n1, n2, n3, n4, Value.cells]
    first | refine s_go (s_pick_t) ?_ | refine s_go (s_pick_f) ?_
    try simp only [opv, n1, n2, n3, n4, Value.cells]
    refine x_nil ?_
    refine hK3 _ _ ?_
    refine x_cond (ht := fun hc2 => ?_) (hf := fun hc2 => ?_)
    ·
     try simp only [decide_eq_true_eq, decide_eq_false_iff_not, Bool.not_eq_true', Bool.not_eq_false', Int.not_lt, Int.not_le, ne_eq, Decidable.not_not, bne_iff_ne, beq_iff_eq, not_true_eq_false, not_false_eq_true] at hc2
     first
     | (exfalso; omega)
     | skip
       refine x_seq fun K5 hK5 => ?_
       refine x_region ?_
       refine s_call en12 ?_
       try simp only [opv, n1, n2, n3, n4, Value.cells, List.map_toArray, List.map_cons, List.map_nil, List.append_toArray, List.cons_append, List.nil_append, Array.append_empty]
       refine CallR.mono (c_law13alive _) ?_
       rintro _ w2 ⟨rfl, hE2⟩
       replace hS := hS.ext hE2
       try simp only [opv, n1, n2, n3, n4, Value.cells]
       refine s_go (s_assign) ?_
       try simp only [opv, n1, n2, n3, n4, Value.cells]
       refine x_nil ?_
       refine hK5 _ _ ?_
       refine x_ret ?_
       refine r_tmp rfl ?_
       first | exact ⟨rfl, hEE⟩ | exact ⟨rfl, hS.ext_of⟩
    ·
     try simp only [decide_eq_true_eq, decide_eq_false_iff_not, Bool.not_eq_true', Bool.not_eq_false', Int.not_lt, Int.not_le, ne_eq, Decidable.not_not, bne_iff_ne, beq_iff_eq, not_true_eq_false, not_false_eq_true] at hc2
     first
     | (exfalso; omega)
     | skip
       have hln : l.length ≤ 40 := by omega
       have hln2 : r.length ≤ 40 := by omega
       refine x_skip ?_
       refine hK2 _ _ ?_
       refine x_seq fun K6 hK6 => ?_
       refine x_region ?_
       refine s_go (s_move) ?_
       try simp only [opv, n1, n2, n3, n4, Value.cells]
       refine s_call en13 ?_
       try simp only [opv, n1, n2, n3, n4, Value.cells, List.map_toArray, List.map_cons, List.map_nil, List.append_toArray, List.cons_append, List.nil_append, Array.append_empty]
       refine CallR.mono (c_dotsSeen _ A c l (hS.hasRd (by repeat (first | exact Has.head | apply Has.tail))) hv (by omega)) ?_
       rintro _ w3 ⟨Da, ea, rfl, hC3⟩
       replace hS := hS.call hC3
       simp only [List.cons_append, List.nil_append, List.append_nil] at hS ⊢
       rw [hpa] at hS ⊢
       try simp only [opv, n1, n2, n3, n4, Value.cells]
       refine s_go (s_move) ?_
       try simp only [opv, n1, n2, n3, n4, Value.cells]
       refine s_call en13 ?_
       try simp only [opv, n1, n2, n3, n4, Value.cells, List.map_toArray, List.map_cons, List.map_nil, List.append_toArray, List.cons_append, List.nil_append, Array.append_empty]
       refine CallR.mono (c_dotsSeen _ B d r (hS.hasRd (by repeat (first | exact Has.head | apply Has.tail))) hv2 (by omega)) ?_
       rintro _ w4 ⟨Db, eb, rfl, hC4⟩
       replace hS := hS.call hC4
       simp only [List.cons_append, List.nil_append, List.append_nil] at hS ⊢
       rw [hpb] at hS ⊢
       try simp only [opv, n1, n2, n3, n4, Value.cells]
       refine m_alloc ti29 hS (fun w5 g5 hS => ?_)
       try simp only [opv, n1, n2, n3, n4, Value.cells, Array.toArray_toList] at hS ⊢
       replace hS : St NoB w0 w5 (.obj g5 (.cells (SetC (List.replicate 16 0) (.slice none 0 0)) 29 (0, 0)) :: _) := hS
       obtain ⟨ga, hga⟩ : ∃ z, z = g5 := ⟨_, rfl⟩
       rw [← hga] at hS ⊢
       refine m_alloc ti29 hS (fun w6 g6 hS => ?_)
       try simp only [opv, n1, n2, n3, n4, Value.cells, Array.toArray_toList] at hS ⊢
       replace hS : St NoB w0 w6 (.obj g6 (.cells (SetC (List.replicate 16 0) (.slice none 0 0)) 29 (0, 0)) :: _) := hS
       obtain ⟨gb, hgb⟩ : ∃ z, z = g6 := ⟨_, rfl⟩
       rw [← hgb] at hS ⊢
       refine m_store_obj ti29 (hS := hS) (hv := setC_size hal6 _) (h1 := set_one _ _ _ _) (hfit := by rw [setC_size h0l]; omega) (hc := set_whole h0l hal6 _ _) (h := fun w7 hS => ?_)
       try simp only [opv, n1, n2, n3, n4, Value.cells, Array.toArray_toList] at hS ⊢
       refine m_store_obj ti29 (hS := hS) (hv := setC_size hbl6 _) (h1 := set_one _ _ _ _) (hfit := by rw [setC_size h0l]; omega) (hc := set_whole h0l hbl6 _ _) (h := fun w8 hS => ?_)
       try simp only [opv, n1, n2, n3, n4, Value.cells, Array.toArray_toList] at hS ⊢
       refine x_nil ?_
       refine hK6 _ _ ?_
       refine x_seq fun K7 hK7 => ?_
       refine x_region ?_
       refine m_buildRow (cells := #[]) Tryz.underlying22 ti88 (hc := by simp only [List.map_toArray, List.map_cons, List.map_nil, opv, n1, n2, n3, n4, Value.cells, List.toList_toArray]; (repeat (refine fill_cons rfl rfl (Nat.le_of_ble_eq_true rfl) ?_)); rfl) (hS := hS) (h := fun w9 g9 hS => ?_)
       try simp only [opv, n1, n2, n3, n4, Value.cells, Array.toArray_toList] at hS ⊢
       replace hS := hS.obj_vec (sz := 21) (n := 0) rfl (by decide) .head
       refine s_go (s_move) ?_
       try simp only [opv, n1, n2, n3, n4, Value.cells]
       refine m_append Tryz.underlying22 ti88 (hS := hS) (xs := arows []) (news := arows l) (h1 := rowsZ_cells _ _) (h := fun w10 A10 C10 hS => ?_)
       try simp only [← List.map_append, ← List.map_drop, ← List.map_take, Nat.mul_one, Nat.zero_mul, Nat.sub_zero, List.drop_zero, List.nil_append, Nat.zero_add] at hS ⊢
       try simp only [opv, n1, n2, n3, n4, Value.cells, Array.toArray_toList] at hS ⊢
       rw [← rowsZ_app, List.nil_append] at hS
       refine s_go (s_move) ?_
       try simp only [opv, n1, n2, n3, n4, Value.cells]
       refine m_append Tryz.underlying22 ti88 (hS := hS) (h1 := rowsZ_cells _ _) (h := fun w11 A11 C11 hS => ?_)
       try simp only [← List.map_append, ← List.map_drop, ← List.map_take, Nat.mul_one, Nat.zero_mul, Nat.sub_zero, List.drop_zero, List.nil_append, Nat.zero_add] at hS ⊢
       try simp only [opv, n1, n2, n3, n4, Value.cells, Array.toArray_toList] at hS ⊢
       rw [← rowsZ_app, ← hla] at hS
       rw [← hla]
       refine s_call en13 ?_
       try simp only [opv, n1, n2, n3, n4, Value.cells, List.map_toArray, List.map_cons, List.map_nil, List.append_toArray, List.cons_append, List.nil_append, Array.append_empty]
       refine CallR.mono (c_dotsSeen _ _ _ (l ++ r) (hS.vecRd (by repeat (first | exact Has.head | apply Has.tail))) (hv.app hv2) (by omega)) ?_
       rintro _ w12 ⟨Dj, ej, rfl, hC12⟩
       replace hS := hS.call hC12
       simp only [List.cons_append, List.nil_append, List.append_nil] at hS ⊢
       rw [hjn] at hS ⊢
       try simp only [opv, n1, n2, n3, n4, Value.cells]
       refine m_alloc ti29 hS (fun w13 g13 hS => ?_)
       try simp only [opv, n1, n2, n3, n4, Value.cells, Array.toArray_toList] at hS ⊢
       replace hS : St NoB w0 w13 (.obj g13 (.cells (SetC (List.replicate 16 0) (.slice none 0 0)) 29 (0, 0)) :: _) := hS
       obtain ⟨gj, hgj⟩ : ∃ z, z = g13 := ⟨_, rfl⟩
       rw [← hgj] at hS ⊢
       refine m_store_obj ti29 (hS := hS) (hv := setC_size hjl6 _) (h1 := set_one _ _ _ _) (hfit := by rw [setC_size h0l]; omega) (hc := set_whole h0l hjl6 _ _) (h := fun w14 hS => ?_)
       try simp only [opv, n1, n2, n3, n4, Value.cells, Array.toArray_toList] at hS ⊢
       refine x_nil ?_
       refine hK7 _ _ ?_
       refine x_seq fun K8 hK8 => ?_
       refine x_mixed_c (Lc := [.obj ga (.cells (SetC pa.1 (.slice Da pa.2.length ea)) 29 (0, 0)), .vec Da ea 84 1 pa.2.length (List.map (Value.int .u64) pa.2), .obj gb (.cells (SetC pb.1 (.slice Db pb.2.length eb)) 29 (0, 0)), .vec Db eb 84 1 pb.2.length (List.map (Value.int .u64) pb.2), .obj gj (.cells (SetC pj.1 (.slice Dj pj.2.length ej)) 29 (0, 0)), .vec Dj ej 84 1 pj.2.length (List.map (Value.int .u64) pj.2), .rd A 21 (l).length (arows (l)), .rd B 21 (r).length (arows (r))]) [] 0 [4, 27, 28, 29, 30, 31, 32, 33, 34, 35, 36, 37, 38, 39, 40, 41, 42, 43, 44, 45, 46, 47] (fun f w => f 4 = .bool true ∧ Ext w0 w) (by kernel_rfl) (by kernel_rfl) (by kernel_rfl) (by decide) hS (fun w15 hS => ?mixpre501) ?mixrest501
       case mixpre501 =>
        refine p_nil ?_
        simp only [List.length_cons, List.length_nil, Nat.reduceAdd, Nat.reduceSub]
        refine any_go (i := 0) (by rfl) (by decide +kernel) (by decide +kernel) noLate_nil (go_yields w_none (fun w hS => m_load_row Tryz.underlying29 (hi := ti29) (hS := hS) (hfit := by rw [setC_size hal6]))) ?_
        try simp only [opv, n1, n2, n3, n4, Value.cells, List.getElem_toArray, List.getElem_cons_zero, List.getElem_cons_succ]
        apply any_go (i := 1) (by rfl) (by decide +kernel) (by decide +kernel) noLate_nil (call_yields w_none en15 ?H1) ?K1
        case H1 =>
          intro w hS
          try simp only [opv, n1, n2, n3, n4, List.map_toArray, List.map_cons, List.map_nil, List.append_toArray, List.cons_append, List.nil_append, Array.append_empty]
          refine CallR.mono (c_from13 pa.1 hal6 _ _ _ _) ?_
          rintro _ w1 ⟨rfl, hE⟩; exact ⟨rfl, hE⟩
        try simp only [opv, n1, n2, n3, n4, Value.cells]
        refine any_go (i := 2) (by rfl) (by decide +kernel) (by decide +kernel) noLate_nil (go_yields w_none (fun w hS => s_move)) ?_
        try simp only [opv, n1, n2, n3, n4, Value.cells]
        refine any_step [3] (by kernel_rfl) (by decide) (fun w16 hE => ⟨fun _ => (hS.ext hE).sel (by repeat (first | exact Sel.nil | (refine Sel.cons (by repeat (first | exact Del.head | apply Del.tail)) ?_))), ?_⟩)
        replace hS := hS.ext hE
        intro i hi
        simp only [List.mem_cons, List.not_mem_nil, or_false] at hi
        subst hi
        ·
         refine any_op (by rfl) ?_
         refine s_call en16 ?_
         try simp only [opv, n1, n2, n3, n4, Value.cells, List.map_toArray, List.map_cons, List.map_nil, List.append_toArray, List.cons_append, List.nil_append, Array.append_empty]
         refine CallR.mono (c_ref13Seen _ A c l (hS.hasRd (by repeat (first | exact Has.head | apply Has.tail))) hv (by omega)) ?_
         rintro _ w17 ⟨Dr, er, rfl, hC17⟩
         replace hS := hS.call hC17
         simp only [List.cons_append, List.nil_append, List.append_nil] at hS ⊢
         rw [hpa] at hS ⊢
         try simp only [opv, n1, n2, n3, n4, Value.cells]
         refine x_nil ?_
         refine any_step [4] (by kernel_rfl) (by decide) (fun w18 hE => ⟨fun _ => (hS.ext hE).sel (by repeat (first | exact Sel.nil | (refine Sel.cons (by repeat (first | exact Del.head | apply Del.tail)) ?_))), ?_⟩)
         replace hS := hS.ext hE
         intro i hi
         simp only [List.mem_cons, List.not_mem_nil, or_false] at hi
         subst hi
         ·
          refine any_op (by rfl) ?_
          refine s_call en14 ?_
          try simp only [opv, n1, n2, n3, n4, Value.cells, List.map_toArray, List.map_cons, List.map_nil, List.append_toArray, List.cons_append, List.nil_append, Array.append_empty]
          refine CallR.mono (c_ref13Same _ _ _ hal6 hal6 Da ea pa.2 (hS.vecRd (A := Da) (n := pa.2.length) (by repeat (first | exact Has.head | apply Has.tail))) hau Dr er pa.2 (hS.vecRd (A := Dr) (n := pa.2.length) (by repeat (first | exact Has.head | apply Has.tail))) hau (by omega)) ?_
          rintro _ w19 ⟨rfl, hE19⟩
          replace hS := hS.ext hE19
          try simp only [opv, n1, n2, n3, n4, Value.cells]
          try simp only [eq_self, decide_true, beq_self_eq_true, Bool.and_self]
          refine x_nil ?_
          refine any_go (i := 5) (by rfl) (by decide +kernel) (by decide +kernel) noLate_nil (go_yields w_none (fun w hS => s_move)) ?_
          try simp only [opv, n1, n2, n3, n4, Value.cells]
          refine any_go (i := 6) (by rfl) (by decide +kernel) (by decide +kernel) noLate_nil (go_yields (w_on (yi (t := 32) rfl rfl)) (fun w hS => m_load_row Tryz.underlying29 (hi := ti29) (hS := hS) (hfit := by rw [setC_size hal6]))) ?_
          try simp only [opv, n1, n2, n3, n4, Value.cells, List.getElem_toArray, List.getElem_cons_zero, List.getElem_cons_succ]
          apply any_go (i := 7) (by rfl) (by decide +kernel) (by decide +kernel) noLate_nil (call_yields (w_on (yi (t := 32) rfl rfl)) en17 ?H2) ?K2
          case H2 =>
            intro w hS
            try simp only [opv, n1, n2, n3, n4, List.map_toArray, List.map_cons, List.map_nil, List.append_toArray, List.cons_append, List.nil_append, Array.append_empty]
            refine CallR.mono (c_dotsRight _ pa.1 hna.vok Da ea pa.2 (hS.vecRd (A := Da) (n := pa.2.length) (by repeat (first | exact Has.head | apply Has.tail))) hau (by omega)) ?_
            rintro _ w1 ⟨rfl, hE⟩; exact ⟨rfl, hE⟩
          try simp only [opv, n1, n2, n3, n4, Value.cells]
          rw [decide_eq_true (show (pa.1, pa.2) = addS pa.1 pa.2 from hida.symm)]
          first | refine any_go (i := 8) (by rfl) (by decide +kernel) (by decide +kernel) noLate_nil (go_yields w_none (fun w hS => s_pick_t)) ?_ | refine any_go (i := 8) (by rfl) (by decide +kernel) (by decide +kernel) noLate_nil (go_yields w_none (fun w hS => s_pick_f)) ?_
          try simp only [opv, n1, n2, n3, n4, Value.cells]
          refine any_go (i := 9) (by rfl) (by decide +kernel) (by decide +kernel) noLate_nil (go_yields w_none (fun w hS => s_move)) ?_
          try simp only [opv, n1, n2, n3, n4, Value.cells]
          refine any_go (i := 10) (by rfl) (by decide +kernel) (by decide +kernel) noLate_nil (go_yields (w_on (yi (t := 36) rfl rfl)) (fun w hS => m_load_row Tryz.underlying29 (hi := ti29) (hS := hS) (hfit := by rw [setC_size hjl6]))) ?_
          try simp only [opv, n1, n2, n3, n4, Value.cells, List.getElem_toArray, List.getElem_cons_zero, List.getElem_cons_succ]
          apply any_go (i := 11) (by rfl) (by decide +kernel) (by decide +kernel) noLate_nil (call_yields (w_on (yi (t := 36) rfl rfl)) en15 ?H3) ?K3
          case H3 =>
            intro w hS
            try simp only [opv, n1, n2, n3, n4, List.map_toArray, List.map_cons, List.map_nil, List.append_toArray, List.cons_append, List.nil_append, Array.append_empty]
            refine CallR.mono (c_from13 pj.1 hjl6 _ _ _ _) ?_
            rintro _ w1 ⟨rfl, hE⟩; exact ⟨rfl, hE⟩
          try simp only [opv, n1, n2, n3, n4, Value.cells]
          refine any_go (i := 12) (by rfl) (by decide +kernel) (by decide +kernel) noLate_nil (go_yields (w_on (yi (t := 36) rfl rfl)) (fun w hS => m_load_row Tryz.underlying29 (hi := ti29) (hS := hS) (hfit := by rw [setC_size hal6]))) ?_
          try simp only [opv, n1, n2, n3, n4, Value.cells, List.getElem_toArray, List.getElem_cons_zero, List.getElem_cons_succ]
          refine any_go (i := 13) (by rfl) (by decide +kernel) (by decide +kernel) noLate_nil (go_yields (w_on (yi (t := 36) rfl rfl)) (fun w hS => m_load_row Tryz.underlying29 (hi := ti29) (hS := hS) (hfit := by rw [setC_size hbl6]))) ?_
          try simp only [opv, n1, n2, n3, n4, Value.cells, List.getElem_toArray, List.getElem_cons_zero, List.getElem_cons_succ]
          refine any_step [14] (by kernel_rfl) (by decide) (fun w20 hE => ⟨fun _ => (hS.ext hE).sel (by repeat (first | exact Sel.nil | (refine Sel.cons (by repeat (first | exact Del.head | apply Del.tail)) ?_))), ?_⟩)
          replace hS := hS.ext hE
          intro i hi
          simp only [List.mem_cons, List.not_mem_nil, or_false] at hi
          subst hi
          ·
           refine any_op (by rfl) ?_
           refine g_on (yi (t := 36) rfl rfl) ?_
           refine s_call en18 ?_
           try simp only [opv, n1, n2, n3, n4, Value.cells, List.map_toArray, List.map_cons, List.map_nil, List.append_toArray, List.cons_append, List.nil_append, Array.append_empty]
           refine CallR.mono (c_dotsJoin _ pa.1 pb.1 hna.vok hnb'.vok Da ea pa.2 (hS.vecRd (A := Da) (n := pa.2.length) (by repeat (first | exact Has.head | apply Has.tail))) hau Db eb pb.2 (hS.vecRd (A := Db) (n := pb.2.length) (by repeat (first | exact Has.head | apply Has.tail))) hbu (by omega)) ?_
           rintro _ w21 ⟨Dn, en, rfl, hC21⟩
           replace hS := hS.call hC21
           simp only [List.cons_append, List.nil_append, List.append_nil] at hS ⊢
           rw [show joinS (pa.1, pa.2) (pb.1, pb.2) = pj from hpj] at hS ⊢
           try simp only [opv, n1, n2, n3, n4, Value.cells]
           refine x_nil ?_
           apply any_go (i := 15) (by rfl) (by decide +kernel) (by decide +kernel) noLate_nil (call_yields (w_on (yi (t := 36) rfl rfl)) en15 ?H4) ?K4
           case H4 =>
             intro w hS
             try simp only [opv, n1, n2, n3, n4, List.map_toArray, List.map_cons, List.map_nil, List.append_toArray, List.cons_append, List.nil_append, Array.append_empty]
             refine CallR.mono (c_from13 pj.1 hjl6 _ _ _ _) ?_
             rintro _ w1 ⟨rfl, hE⟩; exact ⟨rfl, hE⟩
           try simp only [opv, n1, n2, n3, n4, Value.cells]
           refine any_step [16] (by kernel_rfl) (by decide) (fun w22 hE => ⟨fun _ => (hS.ext hE).sel (by repeat (first | exact Sel.nil | (refine Sel.cons (by repeat (first | exact Del.head | apply Del.tail)) ?_))), ?_⟩)
           replace hS := hS.ext hE
           intro i hi
           simp only [List.mem_cons, List.not_mem_nil, or_false] at hi
           subst hi
           ·
            refine any_op (by rfl) ?_
            refine g_on (yi (t := 36) rfl rfl) ?_
            refine s_call en14 ?_
            try simp only [opv, n1, n2, n3, n4, Value.cells, List.map_toArray, List.map_cons, List.map_nil, List.append_toArray, List.cons_append, List.nil_append, Array.append_empty]
            refine CallR.mono (c_ref13Same _ _ _ hjl6 hjl6 Dj ej pj.2 (hS.vecRd (A := Dj) (n := pj.2.length) (by repeat (first | exact Has.head | apply Has.tail))) hju Dn en pj.2 (hS.vecRd (A := Dn) (n := pj.2.length) (by repeat (first | exact Has.head | apply Has.tail))) hju (by omega)) ?_
            rintro _ w23 ⟨rfl, hE23⟩
            replace hS := hS.ext hE23
            try simp only [opv, n1, n2, n3, n4, Value.cells]
            try simp only [eq_self, decide_true, beq_self_eq_true, Bool.and_self]
            refine x_nil ?_
            first | refine any_go (i := 17) (by rfl) (by decide +kernel) (by decide +kernel) noLate_nil (go_yields w_none (fun w hS => s_pick_t)) ?_ | refine any_go (i := 17) (by rfl) (by decide +kernel) (by decide +kernel) noLate_nil (go_yields w_none (fun w hS => s_pick_f)) ?_
            try simp only [opv, n1, n2, n3, n4, Value.cells]
            refine any_go (i := 18) (by rfl) (by decide +kernel) (by decide +kernel) noLate_nil (go_yields w_none (fun w hS => s_move)) ?_
            try simp only [opv, n1, n2, n3, n4, Value.cells]
            apply any_go (i := 19) (by rfl) (by decide +kernel) (by decide +kernel) noLate_nil (call_yields (w_on (yi (t := 45) rfl rfl)) en12 ?H5) ?K5
            case H5 =>
              intro w hS
              try simp only [opv, n1, n2, n3, n4, List.map_toArray, List.map_cons, List.map_nil, List.append_toArray, List.cons_append, List.nil_append, Array.append_empty]
              refine CallR.mono (c_law13alive _) ?_
              rintro _ w1 ⟨rfl, hE⟩; exact ⟨rfl, hE⟩
            try simp only [opv, n1, n2, n3, n4, Value.cells]
            first | refine any_go (i := 20) (by rfl) (by decide +kernel) (by decide +kernel) noLate_nil (go_yields w_none (fun w hS => s_pick_t)) ?_ | refine any_go (i := 20) (by rfl) (by decide +kernel) (by decide +kernel) noLate_nil (go_yields w_none (fun w hS => s_pick_f)) ?_
            try simp only [opv, n1, n2, n3, n4, Value.cells]
            refine any_go (i := 21) (by rfl) (by decide +kernel) (by decide +kernel) noLate_nil (go_yields w_none (fun w hS => s_assign)) ?_
            try simp only [opv, n1, n2, n3, n4, Value.cells]
            refine any_nil (by kernel_rfl) (fun w24 hE => ?_)
            replace hS := hS.ext hE
            refine ⟨fun _ => hS.sel (by repeat (first | exact Sel.nil | (refine Sel.cons (by repeat (first | exact Del.head | apply Del.tail)) ?_))), ?_⟩
            refine mix_leaf (by simp only [clob, List.foldl, n1, n2, n3, n4]) ?_
            try simp only [n1, n2]
            exact ⟨by first | trivial | rfl, hS.ext_of⟩
       intro fm1 w25 hM
       obtain ⟨h4, hEE⟩ := hM
       simp only [clob, List.foldl, n3, n4, h4]
       refine hK8 _ _ ?_
       refine x_ret ?_
       refine r_tmp rfl ?_
       first | exact ⟨rfl, hEE⟩ | exact ⟨rfl, hS.ext_of⟩
end Go.Proofs.YtffmanidnlbjjaaGreat
set_option linter.unusedSimpArgs false
set_option linter.unusedVariables false
set_option maxHeartbeats 800000
set_option maxRecDepth 100000
namespace Go.Proofs.YtffmanidnlbjjaaGreat
open Go.ChangeShapes Go.WideShapes Go.ChangeAt Go.RowKit

theorem rows_aok {l : List (List Int)} (h : ∀ x ∈ l, x.length = atomKs.length ∧ ∀ i k, atomKs[i]? = some k → (Lit.int k (x.getD i 0)).wf = true) : AOks l := fun x hx => by
  obtain ⟨h1, h2⟩ := h x hx
  have W : World := { heap := #[], tape := fun _ _ => 0, drawn := 0, os := default, output := #[] }
  obtain ⟨a, e, ha⟩ := atom_open (w := W) (allOk_of h1 h2)
  rw [zi_inj h1 (by simpa using ha.len) e]; exact ha
theorem open_rows {w : World} {n : Nat} {xs : List Value} {A : Option Addr} (hr : Rd w A 21 n xs) (h : ∀ i, i < n → AllOk w (atomKs.map LK.int) ((xs.drop (i * 21)).take 21)) : ∃ l : List (List Int), l.length = n ∧ xs = arows l ∧ AOks l := by
  obtain ⟨l, hl, e, hok⟩ := rowsZ_open (w := w) (ks := atomKs) (n := n) (xs := xs) hr.1 h
  exact ⟨l, hl, e, rows_aok hok⟩
end Go.Proofs.YtffmanidnlbjjaaGreat
namespace Go.Proofs.YtffmanidnlbjjaaGreat
open Go.ChangeShapes Go.WideShapes Go.ChangeAt Go.RowKit
theorem own0 : ownKnob Tryz.prog.godebug = none := by kernel_rfl
theorem laidOut0 : laidOutB Tryz.prog = true := by kernel_rfl
theorem fl5 : Flat Tryz.prog 5 [LK.int .u8] := flat_int Tryz.underlying5
theorem fl39 : Flat Tryz.prog 39 [LK.int .u16] := flat_int Tryz.underlying39
theorem fl41 : Flat Tryz.prog 41 (List.replicate 8 [LK.int .u8]).flatten := flat_arr Tryz.underlying41 fl5 rfl (by kernel_rfl) (by kernel_rfl)
theorem fl24 : Flat Tryz.prog 24 [LK.int .u32] := flat_int Tryz.underlying24
theorem fl83 : Flat Tryz.prog 83 ([LK.int .u8] ++ ([LK.int .u16] ++ ((List.replicate 8 [LK.int .u8]).flatten ++ ([LK.int .u8] ++ ([LK.int .u32] ++ ([])))))) := flat_struct Tryz.underlying83 (.cons rfl fl5 rfl (by kernel_rfl) (.cons rfl fl39 rfl (by kernel_rfl) (.cons rfl fl41 rfl (by kernel_rfl) (.cons rfl fl5 rfl (by kernel_rfl) (.cons rfl fl24 rfl (by kernel_rfl) (.nil)))))) (by kernel_rfl)
theorem fl84 : Flat Tryz.prog 84 [LK.int .u64] := flat_int Tryz.underlying84
theorem fl86 : Flat Tryz.prog 86 ([LK.int .u64] ++ ((List.replicate 8 [LK.int .u8]).flatten ++ ([]))) := flat_struct Tryz.underlying86 (.cons rfl fl84 rfl (by kernel_rfl) (.cons rfl fl41 rfl (by kernel_rfl) (.nil))) (by kernel_rfl)
theorem fl88 : Flat Tryz.prog 88 (([LK.int .u8] ++ ([LK.int .u16] ++ ((List.replicate 8 [LK.int .u8]).flatten ++ ([LK.int .u8] ++ ([LK.int .u32] ++ ([])))))) ++ (([LK.int .u64] ++ ((List.replicate 8 [LK.int .u8]).flatten ++ ([]))) ++ ([]))) := flat_struct Tryz.underlying88 (.cons rfl fl83 rfl (by kernel_rfl) (.cons rfl fl86 rfl (by kernel_rfl) (.nil))) (by kernel_rfl)
end Go.Proofs.YtffmanidnlbjjaaGreat
namespace Go.Proofs.YtffmanidnlbjjaaGreat
theorem ws_cons {c : Char} (h : c ≠ Char.ofNat 32) (x : List Char) : wordsSigns (c :: x) = (match wordsSigns x with | w :: ws => (c :: w) :: ws | [] => [[c]]) := by
  conv => lhs; unfold wordsSigns
  split
  · simp_all
  · next h1 => exact absurd (by simpa using (List.cons.inj h1).1) h
  · next h1 => obtain ⟨rfl, rfl⟩ := List.cons.inj h1; rfl
theorem ws_app (b : List Char) : ∀ (a : List Char), (∀ c ∈ a, c ≠ Char.ofNat 32) → wordsSigns (a ++ Char.ofNat 32 :: b) = a :: wordsSigns b
  | [], _ => rfl
  | c :: r, h => by
    rw [List.cons_append, ws_cons (h c (by simp)), ws_app b r (fun x hx => h x (by simp [hx]))]
/-- the head's words: harness, a sum, cut -/
theorem head_words {P : Program} {s b : List Char} (he : P.initOrder = String.ofList ("harness".toList ++ Char.ofNat 32 :: (s ++ Char.ofNat 32 :: ("cut".toList ++ Char.ofNat 32 :: b)))) (hs : isSumSigns s = true) (hb : ∀ c ∈ s, c ≠ Char.ofNat 32) :
    ∃ R, behindMainWord (wordsSigns P.initOrder.toList) = "cut".toList :: R := by
  refine ⟨wordsSigns b, ?_⟩
  rw [he, String.toList_ofList, ws_app _ _ (by decide), ws_app _ _ hb, ws_app _ _ (by decide)]
  simp only [behindMainWord, hs, beq_self_eq_true, Bool.true_or, Bool.and_self, if_true]
theorem e_gc : ("cut".toList == "gc".toList) = false := by decide
theorem e_spec : ("cut".toList == "spec".toList) = false := by decide
theorem e_car : ("cut".toList == "carried".toList) = false := by decide
theorem e_sl (R : List (List Char)) : stripLifts liftWords ("cut".toList :: R) = ([], "cut".toList :: R) := by
  have h : ∀ (l : List String), (∀ o ∈ l, ("cut".toList == o.toList) = false) → stripLifts l ("cut".toList :: R) = ([], "cut".toList :: R) := by
    intro l
    induction l with
    | nil => intro _; rfl
    | cons o os ih => intro hl; rw [stripLifts, hl o (by simp)]; simp only [Bool.false_eq_true, if_false]; exact ih fun x hx => hl x (by simp [hx])
  exact h liftWords (by decide)
section
variable {P : Program} (h : ∃ R, behindMainWord (wordsSigns P.initOrder.toList) = "cut".toList :: R)
include h
theorem make_of : P.make = some .cut := by
  obtain ⟨R, h⟩ := h
  unfold Program.make
  rw [h]
  simp only [e_gc, e_spec, beq_self_eq_true, Bool.or_self, Bool.true_or, Bool.false_eq_true, if_false, if_true]
theorem lifts_of : P.liftsFinal = false := by
  obtain ⟨R, h⟩ := h
  unfold Program.liftsFinal Program.headLifts
  rw [h, e_sl]
  show (_ || _) = false
  rfl
theorem enter_of (hl : P.laysLater = false) (hr : P.bearsReflect = false) (hd : P.doorFits [] = true) : P.mayEnter = true := by
  obtain ⟨R, h⟩ := h
  unfold Program.mayEnter
  rw [h]
  dsimp only
  rw [e_sl, hl, hr]
  simp only [hd, e_gc, e_spec, e_car, beq_self_eq_true, Bool.or_self, Bool.false_and, Bool.not_false, Bool.or_true, Bool.and_true, List.head?_cons, List.contains_nil]
end
theorem closed_of {P : Program} {f : FuncId} {fn : Func} {s : ChangeSpec} {c : OpenClaim} (hm : P.make = some .cut) (hl : P.liftsFinal = false) (he : P.mayEnter = true) (h2 : laidOutB P = true) (h3 : mapsRowed P = true) (hst : (P.stops == []) = true) (hk : (P.stopKnobs == []) = true)
    (hp : P.plainKeys = c.plainKeys) (hh : P.stopsHeard = true) (i1 : P.inPlace f = c.inPlace) (i2 : P.unfollowed f = c.unfollowed) (i3 : P.recurses f = c.recurses) (i4 : P.varsNamed f = c.named)
    (rest : (c.wf (OpenSpec.ofChange s) && fn.params.all (P.readableRec ·) && namedTie P c.named s.vars && (c.stops == []) && (c.knobs == []) &&
      (c.maps == (fn.params.toList ++ s.plain.varTypes P).any (P.mapsRec ·)) && (c.ifaces == (fn.params.toList ++ s.plain.varTypes P).any (P.ifacesRec ·)) && (c.mapsOut == P.mapsAmong fn.resultTypes.toList) &&
      (c.loops == (fn.params.toList ++ s.plain.varTypes P).any (P.loopsFrom ·)) && (c.wideKeys == (fn.params.toList ++ s.plain.varTypes P ++ fn.resultTypes.toList).any (P.wideKeysFrom ·)) &&
      s.vars.all (P.varReadable ·) && fn.resultTypes.all (fun t => P.readableRec t && decide (t < P.types.size)) && (c.ifacesOut == fn.resultTypes.toList.any (P.ifacesRec ·)) && (c.loopsOut == fn.resultTypes.toList.any (P.loopsFrom ·)) && c.shortTexts.isNone && (c.lifted == false) && (some Make.cut == some c.make) &&
      (c.kinds == (if c.domain.isEmpty then [] else fn.params.toList.map fun t => match P.underlying t with | some (.int k) => some k | _ => none)) && (c.pinned == c.pinnedBy) &&
      (c.veiled == (fn.params.toList ++ s.plain.varTypes P ++ fn.resultTypes.toList).any (P.veiledRec ·)) && c.veiledFits P fn.params.toList (fn.params.toList ++ s.plain.varTypes P ++ fn.resultTypes.toList)) = true) : joinedFacts P f fn s c = true := by
  simp only [Bool.and_eq_true] at rest
  unfold joinedFacts
  rw [hm, hl, he, h2, h3, hst, hk, hp, hh, i1, i2, i3, i4]
  simp only [beq_self_eq_true, Bool.and_eq_true, Bool.and_true]
  have hkd := rest.1.1.1.2
  simp only [rest, and_self]
  exact ⟨⟨⟨⟨trivial, hkd⟩, trivial⟩, trivial⟩, trivial⟩
end Go.Proofs.YtffmanidnlbjjaaGreat
namespace Go.Proofs.YtffmanidnlbjjaaGreat
def ioS : List Nat := [48, 97, 55, 98, 52, 99, 101, 98, 48, 99, 48, 54, 102, 48, 55, 51, 50, 57, 56, 98, 53, 97, 50, 50, 51, 101, 97, 101, 99, 53, 56, 102, 98, 50, 49, 100, 97, 55, 98, 100, 49, 52, 102, 97, 55, 53, 101, 101, 56, 98, 98, 49, 55, 57, 56, 101, 100, 102, 51, 56, 52, 99, 54, 54]
def ioB : List Nat := [97, 116, 32, 104, 97, 110, 100, 99, 97, 114, 116, 47, 104, 97, 110, 100, 99, 97, 114, 116, 108, 97, 119, 49, 51, 46, 68, 111, 116, 115, 83, 101, 101, 110, 32, 104, 97, 110, 100, 99, 97, 114, 116, 47, 104, 97, 110, 100, 99, 97, 114, 116, 108, 97, 119, 49, 56, 46, 83, 104, 111, 112, 82, 117, 110, 115, 32, 104, 97, 110, 100, 99, 97, 114, 116, 47, 104, 97, 110, 100, 99, 97, 114, 116, 108, 97, 119, 49, 56, 46, 83, 104, 111, 112, 82, 111, 111, 109, 32, 104, 97, 110, 100, 99, 97, 114, 116, 47, 104, 97, 110, 100, 99, 97, 114, 116, 108, 97, 119, 49, 56, 46, 83, 104, 111, 112, 68, 111, 101, 115, 32, 104, 97, 110, 100, 99, 97, 114, 116, 47, 104, 97, 110, 100, 99, 97, 114, 116, 108, 97, 119, 49, 56, 46, 83, 104, 111, 112, 82, 101, 97, 100, 115, 32, 104, 97, 110, 100, 99, 97, 114, 116, 47, 104, 97, 110, 100, 99, 97, 114, 116, 108, 97, 119, 50, 50, 46, 67, 111, 100, 101, 99, 68, 101, 99, 111, 100, 101, 115, 32, 104, 97, 110, 100, 99, 97, 114, 116, 47, 104, 97, 110, 100, 99, 97, 114, 116, 108, 97, 119, 50, 50, 46, 67, 111, 100, 101, 99, 69, 110, 99, 111, 100, 101, 115, 32, 104, 97, 110, 100, 99, 97, 114, 116, 47, 104, 97, 110, 100, 99, 97, 114, 116, 108, 97, 119, 50, 50, 46, 67, 111, 100, 101, 99, 66, 97, 99, 107, 32, 104, 97, 110, 100, 99, 97, 114, 116, 47, 104, 97, 110, 100, 99, 97, 114, 116, 108, 97, 119, 50, 50, 46, 67, 111, 100, 101, 99, 66, 105, 103]
theorem io_eq : Tryz.prog.initOrder = String.ofList ("harness".toList ++ Char.ofNat 32 :: (ioS.map Char.ofNat ++ Char.ofNat 32 :: ("cut".toList ++ Char.ofNat 32 :: ioB.map Char.ofNat))) := by kernel_rfl
theorem io_sum : isSumSigns (ioS.map Char.ofNat) = true := by kernel_rfl
theorem io_hd : ∃ R, behindMainWord (wordsSigns Tryz.prog.initOrder.toList) = "cut".toList :: R := head_words io_eq io_sum (by decide)
theorem p_make : Tryz.prog.make = some .cut := make_of io_hd
theorem p_lifts : Tryz.prog.liftsFinal = false := lifts_of io_hd
theorem p_ll : Tryz.prog.laysLater = false := by kernel_rfl
theorem p_br : Tryz.prog.bearsReflect = false := by kernel_rfl
theorem p_df : Tryz.prog.doorFits [] = true := by kernel_rfl
theorem p_enter : Tryz.prog.mayEnter = true := enter_of io_hd p_ll p_br p_df
theorem p_rowed : mapsRowed Tryz.prog = true := by kernel_rfl
theorem p_stops : (Tryz.prog.stops == []) = true := by kernel_rfl
theorem p_knobs : (Tryz.prog.stopKnobs == []) = true := by kernel_rfl
theorem p_keys : Tryz.prog.plainKeys = false := by kernel_rfl
theorem p_heard : Tryz.prog.stopsHeard = true := by kernel_rfl
end Go.Proofs.YtffmanidnlbjjaaGreat
