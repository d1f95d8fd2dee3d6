/- Rules, plain words and walks that the claim leans on: Gb, Gc, Gd, Gf, Gg, Gh, Gk, Na, Qt, Qc, Qe, Oa, Oc, Vsc, Sa, Sb. -/
import Derived.Test.YtffmanidnlbjjaaZChunkFewest3
set_option linter.unusedSimpArgs false
set_option linter.unusedVariables false
set_option linter.unusedSimpArgs false
set_option linter.unusedVariables false
set_option maxHeartbeats 2000000
set_option maxRecDepth 100000
namespace Go.Proofs.Ytffmanidnlbjjaa
open Go.RowKit

theorem pick_perm {E : List (List Int)} {seen : List Nat} (hn : seen.Nodup) (hlt : ∀ i ∈ seen, i < E.length) (hall : ∀ i, i < E.length → i ∈ seen) : (seen.map fun i => E.getD i []).Perm E := by
  have h1 : seen.Perm (List.range E.length) := (List.perm_ext_iff_of_nodup hn List.nodup_range).2 fun i => by rw [List.mem_range]; exact ⟨hlt i, hall i⟩
  have h2 := h1.map fun i => E.getD i []
  have h3 : (List.range E.length).map (fun i => E.getD i []) = E := by
    refine List.ext_getElem (by simp) fun i h1 h2 => ?_
    rw [List.getElem_map, List.getElem_range, getD_lt h2]
  rw [h3] at h2; exact h2
theorem zi_size21 {x : List Int} (h : x.length = 21) : (AA x).size = 21 := by simpa using zi_len (ks := atomKs) (by simpa using h)
theorem c_latState (w0 : World) (gm : Nat) (E : List (List Int)) (hE : EOk E) (hn : E.length ≤ 1000000000) (hM : St (OwnB [.obj gm (mObj kv43 (encD (E)))]) w0 w0 [.obj gm (mObj kv43 (encD (E)))])  :
    CallR Try.prog 114 #[.map (some gm)] w0 fun v w' => ∃ A c, v = .slice A (normP E).length c ∧ St (OwnB [.obj gm (mObj kv43 (encD (E)))]) w0 w' [.vec A c 54 21 (normP E).length (arows (normP E))] := by
 have hS := hM
 refine c_enter (l := [.map (some gm), undef, undef, undef, undef, undef, undef, undef, undef, undef, undef, undef, undef, undef, undef, undef, undef, undef, undef, undef, undef, undef, undef, undef, undef]) Try.func114 rfl (by simp only [Try.ntmps114, List.size_toArray, List.length_cons, List.length_nil, Nat.reduceAdd, Nat.reduceSub, Array.replicate_succ, Array.replicate_zero, List.push_toArray, List.append_toArray, List.nil_append, List.cons_append]) ?_
 refine x_seq fun K1 hK1 => ?_
 refine x_region ?_
 refine s_go (s_assign) ?_
 try simp only [opv, n1, n2, n3, n4, Value.cells]
 refine x_nil ?_
 refine hK1 _ _ ?_
 refine x_seq fun K2 hK2 => ?_
 refine x_region ?_
 refine s_go (s_move) ?_
 try simp only [opv, n1, n2, n3, n4, Value.cells]
 refine s_go (s_len_map Try.underlying153 (hS := hS)) ?_
 try simp only [opv, n1, n2, n3, n4, Value.cells]
 rw [enc_len]
 refine m_make0 (n := _) Try.underlying22 ti54 (hy := rfl) (h63 := by first | omega | (simp only [maxLen]; omega)) (hS := hS) (h := fun w1 A1 hS => ?_)
 try simp only [opv, n1, n2, n3, n4, Value.cells, Array.toArray_toList] at hS ⊢
 refine s_go (s_assign) ?_
 try simp only [opv, n1, n2, n3, n4, Value.cells]
 refine x_nil ?_
 refine hK2 _ _ ?_
 refine x_seq fun K3 hK3 => ?_
 refine x_seq fun K4 hK4 => ?_
 refine x_region ?_
 refine s_go (s_move) ?_
 try simp only [opv, n1, n2, n3, n4, Value.cells]
 refine m_range Try.underlying153 (hS := hS) (h := fun w2 r2 hS => ?_)
 try simp only [opv, n1, n2, n3, n4, Value.cells, Array.toArray_toList] at hS ⊢
 refine x_nil ?_
 refine hK4 _ _ ?_
 refine x_block ?_
 refine x_loop [3, 4, 5, 11, 12, 13, 14, 15, 16, 17, 18, 19, 20, 21] (fun m f w => ∃ (seen : List Nat) (A : Option Addr) (c : Nat) (pl : List (List Int)), seen.Nodup ∧ (∀ i ∈ seen, i < E.length) ∧ m = E.length - seen.length ∧ pl = (seen.map fun i => E.getD i []) ∧ f 3 = .slice A pl.length c ∧ St (OwnB [.obj gm (mObj kv43 (encD (E)))]) w0 w [.obj r2 (itObj gm (encD E).length seen), .vec A c 54 21 (pl).length (arows (pl)), .obj gm (mObj kv43 (encD (E)))]) (E.length) ?init1 (fun m1 f1 wl1 hI => ?_)
 case init1 =>
  try simp only [opv, n1, n2, n3, n4, Value.cells]
  exact ⟨[], _, _, [], .nil, (fun i hi => by cases hi), rfl, rfl, rfl, hS.sel (by repeat (first | exact Sel.nil | (refine Sel.cons (by repeat (first | exact Del.head | apply Del.tail)) ?_)))⟩
 obtain ⟨seen, A, c, pl, hnd, hlt, hm, hpl, h3, hS⟩ := hI
 simp only [clob, List.foldl, n3, n4, h3]
 have hpll : pl.length = seen.length := by rw [hpl, List.length_map]
 refine x_seq fun K5 hK5 => ?_
 refine x_region ?_
 refine m_next (hS := hS) (hu := fun i => by repeat (first | exact Upd.head | apply Upd.tail)) (h1 := fun hall1 => ?_) (h2 := fun w3 i1 p1 hp1 hn1 hS => ?_)
 ·
  try simp only [opv, n1, n2, n3, n4, Value.cells, Array.toArray_toList] at hS ⊢
  have hP := pick_perm hnd hlt (fun i hi => hall1 i (by rw [enc_len]; exact hi))
  rw [← hpl] at hP
  refine s_go (s_extract (hv := rfl)) ?_
  try simp only [List.getElem_toArray, List.getElem_cons_zero, List.getElem_cons_succ]
  try simp only [opv, n1, n2, n3, n4, Value.cells]
  refine x_nil ?_
  refine hK5 _ _ ?_
  refine x_seq fun K6 hK6 => ?_
  refine x_cond_f (h := ?_)
  refine x_exit (look_here ?_)
  refine hK3 _ _ ?_
  refine x_seq fun K7 hK7 => ?_
  refine x_region ?_
  refine s_go (s_move) ?_
  try simp only [opv, n1, n2, n3, n4, Value.cells]
  refine s_call en123 ?_
  try simp only [opv, n1, n2, n3, n4, Value.cells, List.map_toArray, List.map_cons, List.map_nil, List.append_toArray, List.cons_append, List.nil_append, Array.append_empty]
  refine CallR.mono (c_sortAtoms _ _ _ (hE.perm hP) (by have := hP.length_eq; omega) _ (hS.owns (by repeat (first | exact Spl.nil | (apply Spl.cons (by repeat (first | exact Del.head | apply Del.tail))))))) ?_
  rintro _ w4 ⟨rfl, hC4⟩
  replace hS := hS.frame (by repeat (first | exact Spl.nil | (apply Spl.cons (by repeat (first | exact Del.head | apply Del.tail))))) hC4 (by intro r hr g hg; simp only [List.mem_cons, List.not_mem_nil, or_false] at hr; subst hr; first | (simp [Res.reads] at hg; done) | exact .inr ⟨_, by simp, .inr hg⟩)
  simp only [List.cons_append, List.nil_append] at hS
  rw [norm_perm hE hP] at hS
  try simp only [opv, n1, n2, n3, n4, Value.cells]
  refine x_nil ?_
  refine hK7 _ _ ?_
  refine x_seq fun K8 hK8 => ?_
  refine x_region ?_
  refine s_go (s_move) ?_
  try simp only [opv, n1, n2, n3, n4, Value.cells]
  refine s_go (s_assign) ?_
  try simp only [opv, n1, n2, n3, n4, Value.cells]
  refine x_nil ?_
  refine hK8 _ _ ?_
  refine x_ret ?_
  refine r_tmp rfl ?_
  have hle : pl.length = (normP E).length := by rw [norm_elen hE, ← hP.length_eq]
  rw [hle]
  exact ⟨_, _, rfl, hS.sel (by repeat (first | exact Sel.nil | (refine Sel.cons (by repeat (first | exact Del.head | apply Del.tail)) ?_)))⟩
 ·
  try simp only [opv, n1, n2, n3, n4, Value.cells, Array.toArray_toList] at hS ⊢
  simp only [kv43]
  obtain ⟨hiE, hpx⟩ := enc_at hp1
  have hq := hp1
  have hnw := hn1
  obtain ⟨ix, hix⟩ : ∃ z, z = i1 := ⟨_, rfl⟩
  rw [← hix] at hpx hnw hS hiE hq
  obtain ⟨a, hax⟩ : ∃ z, E.getD ix [] = z := ⟨_, rfl⟩
  rw [hax] at hpx
  have ha : AtomOk a := by rw [← hax]; exact hE.ok.get hiE
  have hal := ha.len
  have hkl := ha.key.len
  have hvl := ha.val.len
  have hnd2 := nodup_snoc hnd hnw
  have hlt2 : ∀ i ∈ seen ++ [ix], i < E.length := by intro i hi; rcases List.mem_append.1 hi with hi | hi; exact hlt i hi; simp at hi; subst hi; exact hiE
  have hln := nodup_len hnd2 hlt2
  simp only [List.length_append, List.length_cons, List.length_nil] at hln
  refine s_go (s_extract (hv := rfl)) ?_
  try simp only [List.getElem_toArray, List.getElem_cons_zero, List.getElem_cons_succ]
  try simp only [opv, n1, n2, n3, n4, Value.cells]
  refine x_nil ?_
  refine hK5 _ _ ?_
  refine x_seq fun K9 hK9 => ?_
  refine x_cond_t (h := ?_)
  refine x_skip ?_
  refine hK9 _ _ ?_
  refine x_block ?_
  refine x_seq fun K10 hK10 => ?_
  refine x_region ?_
  refine s_go (m_entry (hn := rfl) (hp := hq) (hS := hS)) ?_
  try simp only [opv, n1, n2, n3, n4, Value.cells]
  rw [hpx]
  refine s_go (s_extract (hv := rfl)) ?_
  try simp only [List.getElem_toArray, List.getElem_cons_zero, List.getElem_cons_succ]
  try simp only [opv, n1, n2, n3, n4, Value.cells]
  simp only [kv43]
  refine s_go (s_extract (hv := rfl)) ?_
  try simp only [List.getElem_toArray, List.getElem_cons_zero, List.getElem_cons_succ]
  try simp only [opv, n1, n2, n3, n4, Value.cells]
  refine m_alloc ti43 hS (fun w5 g5 hS => ?_)
  try simp only [opv, n1, n2, n3, n4, Value.cells, Array.toArray_toList] at hS ⊢
  refine m_alloc ti50 hS (fun w6 g6 hS => ?_)
  try simp only [opv, n1, n2, n3, n4, Value.cells, Array.toArray_toList] at hS ⊢
  have h0l : key0.length = 12 := rfl
  have h9l : v9.length = 9 := rfl
  replace hS : St (OwnB [.obj gm (mObj kv43 (encD (E)))]) w0 w6 (.obj g6 (.cells (VA v9) 50 (0, 0)) :: .obj _ (.cells (KA key0) 43 (0, 0)) :: _) := hS
  first | refine m_store_obj ti43 (hS := hS) (hc := by first | exact zi_set rfl (by omega) | exact zi_whole (by omega) (by omega) | (first | exact splice_ic (by first | omega | (simp [*]; done) | (simp [*]; omega)) | exact splice_il (by first | omega | (simp [*]; done) | (simp [*]; omega)) | exact splice_whole (by first | (simp [opv, Value.cells, *]; done) | rfl) | (simp only [opv, n1, n2, Value.cells, splice, List.take_succ_cons, List.take_zero, List.drop_succ_cons, List.drop_zero, List.length_cons, List.length_nil, Nat.zero_add, Nat.reduceAdd, List.append_assoc, List.cons_append, List.nil_append]; rfl))) (hv := by first | rfl | (show (zi _ _).toArray.size = _; rw [zi_size (by omega)]; rfl) | (simp [opv, Value.cells, *]; done)) (hfit := by first | omega | (rw [zi_size (by omega)]; first | rfl | decide) | (simp only [ic_size, List.length_map, List.size_toArray]; first | omega | decide) | rfl | (simp [*]; done) | (simp [*]; omega)) (h1 := by first | exact zi_one _ _ | exact ic_one _ _ | simp [opv, Value.cells, Value.oneCell']) (h := fun w7 hS => ?_) | refine m_store_vec ti43 (hS := hS) (hc := by first | exact zi_set rfl (by omega) | exact zi_whole (by omega) (by omega) | (first | exact splice_ic (by first | omega | (simp [*]; done) | (simp [*]; omega)) | exact splice_il (by first | omega | (simp [*]; done) | (simp [*]; omega)) | exact splice_whole (by first | (simp [opv, Value.cells, *]; done) | rfl) | (simp only [opv, n1, n2, Value.cells, splice, List.take_succ_cons, List.take_zero, List.drop_succ_cons, List.drop_zero, List.length_cons, List.length_nil, Nat.zero_add, Nat.reduceAdd, List.append_assoc, List.cons_append, List.nil_append]; rfl))) (hv := by first | rfl | (show (zi _ _).toArray.size = _; rw [zi_size (by omega)]; rfl) | (simp [opv, Value.cells, *]; done)) (hfit := by first | omega | (rw [zi_size (by omega)]; first | rfl | decide) | (simp only [ic_size, List.length_map, List.size_toArray]; first | omega | decide) | rfl | (simp [*]; done) | (simp [*]; omega)) (h1 := by first | exact zi_one _ _ | exact ic_one _ _ | simp [opv, Value.cells, Value.oneCell']) (h := fun w7 hS => ?_)
  try simp only [opv, n1, n2, n3, n4, Value.cells, Array.toArray_toList] at hS ⊢
  first | refine m_store_obj ti50 (hS := hS) (hc := by first | exact zi_set rfl (by omega) | exact zi_whole (by omega) (by omega) | (first | exact splice_ic (by first | omega | (simp [*]; done) | (simp [*]; omega)) | exact splice_il (by first | omega | (simp [*]; done) | (simp [*]; omega)) | exact splice_whole (by first | (simp [opv, Value.cells, *]; done) | rfl) | (simp only [opv, n1, n2, Value.cells, splice, List.take_succ_cons, List.take_zero, List.drop_succ_cons, List.drop_zero, List.length_cons, List.length_nil, Nat.zero_add, Nat.reduceAdd, List.append_assoc, List.cons_append, List.nil_append]; rfl))) (hv := by first | rfl | (show (zi _ _).toArray.size = _; rw [zi_size (by omega)]; rfl) | (simp [opv, Value.cells, *]; done)) (hfit := by first | omega | (rw [zi_size (by omega)]; first | rfl | decide) | (simp only [ic_size, List.length_map, List.size_toArray]; first | omega | decide) | rfl | (simp [*]; done) | (simp [*]; omega)) (h1 := by first | exact zi_one _ _ | exact ic_one _ _ | simp [opv, Value.cells, Value.oneCell']) (h := fun w8 hS => ?_) | refine m_store_vec ti50 (hS := hS) (hc := by first | exact zi_set rfl (by omega) | exact zi_whole (by omega) (by omega) | (first | exact splice_ic (by first | omega | (simp [*]; done) | (simp [*]; omega)) | exact splice_il (by first | omega | (simp [*]; done) | (simp [*]; omega)) | exact splice_whole (by first | (simp [opv, Value.cells, *]; done) | rfl) | (simp only [opv, n1, n2, Value.cells, splice, List.take_succ_cons, List.take_zero, List.drop_succ_cons, List.drop_zero, List.length_cons, List.length_nil, Nat.zero_add, Nat.reduceAdd, List.append_assoc, List.cons_append, List.nil_append]; rfl))) (hv := by first | rfl | (show (zi _ _).toArray.size = _; rw [zi_size (by omega)]; rfl) | (simp [opv, Value.cells, *]; done)) (hfit := by first | omega | (rw [zi_size (by omega)]; first | rfl | decide) | (simp only [ic_size, List.length_map, List.size_toArray]; first | omega | decide) | rfl | (simp [*]; done) | (simp [*]; omega)) (h1 := by first | exact zi_one _ _ | exact ic_one _ _ | simp [opv, Value.cells, Value.oneCell']) (h := fun w8 hS => ?_)
  try simp only [opv, n1, n2, n3, n4, Value.cells, Array.toArray_toList] at hS ⊢
  refine x_nil ?_
  refine hK10 _ _ ?_
  refine x_region ?_
  refine s_go (s_move) ?_
  try simp only [opv, n1, n2, n3, n4, Value.cells]
  first | refine s_go (m_load_row Try.underlying43 (hi := ti43) (hS := hS) (hfit := by first | omega | (rw [zi_size (by omega)]; first | rfl | decide) | (simp only [ic_size, List.length_map, List.size_toArray]; first | omega | decide) | rfl | (simp [*]; done) | (simp [*]; omega))) ?_ | refine s_go (m_loada_obj Try.underlying43 (hi := ti43) (hS := hS) (hfit := by first | omega | (rw [zi_size (by omega)]; first | rfl | decide) | (simp only [ic_size, List.length_map, List.size_toArray]; first | omega | decide) | rfl | (simp [*]; done) | (simp [*]; omega))) ?_ | refine s_go (m_loada_bx Try.underlying43 (hi := ti43) (hS := hS) (hfit := by first | omega | (rw [zi_size (by omega)]; first | rfl | decide) | (simp only [ic_size, List.length_map, List.size_toArray]; first | omega | decide) | rfl | (simp [*]; done) | (simp [*]; omega))) ?_ | refine s_go (m_loada_rd Try.underlying43 (hi := ti43) (hS := hS) (hfit := by first | omega | (rw [zi_size (by omega)]; first | rfl | decide) | (simp only [ic_size, List.length_map, List.size_toArray]; first | omega | decide) | rfl | (simp [*]; done) | (simp [*]; omega))) ?_ | refine s_go (m_loada_vec Try.underlying43 (hi := ti43) (hS := hS) (hfit := by first | omega | (rw [zi_size (by omega)]; first | rfl | decide) | (simp only [ic_size, List.length_map, List.size_toArray]; first | omega | decide) | rfl | (simp [*]; done) | (simp [*]; omega))) ?_
  try simp only [opv, n1, n2, n3, n4, Value.cells, List.getElem_toArray, List.getElem_cons_zero, List.getElem_cons_succ]
  first | refine s_go (m_load_row Try.underlying50 (hi := ti50) (hS := hS) (hfit := by first | omega | (rw [zi_size (by omega)]; first | rfl | decide) | (simp only [ic_size, List.length_map, List.size_toArray]; first | omega | decide) | rfl | (simp [*]; done) | (simp [*]; omega))) ?_ | refine s_go (m_loada_obj Try.underlying50 (hi := ti50) (hS := hS) (hfit := by first | omega | (rw [zi_size (by omega)]; first | rfl | decide) | (simp only [ic_size, List.length_map, List.size_toArray]; first | omega | decide) | rfl | (simp [*]; done) | (simp [*]; omega))) ?_ | refine s_go (m_loada_bx Try.underlying50 (hi := ti50) (hS := hS) (hfit := by first | omega | (rw [zi_size (by omega)]; first | rfl | decide) | (simp only [ic_size, List.length_map, List.size_toArray]; first | omega | decide) | rfl | (simp [*]; done) | (simp [*]; omega))) ?_ | refine s_go (m_loada_rd Try.underlying50 (hi := ti50) (hS := hS) (hfit := by first | omega | (rw [zi_size (by omega)]; first | rfl | decide) | (simp only [ic_size, List.length_map, List.size_toArray]; first | omega | decide) | rfl | (simp [*]; done) | (simp [*]; omega))) ?_ | refine s_go (m_loada_vec Try.underlying50 (hi := ti50) (hS := hS) (hfit := by first | omega | (rw [zi_size (by omega)]; first | rfl | decide) | (simp only [ic_size, List.length_map, List.size_toArray]; first | omega | decide) | rfl | (simp [*]; done) | (simp [*]; omega))) ?_
  try simp only [opv, n1, n2, n3, n4, Value.cells, List.getElem_toArray, List.getElem_cons_zero, List.getElem_cons_succ]
  refine s_go (s_build_struct (cells := (AA (akey a ++ aval a))) Try.underlying54 ti54 bp54 (hc := by simp only [List.map_toArray, List.map_cons, List.map_nil, opv, n1, n2, n3, n4, Value.cells, List.toList_toArray]; exact fill_atom (by rfl) (by rfl) (by rfl) hkl hvl)) ?_
  try simp only [opv, n1, n2, n3, n4, Value.cells]
  rw [kv_atom]
  refine m_buildRow (cells := (AA a)) Try.underlying22 ti54 (hc := by simp only [List.map_toArray, List.map_cons, List.map_nil, opv, n1, n2, n3, n4, Value.cells, List.toList_toArray]; exact fill_one (by rfl) (zi_size21 hal) (by rfl)) (hS := hS) (h := fun w9 g9 hS => ?_)
  try simp only [opv, n1, n2, n3, n4, Value.cells, Array.toArray_toList] at hS ⊢
  replace hS := hS.obj_rd (sz := 21) (n := 1) (by exact zi_size21 hal) .head
  rw [arow_one hal] at hS
  refine m_append Try.underlying22 ti54 (hS := hS) (h1 := rowsZ_cells _ _) (h := fun w10 A10 C10 hS => ?_)
  try simp only [← List.map_append, ← List.map_drop, ← List.map_take, Nat.mul_one, Nat.zero_mul, Nat.sub_zero, List.drop_zero, List.nil_append, Nat.zero_add] at hS ⊢
  try simp only [opv, n1, n2, n3, n4, Value.cells, Array.toArray_toList] at hS ⊢
  rw [← rowsZ_app] at hS
  refine s_go (s_assign) ?_
  try simp only [opv, n1, n2, n3, n4, Value.cells]
  refine x_nil ?_
  refine loop_back (m' := E.length - (seen.length + 1)) (by simp only [clob, List.foldl, n1, n2, n3, n4]) ?_ ?_
  · try simp only [opv, n1, n2, n3, n4, Value.cells]
    exact ⟨seen ++ [ix], _, _, pl ++ [a], hnd2, hlt2, by rw [List.length_append]; rfl, by rw [hpl, List.map_append, ← hax]; rfl, by rw [List.length_append]; rfl, by rw [List.length_append]; exact hS.sel (by repeat (first | exact Sel.nil | (refine Sel.cons (by repeat (first | exact Del.head | apply Del.tail)) ?_)))⟩
  · omega
end Go.Proofs.Ytffmanidnlbjjaa
set_option linter.unusedSimpArgs false
set_option linter.unusedVariables false
set_option maxHeartbeats 2000000
set_option maxRecDepth 100000
namespace Go.Proofs.Ytffmanidnlbjjaa
open Go.RowKit

/-- a row among rows -/
structure Rw where
  A : Option Addr
  c : Nat
  l : List (List Int)
def rwV (r : Rw) : Value := .slice r.A r.l.length r.c
structure RwOk (w : World) (r : Rw) : Prop where
  rd : Rd w r.A 21 r.l.length (arows r.l)
  ok : AOks r.l
def flatR (rs : List Rw) : List (List Int) := (rs.map (·.l)).flatten
def rw0 : Rw := ⟨none, 0, []⟩
theorem rws_len (rs : List Rw) : (rs.map rwV).length = rs.length := by simp
theorem rws_get {rs : List Rw} {k : Nat} {r : Rw} (hk : k < rs.length) (hr : rs.getD k rw0 = r) : (rs.map rwV)[k]? = some (.slice r.A r.l.length r.c) := by
  rw [List.getElem?_map, List.getElem?_eq_getElem hk]
  rw [List.getD_eq_getElem?_getD, List.getElem?_eq_getElem hk] at hr
  have hr : rs[k] = r := hr
  rw [hr]; rfl
theorem rws_mem {rs : List Rw} {k : Nat} {r : Rw} (hk : k < rs.length) (hr : rs.getD k rw0 = r) : r ∈ rs := by rw [← hr]; exact getD_mem' hk
theorem flat_ok {w : World} : ∀ {rs : List Rw}, (∀ r ∈ rs, RwOk w r) → AOks (flatR rs)
  | [], _ => AOks.nil
  | r :: rs, h => (h r (by simp)).ok.app (flat_ok fun q hq => h q (by simp [hq]))
theorem flat_take {rs : List Rw} {k : Nat} {r : Rw} (hk : k < rs.length) (hr : rs.getD k rw0 = r) : flatR (rs.take (k + 1)) = flatR (rs.take k) ++ r.l := by
  rw [List.getD_eq_getElem?_getD, List.getElem?_eq_getElem hk] at hr
  have hr : rs[k] = r := hr
  rw [flatR, List.take_succ_eq_append_getElem hk, List.map_append, List.flatten_append, hr]; simp [flatR]
theorem flat_len_take (rs : List Rw) (k : Nat) : (flatR (rs.take k)).length ≤ (flatR rs).length := by
  conv => rhs; rw [← List.take_append_drop k rs]
  rw [flatR, flatR, List.map_append, List.flatten_append, List.length_append]; exact Nat.le_add_right _ _
theorem allE_take {F l : List (List Int)} {j : Nat} {x : List Int} (hj : j < l.length) (hx : l.getD j [] = x) : allE (F ++ l.take (j + 1)) = stepE (allE (F ++ l.take j)) x := by
  rw [take_snoc hj, ← List.append_assoc, allE_snoc, hx]
theorem step_no {E : List (List Int)} {x : List Int} (h : atomR x = false) : stepE E x = E := by rw [stepE, if_neg (by rw [h]; decide)]
theorem step_new {E : List (List Int)} {x : List Int} (h : atomR x = true) (hf : fnd (akey x) E = none) : stepE E x = eput x E := by rw [stepE, if_pos h, newA, hf]
theorem step_more {E : List (List Int)} {x v : List Int} (h : atomR x = true) (hf : fnd (akey x) E = some v) : stepE E x = eput (akey x ++ moreV v (aval x)) E := by rw [stepE, if_pos h, newA, hf]
theorem is_none {o : Option (List Int)} (h : o.isSome = false) : o = none := by cases o; rfl; cases h
theorem is_some {o : Option (List Int)} {d : List Int} (h : o.isSome = true) : o = some (o.getD d) := by cases o; cases h; rfl

theorem c_latAll (w0 : World) (B : Option Addr) (d : Nat) (rs : List Rw) (hB : Rd w0 B 1 rs.length (rs.map rwV)) (hrs : ∀ r ∈ rs, RwOk w0 r) (hm : rs.length ≤ 1000000000) (hn : (flatR rs).length ≤ 1000000000)  :
    CallR Try.prog 99 #[.slice B rs.length d] w0 fun v w' => ∃ A c, v = .slice A (normP (flatR rs)).length c ∧ St NoB w0 w' [.vec A c 54 21 (normP (flatR rs)).length (arows (normP (flatR rs)))] := by
 have hS := St.rd1 (S := NoB) hB
 have hfo := flat_ok hrs
 have hrl := rws_len rs
 refine c_enter (l := [.slice B rs.length d, undef, undef, undef, undef, undef, undef, undef, undef, undef, undef, undef, undef, undef, undef, undef, undef, undef, undef, undef, undef, undef, undef, undef, undef, undef, undef, undef, undef, undef, undef, undef, undef, undef, undef, undef, undef, undef, undef, undef, undef, undef, undef, undef, undef, undef, undef, undef]) Try.func99 rfl (by simp only [Try.ntmps99, List.size_toArray, List.length_cons, List.length_nil, Nat.reduceAdd, Nat.reduceSub, Array.replicate_succ, Array.replicate_zero, List.push_toArray, List.append_toArray, List.nil_append, List.cons_append]) ?_
 refine x_seq fun K1 hK1 => ?_
 refine x_region ?_
 refine s_go (s_assign) ?_
 try simp only [opv, n1, n2, n3, n4, Value.cells]
 refine x_nil ?_
 refine hK1 _ _ ?_
 refine x_seq fun K2 hK2 => ?_
 refine x_region ?_
 refine m_makeMap kv43 hS (fun w1 g1 hS => ?_)
 try simp only [opv, n1, n2, n3, n4, Value.cells, Array.toArray_toList] at hS ⊢
 obtain ⟨gm, hgm⟩ : ∃ z, z = g1 := ⟨_, rfl⟩
 rw [← hgm] at hS ⊢
 refine s_go (s_assign) ?_
 try simp only [opv, n1, n2, n3, n4, Value.cells]
 refine x_nil ?_
 refine hK2 _ _ ?_
 refine x_seq fun K3 hK3 => ?_
 refine x_seq fun K4 hK4 => ?_
 refine x_region ?_
 refine s_go (s_move) ?_
 try simp only [opv, n1, n2, n3, n4, Value.cells]
 refine s_go (s_len_sl Try.underlying57) ?_
 try simp only [opv, n1, n2, n3, n4, Value.cells]
 refine s_go (s_move) ?_
 try simp only [opv, n1, n2, n3, n4, Value.cells]
 refine x_nil ?_
 refine hK4 _ _ ?_
 refine x_block ?_
 refine x_loop [5, 7, 8, 9, 13, 14, 15, 16, 17, 18, 19, 20, 21, 22, 23, 24, 25, 26, 27, 28, 29, 30, 31, 32, 33, 34, 35, 36, 37, 38, 39, 40, 41, 42, 43, 44, 45] (fun m f w => ∃ i : Nat, i ≤ rs.length ∧ m = rs.length - i ∧ f 13 = .int .i64 (i : Int) ∧ St NoB w0 w [.obj gm (mObj kv43 (encD (allE (flatR (rs.take i))))), .rd B 1 rs.length (rs.map rwV)]) (rs.length) ?init1 (fun m1 f1 wl1 hI => ?_)
 case init1 =>
  try simp only [opv, n1, n2, n3, n4, Value.cells]
  exact ⟨0, by omega, rfl, rfl, hS⟩
 obtain ⟨i, hi, hmi, h13, hS⟩ := hI
 simp only [clob, List.foldl, n3, n4, h13]
 refine x_seq fun K5 hK5 => ?_
 refine x_region ?_
 refine s_go (s_lss) ?_
 try simp only [opv, n1, n2, n3, n4, Value.cells]
 refine x_nil ?_
 refine hK5 _ _ ?_
 refine x_seq fun K6 hK6 => ?_
 refine x_cond (ht := fun hc1 => ?_) (hf := fun hc1 => ?_)
 ·
  try simp only [decide_eq_true_eq, decide_eq_false_iff_not, Bool.not_eq_true', Bool.not_eq_false', Int.not_lt, Int.not_le, ne_eq, Decidable.not_not, bne_iff_ne, beq_iff_eq, not_true_eq_false, not_false_eq_true] at hc1
  obtain ⟨r, hr⟩ : ∃ r, rs.getD i rw0 = r := ⟨_, rfl⟩
  have hrm := hrs r (rws_mem (by omega) hr)
  have hro := hrm.ok
  have hrd := hrm.rd
  have hft := flat_take (by omega) hr
  have hfl := flat_len_take rs (i + 1)
  rw [hft, List.length_append] at hfl
  obtain ⟨F, hF⟩ : ∃ F, flatR (rs.take i) = F := ⟨_, rfl⟩
  rw [hF] at hS hft hfl
  have hFo : AOks F := by rw [← hF]; exact flat_ok fun q hq => hrs q (List.mem_of_mem_take hq)
  have hvl := arows_len r.l
  refine x_skip ?_
  refine hK6 _ _ ?_
  refine x_seq fun K7 hK7 => ?_
  refine x_block ?_
  refine x_seq fun K8 hK8 => ?_
  refine x_region ?_
  first | refine s_go (m_indexAddr_rd Try.underlying57 ti22 (hS := hS)) ?_ | refine s_go (m_indexAddr_vec Try.underlying57 ti22 (hS := hS)) ?_
  try simp only [opv, n1, n2, n3, n4, Value.cells, Nat.mul_one, Nat.zero_add, Int.toNat_natCast, Int.reduceToNat]
  first | refine s_go (m_load_obj Try.underlying22 (hS := hS) (hv := rws_get (by omega) hr)) ?_ | refine s_go (m_load_bx Try.underlying22 (hS := hS) (hv := rws_get (by omega) hr)) ?_ | refine s_go (m_load_rd Try.underlying22 (hS := hS) (hv := rws_get (by omega) hr)) ?_ | refine s_go (m_load_vec Try.underlying22 (hS := hS) (hv := rws_get (by omega) hr)) ?_
  try simp only [opv, n1, n2, n3, n4, Value.cells, List.getElem_toArray, List.getElem_cons_zero, List.getElem_cons_succ]
  replace hS := hS.rd_old hrd
  refine s_go (s_assign) ?_
  try simp only [opv, n1, n2, n3, n4, Value.cells]
  refine x_nil ?_
  refine hK8 _ _ ?_
  refine x_seq fun K9 hK9 => ?_
  refine x_region ?_
  refine s_go (s_move) ?_
  try simp only [opv, n1, n2, n3, n4, Value.cells]
  refine s_go (s_len_sl Try.underlying22) ?_
  try simp only [opv, n1, n2, n3, n4, Value.cells]
  refine s_go (s_move) ?_
  try simp only [opv, n1, n2, n3, n4, Value.cells]
  refine x_nil ?_
  refine hK9 _ _ ?_
  refine x_block ?_
  refine x_loop [7, 8, 9, 19, 20, 21, 22, 23, 24, 25, 26, 27, 28, 29, 30, 31, 32, 33, 34, 35, 36, 37, 38, 39, 40, 41, 42, 43, 44] (fun m f w => ∃ j : Nat, j ≤ r.l.length ∧ m = r.l.length - j ∧ f 19 = .int .i64 (j : Int) ∧ St NoB w0 w [.obj gm (mObj kv43 (encD (allE (F ++ r.l.take j)))), .rd r.A 21 (r.l).length (arows (r.l)), .rd B 1 rs.length (rs.map rwV)]) (r.l.length) ?init2 (fun m2 f2 wl2 hI => ?_)
  case init2 =>
   try simp only [opv, n1, n2, n3, n4, Value.cells]
   exact ⟨0, by omega, rfl, rfl, by rw [List.take_zero, List.append_nil]; exact hS.sel (by repeat (first | exact Sel.nil | (refine Sel.cons (by repeat (first | exact Del.head | apply Del.tail)) ?_)))⟩
  obtain ⟨j, hj, hmj, h19, hS⟩ := hI
  simp only [clob, List.foldl, n3, n4, h19]
  obtain ⟨E, hE⟩ : ∃ E, allE (F ++ r.l.take j) = E := ⟨_, rfl⟩
  rw [hE] at hS
  have hEo : EOk E := by rw [← hE]; exact allE_ok (hFo.app (hro.take j))
  have hmok := enc_ok hEo.ok
  obtain ⟨x, hx⟩ : ∃ x, r.l.getD j [] = x := ⟨_, rfl⟩
  refine x_seq fun K10 hK10 => ?_
  refine x_region ?_
  refine s_go (s_lss) ?_
  try simp only [opv, n1, n2, n3, n4, Value.cells]
  refine x_nil ?_
  refine hK10 _ _ ?_
  refine x_seq fun K11 hK11 => ?_
  refine x_cond (ht := fun hc2 => ?_) (hf := fun hc2 => ?_)
  ·
   try simp only [decide_eq_true_eq, decide_eq_false_iff_not, Bool.not_eq_true', Bool.not_eq_false', Int.not_lt, Int.not_le, ne_eq, Decidable.not_not, bne_iff_ne, beq_iff_eq, not_true_eq_false, not_false_eq_true] at hc2
   have ha : AtomOk x := by rw [← hx]; exact hro.get (by omega)
   have hal := ha.len
   have hk := ha.key
   have hkl := hk.len
   have hvx := ha.val
   have hvl := hvx.len
   refine x_skip ?_
   refine hK11 _ _ ?_
   refine x_seq fun K12 hK12 => ?_
   refine x_block ?_
   refine x_seq fun K13 hK13 => ?_
   refine x_region ?_
   first | refine s_go (m_indexAddr_rd Try.underlying22 ti54 (hS := hS)) ?_ | refine s_go (m_indexAddr_vec Try.underlying22 ti54 (hS := hS)) ?_
   try simp only [opv, n1, n2, n3, n4, Value.cells, Nat.mul_one, Nat.zero_add, Int.toNat_natCast, Int.reduceToNat]
   first | refine s_go (m_load_row Try.underlying54 (hi := ti54) (hS := hS) (hfit := by rw [arows_len]; omega)) ?_ | refine s_go (m_loada_obj Try.underlying54 (hi := ti54) (hS := hS) (hfit := by rw [arows_len]; omega)) ?_ | refine s_go (m_loada_bx Try.underlying54 (hi := ti54) (hS := hS) (hfit := by rw [arows_len]; omega)) ?_ | refine s_go (m_loada_rd Try.underlying54 (hi := ti54) (hS := hS) (hfit := by rw [arows_len]; omega)) ?_ | refine s_go (m_loada_vec Try.underlying54 (hi := ti54) (hS := hS) (hfit := by rw [arows_len]; omega)) ?_
   try simp only [opv, n1, n2, n3, n4, Value.cells, List.getElem_toArray, List.getElem_cons_zero, List.getElem_cons_succ]
   rw [arow_get (by omega) hro, hx]
   refine m_alloc ti54 hS (fun w2 g2 hS => ?_)
   try simp only [opv, n1, n2, n3, n4, Value.cells, Array.toArray_toList] at hS ⊢
   have h0l : (List.replicate 21 (0 : Int)).length = 21 := rfl
   replace hS : St NoB w0 w2 (.obj g2 (.cells (AA (List.replicate 21 0)) 54 (0, 0)) :: _) := hS
   first | refine m_store_obj ti54 (hS := hS) (hc := by first | exact zi_set rfl (by omega) | exact zi_whole (by omega) (by omega) | (first | exact splice_ic (by first | omega | (simp [*]; done) | (simp [*]; omega)) | exact splice_il (by first | omega | (simp [*]; done) | (simp [*]; omega)) | exact splice_whole (by first | (simp [opv, Value.cells, *]; done) | rfl) | (simp only [opv, n1, n2, Value.cells, splice, List.take_succ_cons, List.take_zero, List.drop_succ_cons, List.drop_zero, List.length_cons, List.length_nil, Nat.zero_add, Nat.reduceAdd, List.append_assoc, List.cons_append, List.nil_append]; rfl))) (hv := by first | rfl | (show (zi _ _).toArray.size = _; rw [zi_size (by omega)]; rfl) | (simp [opv, Value.cells, *]; done)) (hfit := by first | omega | (rw [zi_size (by omega)]; first | rfl | decide) | (simp only [ic_size, List.length_map, List.size_toArray]; first | omega | decide) | rfl | (simp [*]; done) | (simp [*]; omega)) (h1 := by first | exact zi_one _ _ | exact ic_one _ _ | simp [opv, Value.cells, Value.oneCell']) (h := fun w3 hS => ?_) | refine m_store_vec ti54 (hS := hS) (hc := by first | exact zi_set rfl (by omega) | exact zi_whole (by omega) (by omega) | (first | exact splice_ic (by first | omega | (simp [*]; done) | (simp [*]; omega)) | exact splice_il (by first | omega | (simp [*]; done) | (simp [*]; omega)) | exact splice_whole (by first | (simp [opv, Value.cells, *]; done) | rfl) | (simp only [opv, n1, n2, Value.cells, splice, List.take_succ_cons, List.take_zero, List.drop_succ_cons, List.drop_zero, List.length_cons, List.length_nil, Nat.zero_add, Nat.reduceAdd, List.append_assoc, List.cons_append, List.nil_append]; rfl))) (hv := by first | rfl | (show (zi _ _).toArray.size = _; rw [zi_size (by omega)]; rfl) | (simp [opv, Value.cells, *]; done)) (hfit := by first | omega | (rw [zi_size (by omega)]; first | rfl | decide) | (simp only [ic_size, List.length_map, List.size_toArray]; first | omega | decide) | rfl | (simp [*]; done) | (simp [*]; omega)) (h1 := by first | exact zi_one _ _ | exact ic_one _ _ | simp [opv, Value.cells, Value.oneCell']) (h := fun w3 hS => ?_)
   try simp only [opv, n1, n2, n3, n4, Value.cells, Array.toArray_toList] at hS ⊢
   refine x_nil ?_
   refine hK13 _ _ ?_
   refine x_seq fun K14 hK14 => ?_
   refine x_seq fun K15 hK15 => ?_
   refine x_region ?_
   first | refine s_go (m_load_row Try.underlying54 (hi := ti54) (hS := hS) (hfit := by first | omega | (rw [zi_size (by omega)]; first | rfl | decide) | (simp only [ic_size, List.length_map, List.size_toArray]; first | omega | decide) | rfl | (simp [*]; done) | (simp [*]; omega))) ?_ | refine s_go (m_loada_obj Try.underlying54 (hi := ti54) (hS := hS) (hfit := by first | omega | (rw [zi_size (by omega)]; first | rfl | decide) | (simp only [ic_size, List.length_map, List.size_toArray]; first | omega | decide) | rfl | (simp [*]; done) | (simp [*]; omega))) ?_ | refine s_go (m_loada_bx Try.underlying54 (hi := ti54) (hS := hS) (hfit := by first | omega | (rw [zi_size (by omega)]; first | rfl | decide) | (simp only [ic_size, List.length_map, List.size_toArray]; first | omega | decide) | rfl | (simp [*]; done) | (simp [*]; omega))) ?_ | refine s_go (m_loada_rd Try.underlying54 (hi := ti54) (hS := hS) (hfit := by first | omega | (rw [zi_size (by omega)]; first | rfl | decide) | (simp only [ic_size, List.length_map, List.size_toArray]; first | omega | decide) | rfl | (simp [*]; done) | (simp [*]; omega))) ?_ | refine s_go (m_loada_vec Try.underlying54 (hi := ti54) (hS := hS) (hfit := by first | omega | (rw [zi_size (by omega)]; first | rfl | decide) | (simp only [ic_size, List.length_map, List.size_toArray]; first | omega | decide) | rfl | (simp [*]; done) | (simp [*]; omega))) ?_
   try simp only [opv, n1, n2, n3, n4, Value.cells, List.getElem_toArray, List.getElem_cons_zero, List.getElem_cons_succ]
   refine s_call en112 ?_
   try simp only [opv, n1, n2, n3, n4, Value.cells, List.map_toArray, List.map_cons, List.map_nil, List.append_toArray, List.cons_append, List.nil_append, Array.append_empty]
   refine CallR.mono (c_atomRight x ha _) ?_
   rintro _ w4 ⟨rfl, hE4⟩
   replace hS := hS.ext hE4
   try simp only [opv, n1, n2, n3, n4, Value.cells]
   refine s_go (s_not) ?_
   try simp only [opv, n1, n2, n3, n4, Value.cells]
   refine x_nil ?_
   refine hK15 _ _ ?_
   refine x_cond (ht := fun hc3 => ?_) (hf := fun hc3 => ?_)
   ·
    try simp only [decide_eq_true_eq, decide_eq_false_iff_not, Bool.not_eq_true', Bool.not_eq_false', Int.not_lt, Int.not_le, ne_eq, Decidable.not_not, bne_iff_ne, beq_iff_eq, not_true_eq_false, not_false_eq_true] at hc3
    have hax : atomR x = false := by simpa using hc3
    refine x_exit (look_here ?_)
    refine hK12 _ _ ?_
    refine x_region ?_
    refine s_go (s_add (hc := by first | exact wr_i64 (by omega) (by omega) | rfl)) ?_
    try simp only [opv, n1, n2, n3, n4, Value.cells]
    refine s_go (s_move) ?_
    try simp only [opv, n1, n2, n3, n4, Value.cells]
    refine x_nil ?_
    refine loop_back (m' := r.l.length - (j + 1)) (by simp only [clob, List.foldl, n1, n2, n3, n4]) ?_ ?_
    · try simp only [opv, n1, n2, n3, n4, Value.cells]
      first
      | exact ⟨j + 1, by omega, by omega, by rfl, by rw [hst]; exact hS.sel (by repeat (first | exact Sel.nil | (refine Sel.cons (by repeat (first | exact Del.head | apply Del.tail)) ?_)))⟩
      | exact ⟨j + 1, by omega, by omega, by rfl, by rw [allE_take (by omega) hx, hE, step_no hax]; exact hS.sel (by repeat (first | exact Sel.nil | (refine Sel.cons (by repeat (first | exact Del.head | apply Del.tail)) ?_)))⟩
    · omega
   ·
    try simp only [decide_eq_true_eq, decide_eq_false_iff_not, Bool.not_eq_true', Bool.not_eq_false', Int.not_lt, Int.not_le, ne_eq, Decidable.not_not, bne_iff_ne, beq_iff_eq, not_true_eq_false, not_false_eq_true] at hc3
    have hax : atomR x = true := by simpa using hc3
    refine x_skip ?_
    refine hK14 _ _ ?_
    refine x_seq fun K16 hK16 => ?_
    refine x_seq fun K17 hK17 => ?_
    refine x_region ?_
    refine s_go (s_move) ?_
    try simp only [opv, n1, n2, n3, n4, Value.cells]
    first | refine s_go (m_fieldAddr Try.underlying54 (hi := ti43)) ?_ | refine s_go (m_fieldAddr_rd Try.underlying54 (hi := ti43) (hS := hS)) ?_ | refine s_go (m_fieldAddr_vec Try.underlying54 (hi := ti43) (hS := hS)) ?_
    try simp only [opv, n1, n2, n3, n4, Value.cells, Nat.zero_add, Nat.add_zero, List.getElem_toArray, List.getElem_cons_zero, List.getElem_cons_succ]
    first | refine s_go (m_load_row Try.underlying43 (hi := ti43) (hS := hS) (hfit := by first | omega | (rw [zi_size (by omega)]; first | rfl | decide) | (simp only [ic_size, List.length_map, List.size_toArray]; first | omega | decide) | rfl | (simp [*]; done) | (simp [*]; omega))) ?_ | refine s_go (m_loada_obj Try.underlying43 (hi := ti43) (hS := hS) (hfit := by first | omega | (rw [zi_size (by omega)]; first | rfl | decide) | (simp only [ic_size, List.length_map, List.size_toArray]; first | omega | decide) | rfl | (simp [*]; done) | (simp [*]; omega))) ?_ | refine s_go (m_loada_bx Try.underlying43 (hi := ti43) (hS := hS) (hfit := by first | omega | (rw [zi_size (by omega)]; first | rfl | decide) | (simp only [ic_size, List.length_map, List.size_toArray]; first | omega | decide) | rfl | (simp [*]; done) | (simp [*]; omega))) ?_ | refine s_go (m_loada_rd Try.underlying43 (hi := ti43) (hS := hS) (hfit := by first | omega | (rw [zi_size (by omega)]; first | rfl | decide) | (simp only [ic_size, List.length_map, List.size_toArray]; first | omega | decide) | rfl | (simp [*]; done) | (simp [*]; omega))) ?_ | refine s_go (m_loada_vec Try.underlying43 (hi := ti43) (hS := hS) (hfit := by first | omega | (rw [zi_size (by omega)]; first | rfl | decide) | (simp only [ic_size, List.length_map, List.size_toArray]; first | omega | decide) | rfl | (simp [*]; done) | (simp [*]; omega))) ?_
    try simp only [opv, n1, n2, n3, n4, Value.cells, List.getElem_toArray, List.getElem_cons_zero, List.getElem_cons_succ]
    rw [atom_key hal]
    refine s_go (m_lookup_ok ky43 Try.underlying153 ti50 (hy := rfl) (ha := by first | trivial | assumption | omega) (hD := by first | assumption | exact mok_all | exact mok_nil | exact mput_ok (by first | assumption | omega) (by first | assumption | exact mok_nil)) (hS := hS)) ?_
    try simp only [opv, n1, n2, n3, n4, Value.cells]
    rw [enc_val, enc_is]
    refine s_go (s_move) ?_
    try simp only [opv, n1, n2, n3, n4, Value.cells]
    refine s_go (s_extract (hv := rfl)) ?_
    try simp only [List.getElem_toArray, List.getElem_cons_zero, List.getElem_cons_succ]
    try simp only [opv, n1, n2, n3, n4, Value.cells]
    refine s_go (s_extract (hv := rfl)) ?_
    try simp only [List.getElem_toArray, List.getElem_cons_zero, List.getElem_cons_succ]
    try simp only [opv, n1, n2, n3, n4, Value.cells]
    refine m_alloc ti50 hS (fun w5 g5 hS => ?_)
    try simp only [opv, n1, n2, n3, n4, Value.cells, Array.toArray_toList] at hS ⊢
    have h9l : v9.length = 9 := rfl
    have hfl9 := (fndD_ok (k := akey x) hEo.ok).len
    replace hS : St NoB w0 w5 (.obj g5 (.cells (VA v9) 50 (0, 0)) :: _) := hS
    first | refine m_store_obj ti50 (hS := hS) (hc := by first | exact zi_set rfl (by omega) | exact zi_whole (by omega) (by omega) | (first | exact splice_ic (by first | omega | (simp [*]; done) | (simp [*]; omega)) | exact splice_il (by first | omega | (simp [*]; done) | (simp [*]; omega)) | exact splice_whole (by first | (simp [opv, Value.cells, *]; done) | rfl) | (simp only [opv, n1, n2, Value.cells, splice, List.take_succ_cons, List.take_zero, List.drop_succ_cons, List.drop_zero, List.length_cons, List.length_nil, Nat.zero_add, Nat.reduceAdd, List.append_assoc, List.cons_append, List.nil_append]; rfl))) (hv := by first | rfl | (show (zi _ _).toArray.size = _; rw [zi_size (by omega)]; rfl) | (simp [opv, Value.cells, *]; done)) (hfit := by first | omega | (rw [zi_size (by omega)]; first | rfl | decide) | (simp only [ic_size, List.length_map, List.size_toArray]; first | omega | decide) | rfl | (simp [*]; done) | (simp [*]; omega)) (h1 := by first | exact zi_one _ _ | exact ic_one _ _ | simp [opv, Value.cells, Value.oneCell']) (h := fun w6 hS => ?_) | refine m_store_vec ti50 (hS := hS) (hc := by first | exact zi_set rfl (by omega) | exact zi_whole (by omega) (by omega) | (first | exact splice_ic (by first | omega | (simp [*]; done) | (simp [*]; omega)) | exact splice_il (by first | omega | (simp [*]; done) | (simp [*]; omega)) | exact splice_whole (by first | (simp [opv, Value.cells, *]; done) | rfl) | (simp only [opv, n1, n2, Value.cells, splice, List.take_succ_cons, List.take_zero, List.drop_succ_cons, List.drop_zero, List.length_cons, List.length_nil, Nat.zero_add, Nat.reduceAdd, List.append_assoc, List.cons_append, List.nil_append]; rfl))) (hv := by first | rfl | (show (zi _ _).toArray.size = _; rw [zi_size (by omega)]; rfl) | (simp [opv, Value.cells, *]; done)) (hfit := by first | omega | (rw [zi_size (by omega)]; first | rfl | decide) | (simp only [ic_size, List.length_map, List.size_toArray]; first | omega | decide) | rfl | (simp [*]; done) | (simp [*]; omega)) (h1 := by first | exact zi_one _ _ | exact ic_one _ _ | simp [opv, Value.cells, Value.oneCell']) (h := fun w6 hS => ?_)
    try simp only [opv, n1, n2, n3, n4, Value.cells, Array.toArray_toList] at hS ⊢
    refine s_go (s_assign) ?_
    try simp only [opv, n1, n2, n3, n4, Value.cells]
    refine x_nil ?_
    refine hK17 _ _ ?_
    refine x_seq fun K18 hK18 => ?_
    refine x_region ?_
    refine s_go (s_move) ?_
    try simp only [opv, n1, n2, n3, n4, Value.cells]
    refine x_nil ?_
    refine hK18 _ _ ?_
    refine x_cond (ht := fun hc4 => ?_) (hf := fun hc4 => ?_)
    ·
     try simp only [decide_eq_true_eq, decide_eq_false_iff_not, Bool.not_eq_true', Bool.not_eq_false', Int.not_lt, Int.not_le, ne_eq, Decidable.not_not, bne_iff_ne, beq_iff_eq, not_true_eq_false, not_false_eq_true] at hc4
     have hfs := is_some (d := v9) hc4
     have hwo : ValOk ((fnd (akey x) E).getD v9) := fndD_ok hEo.ok
     obtain ⟨v, hvv⟩ : ∃ v, (fnd (akey x) E).getD v9 = v := ⟨_, rfl⟩
     rw [hvv] at hfs hwo hS ⊢
     have hvm := more_ok hwo hvx
     obtain ⟨y, hy⟩ : ∃ y, akey x ++ moreV v (aval x) = y := ⟨_, rfl⟩
     have hyy := kv_ok hk hvm
     rw [hy] at hyy
     have hst : allE (F ++ r.l.take (j + 1)) = eput y E := by rw [allE_take (by omega) hx, hE, step_more hax hfs, hy]
     have hyl := hyy.len
     have hyk := hyy.key.len
     have hyv := hyy.val.len
     have hmvl := hvm.len
     have hvvl := hwo.len
     refine x_region ?_
     first | refine s_go (m_load_row Try.underlying50 (hi := ti50) (hS := hS) (hfit := by first | omega | (rw [zi_size (by omega)]; first | rfl | decide) | (simp only [ic_size, List.length_map, List.size_toArray]; first | omega | decide) | rfl | (simp [*]; done) | (simp [*]; omega))) ?_ | refine s_go (m_loada_obj Try.underlying50 (hi := ti50) (hS := hS) (hfit := by first | omega | (rw [zi_size (by omega)]; first | rfl | decide) | (simp only [ic_size, List.length_map, List.size_toArray]; first | omega | decide) | rfl | (simp [*]; done) | (simp [*]; omega))) ?_ | refine s_go (m_loada_bx Try.underlying50 (hi := ti50) (hS := hS) (hfit := by first | omega | (rw [zi_size (by omega)]; first | rfl | decide) | (simp only [ic_size, List.length_map, List.size_toArray]; first | omega | decide) | rfl | (simp [*]; done) | (simp [*]; omega))) ?_ | refine s_go (m_loada_rd Try.underlying50 (hi := ti50) (hS := hS) (hfit := by first | omega | (rw [zi_size (by omega)]; first | rfl | decide) | (simp only [ic_size, List.length_map, List.size_toArray]; first | omega | decide) | rfl | (simp [*]; done) | (simp [*]; omega))) ?_ | refine s_go (m_loada_vec Try.underlying50 (hi := ti50) (hS := hS) (hfit := by first | omega | (rw [zi_size (by omega)]; first | rfl | decide) | (simp only [ic_size, List.length_map, List.size_toArray]; first | omega | decide) | rfl | (simp [*]; done) | (simp [*]; omega))) ?_
     try simp only [opv, n1, n2, n3, n4, Value.cells, List.getElem_toArray, List.getElem_cons_zero, List.getElem_cons_succ]
     first | refine s_go (m_fieldAddr Try.underlying54 (hi := ti50)) ?_ | refine s_go (m_fieldAddr_rd Try.underlying54 (hi := ti50) (hS := hS)) ?_ | refine s_go (m_fieldAddr_vec Try.underlying54 (hi := ti50) (hS := hS)) ?_
     try simp only [opv, n1, n2, n3, n4, Value.cells, Nat.zero_add, Nat.add_zero, List.getElem_toArray, List.getElem_cons_zero, List.getElem_cons_succ]
     first | refine s_go (m_load_row Try.underlying50 (hi := ti50) (hS := hS) (hfit := by first | omega | (rw [zi_size (by omega)]; first | rfl | decide) | (simp only [ic_size, List.length_map, List.size_toArray]; first | omega | decide) | rfl | (simp [*]; done) | (simp [*]; omega))) ?_ | refine s_go (m_loada_obj Try.underlying50 (hi := ti50) (hS := hS) (hfit := by first | omega | (rw [zi_size (by omega)]; first | rfl | decide) | (simp only [ic_size, List.length_map, List.size_toArray]; first | omega | decide) | rfl | (simp [*]; done) | (simp [*]; omega))) ?_ | refine s_go (m_loada_bx Try.underlying50 (hi := ti50) (hS := hS) (hfit := by first | omega | (rw [zi_size (by omega)]; first | rfl | decide) | (simp only [ic_size, List.length_map, List.size_toArray]; first | omega | decide) | rfl | (simp [*]; done) | (simp [*]; omega))) ?_ | refine s_go (m_loada_rd Try.underlying50 (hi := ti50) (hS := hS) (hfit := by first | omega | (rw [zi_size (by omega)]; first | rfl | decide) | (simp only [ic_size, List.length_map, List.size_toArray]; first | omega | decide) | rfl | (simp [*]; done) | (simp [*]; omega))) ?_ | refine s_go (m_loada_vec Try.underlying50 (hi := ti50) (hS := hS) (hfit := by first | omega | (rw [zi_size (by omega)]; first | rfl | decide) | (simp only [ic_size, List.length_map, List.size_toArray]; first | omega | decide) | rfl | (simp [*]; done) | (simp [*]; omega))) ?_
     try simp only [opv, n1, n2, n3, n4, Value.cells, List.getElem_toArray, List.getElem_cons_zero, List.getElem_cons_succ]
     rw [atom_val hal]
     refine s_call en113 ?_
     try simp only [opv, n1, n2, n3, n4, Value.cells, List.map_toArray, List.map_cons, List.map_nil, List.append_toArray, List.cons_append, List.nil_append, Array.append_empty]
     refine CallR.mono (c_atomMore v (aval x) hwo hvx _) ?_
     rintro _ w7 ⟨rfl, hE7⟩
     replace hS := hS.ext hE7
     try simp only [opv, n1, n2, n3, n4, Value.cells]
     first | refine s_go (m_fieldAddr Try.underlying54 (hi := ti50)) ?_ | refine s_go (m_fieldAddr_rd Try.underlying54 (hi := ti50) (hS := hS)) ?_ | refine s_go (m_fieldAddr_vec Try.underlying54 (hi := ti50) (hS := hS)) ?_
     try simp only [opv, n1, n2, n3, n4, Value.cells, Nat.zero_add, Nat.add_zero, List.getElem_toArray, List.getElem_cons_zero, List.getElem_cons_succ]
     refine m_store_obj ti50 (hS := hS) (hc := by exact atom_put hal hmvl) (hv := by first | rfl | (show (zi _ _).toArray.size = _; rw [zi_size (by omega)]; rfl) | (simp [opv, Value.cells, *]; done)) (hfit := by first | omega | (rw [zi_size (by omega)]; first | rfl | decide) | (simp only [ic_size, List.length_map, List.size_toArray]; first | omega | decide) | rfl | (simp [*]; done) | (simp [*]; omega)) (h1 := by first | exact zi_one _ _ | exact ic_one _ _ | simp [opv, Value.cells, Value.oneCell']) (h := fun w8 hS => ?_)
     try simp only [opv, n1, n2, n3, n4, Value.cells, Array.toArray_toList] at hS ⊢
     rw [hy] at hS
     refine x_nil ?_
     refine hK16 _ _ ?_
     refine x_region ?_
     refine s_go (s_move) ?_
     try simp only [opv, n1, n2, n3, n4, Value.cells]
     first | refine s_go (m_fieldAddr Try.underlying54 (hi := ti43)) ?_ | refine s_go (m_fieldAddr_rd Try.underlying54 (hi := ti43) (hS := hS)) ?_ | refine s_go (m_fieldAddr_vec Try.underlying54 (hi := ti43) (hS := hS)) ?_
     try simp only [opv, n1, n2, n3, n4, Value.cells, Nat.zero_add, Nat.add_zero, List.getElem_toArray, List.getElem_cons_zero, List.getElem_cons_succ]
     first | refine s_go (m_load_row Try.underlying43 (hi := ti43) (hS := hS) (hfit := by first | omega | (rw [zi_size (by omega)]; first | rfl | decide) | (simp only [ic_size, List.length_map, List.size_toArray]; first | omega | decide) | rfl | (simp [*]; done) | (simp [*]; omega))) ?_ | refine s_go (m_loada_obj Try.underlying43 (hi := ti43) (hS := hS) (hfit := by first | omega | (rw [zi_size (by omega)]; first | rfl | decide) | (simp only [ic_size, List.length_map, List.size_toArray]; first | omega | decide) | rfl | (simp [*]; done) | (simp [*]; omega))) ?_ | refine s_go (m_loada_bx Try.underlying43 (hi := ti43) (hS := hS) (hfit := by first | omega | (rw [zi_size (by omega)]; first | rfl | decide) | (simp only [ic_size, List.length_map, List.size_toArray]; first | omega | decide) | rfl | (simp [*]; done) | (simp [*]; omega))) ?_ | refine s_go (m_loada_rd Try.underlying43 (hi := ti43) (hS := hS) (hfit := by first | omega | (rw [zi_size (by omega)]; first | rfl | decide) | (simp only [ic_size, List.length_map, List.size_toArray]; first | omega | decide) | rfl | (simp [*]; done) | (simp [*]; omega))) ?_ | refine s_go (m_loada_vec Try.underlying43 (hi := ti43) (hS := hS) (hfit := by first | omega | (rw [zi_size (by omega)]; first | rfl | decide) | (simp only [ic_size, List.length_map, List.size_toArray]; first | omega | decide) | rfl | (simp [*]; done) | (simp [*]; omega))) ?_
     try simp only [opv, n1, n2, n3, n4, Value.cells, List.getElem_toArray, List.getElem_cons_zero, List.getElem_cons_succ]
     rw [atom_key hyl]
     first | refine s_go (m_fieldAddr Try.underlying54 (hi := ti50)) ?_ | refine s_go (m_fieldAddr_rd Try.underlying54 (hi := ti50) (hS := hS)) ?_ | refine s_go (m_fieldAddr_vec Try.underlying54 (hi := ti50) (hS := hS)) ?_
     try simp only [opv, n1, n2, n3, n4, Value.cells, Nat.zero_add, Nat.add_zero, List.getElem_toArray, List.getElem_cons_zero, List.getElem_cons_succ]
     first | refine s_go (m_load_row Try.underlying50 (hi := ti50) (hS := hS) (hfit := by first | omega | (rw [zi_size (by omega)]; first | rfl | decide) | (simp only [ic_size, List.length_map, List.size_toArray]; first | omega | decide) | rfl | (simp [*]; done) | (simp [*]; omega))) ?_ | refine s_go (m_loada_obj Try.underlying50 (hi := ti50) (hS := hS) (hfit := by first | omega | (rw [zi_size (by omega)]; first | rfl | decide) | (simp only [ic_size, List.length_map, List.size_toArray]; first | omega | decide) | rfl | (simp [*]; done) | (simp [*]; omega))) ?_ | refine s_go (m_loada_bx Try.underlying50 (hi := ti50) (hS := hS) (hfit := by first | omega | (rw [zi_size (by omega)]; first | rfl | decide) | (simp only [ic_size, List.length_map, List.size_toArray]; first | omega | decide) | rfl | (simp [*]; done) | (simp [*]; omega))) ?_ | refine s_go (m_loada_rd Try.underlying50 (hi := ti50) (hS := hS) (hfit := by first | omega | (rw [zi_size (by omega)]; first | rfl | decide) | (simp only [ic_size, List.length_map, List.size_toArray]; first | omega | decide) | rfl | (simp [*]; done) | (simp [*]; omega))) ?_ | refine s_go (m_loada_vec Try.underlying50 (hi := ti50) (hS := hS) (hfit := by first | omega | (rw [zi_size (by omega)]; first | rfl | decide) | (simp only [ic_size, List.length_map, List.size_toArray]; first | omega | decide) | rfl | (simp [*]; done) | (simp [*]; omega))) ?_
     try simp only [opv, n1, n2, n3, n4, Value.cells, List.getElem_toArray, List.getElem_cons_zero, List.getElem_cons_succ]
     rw [atom_val hyl]
     have hyk2 := hyk
     refine m_mapUpdate ky43 Try.underlying153 (hy := rfl) (ha := by first | trivial | assumption | omega) (hD := by first | assumption | exact mok_all | exact mok_nil | exact mput_ok (by first | assumption | omega) (by first | assumption | exact mok_nil)) (hS := hS) (h := fun w9 hS => ?_)
     try simp only [opv, n1, n2, n3, n4, Value.cells, Array.toArray_toList] at hS ⊢
     rw [enc_put] at hS
     refine x_nil ?_
     refine hK12 _ _ ?_
     refine x_region ?_
     refine s_go (s_add (hc := by first | exact wr_i64 (by omega) (by omega) | rfl)) ?_
     try simp only [opv, n1, n2, n3, n4, Value.cells]
     refine s_go (s_move) ?_
     try simp only [opv, n1, n2, n3, n4, Value.cells]
     refine x_nil ?_
     refine loop_back (m' := r.l.length - (j + 1)) (by simp only [clob, List.foldl, n1, n2, n3, n4]) ?_ ?_
     · try simp only [opv, n1, n2, n3, n4, Value.cells]
       first
       | exact ⟨j + 1, by omega, by omega, by rfl, by rw [hst]; exact hS.sel (by repeat (first | exact Sel.nil | (refine Sel.cons (by repeat (first | exact Del.head | apply Del.tail)) ?_)))⟩
       | exact ⟨j + 1, by omega, by omega, by rfl, by rw [allE_take (by omega) hx, hE, step_no hax]; exact hS.sel (by repeat (first | exact Sel.nil | (refine Sel.cons (by repeat (first | exact Del.head | apply Del.tail)) ?_)))⟩
     · omega
    ·
     try simp only [decide_eq_true_eq, decide_eq_false_iff_not, Bool.not_eq_true', Bool.not_eq_false', Int.not_lt, Int.not_le, ne_eq, Decidable.not_not, bne_iff_ne, beq_iff_eq, not_true_eq_false, not_false_eq_true] at hc4
     obtain ⟨y, hy⟩ : ∃ y, x = y := ⟨_, rfl⟩
     have hst : allE (F ++ r.l.take (j + 1)) = eput y E := by rw [allE_take (by omega) hx, hE, step_new hax (is_none hc4), hy]
     have hyl : y.length = 21 := by rw [← hy]; exact hal
     have hyk : (akey y).length = 12 := by rw [← hy]; exact hkl
     have hyv : (aval y).length = 9 := by rw [← hy]; exact hvl
     rw [hy] at hS
     refine x_skip ?_
     refine hK16 _ _ ?_
     refine x_region ?_
     refine s_go (s_move) ?_
     try simp only [opv, n1, n2, n3, n4, Value.cells]
     first | refine s_go (m_fieldAddr Try.underlying54 (hi := ti43)) ?_ | refine s_go (m_fieldAddr_rd Try.underlying54 (hi := ti43) (hS := hS)) ?_ | refine s_go (m_fieldAddr_vec Try.underlying54 (hi := ti43) (hS := hS)) ?_
     try simp only [opv, n1, n2, n3, n4, Value.cells, Nat.zero_add, Nat.add_zero, List.getElem_toArray, List.getElem_cons_zero, List.getElem_cons_succ]
     first | refine s_go (m_load_row Try.underlying43 (hi := ti43) (hS := hS) (hfit := by first | omega | (rw [zi_size (by omega)]; first | rfl | decide) | (simp only [ic_size, List.length_map, List.size_toArray]; first | omega | decide) | rfl | (simp [*]; done) | (simp [*]; omega))) ?_ | refine s_go (m_loada_obj Try.underlying43 (hi := ti43) (hS := hS) (hfit := by first | omega | (rw [zi_size (by omega)]; first | rfl | decide) | (simp only [ic_size, List.length_map, List.size_toArray]; first | omega | decide) | rfl | (simp [*]; done) | (simp [*]; omega))) ?_ | refine s_go (m_loada_bx Try.underlying43 (hi := ti43) (hS := hS) (hfit := by first | omega | (rw [zi_size (by omega)]; first | rfl | decide) | (simp only [ic_size, List.length_map, List.size_toArray]; first | omega | decide) | rfl | (simp [*]; done) | (simp [*]; omega))) ?_ | refine s_go (m_loada_rd Try.underlying43 (hi := ti43) (hS := hS) (hfit := by first | omega | (rw [zi_size (by omega)]; first | rfl | decide) | (simp only [ic_size, List.length_map, List.size_toArray]; first | omega | decide) | rfl | (simp [*]; done) | (simp [*]; omega))) ?_ | refine s_go (m_loada_vec Try.underlying43 (hi := ti43) (hS := hS) (hfit := by first | omega | (rw [zi_size (by omega)]; first | rfl | decide) | (simp only [ic_size, List.length_map, List.size_toArray]; first | omega | decide) | rfl | (simp [*]; done) | (simp [*]; omega))) ?_
     try simp only [opv, n1, n2, n3, n4, Value.cells, List.getElem_toArray, List.getElem_cons_zero, List.getElem_cons_succ]
     rw [atom_key hyl]
     first | refine s_go (m_fieldAddr Try.underlying54 (hi := ti50)) ?_ | refine s_go (m_fieldAddr_rd Try.underlying54 (hi := ti50) (hS := hS)) ?_ | refine s_go (m_fieldAddr_vec Try.underlying54 (hi := ti50) (hS := hS)) ?_
     try simp only [opv, n1, n2, n3, n4, Value.cells, Nat.zero_add, Nat.add_zero, List.getElem_toArray, List.getElem_cons_zero, List.getElem_cons_succ]
     first | refine s_go (m_load_row Try.underlying50 (hi := ti50) (hS := hS) (hfit := by first | omega | (rw [zi_size (by omega)]; first | rfl | decide) | (simp only [ic_size, List.length_map, List.size_toArray]; first | omega | decide) | rfl | (simp [*]; done) | (simp [*]; omega))) ?_ | refine s_go (m_loada_obj Try.underlying50 (hi := ti50) (hS := hS) (hfit := by first | omega | (rw [zi_size (by omega)]; first | rfl | decide) | (simp only [ic_size, List.length_map, List.size_toArray]; first | omega | decide) | rfl | (simp [*]; done) | (simp [*]; omega))) ?_ | refine s_go (m_loada_bx Try.underlying50 (hi := ti50) (hS := hS) (hfit := by first | omega | (rw [zi_size (by omega)]; first | rfl | decide) | (simp only [ic_size, List.length_map, List.size_toArray]; first | omega | decide) | rfl | (simp [*]; done) | (simp [*]; omega))) ?_ | refine s_go (m_loada_rd Try.underlying50 (hi := ti50) (hS := hS) (hfit := by first | omega | (rw [zi_size (by omega)]; first | rfl | decide) | (simp only [ic_size, List.length_map, List.size_toArray]; first | omega | decide) | rfl | (simp [*]; done) | (simp [*]; omega))) ?_ | refine s_go (m_loada_vec Try.underlying50 (hi := ti50) (hS := hS) (hfit := by first | omega | (rw [zi_size (by omega)]; first | rfl | decide) | (simp only [ic_size, List.length_map, List.size_toArray]; first | omega | decide) | rfl | (simp [*]; done) | (simp [*]; omega))) ?_
     try simp only [opv, n1, n2, n3, n4, Value.cells, List.getElem_toArray, List.getElem_cons_zero, List.getElem_cons_succ]
     rw [atom_val hyl]
     have hyk2 := hyk
     refine m_mapUpdate ky43 Try.underlying153 (hy := rfl) (ha := by first | trivial | assumption | omega) (hD := by first | assumption | exact mok_all | exact mok_nil | exact mput_ok (by first | assumption | omega) (by first | assumption | exact mok_nil)) (hS := hS) (h := fun w10 hS => ?_)
     try simp only [opv, n1, n2, n3, n4, Value.cells, Array.toArray_toList] at hS ⊢
     rw [enc_put] at hS
     refine x_nil ?_
     refine hK12 _ _ ?_
     refine x_region ?_
     refine s_go (s_add (hc := by first | exact wr_i64 (by omega) (by omega) | rfl)) ?_
     try simp only [opv, n1, n2, n3, n4, Value.cells]
     refine s_go (s_move) ?_
     try simp only [opv, n1, n2, n3, n4, Value.cells]
     refine x_nil ?_
     refine loop_back (m' := r.l.length - (j + 1)) (by simp only [clob, List.foldl, n1, n2, n3, n4]) ?_ ?_
     · try simp only [opv, n1, n2, n3, n4, Value.cells]
       first
       | exact ⟨j + 1, by omega, by omega, by rfl, by rw [hst]; exact hS.sel (by repeat (first | exact Sel.nil | (refine Sel.cons (by repeat (first | exact Del.head | apply Del.tail)) ?_)))⟩
       | exact ⟨j + 1, by omega, by omega, by rfl, by rw [allE_take (by omega) hx, hE, step_no hax]; exact hS.sel (by repeat (first | exact Sel.nil | (refine Sel.cons (by repeat (first | exact Del.head | apply Del.tail)) ?_)))⟩
     · omega
  ·
   try simp only [decide_eq_true_eq, decide_eq_false_iff_not, Bool.not_eq_true', Bool.not_eq_false', Int.not_lt, Int.not_le, ne_eq, Decidable.not_not, bne_iff_ne, beq_iff_eq, not_true_eq_false, not_false_eq_true] at hc2
   obtain rfl : j = r.l.length := by omega
   refine x_exit (look_here ?_)
   refine hK7 _ _ ?_
   refine x_region ?_
   refine s_go (s_add (hc := by first | exact wr_i64 (by omega) (by omega) | rfl)) ?_
   try simp only [opv, n1, n2, n3, n4, Value.cells]
   refine s_go (s_move) ?_
   try simp only [opv, n1, n2, n3, n4, Value.cells]
   refine x_nil ?_
   refine loop_back (m' := rs.length - (i + 1)) (by simp only [clob, List.foldl, n1, n2, n3, n4]) ?_ ?_
   · try simp only [opv, n1, n2, n3, n4, Value.cells]
     rw [List.take_of_length_le (by omega)] at hE
     rw [← hft] at hE
     rw [← hE] at hS
     exact ⟨i + 1, by omega, by omega, by rfl, hS.sel (by repeat (first | exact Sel.nil | (refine Sel.cons (by repeat (first | exact Del.head | apply Del.tail)) ?_)))⟩
   · omega
 ·
  try simp only [decide_eq_true_eq, decide_eq_false_iff_not, Bool.not_eq_true', Bool.not_eq_false', Int.not_lt, Int.not_le, ne_eq, Decidable.not_not, bne_iff_ne, beq_iff_eq, not_true_eq_false, not_false_eq_true] at hc1
  obtain rfl : i = rs.length := by omega
  rw [List.take_of_length_le (Nat.le_refl _)] at hS
  refine x_exit (look_here ?_)
  refine hK3 _ _ ?_
  refine x_seq fun K19 hK19 => ?_
  refine x_region ?_
  refine s_go (s_move) ?_
  try simp only [opv, n1, n2, n3, n4, Value.cells]
  refine s_call en114 ?_
  try simp only [opv, n1, n2, n3, n4, Value.cells, List.map_toArray, List.map_cons, List.map_nil, List.append_toArray, List.cons_append, List.nil_append, Array.append_empty]
  refine CallR.mono (c_latState _ gm (allE (flatR rs)) (allE_ok hfo) (by have := allE_len (flatR rs); omega) (hS.owns (by repeat (first | exact Spl.nil | (apply Spl.cons (by repeat (first | exact Del.head | apply Del.tail))))))) ?_
  rintro _ w11 ⟨A11, c11, rfl, hC11⟩
  replace hS := hS.frame (by repeat (first | exact Spl.nil | (apply Spl.cons (by repeat (first | exact Del.head | apply Del.tail))))) hC11 (by intro r hr g hg; simp only [List.mem_cons, List.not_mem_nil, or_false] at hr; subst hr; first | (simp [Res.reads] at hg; done) | exact .inr ⟨_, by simp, .inr hg⟩)
  simp only [List.cons_append, List.nil_append] at hS
  rw [norm_allE hfo] at hS ⊢
  try simp only [opv, n1, n2, n3, n4, Value.cells]
  refine s_go (s_assign) ?_
  try simp only [opv, n1, n2, n3, n4, Value.cells]
  refine x_nil ?_
  refine hK19 _ _ ?_
  refine x_ret ?_
  refine r_tmp rfl ?_
  exact ⟨_, _, rfl, hS.sel (by repeat (first | exact Sel.nil | (refine Sel.cons (by repeat (first | exact Del.head | apply Del.tail)) ?_)))⟩
end Go.Proofs.Ytffmanidnlbjjaa
set_option linter.unusedSimpArgs false
set_option linter.unusedVariables false
set_option maxHeartbeats 600000
set_option maxRecDepth 100000
namespace Go.Proofs.Ytffmanidnlbjjaa
open Go.RowKit

theorem rw_one {w : World} {A : Option Addr} {c : Nat} {l : List (List Int)} (h : Rd w A 21 l.length (arows l)) (hv : AOks l) : ∀ r ∈ [(⟨A, c, l⟩ : Rw)], RwOk w r := fun r hr => by rw [List.mem_singleton] at hr; rw [hr]; exact ⟨h, hv⟩
theorem flat_one (A : Option Addr) (c : Nat) (l : List (List Int)) : flatR [⟨A, c, l⟩] = l := by simp [flatR]
theorem c_latNorm (w0 : World) (A : Option Addr) (c : Nat) (l : List (List Int)) (hr : Rd w0 A 21 l.length (arows l)) (hv : AOks l) (hn : l.length ≤ 1000000000)  :
    CallR Try.prog 68 #[.slice A l.length c] w0 fun v w' => ∃ A c, v = .slice A (normP l).length c ∧ St NoB w0 w' [.vec A c 54 21 (normP l).length (arows (normP l))] := by
 have hS := St.rd1 (S := NoB) hr
 refine c_enter (l := [.slice A l.length c, undef, undef, undef, undef, undef]) Try.func68 rfl (by simp only [Try.ntmps68, List.size_toArray, List.length_cons, List.length_nil, Nat.reduceAdd, Nat.reduceSub, Array.replicate_succ, Array.replicate_zero, List.push_toArray, List.append_toArray, List.nil_append, List.cons_append]) ?_
 refine x_seq fun K1 hK1 => ?_
 refine x_region ?_
 refine s_go (s_assign) ?_
 try simp only [opv, n1, n2, n3, n4, Value.cells]
 refine x_nil ?_
 refine hK1 _ _ ?_
 refine x_seq fun K2 hK2 => ?_
 refine x_region ?_
 refine s_go (s_move) ?_
 try simp only [opv, n1, n2, n3, n4, Value.cells]
 refine m_buildRow (cells := #[_]) Try.underlying57 ti22 (hc := by simp only [List.map_toArray, List.map_cons, List.map_nil, opv, n1, n2, n3, n4, Value.cells, List.toList_toArray]; (repeat (refine fill_cons rfl rfl (Nat.le_of_ble_eq_true rfl) ?_)); rfl) (hS := hS) (h := fun w1 g1 hS => ?_)
 try simp only [opv, n1, n2, n3, n4, Value.cells, Array.toArray_toList] at hS ⊢
 replace hS := hS.obj_rd (sz := 1) (n := 1) rfl .head
 refine s_call en99 ?_
 try simp only [opv, n1, n2, n3, n4, Value.cells, List.map_toArray, List.map_cons, List.map_nil, List.append_toArray, List.cons_append, List.nil_append, Array.append_empty]
 refine CallR.mono (c_latAll _ (some ⟨g1, 0, none⟩) 1 [⟨A, c, l⟩] (hS.hasRd (by repeat (first | exact Has.head | apply Has.tail))) (rw_one (hS.hasRd (by repeat (first | exact Has.head | apply Has.tail))) hv) (Nat.le_of_ble_eq_true rfl) (by rw [flat_one]; omega)) ?_
 rintro _ w2 ⟨A2, c2, rfl, hC2⟩
 replace hS := hS.call hC2
 simp only [List.cons_append, List.nil_append] at hS
 rw [flat_one] at hS ⊢
 try simp only [opv, n1, n2, n3, n4, Value.cells]
 refine s_go (s_assign) ?_
 try simp only [opv, n1, n2, n3, n4, Value.cells]
 refine x_nil ?_
 refine hK2 _ _ ?_
 refine x_ret ?_
 refine r_tmp rfl ?_
 exact ⟨_, _, rfl, hS.sel (by repeat (first | exact Sel.nil | (refine Sel.cons (by repeat (first | exact Del.head | apply Del.tail)) ?_)))⟩
end Go.Proofs.Ytffmanidnlbjjaa
set_option linter.unusedSimpArgs false
set_option linter.unusedVariables false
set_option maxHeartbeats 600000
set_option maxRecDepth 100000
namespace Go.Proofs.Ytffmanidnlbjjaa
open Go.RowKit

theorem c_ref10Rows (w0 : World) (A : Option Addr) (c : Nat) (l : List (List Int)) (hr : Rd w0 A 21 l.length (arows l)) (hv : AOks l) (B : Option Addr) (d : Nat) (r : List (List Int)) (hr2 : Rd w0 B 21 r.length (arows r)) (hv2 : AOks r) (hn : l.length + r.length ≤ 4000000000)  :
    CallR Try.prog 14 #[.slice A l.length c, .slice B r.length d] w0 fun v w' => v = .bool (decide (l = r)) ∧ Ext w0 w' := by
 have hS := St.rd2 (S := NoB) hr hr2
 have hnl := arows_len l
 have hnr := arows_len r
 refine c_enter (l := [.slice A l.length c, .slice B r.length d, undef, undef, undef, undef, undef, undef, undef, undef, undef, undef, undef, undef, undef, undef, undef, undef, undef, undef, undef, undef, undef, undef, undef, undef]) Try.func14 rfl (by simp only [Try.ntmps14, List.size_toArray, List.length_cons, List.length_nil, Nat.reduceAdd, Nat.reduceSub, Array.replicate_succ, Array.replicate_zero, List.push_toArray, List.append_toArray, List.nil_append, List.cons_append]) ?_
 refine x_seq fun K1 hK1 => ?_
 refine x_region ?_
 refine s_go (s_assign) ?_
 try simp only [opv, n1, n2, n3, n4, Value.cells]
 refine x_nil ?_
 refine hK1 _ _ ?_
 refine x_seq fun K2 hK2 => ?_
 refine x_seq fun K3 hK3 => ?_
 refine x_region ?_
 refine s_go (s_move) ?_
 try simp only [opv, n1, n2, n3, n4, Value.cells]
 refine s_go (s_len_sl Try.underlying22) ?_
 try simp only [opv, n1, n2, n3, n4, Value.cells]
 refine s_go (s_move) ?_
 try simp only [opv, n1, n2, n3, n4, Value.cells]
 refine s_go (s_len_sl Try.underlying22) ?_
 try simp only [opv, n1, n2, n3, n4, Value.cells]
 refine s_go (s_neq) ?_
 try simp only [opv, n1, n2, n3, n4, Value.cells]
 refine x_nil ?_
 refine hK3 _ _ ?_
 refine x_cond (ht := fun hc1 => ?_) (hf := fun hc1 => ?_)
 ·
  try simp only [decide_eq_true_eq, decide_eq_false_iff_not, Bool.not_eq_true', Bool.not_eq_false', Int.not_lt, Int.not_le, ne_eq, Decidable.not_not, bne_iff_ne, beq_iff_eq, not_true_eq_false, not_false_eq_true] at hc1
  have hne : ¬ l = r := fun h => hc1 (by rw [h])
  refine x_seq fun K4 hK4 => ?_
  refine x_region ?_
  refine s_go (s_assign) ?_
  try simp only [opv, n1, n2, n3, n4, Value.cells]
  refine x_nil ?_
  refine hK4 _ _ ?_
  refine x_ret ?_
  refine r_tmp rfl ?_
  exact ⟨by first | exact congrArg Value.bool (decide_eq_true (by assumption)).symm | exact congrArg Value.bool (decide_eq_false (by assumption)).symm, hS.ext_of⟩
 ·
  try simp only [decide_eq_true_eq, decide_eq_false_iff_not, Bool.not_eq_true', Bool.not_eq_false', Int.not_lt, Int.not_le, ne_eq, Decidable.not_not, bne_iff_ne, beq_iff_eq, not_true_eq_false, not_false_eq_true] at hc1
  have hlr : l.length = r.length := by omega
  refine x_skip ?_
  refine hK2 _ _ ?_
  refine x_seq fun K5 hK5 => ?_
  refine x_seq fun K6 hK6 => ?_
  refine x_region ?_
  refine s_go (s_assign) ?_
  try simp only [opv, n1, n2, n3, n4, Value.cells]
  refine x_nil ?_
  refine hK6 _ _ ?_
  refine x_block ?_
  refine x_loop [4, 5, 11, 12, 13, 14, 15, 16, 17, 18, 19, 20, 21, 22, 23, 24, 25] (fun m f w => ∃ k : Nat, k ≤ l.length ∧ m = l.length - k ∧ f 5 = .int .i64 (k : Int) ∧ l.take k = r.take k ∧ St NoB w0 w [.rd A 21 (l).length (arows (l)), .rd B 21 (r).length (arows (r))]) (l.length) ?init1 (fun m1 f1 wl1 hI => ?_)
  case init1 =>
   try simp only [opv, n1, n2, n3, n4, Value.cells]
   exact ⟨0, by omega, rfl, rfl, rfl, hS⟩
  obtain ⟨k, hk0, hm, h5, hab, hS⟩ := hI
  simp only [clob, List.foldl, n3, n4, h5]
  obtain ⟨x, hx⟩ : ∃ x, l.getD k [] = x := ⟨_, rfl⟩
  obtain ⟨y, hy⟩ : ∃ y, r.getD k [] = y := ⟨_, rfl⟩
  refine x_seq fun K7 hK7 => ?_
  refine x_seq fun K8 hK8 => ?_
  refine x_region ?_
  refine s_go (s_move) ?_
  try simp only [opv, n1, n2, n3, n4, Value.cells]
  refine s_go (s_move) ?_
  try simp only [opv, n1, n2, n3, n4, Value.cells]
  refine s_go (s_len_sl Try.underlying22) ?_
  try simp only [opv, n1, n2, n3, n4, Value.cells]
  refine s_go (s_lss) ?_
  try simp only [opv, n1, n2, n3, n4, Value.cells]
  refine x_nil ?_
  refine hK8 _ _ ?_
  refine x_cond (ht := fun hc2 => ?_) (hf := fun hc2 => ?_)
  ·
   try simp only [decide_eq_true_eq, decide_eq_false_iff_not, Bool.not_eq_true', Bool.not_eq_false', Int.not_lt, Int.not_le, ne_eq, Decidable.not_not, bne_iff_ne, beq_iff_eq, not_true_eq_false, not_false_eq_true] at hc2
   have hxl : x.length = 21 := by rw [← hx]; exact (hv.get (by omega)).len
   have hyl : y.length = 21 := by rw [← hy]; exact (hv2.get (by omega)).len
   refine x_skip ?_
   refine hK7 _ _ ?_
   refine x_seq fun K9 hK9 => ?_
   refine x_block ?_
   refine x_seq fun K10 hK10 => ?_
   refine x_quiet (by kernel_rfl) (by kernel_rfl) hS ?_
   refine q_go (fun w hS => s_move) ?_
   try simp only [opv, n1, n2, n3, n4, Value.cells]
   refine q_go (fun w hS => s_move) ?_
   try simp only [opv, n1, n2, n3, n4, Value.cells]
   first | refine q_go (fun w hS => m_indexAddr_rd Try.underlying22 ti54 (hS := hS)) ?_ | refine q_go (fun w hS => m_indexAddr_vec Try.underlying22 ti54 (hS := hS)) ?_
   try simp only [opv, n1, n2, n3, n4, Value.cells, Nat.mul_one, Nat.zero_add, Int.toNat_natCast, Int.reduceToNat]
   first | refine q_go (fun w hS => m_load_row Try.underlying54 (hi := ti54) (hS := hS) (hfit := by rw [arows_len]; omega)) ?_ | refine q_go (fun w hS => m_loada_obj Try.underlying54 (hi := ti54) (hS := hS) (hfit := by rw [arows_len]; omega)) ?_ | refine q_go (fun w hS => m_loada_bx Try.underlying54 (hi := ti54) (hS := hS) (hfit := by rw [arows_len]; omega)) ?_ | refine q_go (fun w hS => m_loada_rd Try.underlying54 (hi := ti54) (hS := hS) (hfit := by rw [arows_len]; omega)) ?_ | refine q_go (fun w hS => m_loada_vec Try.underlying54 (hi := ti54) (hS := hS) (hfit := by rw [arows_len]; omega)) ?_
   try simp only [opv, n1, n2, n3, n4, Value.cells, List.getElem_toArray, List.getElem_cons_zero, List.getElem_cons_succ]
   rw [arow_get (by omega) hv, hx]
   refine q_go (fun w hS => s_move) ?_
   try simp only [opv, n1, n2, n3, n4, Value.cells]
   refine q_go (fun w hS => s_move) ?_
   try simp only [opv, n1, n2, n3, n4, Value.cells]
   first | refine q_go (fun w hS => m_indexAddr_rd Try.underlying22 ti54 (hS := hS)) ?_ | refine q_go (fun w hS => m_indexAddr_vec Try.underlying22 ti54 (hS := hS)) ?_
   try simp only [opv, n1, n2, n3, n4, Value.cells, Nat.mul_one, Nat.zero_add, Int.toNat_natCast, Int.reduceToNat]
   first | refine q_go (fun w hS => m_load_row Try.underlying54 (hi := ti54) (hS := hS) (hfit := by rw [arows_len]; omega)) ?_ | refine q_go (fun w hS => m_loada_obj Try.underlying54 (hi := ti54) (hS := hS) (hfit := by rw [arows_len]; omega)) ?_ | refine q_go (fun w hS => m_loada_bx Try.underlying54 (hi := ti54) (hS := hS) (hfit := by rw [arows_len]; omega)) ?_ | refine q_go (fun w hS => m_loada_rd Try.underlying54 (hi := ti54) (hS := hS) (hfit := by rw [arows_len]; omega)) ?_ | refine q_go (fun w hS => m_loada_vec Try.underlying54 (hi := ti54) (hS := hS) (hfit := by rw [arows_len]; omega)) ?_
   try simp only [opv, n1, n2, n3, n4, Value.cells, List.getElem_toArray, List.getElem_cons_zero, List.getElem_cons_succ]
   rw [arow_get (by omega) hv2, hy]
   refine q_go (fun w hS => s_neq_agg eqv54 (hg := eg54) (hX := rfl) (hY := rfl) (h1 := by assumption) (h2 := by assumption)) ?_
   try simp only [opv, n1, n2, n3, n4, Value.cells]
   clear hS
   refine q_nil fun w1 hS => ?_
   refine hK10 _ _ ?_
   refine x_cond (ht := fun hc3 => ?_) (hf := fun hc3 => ?_)
   ·
    try simp only [decide_eq_true_eq, decide_eq_false_iff_not, Bool.not_eq_true', Bool.not_eq_false', Int.not_lt, Int.not_le, ne_eq, Decidable.not_not, bne_iff_ne, beq_iff_eq, not_true_eq_false, not_false_eq_true] at hc3
    have hne : ¬ l = r := fun h => by rw [h, hy] at hx; exact hc3 hx.symm
    refine x_seq fun K11 hK11 => ?_
    refine x_region ?_
    refine s_go (s_assign) ?_
    try simp only [opv, n1, n2, n3, n4, Value.cells]
    refine x_nil ?_
    refine hK11 _ _ ?_
    refine x_ret ?_
    refine r_tmp rfl ?_
    exact ⟨by first | exact congrArg Value.bool (decide_eq_true (by assumption)).symm | exact congrArg Value.bool (decide_eq_false (by assumption)).symm, hS.ext_of⟩
   ·
    try simp only [decide_eq_true_eq, decide_eq_false_iff_not, Bool.not_eq_true', Bool.not_eq_false', Int.not_lt, Int.not_le, ne_eq, Decidable.not_not, bne_iff_ne, beq_iff_eq, not_true_eq_false, not_false_eq_true] at hc3
    have hxy : x = y := hc3
    refine x_skip ?_
    refine hK9 _ _ ?_
    refine x_region ?_
    refine s_go (s_move) ?_
    try simp only [opv, n1, n2, n3, n4, Value.cells]
    refine s_go (s_add (hc := by first | exact wr_i64 (by omega) (by omega) | rfl)) ?_
    try simp only [opv, n1, n2, n3, n4, Value.cells]
    refine s_go (s_assign) ?_
    try simp only [opv, n1, n2, n3, n4, Value.cells]
    refine x_nil ?_
    refine loop_back (m' := l.length - (k + 1)) (by simp only [clob, List.foldl, n1, n2, n3, n4]) ?_ ?_
    · try simp only [opv, n1, n2, n3, n4, Value.cells]
      exact ⟨k + 1, by omega, by omega, by rfl, by rw [take_snoc (by omega), take_snoc (by omega), hab, hx, hy, hxy], hS⟩
    · omega
  ·
   try simp only [decide_eq_true_eq, decide_eq_false_iff_not, Bool.not_eq_true', Bool.not_eq_false', Int.not_lt, Int.not_le, ne_eq, Decidable.not_not, bne_iff_ne, beq_iff_eq, not_true_eq_false, not_false_eq_true] at hc2
   obtain rfl : k = l.length := by omega
   have heq : l = r := by rw [List.take_of_length_le (Nat.le_refl _), hlr, List.take_of_length_le (Nat.le_refl _)] at hab; exact hab
   refine x_exit (look_here ?_)
   refine hK5 _ _ ?_
   refine x_seq fun K12 hK12 => ?_
   refine x_region ?_
   refine s_go (s_assign) ?_
   try simp only [opv, n1, n2, n3, n4, Value.cells]
   refine x_nil ?_
   refine hK12 _ _ ?_
   refine x_ret ?_
   refine r_tmp rfl ?_
   exact ⟨by first | exact congrArg Value.bool (decide_eq_true (by assumption)).symm | exact congrArg Value.bool (decide_eq_false (by assumption)).symm, hS.ext_of⟩
end Go.Proofs.Ytffmanidnlbjjaa
set_option linter.unusedSimpArgs false
set_option linter.unusedVariables false
set_option maxHeartbeats 600000
set_option maxRecDepth 100000
namespace Go.Proofs.Ytffmanidnlbjjaa
open Go.RowKit

/-- what a call hands back to be read: new, or what it was handed -/
structure RBack (w0 w' : World) (A : Option Addr) (l : List (List Int)) (B : Option Addr) (s : List (List Int)) : Prop where
  ext : Ext w0 w'
  rd : Rd w' B 21 s.length (arows s)
  wh : ∀ b, (Res.rd B 21 s.length (arows s)).reads = some b → w0.heap.size ≤ b ∨ (Res.rd A 21 l.length (arows l)).reads = some b
theorem pair_apart {g : Nat} {r s : Res} (ho : r.own = some g) (hs : s.own = none) (hrd : s.reads = some g) : ∀ {M : List Res}, M.Pairwise Res.compat → r ∈ M → s ∈ M → False
  | [], _, h, _ => by cases h
  | x :: M, hp, h1, h2 => by
    obtain ⟨hh, ht⟩ := List.pairwise_cons.1 hp
    rcases List.mem_cons.1 h1 with e1 | h1
    · rcases List.mem_cons.1 h2 with e2 | h2
      · rw [e1, ← e2, hs] at ho; cases ho
      · rw [← e1] at hh; exact ((hh s h2 g).1 ho).2 hrd
    · rcases List.mem_cons.1 h2 with e2 | h2
      · rw [← e2] at hh; exact ((hh r h1 g).2 ho).2 hrd
      · exact pair_apart ho hs hrd ht h1 h2
theorem St.back {S : Nat → Prop} {w0 w w' : World} {L : List Res} {A B : Option Addr} {l s : List (List Int)} (h : St S w0 w L) (k : RBack w w' A l B s) (hm : Has L (.rd A 21 l.length (arows l)) := by repeat (first | exact Has.head | apply Has.tail)) : St S w0 w' (.rd B 21 s.length (arows s) :: L) := by
  refine (h.ext k.ext).add_rd k.rd fun r hr g hg e => ?_
  rcases k.wh g e with h1 | h1
  · have := own_lt (h.holds r hr) hg; omega
  · exact pair_apart hg rfl h1 h.apart hr hm.mem
theorem rback_self {w0 w' : World} {A : Option Addr} {l s : List (List Int)} (hE : Ext w0 w') (hR : Rd w' A 21 l.length (arows l)) (e : s = l) : RBack w0 w' A l A s := by subst e; exact ⟨hE, hR, fun b hb => .inr hb⟩
theorem rback_vec {w0 w' : World} {A B : Option Addr} {c : Nat} {e : TypeId} {l s : List (List Int)} {L : List Res} (h : St NoB w0 w' L) (hm : Has L (.vec B c e 21 s.length (arows s))) : RBack w0 w' A l B s :=
  ⟨h.ext_of, h.vecRd hm, fun b hb => .inl (by
    have : (Res.vec B c e 21 s.length (arows s)).own = some b := by
      simp only [Res.reads] at hb
      split at hb
      · cases hb
      · exact hb
    exact (h.own _ hm.mem b this).resolve_left (fun f => f))⟩
theorem arow_key {l : List (List Int)} {k : Nat} (hk : k < l.length) (hv : AOks l) : (((arows l).drop (k * 21)).take 12).toArray = KA (akey (l.getD k [])) := by
  have ha := hv.get hk
  have h1 := congrArg Array.toList (arow_get hk hv)
  rw [List.toList_toArray] at h1
  have h2 : ((arows l).drop (k * 21)).take 12 = (((arows l).drop (k * 21)).take 21).take 12 := by rw [List.take_take]; rfl
  have h3 := atom_key ha.len
  rw [List.drop_zero] at h3
  rw [h2, h1, h3]
theorem arow_val {l : List (List Int)} {k : Nat} (hk : k < l.length) (hv : AOks l) : (((arows l).drop (k * 21 + 12)).take 9).toArray = VA (aval (l.getD k [])) := by
  have ha := hv.get hk
  have h1 := congrArg Array.toList (arow_get hk hv)
  rw [List.toList_toArray] at h1
  have h2 : ((arows l).drop (k * 21 + 12)).take 9 = ((((arows l).drop (k * 21)).take 21).drop 12).take 9 := by rw [List.drop_take, List.drop_drop, List.take_take]; simp
  rw [h2, h1, atom_val ha.len]
theorem put_step {a x : List Int} {l o : List (List Int)} {k : Nat} {dn : Bool} (hk : k < l.length) (hx : l.getD k [] = x) (h : (l.take k).foldl (putF a) ([], false) = (o, dn)) : (l.take (k + 1)).foldl (putF a) ([], false) = putF a (o, dn) x := by
  rw [take_snoc hk, List.foldl_append, h, hx]; rfl
theorem put_eqk {a x : List Int} {o : List (List Int)} {dn : Bool} (h : akey x = akey a) : putF a (o, dn) x = (o ++ [akey a ++ moreV (aval x) (aval a)], true) := by simp [putF, h]
theorem put_lt {a x : List Int} {o : List (List Int)} (h : ¬ akey x = akey a) (h2 : keyLt (akey a) (akey x) = true) : putF a (o, false) x = ((o ++ [a]) ++ [x], true) := by simp [putF, h, h2]
theorem put_on {a x : List Int} {o : List (List Int)} (h : ¬ akey x = akey a) (h2 : keyLt (akey a) (akey x) = false) : putF a (o, false) x = (o ++ [x], false) := by simp [putF, h, h2]
theorem put_dn {a x : List Int} {o : List (List Int)} (h : ¬ akey x = akey a) : putF a (o, true) x = (o ++ [x], true) := by simp [putF, h]
theorem put_end {a : List Int} {l o : List (List Int)} {dn : Bool} (h : l.foldl (putF a) ([], false) = (o, dn)) : putS a l = if dn = true then o else o ++ [a] := by rw [putS, h]
theorem add_one {o : List (List Int)} {y : List Int} : arows o ++ arows [y] = arows (o ++ [y]) := (rowsZ_app _ _ _).symm

theorem c_ref10Right (w0 : World) (A : Option Addr) (c : Nat) (l : List (List Int)) (hr : Rd w0 A 21 l.length (arows l)) (hv : AOks l) (hn : l.length ≤ 1000000000)  :
    CallR Try.prog 70 #[.slice A l.length c] w0 fun v w' => v = .bool (rightL l) ∧ Ext w0 w' := by
 have hS := St.rd1 (S := NoB) hr
 have hvl := arows_len l
 refine c_enter (l := [.slice A l.length c, undef, undef, undef, undef, undef, undef, undef, undef, undef, undef, undef, undef, undef, undef, undef, undef, undef, undef, undef, undef, undef, undef, undef, undef, undef, undef, undef, undef, undef, undef, undef, undef, undef, undef]) Try.func70 rfl (by simp only [Try.ntmps70, List.size_toArray, List.length_cons, List.length_nil, Nat.reduceAdd, Nat.reduceSub, Array.replicate_succ, Array.replicate_zero, List.push_toArray, List.append_toArray, List.nil_append, List.cons_append]) ?_
 refine x_seq fun K1 hK1 => ?_
 refine x_region ?_
 refine s_go (s_assign) ?_
 try simp only [opv, n1, n2, n3, n4, Value.cells]
 refine x_nil ?_
 refine hK1 _ _ ?_
 refine x_seq fun K2 hK2 => ?_
 refine x_seq fun K3 hK3 => ?_
 refine x_region ?_
 refine s_go (s_assign) ?_
 try simp only [opv, n1, n2, n3, n4, Value.cells]
 refine x_nil ?_
 refine hK3 _ _ ?_
 refine x_block ?_
 refine x_loop [2, 3, 4, 5, 6, 7, 8, 9, 10, 11, 12, 13, 14, 15, 16, 17, 18, 19, 20, 21, 22, 23, 24, 25, 26, 27, 28, 29, 30, 31, 32, 33, 34] (fun m f w => ∃ k : Nat, k ≤ l.length ∧ m = l.length - k ∧ f 3 = .int .i64 (k : Int) ∧ rgt l k = true ∧ St NoB w0 w [.rd A 21 (l).length (arows (l))]) (l.length) ?init1 (fun m1 f1 wl1 hI => ?_)
 case init1 =>
  try simp only [opv, n1, n2, n3, n4, Value.cells]
  exact ⟨0, by omega, rfl, rfl, rfl, hS⟩
 obtain ⟨k, hk0, hm, h3, hrg, hS⟩ := hI
 simp only [clob, List.foldl, n3, n4, h3]
 obtain ⟨x, hx⟩ : ∃ x, l.getD k [] = x := ⟨_, rfl⟩
 refine x_seq fun K4 hK4 => ?_
 refine x_seq fun K5 hK5 => ?_
 refine x_region ?_
 refine s_go (s_move) ?_
 try simp only [opv, n1, n2, n3, n4, Value.cells]
 refine s_go (s_move) ?_
 try simp only [opv, n1, n2, n3, n4, Value.cells]
 refine s_go (s_len_sl Try.underlying22) ?_
 try simp only [opv, n1, n2, n3, n4, Value.cells]
 refine s_go (s_lss) ?_
 try simp only [opv, n1, n2, n3, n4, Value.cells]
 refine x_nil ?_
 refine hK5 _ _ ?_
 refine x_cond (ht := fun hc1 => ?_) (hf := fun hc1 => ?_)
 ·
  try simp only [decide_eq_true_eq, decide_eq_false_iff_not, Bool.not_eq_true', Bool.not_eq_false', Int.not_lt, Int.not_le, ne_eq, Decidable.not_not, bne_iff_ne, beq_iff_eq, not_true_eq_false, not_false_eq_true] at hc1
  have ha : AtomOk x := by rw [← hx]; exact hv.get (by omega)
  have hal := ha.len
  have hk := ha.key
  have hkl := hk.len
  refine x_skip ?_
  refine hK4 _ _ ?_
  refine x_seq fun K6 hK6 => ?_
  refine x_block ?_
  refine x_seq fun K7 hK7 => ?_
  refine x_quiet (by kernel_rfl) (by kernel_rfl) hS ?_
  refine q_go (fun w hS => s_move) ?_
  try simp only [opv, n1, n2, n3, n4, Value.cells]
  refine q_go (fun w hS => s_move) ?_
  try simp only [opv, n1, n2, n3, n4, Value.cells]
  first | refine q_go (fun w hS => m_indexAddr_rd Try.underlying22 ti54 (hS := hS)) ?_ | refine q_go (fun w hS => m_indexAddr_vec Try.underlying22 ti54 (hS := hS)) ?_
  try simp only [opv, n1, n2, n3, n4, Value.cells, Nat.mul_one, Nat.zero_add, Int.toNat_natCast, Int.reduceToNat]
  first | refine q_go (fun w hS => m_load_row Try.underlying54 (hi := ti54) (hS := hS) (hfit := by rw [arows_len]; omega)) ?_ | refine q_go (fun w hS => m_loada_obj Try.underlying54 (hi := ti54) (hS := hS) (hfit := by rw [arows_len]; omega)) ?_ | refine q_go (fun w hS => m_loada_bx Try.underlying54 (hi := ti54) (hS := hS) (hfit := by rw [arows_len]; omega)) ?_ | refine q_go (fun w hS => m_loada_rd Try.underlying54 (hi := ti54) (hS := hS) (hfit := by rw [arows_len]; omega)) ?_ | refine q_go (fun w hS => m_loada_vec Try.underlying54 (hi := ti54) (hS := hS) (hfit := by rw [arows_len]; omega)) ?_
  try simp only [opv, n1, n2, n3, n4, Value.cells, List.getElem_toArray, List.getElem_cons_zero, List.getElem_cons_succ]
  rw [arow_get (by omega) hv, hx]
  apply q_call en71
  case H =>
    intro w hS
    try simp only [opv, n1, n2, n3, n4, List.map_toArray, List.map_cons, List.map_nil, List.append_toArray, List.cons_append, List.nil_append, Array.append_empty]
    refine CallR.mono (c_ref09Right x ha _) ?_
    rintro _ w1 ⟨rfl, hE⟩; exact ⟨rfl, hS.ext hE⟩
  try simp only [opv, n1, n2, n3, n4, Value.cells]
  refine q_go (fun w hS => s_not) ?_
  try simp only [opv, n1, n2, n3, n4, Value.cells]
  refine q_go (fun w hS => s_move) ?_
  try simp only [opv, n1, n2, n3, n4, Value.cells]
  refine q_part 16 rfl (fun hp1 => ?_) (fun hp1 => ?_)
  ·
   try simp only [n3, n4]
   try simp only [decide_eq_true_eq, decide_eq_false_iff_not, Bool.not_eq_true', Bool.not_eq_false', Int.not_lt, Int.not_le, ne_eq, Decidable.not_not] at hp1
   have hR : rightL l = false := rgt_false (k := k) (by rw [rgtAt, hx, show atomR x = false by simpa using hp1]; rfl) (by omega)
   refine q_off (yi (t := 16) rfl rfl) ?_
   try simp only [opv, n1, n2, n3, n4, Value.cells]
   refine q_off (yi (t := 16) rfl rfl) ?_
   try simp only [opv, n1, n2, n3, n4, Value.cells]
   refine q_off (yi (t := 16) rfl rfl) ?_
   try simp only [opv, n1, n2, n3, n4, Value.cells]
   refine q_un (yn (t := 19) rfl rfl) ?_
   try simp only [opv, n1, n2, n3, n4, Value.cells]
   refine q_un (yn (t := 19) rfl rfl) ?_
   try simp only [opv, n1, n2, n3, n4, Value.cells]
   refine q_un (yn (t := 19) rfl rfl) ?_
   try simp only [opv, n1, n2, n3, n4, Value.cells]
   refine q_un (yn (t := 19) rfl rfl) ?_
   try simp only [opv, n1, n2, n3, n4, Value.cells]
   refine q_un (yn (t := 19) rfl rfl) ?_
   try simp only [opv, n1, n2, n3, n4, Value.cells]
   refine q_un (yn (t := 19) rfl rfl) ?_
   try simp only [opv, n1, n2, n3, n4, Value.cells]
   refine q_un (yn (t := 19) rfl rfl) ?_
   try simp only [opv, n1, n2, n3, n4, Value.cells]
   refine q_un (yn (t := 19) rfl rfl) ?_
   try simp only [opv, n1, n2, n3, n4, Value.cells]
   refine q_un (yn (t := 19) rfl rfl) ?_
   try simp only [opv, n1, n2, n3, n4, Value.cells]
   refine q_un (yn (t := 19) rfl rfl) ?_
   try simp only [opv, n1, n2, n3, n4, Value.cells]
   refine q_un (yn (t := 19) rfl rfl) ?_
   try simp only [opv, n1, n2, n3, n4, Value.cells]
   refine q_un (yn (t := 19) rfl rfl) ?_
   try simp only [opv, n1, n2, n3, n4, Value.cells]
   refine q_un (yn (t := 19) rfl rfl) ?_
   try simp only [opv, n1, n2, n3, n4, Value.cells]
   refine q_off (yi (t := 16) rfl rfl) ?_
   try simp only [opv, n1, n2, n3, n4, Value.cells]
   first | refine q_go (fun w hS => s_pick_t) ?_ | refine q_go (fun w hS => s_pick_f) ?_
   try simp only [opv, n1, n2, n3, n4, Value.cells]
   clear hS
   refine q_nil fun w1 hS => ?_
   refine hK7 _ _ ?_
   refine x_cond_t (h := ?_)
   try have hR : rightL l = false := rgt_false (k := k) (by rw [rgtAt, hx, hy, decide_eq_false (show ¬ k = 0 by omega), show keyLt (akey y) (akey x) = false by simpa using @c, Bool.or_false, Bool.and_false]) (by omega)
   refine x_seq fun K8 hK8 => ?_
   refine x_region ?_
   refine s_go (s_assign) ?_
   try simp only [opv, n1, n2, n3, n4, Value.cells]
   refine x_nil ?_
   refine hK8 _ _ ?_
   refine x_ret ?_
   refine r_tmp rfl ?_
   exact ⟨by rw [hR]; rfl, hS.ext_of⟩
  ·
   try simp only [n3, n4]
   try simp only [decide_eq_true_eq, decide_eq_false_iff_not, Bool.not_eq_true', Bool.not_eq_false', Int.not_lt, Int.not_le, ne_eq, Decidable.not_not] at hp1
   have hax : atomR x = true := by simpa using hp1
   refine q_on (yi (t := 16) rfl rfl) ?_
   refine q_go (fun w hS => s_move) ?_
   try simp only [opv, n1, n2, n3, n4, Value.cells]
   refine q_on (yi (t := 16) rfl rfl) ?_
   refine q_go (fun w hS => s_gtr) ?_
   try simp only [opv, n1, n2, n3, n4, Value.cells]
   refine q_on (yi (t := 16) rfl rfl) ?_
   refine q_go (fun w hS => s_move) ?_
   try simp only [opv, n1, n2, n3, n4, Value.cells]
   refine q_part 19 rfl (fun hp2 => ?_) (fun hp2 => ?_)
   ·
    try simp only [n3, n4]
    try simp only [decide_eq_true_eq, decide_eq_false_iff_not, Bool.not_eq_true', Bool.not_eq_false', Int.not_lt, Int.not_le, ne_eq, Decidable.not_not] at hp2
    obtain ⟨y, hy⟩ : ∃ y, l.getD (k - 1) [] = y := ⟨_, rfl⟩
    have hb : AtomOk y := by rw [← hy]; exact hv.get (by omega)
    have hkb := hb.key
    refine q_on (yi (t := 19) rfl rfl) ?_
    refine q_go (fun w hS => s_move) ?_
    try simp only [opv, n1, n2, n3, n4, Value.cells]
    refine q_on (yi (t := 19) rfl rfl) ?_
    refine q_go (fun w hS => s_move) ?_
    try simp only [opv, n1, n2, n3, n4, Value.cells]
    refine q_on (yi (t := 19) rfl rfl) ?_
    refine q_go (fun w hS => s_sub (hc := by first | exact wr_i64 (by omega) (by omega) | rfl)) ?_
    try simp only [opv, n1, n2, n3, n4, Value.cells]
    rw [show ((k : Int) - 1) = ((k - 1 : Nat) : Int) by omega]
    refine q_on (yi (t := 19) rfl rfl) ?_
    first | refine q_go (fun w hS => m_indexAddr_rd Try.underlying22 ti54 (hS := hS)) ?_ | refine q_go (fun w hS => m_indexAddr_vec Try.underlying22 ti54 (hS := hS)) ?_
    try simp only [opv, n1, n2, n3, n4, Value.cells, Nat.mul_one, Nat.zero_add, Int.toNat_natCast, Int.reduceToNat]
    refine q_on (yi (t := 19) rfl rfl) ?_
    first | refine q_go (fun w hS => m_fieldAddr Try.underlying54 (hi := ti43)) ?_ | refine q_go (fun w hS => m_fieldAddr_rd Try.underlying54 (hi := ti43) (hS := hS)) ?_ | refine q_go (fun w hS => m_fieldAddr_vec Try.underlying54 (hi := ti43) (hS := hS)) ?_
    try simp only [opv, n1, n2, n3, n4, Value.cells, Nat.zero_add, Nat.add_zero, List.getElem_toArray, List.getElem_cons_zero, List.getElem_cons_succ]
    refine q_on (yi (t := 19) rfl rfl) ?_
    first | refine q_go (fun w hS => m_load_row Try.underlying43 (hi := ti43) (hS := hS) (hfit := by rw [arows_len]; omega)) ?_ | refine q_go (fun w hS => m_loada_obj Try.underlying43 (hi := ti43) (hS := hS) (hfit := by rw [arows_len]; omega)) ?_ | refine q_go (fun w hS => m_loada_bx Try.underlying43 (hi := ti43) (hS := hS) (hfit := by rw [arows_len]; omega)) ?_ | refine q_go (fun w hS => m_loada_rd Try.underlying43 (hi := ti43) (hS := hS) (hfit := by rw [arows_len]; omega)) ?_ | refine q_go (fun w hS => m_loada_vec Try.underlying43 (hi := ti43) (hS := hS) (hfit := by rw [arows_len]; omega)) ?_
    try simp only [opv, n1, n2, n3, n4, Value.cells, List.getElem_toArray, List.getElem_cons_zero, List.getElem_cons_succ]
    rw [arow_key (by omega) hv, hy]
    refine q_on (yi (t := 19) rfl rfl) ?_
    refine q_go (fun w hS => s_move) ?_
    try simp only [opv, n1, n2, n3, n4, Value.cells]
    refine q_on (yi (t := 19) rfl rfl) ?_
    refine q_go (fun w hS => s_move) ?_
    try simp only [opv, n1, n2, n3, n4, Value.cells]
    refine q_on (yi (t := 19) rfl rfl) ?_
    first | refine q_go (fun w hS => m_indexAddr_rd Try.underlying22 ti54 (hS := hS)) ?_ | refine q_go (fun w hS => m_indexAddr_vec Try.underlying22 ti54 (hS := hS)) ?_
    try simp only [opv, n1, n2, n3, n4, Value.cells, Nat.mul_one, Nat.zero_add, Int.toNat_natCast, Int.reduceToNat]
    refine q_on (yi (t := 19) rfl rfl) ?_
    first | refine q_go (fun w hS => m_fieldAddr Try.underlying54 (hi := ti43)) ?_ | refine q_go (fun w hS => m_fieldAddr_rd Try.underlying54 (hi := ti43) (hS := hS)) ?_ | refine q_go (fun w hS => m_fieldAddr_vec Try.underlying54 (hi := ti43) (hS := hS)) ?_
    try simp only [opv, n1, n2, n3, n4, Value.cells, Nat.zero_add, Nat.add_zero, List.getElem_toArray, List.getElem_cons_zero, List.getElem_cons_succ]
    refine q_on (yi (t := 19) rfl rfl) ?_
    first | refine q_go (fun w hS => m_load_row Try.underlying43 (hi := ti43) (hS := hS) (hfit := by rw [arows_len]; omega)) ?_ | refine q_go (fun w hS => m_loada_obj Try.underlying43 (hi := ti43) (hS := hS) (hfit := by rw [arows_len]; omega)) ?_ | refine q_go (fun w hS => m_loada_bx Try.underlying43 (hi := ti43) (hS := hS) (hfit := by rw [arows_len]; omega)) ?_ | refine q_go (fun w hS => m_loada_rd Try.underlying43 (hi := ti43) (hS := hS) (hfit := by rw [arows_len]; omega)) ?_ | refine q_go (fun w hS => m_loada_vec Try.underlying43 (hi := ti43) (hS := hS) (hfit := by rw [arows_len]; omega)) ?_
    try simp only [opv, n1, n2, n3, n4, Value.cells, List.getElem_toArray, List.getElem_cons_zero, List.getElem_cons_succ]
    rw [arow_key (by omega) hv, hx]
    refine q_on (yi (t := 19) rfl rfl) ?_
    apply q_call en56
    case H =>
      intro w hS
      try simp only [opv, n1, n2, n3, n4, List.map_toArray, List.map_cons, List.map_nil, List.append_toArray, List.cons_append, List.nil_append, Array.append_empty]
      refine CallR.mono (c_ref08Less (akey y) (akey x) hkb hk _) ?_
      rintro _ w1 ⟨rfl, hE⟩; exact ⟨rfl, hS.ext hE⟩
    try simp only [opv, n1, n2, n3, n4, Value.cells]
    refine q_on (yi (t := 19) rfl rfl) ?_
    refine q_go (fun w hS => s_not) ?_
    try simp only [opv, n1, n2, n3, n4, Value.cells]
    refine q_on (yi (t := 16) rfl rfl) ?_
    first | refine q_go (fun w hS => s_pick_t) ?_ | refine q_go (fun w hS => s_pick_f) ?_
    try simp only [opv, n1, n2, n3, n4, Value.cells]
    first | refine q_go (fun w hS => s_pick_t) ?_ | refine q_go (fun w hS => s_pick_f) ?_
    try simp only [opv, n1, n2, n3, n4, Value.cells]
    clear hS
    refine q_nil fun w2 hS => ?_
    refine hK7 _ _ ?_
    refine x_cond (ht := fun hc3 => ?_) (hf := fun hc3 => ?_)
    ·
     try simp only [decide_eq_true_eq, decide_eq_false_iff_not, Bool.not_eq_true', Bool.not_eq_false', Int.not_lt, Int.not_le, ne_eq, Decidable.not_not, bne_iff_ne, beq_iff_eq, not_true_eq_false, not_false_eq_true] at hc3
     try have hR : rightL l = false := rgt_false (k := k) (by rw [rgtAt, hx, hy, decide_eq_false (show ¬ k = 0 by omega), show keyLt (akey y) (akey x) = false by simpa using hc3, Bool.or_false, Bool.and_false]) (by omega)
     refine x_seq fun K9 hK9 => ?_
     refine x_region ?_
     refine s_go (s_assign) ?_
     try simp only [opv, n1, n2, n3, n4, Value.cells]
     refine x_nil ?_
     refine hK9 _ _ ?_
     refine x_ret ?_
     refine r_tmp rfl ?_
     exact ⟨by rw [hR]; rfl, hS.ext_of⟩
    ·
     try simp only [decide_eq_true_eq, decide_eq_false_iff_not, Bool.not_eq_true', Bool.not_eq_false', Int.not_lt, Int.not_le, ne_eq, Decidable.not_not, bne_iff_ne, beq_iff_eq, not_true_eq_false, not_false_eq_true] at hc3
     try have hat : rgtAt l k = true := by rw [rgtAt, hx, hy, hax, show keyLt (akey y) (akey x) = true by simpa using hc3, Bool.or_true]; rfl
     refine x_skip ?_
     refine hK6 _ _ ?_
     refine x_region ?_
     refine s_go (s_move) ?_
     try simp only [opv, n1, n2, n3, n4, Value.cells]
     refine s_go (s_add (hc := by first | exact wr_i64 (by omega) (by omega) | rfl)) ?_
     try simp only [opv, n1, n2, n3, n4, Value.cells]
     refine s_go (s_assign) ?_
     try simp only [opv, n1, n2, n3, n4, Value.cells]
     refine x_nil ?_
     refine loop_back (m' := l.length - (k + 1)) (by simp only [clob, List.foldl, n1, n2, n3, n4]) ?_ ?_
     · try simp only [opv, n1, n2, n3, n4, Value.cells]
       exact ⟨k + 1, by omega, by omega, by rfl, by rw [rgt, hrg, hat]; rfl, hS.sel (by repeat (first | exact Sel.nil | (refine Sel.cons (by repeat (first | exact Del.head | apply Del.tail)) ?_)))⟩
     · omega
   ·
    try simp only [n3, n4]
    try simp only [decide_eq_true_eq, decide_eq_false_iff_not, Bool.not_eq_true', Bool.not_eq_false', Int.not_lt, Int.not_le, ne_eq, Decidable.not_not] at hp2
    have hat : rgtAt l k = true := by rw [rgtAt, hx, hax, decide_eq_true (show k = 0 by omega)]; rfl
    refine q_off (yi (t := 19) rfl rfl) ?_
    try simp only [opv, n1, n2, n3, n4, Value.cells]
    refine q_off (yi (t := 19) rfl rfl) ?_
    try simp only [opv, n1, n2, n3, n4, Value.cells]
    refine q_off (yi (t := 19) rfl rfl) ?_
    try simp only [opv, n1, n2, n3, n4, Value.cells]
    refine q_off (yi (t := 19) rfl rfl) ?_
    try simp only [opv, n1, n2, n3, n4, Value.cells]
    refine q_off (yi (t := 19) rfl rfl) ?_
    try simp only [opv, n1, n2, n3, n4, Value.cells]
    refine q_off (yi (t := 19) rfl rfl) ?_
    try simp only [opv, n1, n2, n3, n4, Value.cells]
    refine q_off (yi (t := 19) rfl rfl) ?_
    try simp only [opv, n1, n2, n3, n4, Value.cells]
    refine q_off (yi (t := 19) rfl rfl) ?_
    try simp only [opv, n1, n2, n3, n4, Value.cells]
    refine q_off (yi (t := 19) rfl rfl) ?_
    try simp only [opv, n1, n2, n3, n4, Value.cells]
    refine q_off (yi (t := 19) rfl rfl) ?_
    try simp only [opv, n1, n2, n3, n4, Value.cells]
    refine q_off (yi (t := 19) rfl rfl) ?_
    try simp only [opv, n1, n2, n3, n4, Value.cells]
    refine q_off (yi (t := 19) rfl rfl) ?_
    try simp only [opv, n1, n2, n3, n4, Value.cells]
    refine q_off (yi (t := 19) rfl rfl) ?_
    try simp only [opv, n1, n2, n3, n4, Value.cells]
    refine q_on (yi (t := 16) rfl rfl) ?_
    first | refine q_go (fun w hS => s_pick_t) ?_ | refine q_go (fun w hS => s_pick_f) ?_
    try simp only [opv, n1, n2, n3, n4, Value.cells]
    first | refine q_go (fun w hS => s_pick_t) ?_ | refine q_go (fun w hS => s_pick_f) ?_
    try simp only [opv, n1, n2, n3, n4, Value.cells]
    clear hS
    refine q_nil fun w3 hS => ?_
    refine hK7 _ _ ?_
    refine x_cond_f (h := ?_)
    try have hat : rgtAt l k = true := by rw [rgtAt, hx, hy, hax, show keyLt (akey y) (akey x) = true by simpa using @c, Bool.or_true]; rfl
    refine x_skip ?_
    refine hK6 _ _ ?_
    refine x_region ?_
    refine s_go (s_move) ?_
    try simp only [opv, n1, n2, n3, n4, Value.cells]
    refine s_go (s_add (hc := by first | exact wr_i64 (by omega) (by omega) | rfl)) ?_
    try simp only [opv, n1, n2, n3, n4, Value.cells]
    refine s_go (s_assign) ?_
    try simp only [opv, n1, n2, n3, n4, Value.cells]
    refine x_nil ?_
    refine loop_back (m' := l.length - (k + 1)) (by simp only [clob, List.foldl, n1, n2, n3, n4]) ?_ ?_
    · try simp only [opv, n1, n2, n3, n4, Value.cells]
      exact ⟨k + 1, by omega, by omega, by rfl, by rw [rgt, hrg, hat]; rfl, hS.sel (by repeat (first | exact Sel.nil | (refine Sel.cons (by repeat (first | exact Del.head | apply Del.tail)) ?_)))⟩
    · omega
 ·
  try simp only [decide_eq_true_eq, decide_eq_false_iff_not, Bool.not_eq_true', Bool.not_eq_false', Int.not_lt, Int.not_le, ne_eq, Decidable.not_not, bne_iff_ne, beq_iff_eq, not_true_eq_false, not_false_eq_true] at hc1
  obtain rfl : k = l.length := by omega
  have hR : rightL l = true := hrg
  refine x_exit (look_here ?_)
  refine hK2 _ _ ?_
  refine x_seq fun K10 hK10 => ?_
  refine x_region ?_
  refine s_go (s_assign) ?_
  try simp only [opv, n1, n2, n3, n4, Value.cells]
  refine x_nil ?_
  refine hK10 _ _ ?_
  refine x_ret ?_
  refine r_tmp rfl ?_
  exact ⟨by rw [hR]; rfl, hS.ext_of⟩
theorem c_ref10put (w0 : World) (A : Option Addr) (c : Nat) (l : List (List Int)) (hr : Rd w0 A 21 l.length (arows l)) (hv : AOks l) (hn : l.length ≤ 1000000000) (a : List Int) (ha : AtomOk a)  :
    CallR Try.prog 72 #[.slice A l.length c, .agg (AA a)] w0 fun v w' => ∃ B d, v = .slice B (putS a l).length d ∧ St NoB w0 w' [.vec B d 54 21 (putS a l).length (arows (putS a l))] := by
 have hS := St.rd1 (S := NoB) hr
 have hvl := arows_len l
 have hal := ha.len
 have hka := ha.key
 have hka12 := hka.len
 have hva := ha.val
 refine c_enter (l := [.slice A l.length c, .agg (AA a), undef, undef, undef, undef, undef, undef, undef, undef, undef, undef, undef, undef, undef, undef, undef, undef, undef, undef, undef, undef, undef, undef, undef, undef, undef, undef, undef, undef, undef, undef, undef, undef, undef, undef, undef, undef, undef, undef, undef, undef, undef, undef, undef, undef, undef, undef, undef, undef, undef, undef, undef, undef, undef, undef, undef, undef, undef, undef, undef, undef, undef, undef, undef, undef]) Try.func72 rfl (by simp only [Try.ntmps72, List.size_toArray, List.length_cons, List.length_nil, Nat.reduceAdd, Nat.reduceSub, Array.replicate_succ, Array.replicate_zero, List.push_toArray, List.append_toArray, List.nil_append, List.cons_append]) ?_
 refine x_seq fun K1 hK1 => ?_
 refine x_region ?_
 refine m_box hS (fun w1 g1 hS => ?_)
 try simp only [opv, n1, n2, n3, n4, Value.cells, Array.toArray_toList] at hS ⊢
 refine s_go (s_assign) ?_
 try simp only [opv, n1, n2, n3, n4, Value.cells]
 refine x_nil ?_
 refine hK1 _ _ ?_
 refine x_seq fun K2 hK2 => ?_
 refine x_region ?_
 refine s_go (s_assign) ?_
 try simp only [opv, n1, n2, n3, n4, Value.cells]
 refine x_nil ?_
 refine hK2 _ _ ?_
 refine x_seq fun K3 hK3 => ?_
 refine x_region ?_
 refine s_go (s_assign) ?_
 try simp only [opv, n1, n2, n3, n4, Value.cells]
 refine x_nil ?_
 refine hK3 _ _ ?_
 refine x_seq fun K4 hK4 => ?_
 refine x_seq fun K5 hK5 => ?_
 refine x_region ?_
 replace hS := hS.nil_vec 54 21
 refine s_go (s_assign) ?_
 try simp only [opv, n1, n2, n3, n4, Value.cells]
 refine x_nil ?_
 refine hK5 _ _ ?_
 refine x_block ?_
 refine x_loop [5, 6, 7, 8, 9, 10, 11, 12, 13, 14, 15, 16, 17, 18, 19, 20, 21, 22, 23, 24, 25, 26, 27, 28, 29, 30, 31, 32, 33, 34, 35, 36, 37, 38, 39, 40, 41, 42, 43, 44, 45, 46, 47, 48, 49, 50, 51, 52, 53, 54, 55, 56, 57, 58] (fun m f w => ∃ (k : Nat) (B : Option Addr) (d : Nat) (o : List (List Int)) (dn : Bool), k ≤ l.length ∧ m = l.length - k ∧ f 7 = .int .i64 (k : Int) ∧ f 6 = .bool dn ∧ f 5 = .slice B o.length d ∧ (l.take k).foldl (putF a) ([], false) = (o, dn) ∧ o.length ≤ 2 * k ∧ St NoB w0 w [.vec B d 54 21 (o).length (arows (o)), .obj g1 (.cells (AA a) 54 (0, 0)), .rd A 21 (l).length (arows (l))]) (l.length) ?init1 (fun m1 f1 wl1 hI => ?_)
 case init1 =>
  try simp only [opv, n1, n2, n3, n4, Value.cells]
  exact ⟨0, none, 0, [], false, by omega, rfl, rfl, rfl, rfl, rfl, by simp, hS⟩
 obtain ⟨k, B, d, o, dn, hk0, hm, h7, h6, h5, hst, hol, hS⟩ := hI
 simp only [clob, List.foldl, n3, n4, h7, h6, h5]
 obtain ⟨x, hx⟩ : ∃ x, l.getD k [] = x := ⟨_, rfl⟩
 refine x_seq fun K6 hK6 => ?_
 refine x_seq fun K7 hK7 => ?_
 refine x_region ?_
 refine s_go (s_move) ?_
 try simp only [opv, n1, n2, n3, n4, Value.cells]
 refine s_go (s_move) ?_
 try simp only [opv, n1, n2, n3, n4, Value.cells]
 refine s_go (s_len_sl Try.underlying22) ?_
 try simp only [opv, n1, n2, n3, n4, Value.cells]
 refine s_go (s_lss) ?_
 try simp only [opv, n1, n2, n3, n4, Value.cells]
 refine x_nil ?_
 refine hK7 _ _ ?_
 refine x_cond (ht := fun hc1 => ?_) (hf := fun hc1 => ?_)
 ·
  try simp only [decide_eq_true_eq, decide_eq_false_iff_not, Bool.not_eq_true', Bool.not_eq_false', Int.not_lt, Int.not_le, ne_eq, Decidable.not_not, bne_iff_ne, beq_iff_eq, not_true_eq_false, not_false_eq_true] at hc1
  have hax : AtomOk x := by rw [← hx]; exact hv.get (by omega)
  have hxl := hax.len
  have hkx := hax.key
  have hkx12 := hkx.len
  have hvx := hax.val
  have hps := put_step (by omega) hx hst
  refine x_skip ?_
  refine hK6 _ _ ?_
  refine x_seq fun K8 hK8 => ?_
  refine x_block ?_
  refine x_seq fun K9 hK9 => ?_
  refine x_seq fun K10 hK10 => ?_
  refine x_quiet (by kernel_rfl) (by kernel_rfl) hS ?_
  refine q_go (fun w hS => s_move) ?_
  try simp only [opv, n1, n2, n3, n4, Value.cells]
  refine q_go (fun w hS => s_move) ?_
  try simp only [opv, n1, n2, n3, n4, Value.cells]
  first | refine q_go (fun w hS => m_indexAddr_rd Try.underlying22 ti54 (hS := hS)) ?_ | refine q_go (fun w hS => m_indexAddr_vec Try.underlying22 ti54 (hS := hS)) ?_
  try simp only [opv, n1, n2, n3, n4, Value.cells, Nat.mul_one, Nat.zero_add, Int.toNat_natCast, Int.reduceToNat]
  first | refine q_go (fun w hS => m_fieldAddr Try.underlying54 (hi := ti43)) ?_ | refine q_go (fun w hS => m_fieldAddr_rd Try.underlying54 (hi := ti43) (hS := hS)) ?_ | refine q_go (fun w hS => m_fieldAddr_vec Try.underlying54 (hi := ti43) (hS := hS)) ?_
  try simp only [opv, n1, n2, n3, n4, Value.cells, Nat.zero_add, Nat.add_zero, List.getElem_toArray, List.getElem_cons_zero, List.getElem_cons_succ]
  first | refine q_go (fun w hS => m_load_row Try.underlying43 (hi := ti43) (hS := hS) (hfit := by rw [arows_len]; omega)) ?_ | refine q_go (fun w hS => m_loada_obj Try.underlying43 (hi := ti43) (hS := hS) (hfit := by rw [arows_len]; omega)) ?_ | refine q_go (fun w hS => m_loada_bx Try.underlying43 (hi := ti43) (hS := hS) (hfit := by rw [arows_len]; omega)) ?_ | refine q_go (fun w hS => m_loada_rd Try.underlying43 (hi := ti43) (hS := hS) (hfit := by rw [arows_len]; omega)) ?_ | refine q_go (fun w hS => m_loada_vec Try.underlying43 (hi := ti43) (hS := hS) (hfit := by rw [arows_len]; omega)) ?_
  try simp only [opv, n1, n2, n3, n4, Value.cells, List.getElem_toArray, List.getElem_cons_zero, List.getElem_cons_succ]
  rw [arow_key (by omega) hv, hx]
  first | refine q_go (fun w hS => m_fieldAddr Try.underlying54 (hi := ti43)) ?_ | refine q_go (fun w hS => m_fieldAddr_rd Try.underlying54 (hi := ti43) (hS := hS)) ?_ | refine q_go (fun w hS => m_fieldAddr_vec Try.underlying54 (hi := ti43) (hS := hS)) ?_
  try simp only [opv, n1, n2, n3, n4, Value.cells, Nat.zero_add, Nat.add_zero, List.getElem_toArray, List.getElem_cons_zero, List.getElem_cons_succ]
  first | refine q_go (fun w hS => m_load_row Try.underlying43 (hi := ti43) (hS := hS) (hfit := by first | omega | (rw [zi_size (by omega)]; first | rfl | decide) | (simp only [ic_size, List.length_map, List.size_toArray]; first | omega | decide) | rfl | (simp [*]; done) | (simp [*]; omega))) ?_ | refine q_go (fun w hS => m_loada_obj Try.underlying43 (hi := ti43) (hS := hS) (hfit := by first | omega | (rw [zi_size (by omega)]; first | rfl | decide) | (simp only [ic_size, List.length_map, List.size_toArray]; first | omega | decide) | rfl | (simp [*]; done) | (simp [*]; omega))) ?_ | refine q_go (fun w hS => m_loada_bx Try.underlying43 (hi := ti43) (hS := hS) (hfit := by first | omega | (rw [zi_size (by omega)]; first | rfl | decide) | (simp only [ic_size, List.length_map, List.size_toArray]; first | omega | decide) | rfl | (simp [*]; done) | (simp [*]; omega))) ?_ | refine q_go (fun w hS => m_loada_rd Try.underlying43 (hi := ti43) (hS := hS) (hfit := by first | omega | (rw [zi_size (by omega)]; first | rfl | decide) | (simp only [ic_size, List.length_map, List.size_toArray]; first | omega | decide) | rfl | (simp [*]; done) | (simp [*]; omega))) ?_ | refine q_go (fun w hS => m_loada_vec Try.underlying43 (hi := ti43) (hS := hS) (hfit := by first | omega | (rw [zi_size (by omega)]; first | rfl | decide) | (simp only [ic_size, List.length_map, List.size_toArray]; first | omega | decide) | rfl | (simp [*]; done) | (simp [*]; omega))) ?_
  try simp only [opv, n1, n2, n3, n4, Value.cells, List.getElem_toArray, List.getElem_cons_zero, List.getElem_cons_succ]
  rw [atom_key hal]
  refine q_go (fun w hS => s_eql_agg eqv43 (hg := eg43) (hX := rfl) (hY := rfl) (h1 := by assumption) (h2 := by assumption)) ?_
  try simp only [opv, n1, n2, n3, n4, Value.cells]
  clear hS
  refine q_nil fun w2 hS => ?_
  refine hK10 _ _ ?_
  refine x_cond (ht := fun hc2 => ?_) (hf := fun hc2 => ?_)
  ·
   try simp only [decide_eq_true_eq, decide_eq_false_iff_not, Bool.not_eq_true', Bool.not_eq_false', Int.not_lt, Int.not_le, ne_eq, Decidable.not_not, bne_iff_ne, beq_iff_eq, not_true_eq_false, not_false_eq_true] at hc2
   have hst2 := hps.trans (put_eqk hc2)
   have hmo := more_ok hvx hva
   have hml := hmo.len
   have hyl : (akey a ++ moreV (aval x) (aval a)).length = 21 := (kv_ok hka hmo).len
   refine x_seq fun K11 hK11 => ?_
   refine x_mixed_c (Lc := [.obj g1 (.cells (AA a) 54 (0, 0)), .rd A 21 (l).length (arows (l))]) [] 0 [5, 22, 23, 24, 25, 26, 27, 28, 29, 30, 31, 32, 33, 34, 35] (fun f w => ∃ (B2 : Option Addr) (d2 : Nat), f 5 = .slice B2 (o.length + 1) d2 ∧ St NoB w0 w [.vec B2 d2 54 21 (o.length + 1) (arows (o ++ [(akey a ++ moreV (aval x) (aval a))])), .obj g1 (.cells (AA a) 54 (0, 0)), .rd A 21 (l).length (arows (l))]) (by kernel_rfl) (by kernel_rfl) (by kernel_rfl) (by decide) hS (fun w3 hS => ?mixpre701) ?mixrest701
   case mixpre701 =>
    refine p_nil ?_
    simp only [List.length_cons, List.length_nil, Nat.reduceAdd, Nat.reduceSub]
    refine any_go (i := 0) (by rfl) (by decide +kernel) (by decide +kernel) noLate_nil (go_yields w_none (fun w hS => s_move)) ?_
    try simp only [opv, n1, n2, n3, n4, Value.cells]
    first | refine any_go (i := 1) (by rfl) (by decide +kernel) (by decide +kernel) noLate_nil (go_yields w_none (fun w hS => m_fieldAddr Try.underlying54 (hi := ti43))) ?_ | refine any_go (i := 1) (by rfl) (by decide +kernel) (by decide +kernel) noLate_nil (go_yields w_none (fun w hS => m_fieldAddr_rd Try.underlying54 (hi := ti43) (hS := hS))) ?_ | refine any_go (i := 1) (by rfl) (by decide +kernel) (by decide +kernel) noLate_nil (go_yields w_none (fun w hS => m_fieldAddr_vec Try.underlying54 (hi := ti43) (hS := hS))) ?_
    try simp only [opv, n1, n2, n3, n4, Value.cells, Nat.zero_add, Nat.add_zero, List.getElem_toArray, List.getElem_cons_zero, List.getElem_cons_succ]
    first | refine any_go (i := 2) (by rfl) (by decide +kernel) (by decide +kernel) noLate_nil (go_yields w_none (fun w hS => m_load_row Try.underlying43 (hi := ti43) (hS := hS) (hfit := by first | omega | (rw [zi_size (by omega)]; first | rfl | decide) | (simp only [ic_size, List.length_map, List.size_toArray]; first | omega | decide) | rfl | (simp [*]; done) | (simp [*]; omega)))) ?_ | refine any_go (i := 2) (by rfl) (by decide +kernel) (by decide +kernel) noLate_nil (go_yields w_none (fun w hS => m_loada_obj Try.underlying43 (hi := ti43) (hS := hS) (hfit := by first | omega | (rw [zi_size (by omega)]; first | rfl | decide) | (simp only [ic_size, List.length_map, List.size_toArray]; first | omega | decide) | rfl | (simp [*]; done) | (simp [*]; omega)))) ?_ | refine any_go (i := 2) (by rfl) (by decide +kernel) (by decide +kernel) noLate_nil (go_yields w_none (fun w hS => m_loada_bx Try.underlying43 (hi := ti43) (hS := hS) (hfit := by first | omega | (rw [zi_size (by omega)]; first | rfl | decide) | (simp only [ic_size, List.length_map, List.size_toArray]; first | omega | decide) | rfl | (simp [*]; done) | (simp [*]; omega)))) ?_ | refine any_go (i := 2) (by rfl) (by decide +kernel) (by decide +kernel) noLate_nil (go_yields w_none (fun w hS => m_loada_rd Try.underlying43 (hi := ti43) (hS := hS) (hfit := by first | omega | (rw [zi_size (by omega)]; first | rfl | decide) | (simp only [ic_size, List.length_map, List.size_toArray]; first | omega | decide) | rfl | (simp [*]; done) | (simp [*]; omega)))) ?_ | refine any_go (i := 2) (by rfl) (by decide +kernel) (by decide +kernel) noLate_nil (go_yields w_none (fun w hS => m_loada_vec Try.underlying43 (hi := ti43) (hS := hS) (hfit := by first | omega | (rw [zi_size (by omega)]; first | rfl | decide) | (simp only [ic_size, List.length_map, List.size_toArray]; first | omega | decide) | rfl | (simp [*]; done) | (simp [*]; omega)))) ?_
    try simp only [opv, n1, n2, n3, n4, Value.cells, List.getElem_toArray, List.getElem_cons_zero, List.getElem_cons_succ]
    rw [atom_key hal]
    refine any_go (i := 3) (by rfl) (by decide +kernel) (by decide +kernel) noLate_nil (go_yields w_none (fun w hS => s_move)) ?_
    try simp only [opv, n1, n2, n3, n4, Value.cells]
    refine any_go (i := 4) (by rfl) (by decide +kernel) (by decide +kernel) noLate_nil (go_yields w_none (fun w hS => s_move)) ?_
    try simp only [opv, n1, n2, n3, n4, Value.cells]
    first | refine any_go (i := 5) (by rfl) (by decide +kernel) (by decide +kernel) noLate_nil (go_yields w_none (fun w hS => m_indexAddr_rd Try.underlying22 ti54 (hS := hS))) ?_ | refine any_go (i := 5) (by rfl) (by decide +kernel) (by decide +kernel) noLate_nil (go_yields w_none (fun w hS => m_indexAddr_vec Try.underlying22 ti54 (hS := hS))) ?_
    try simp only [opv, n1, n2, n3, n4, Value.cells, Nat.mul_one, Nat.zero_add, Int.toNat_natCast, Int.reduceToNat]
    first | refine any_go (i := 6) (by rfl) (by decide +kernel) (by decide +kernel) noLate_nil (go_yields w_none (fun w hS => m_fieldAddr Try.underlying54 (hi := ti50))) ?_ | refine any_go (i := 6) (by rfl) (by decide +kernel) (by decide +kernel) noLate_nil (go_yields w_none (fun w hS => m_fieldAddr_rd Try.underlying54 (hi := ti50) (hS := hS))) ?_ | refine any_go (i := 6) (by rfl) (by decide +kernel) (by decide +kernel) noLate_nil (go_yields w_none (fun w hS => m_fieldAddr_vec Try.underlying54 (hi := ti50) (hS := hS))) ?_
    try simp only [opv, n1, n2, n3, n4, Value.cells, Nat.zero_add, Nat.add_zero, List.getElem_toArray, List.getElem_cons_zero, List.getElem_cons_succ]
    first | refine any_go (i := 7) (by rfl) (by decide +kernel) (by decide +kernel) noLate_nil (go_yields w_none (fun w hS => m_load_row Try.underlying50 (hi := ti50) (hS := hS) (hfit := by rw [arows_len]; omega))) ?_ | refine any_go (i := 7) (by rfl) (by decide +kernel) (by decide +kernel) noLate_nil (go_yields w_none (fun w hS => m_loada_obj Try.underlying50 (hi := ti50) (hS := hS) (hfit := by rw [arows_len]; omega))) ?_ | refine any_go (i := 7) (by rfl) (by decide +kernel) (by decide +kernel) noLate_nil (go_yields w_none (fun w hS => m_loada_bx Try.underlying50 (hi := ti50) (hS := hS) (hfit := by rw [arows_len]; omega))) ?_ | refine any_go (i := 7) (by rfl) (by decide +kernel) (by decide +kernel) noLate_nil (go_yields w_none (fun w hS => m_loada_rd Try.underlying50 (hi := ti50) (hS := hS) (hfit := by rw [arows_len]; omega))) ?_ | refine any_go (i := 7) (by rfl) (by decide +kernel) (by decide +kernel) noLate_nil (go_yields w_none (fun w hS => m_loada_vec Try.underlying50 (hi := ti50) (hS := hS) (hfit := by rw [arows_len]; omega))) ?_
    try simp only [opv, n1, n2, n3, n4, Value.cells, List.getElem_toArray, List.getElem_cons_zero, List.getElem_cons_succ]
    rw [arow_val (by omega) hv, hx]
    first | refine any_go (i := 8) (by rfl) (by decide +kernel) (by decide +kernel) noLate_nil (go_yields w_none (fun w hS => m_fieldAddr Try.underlying54 (hi := ti50))) ?_ | refine any_go (i := 8) (by rfl) (by decide +kernel) (by decide +kernel) noLate_nil (go_yields w_none (fun w hS => m_fieldAddr_rd Try.underlying54 (hi := ti50) (hS := hS))) ?_ | refine any_go (i := 8) (by rfl) (by decide +kernel) (by decide +kernel) noLate_nil (go_yields w_none (fun w hS => m_fieldAddr_vec Try.underlying54 (hi := ti50) (hS := hS))) ?_
    try simp only [opv, n1, n2, n3, n4, Value.cells, Nat.zero_add, Nat.add_zero, List.getElem_toArray, List.getElem_cons_zero, List.getElem_cons_succ]
    first | refine any_go (i := 9) (by rfl) (by decide +kernel) (by decide +kernel) noLate_nil (go_yields w_none (fun w hS => m_load_row Try.underlying50 (hi := ti50) (hS := hS) (hfit := by first | omega | (rw [zi_size (by omega)]; first | rfl | decide) | (simp only [ic_size, List.length_map, List.size_toArray]; first | omega | decide) | rfl | (simp [*]; done) | (simp [*]; omega)))) ?_ | refine any_go (i := 9) (by rfl) (by decide +kernel) (by decide +kernel) noLate_nil (go_yields w_none (fun w hS => m_loada_obj Try.underlying50 (hi := ti50) (hS := hS) (hfit := by first | omega | (rw [zi_size (by omega)]; first | rfl | decide) | (simp only [ic_size, List.length_map, List.size_toArray]; first | omega | decide) | rfl | (simp [*]; done) | (simp [*]; omega)))) ?_ | refine any_go (i := 9) (by rfl) (by decide +kernel) (by decide +kernel) noLate_nil (go_yields w_none (fun w hS => m_loada_bx Try.underlying50 (hi := ti50) (hS := hS) (hfit := by first | omega | (rw [zi_size (by omega)]; first | rfl | decide) | (simp only [ic_size, List.length_map, List.size_toArray]; first | omega | decide) | rfl | (simp [*]; done) | (simp [*]; omega)))) ?_ | refine any_go (i := 9) (by rfl) (by decide +kernel) (by decide +kernel) noLate_nil (go_yields w_none (fun w hS => m_loada_rd Try.underlying50 (hi := ti50) (hS := hS) (hfit := by first | omega | (rw [zi_size (by omega)]; first | rfl | decide) | (simp only [ic_size, List.length_map, List.size_toArray]; first | omega | decide) | rfl | (simp [*]; done) | (simp [*]; omega)))) ?_ | refine any_go (i := 9) (by rfl) (by decide +kernel) (by decide +kernel) noLate_nil (go_yields w_none (fun w hS => m_loada_vec Try.underlying50 (hi := ti50) (hS := hS) (hfit := by first | omega | (rw [zi_size (by omega)]; first | rfl | decide) | (simp only [ic_size, List.length_map, List.size_toArray]; first | omega | decide) | rfl | (simp [*]; done) | (simp [*]; omega)))) ?_
    try simp only [opv, n1, n2, n3, n4, Value.cells, List.getElem_toArray, List.getElem_cons_zero, List.getElem_cons_succ]
    rw [atom_val hal]
    apply any_go (i := 10) (by rfl) (by decide +kernel) (by decide +kernel) noLate_nil (call_yields w_none en57 ?H1) ?K1
    case H1 =>
      intro w hS
      try simp only [opv, n1, n2, n3, n4, List.map_toArray, List.map_cons, List.map_nil, List.append_toArray, List.cons_append, List.nil_append, Array.append_empty]
      refine CallR.mono (c_ref09More (aval x) (aval a) hvx hva _) ?_
      rintro _ w1 ⟨rfl, hE⟩; exact ⟨rfl, hE⟩
    try simp only [opv, n1, n2, n3, n4, Value.cells]
    refine any_go (i := 11) (by rfl) (by decide +kernel) (by decide +kernel) noLate_nil (go_yields w_none (fun w hS => s_build_struct (cells := (AA (akey a ++ moreV (aval x) (aval a)))) Try.underlying54 ti54 bp54 (hc := by simp only [List.map_toArray, List.map_cons, List.map_nil, opv, n1, n2, n3, n4, Value.cells, List.toList_toArray]; exact fill_atom (by rfl) (by rfl) (by rfl) hka12 hml))) ?_
    try simp only [opv, n1, n2, n3, n4, Value.cells]
    refine any_step [12] (by kernel_rfl) (by decide) (fun w4 hE => ⟨fun _ => (hS.ext hE).sel (by repeat (first | exact Sel.nil | (refine Sel.cons (by repeat (first | exact Del.head | apply Del.tail)) ?_))), ?_⟩)
    replace hS := hS.ext hE
    intro i hi
    simp only [List.mem_cons, List.not_mem_nil, or_false] at hi
    subst hi
    ·
     refine any_op (by rfl) ?_
     refine m_buildRow (cells := (AA (akey a ++ moreV (aval x) (aval a)))) Try.underlying22 ti54 (hc := by simp only [List.map_toArray, List.map_cons, List.map_nil, opv, n1, n2, n3, n4, Value.cells, List.toList_toArray]; exact fill_one (by rfl) (zi_size21 hyl) (by rfl)) (hS := hS) (h := fun w5 g5 hS => ?_)
     try simp only [opv, n1, n2, n3, n4, Value.cells, Array.toArray_toList] at hS ⊢
     replace hS := hS.obj_rd (sz := 21) (n := 1) (by exact zi_size21 hyl) .head
     rw [arow_one hyl] at hS
     refine x_nil ?_
     refine any_step [13] (by kernel_rfl) (by decide) (fun w6 hE => ⟨fun _ => (hS.ext hE).sel (by repeat (first | exact Sel.nil | (refine Sel.cons (by repeat (first | exact Del.head | apply Del.tail)) ?_))), ?_⟩)
     replace hS := hS.ext hE
     intro i hi
     simp only [List.mem_cons, List.not_mem_nil, or_false] at hi
     subst hi
     ·
      refine any_op (by rfl) ?_
      refine m_append Try.underlying22 ti54 (hS := hS) (h1 := rowsZ_cells _ _) (h := fun w7 A7 C7 hS => ?_)
      try simp only [← List.map_append, ← List.map_drop, ← List.map_take, Nat.mul_one, Nat.zero_mul, Nat.sub_zero, List.drop_zero, List.nil_append, Nat.zero_add] at hS ⊢
      try simp only [opv, n1, n2, n3, n4, Value.cells, Array.toArray_toList] at hS ⊢
      rw [add_one] at hS
      refine x_nil ?_
      refine any_go (i := 14) (by rfl) (by decide +kernel) (by decide +kernel) noLate_nil (go_yields w_none (fun w hS => s_assign)) ?_
      try simp only [opv, n1, n2, n3, n4, Value.cells]
      refine any_nil (by kernel_rfl) (fun w8 hE => ?_)
      replace hS := hS.ext hE
      refine ⟨fun _ => hS.sel (by repeat (first | exact Sel.nil | (refine Sel.cons (by repeat (first | exact Del.head | apply Del.tail)) ?_))), ?_⟩
      refine mix_leaf (by simp only [clob, List.foldl, n1, n2, n3, n4]) ?_
      try simp only [n1, n2]
      exact ⟨_, _, by first | trivial | rfl, hS.sel (by repeat (first | exact Sel.nil | (refine Sel.cons (by repeat (first | exact Del.head | apply Del.tail)) ?_)))⟩
   intro fm1 w9 hM
   obtain ⟨B2, d2, h5, hS⟩ := hM
   simp only [clob, List.foldl, n3, n4, h5]
   refine hK11 _ _ ?_
   refine x_seq fun K12 hK12 => ?_
   refine x_region ?_
   refine s_go (s_assign) ?_
   try simp only [opv, n1, n2, n3, n4, Value.cells]
   refine x_nil ?_
   refine hK12 _ _ ?_
   refine x_exit (look_here ?_)
   refine hK8 _ _ ?_
   refine x_region ?_
   refine s_go (s_move) ?_
   try simp only [opv, n1, n2, n3, n4, Value.cells]
   refine s_go (s_add (hc := by first | exact wr_i64 (by omega) (by omega) | rfl)) ?_
   try simp only [opv, n1, n2, n3, n4, Value.cells]
   refine s_go (s_assign) ?_
   try simp only [opv, n1, n2, n3, n4, Value.cells]
   refine x_nil ?_
   refine loop_back (m' := l.length - (k + 1)) (by simp only [clob, List.foldl, n1, n2, n3, n4]) ?_ ?_
   · try simp only [opv, n1, n2, n3, n4, Value.cells]
     refine ⟨k + 1, _, _, _, _, by omega, by omega, by rfl, by rfl, by simp only [List.length_append, List.length_cons, List.length_nil, Nat.zero_add]; rfl, hst2, by simp; omega, ?_⟩
     simp only [List.length_append, List.length_cons, List.length_nil, Nat.zero_add]; exact hS.sel (by repeat (first | exact Sel.nil | (refine Sel.cons (by repeat (first | exact Del.head | apply Del.tail)) ?_)))
   · omega
  ·
   try simp only [decide_eq_true_eq, decide_eq_false_iff_not, Bool.not_eq_true', Bool.not_eq_false', Int.not_lt, Int.not_le, ne_eq, Decidable.not_not, bne_iff_ne, beq_iff_eq, not_true_eq_false, not_false_eq_true] at hc2
   have hne := hc2
   refine x_skip ?_
   refine hK9 _ _ ?_
   refine x_seq fun K13 hK13 => ?_
   refine x_seq fun K14 hK14 => ?_
   refine x_quiet (by kernel_rfl) (by kernel_rfl) hS ?_
   refine q_go (fun w hS => s_move) ?_
   try simp only [opv, n1, n2, n3, n4, Value.cells]
   refine q_go (fun w hS => s_not) ?_
   try simp only [opv, n1, n2, n3, n4, Value.cells]
   refine q_go (fun w hS => s_move) ?_
   try simp only [opv, n1, n2, n3, n4, Value.cells]
   refine q_part 38 rfl (fun hp1 => ?_) (fun hp1 => ?_)
   ·
    try simp only [n3, n4]
    try simp only [decide_eq_true_eq, decide_eq_false_iff_not, Bool.not_eq_true', Bool.not_eq_false', Int.not_lt, Int.not_le, ne_eq, Decidable.not_not] at hp1
    obtain rfl : dn = false := by simpa using hp1
    refine q_on (yi (t := 38) rfl rfl) ?_
    first | refine q_go (fun w hS => m_fieldAddr Try.underlying54 (hi := ti43)) ?_ | refine q_go (fun w hS => m_fieldAddr_rd Try.underlying54 (hi := ti43) (hS := hS)) ?_ | refine q_go (fun w hS => m_fieldAddr_vec Try.underlying54 (hi := ti43) (hS := hS)) ?_
    try simp only [opv, n1, n2, n3, n4, Value.cells, Nat.zero_add, Nat.add_zero, List.getElem_toArray, List.getElem_cons_zero, List.getElem_cons_succ]
    refine q_on (yi (t := 38) rfl rfl) ?_
    first | refine q_go (fun w hS => m_load_row Try.underlying43 (hi := ti43) (hS := hS) (hfit := by first | omega | (rw [zi_size (by omega)]; first | rfl | decide) | (simp only [ic_size, List.length_map, List.size_toArray]; first | omega | decide) | rfl | (simp [*]; done) | (simp [*]; omega))) ?_ | refine q_go (fun w hS => m_loada_obj Try.underlying43 (hi := ti43) (hS := hS) (hfit := by first | omega | (rw [zi_size (by omega)]; first | rfl | decide) | (simp only [ic_size, List.length_map, List.size_toArray]; first | omega | decide) | rfl | (simp [*]; done) | (simp [*]; omega))) ?_ | refine q_go (fun w hS => m_loada_bx Try.underlying43 (hi := ti43) (hS := hS) (hfit := by first | omega | (rw [zi_size (by omega)]; first | rfl | decide) | (simp only [ic_size, List.length_map, List.size_toArray]; first | omega | decide) | rfl | (simp [*]; done) | (simp [*]; omega))) ?_ | refine q_go (fun w hS => m_loada_rd Try.underlying43 (hi := ti43) (hS := hS) (hfit := by first | omega | (rw [zi_size (by omega)]; first | rfl | decide) | (simp only [ic_size, List.length_map, List.size_toArray]; first | omega | decide) | rfl | (simp [*]; done) | (simp [*]; omega))) ?_ | refine q_go (fun w hS => m_loada_vec Try.underlying43 (hi := ti43) (hS := hS) (hfit := by first | omega | (rw [zi_size (by omega)]; first | rfl | decide) | (simp only [ic_size, List.length_map, List.size_toArray]; first | omega | decide) | rfl | (simp [*]; done) | (simp [*]; omega))) ?_
    try simp only [opv, n1, n2, n3, n4, Value.cells, List.getElem_toArray, List.getElem_cons_zero, List.getElem_cons_succ]
    rw [atom_key hal]
    refine q_on (yi (t := 38) rfl rfl) ?_
    refine q_go (fun w hS => s_move) ?_
    try simp only [opv, n1, n2, n3, n4, Value.cells]
    refine q_on (yi (t := 38) rfl rfl) ?_
    refine q_go (fun w hS => s_move) ?_
    try simp only [opv, n1, n2, n3, n4, Value.cells]
    refine q_on (yi (t := 38) rfl rfl) ?_
    first | refine q_go (fun w hS => m_indexAddr_rd Try.underlying22 ti54 (hS := hS)) ?_ | refine q_go (fun w hS => m_indexAddr_vec Try.underlying22 ti54 (hS := hS)) ?_
    try simp only [opv, n1, n2, n3, n4, Value.cells, Nat.mul_one, Nat.zero_add, Int.toNat_natCast, Int.reduceToNat]
    refine q_on (yi (t := 38) rfl rfl) ?_
    first | refine q_go (fun w hS => m_fieldAddr Try.underlying54 (hi := ti43)) ?_ | refine q_go (fun w hS => m_fieldAddr_rd Try.underlying54 (hi := ti43) (hS := hS)) ?_ | refine q_go (fun w hS => m_fieldAddr_vec Try.underlying54 (hi := ti43) (hS := hS)) ?_
    try simp only [opv, n1, n2, n3, n4, Value.cells, Nat.zero_add, Nat.add_zero, List.getElem_toArray, List.getElem_cons_zero, List.getElem_cons_succ]
    refine q_on (yi (t := 38) rfl rfl) ?_
    first | refine q_go (fun w hS => m_load_row Try.underlying43 (hi := ti43) (hS := hS) (hfit := by rw [arows_len]; omega)) ?_ | refine q_go (fun w hS => m_loada_obj Try.underlying43 (hi := ti43) (hS := hS) (hfit := by rw [arows_len]; omega)) ?_ | refine q_go (fun w hS => m_loada_bx Try.underlying43 (hi := ti43) (hS := hS) (hfit := by rw [arows_len]; omega)) ?_ | refine q_go (fun w hS => m_loada_rd Try.underlying43 (hi := ti43) (hS := hS) (hfit := by rw [arows_len]; omega)) ?_ | refine q_go (fun w hS => m_loada_vec Try.underlying43 (hi := ti43) (hS := hS) (hfit := by rw [arows_len]; omega)) ?_
    try simp only [opv, n1, n2, n3, n4, Value.cells, List.getElem_toArray, List.getElem_cons_zero, List.getElem_cons_succ]
    rw [arow_key (by omega) hv, hx]
    refine q_on (yi (t := 38) rfl rfl) ?_
    apply q_call en56
    case H =>
      intro w hS
      try simp only [opv, n1, n2, n3, n4, List.map_toArray, List.map_cons, List.map_nil, List.append_toArray, List.cons_append, List.nil_append, Array.append_empty]
      refine CallR.mono (c_ref08Less (akey a) (akey x) hka hkx _) ?_
      rintro _ w1 ⟨rfl, hE⟩; exact ⟨rfl, hS.ext hE⟩
    try simp only [opv, n1, n2, n3, n4, Value.cells]
    first | refine q_go (fun w hS => s_pick_t) ?_ | refine q_go (fun w hS => s_pick_f) ?_
    try simp only [opv, n1, n2, n3, n4, Value.cells]
    clear hS
    refine q_nil fun w10 hS => ?_
    refine hK14 _ _ ?_
    refine x_cond (ht := fun hc3 => ?_) (hf := fun hc3 => ?_)
    ·
     try simp only [decide_eq_true_eq, decide_eq_false_iff_not, Bool.not_eq_true', Bool.not_eq_false', Int.not_lt, Int.not_le, ne_eq, Decidable.not_not, bne_iff_ne, beq_iff_eq, not_true_eq_false, not_false_eq_true] at hc3
     have hst2 := hps.trans (put_lt hne hc3)
     refine x_seq fun K15 hK15 => ?_
     refine x_region ?_
     refine s_go (s_move) ?_
     try simp only [opv, n1, n2, n3, n4, Value.cells]
     first | refine s_go (m_load_row Try.underlying54 (hi := ti54) (hS := hS) (hfit := by first | omega | (rw [zi_size (by omega)]; first | rfl | decide) | (simp only [ic_size, List.length_map, List.size_toArray]; first | omega | decide) | rfl | (simp [*]; done) | (simp [*]; omega))) ?_ | refine s_go (m_loada_obj Try.underlying54 (hi := ti54) (hS := hS) (hfit := by first | omega | (rw [zi_size (by omega)]; first | rfl | decide) | (simp only [ic_size, List.length_map, List.size_toArray]; first | omega | decide) | rfl | (simp [*]; done) | (simp [*]; omega))) ?_ | refine s_go (m_loada_bx Try.underlying54 (hi := ti54) (hS := hS) (hfit := by first | omega | (rw [zi_size (by omega)]; first | rfl | decide) | (simp only [ic_size, List.length_map, List.size_toArray]; first | omega | decide) | rfl | (simp [*]; done) | (simp [*]; omega))) ?_ | refine s_go (m_loada_rd Try.underlying54 (hi := ti54) (hS := hS) (hfit := by first | omega | (rw [zi_size (by omega)]; first | rfl | decide) | (simp only [ic_size, List.length_map, List.size_toArray]; first | omega | decide) | rfl | (simp [*]; done) | (simp [*]; omega))) ?_ | refine s_go (m_loada_vec Try.underlying54 (hi := ti54) (hS := hS) (hfit := by first | omega | (rw [zi_size (by omega)]; first | rfl | decide) | (simp only [ic_size, List.length_map, List.size_toArray]; first | omega | decide) | rfl | (simp [*]; done) | (simp [*]; omega))) ?_
     try simp only [opv, n1, n2, n3, n4, Value.cells, List.getElem_toArray, List.getElem_cons_zero, List.getElem_cons_succ]
     refine m_buildRow (cells := (AA a)) Try.underlying22 ti54 (hc := by simp only [List.map_toArray, List.map_cons, List.map_nil, opv, n1, n2, n3, n4, Value.cells, List.toList_toArray]; exact fill_one (by rfl) (zi_size21 hal) (by rfl)) (hS := hS) (h := fun w11 g11 hS => ?_)
     try simp only [opv, n1, n2, n3, n4, Value.cells, Array.toArray_toList] at hS ⊢
     replace hS := hS.obj_rd (sz := 21) (n := 1) (by exact zi_size21 hal) .head
     rw [arow_one hal] at hS
     refine m_append Try.underlying22 ti54 (hS := hS) (h1 := rowsZ_cells _ _) (h := fun w12 A12 C12 hS => ?_)
     try simp only [← List.map_append, ← List.map_drop, ← List.map_take, Nat.mul_one, Nat.zero_mul, Nat.sub_zero, List.drop_zero, List.nil_append, Nat.zero_add] at hS ⊢
     try simp only [opv, n1, n2, n3, n4, Value.cells, Array.toArray_toList] at hS ⊢
     rw [add_one] at hS
     refine s_go (s_assign) ?_
     try simp only [opv, n1, n2, n3, n4, Value.cells]
     refine x_nil ?_
     refine hK15 _ _ ?_
     refine x_region ?_
     refine s_go (s_assign) ?_
     try simp only [opv, n1, n2, n3, n4, Value.cells]
     refine x_nil ?_
     refine hK13 _ _ ?_
     refine x_region ?_
     refine s_go (s_move) ?_
     try simp only [opv, n1, n2, n3, n4, Value.cells]
     refine s_go (s_move) ?_
     try simp only [opv, n1, n2, n3, n4, Value.cells]
     refine s_go (s_move) ?_
     try simp only [opv, n1, n2, n3, n4, Value.cells]
     first | refine s_go (m_indexAddr_rd Try.underlying22 ti54 (hS := hS)) ?_ | refine s_go (m_indexAddr_vec Try.underlying22 ti54 (hS := hS)) ?_
     try simp only [opv, n1, n2, n3, n4, Value.cells, Nat.mul_one, Nat.zero_add, Int.toNat_natCast, Int.reduceToNat]
     first | refine s_go (m_load_row Try.underlying54 (hi := ti54) (hS := hS) (hfit := by rw [arows_len]; omega)) ?_ | refine s_go (m_loada_obj Try.underlying54 (hi := ti54) (hS := hS) (hfit := by rw [arows_len]; omega)) ?_ | refine s_go (m_loada_bx Try.underlying54 (hi := ti54) (hS := hS) (hfit := by rw [arows_len]; omega)) ?_ | refine s_go (m_loada_rd Try.underlying54 (hi := ti54) (hS := hS) (hfit := by rw [arows_len]; omega)) ?_ | refine s_go (m_loada_vec Try.underlying54 (hi := ti54) (hS := hS) (hfit := by rw [arows_len]; omega)) ?_
     try simp only [opv, n1, n2, n3, n4, Value.cells, List.getElem_toArray, List.getElem_cons_zero, List.getElem_cons_succ]
     rw [arow_get (by omega) hv, hx]
     refine m_buildRow (cells := (AA x)) Try.underlying22 ti54 (hc := by simp only [List.map_toArray, List.map_cons, List.map_nil, opv, n1, n2, n3, n4, Value.cells, List.toList_toArray]; exact fill_one (by rfl) (zi_size21 hxl) (by rfl)) (hS := hS) (h := fun w13 g13 hS => ?_)
     try simp only [opv, n1, n2, n3, n4, Value.cells, Array.toArray_toList] at hS ⊢
     replace hS := hS.obj_rd (sz := 21) (n := 1) (by exact zi_size21 hxl) .head
     rw [arow_one hxl] at hS
     refine m_append Try.underlying22 ti54 (hS := hS) (h1 := rowsZ_cells _ _) (h := fun w14 A14 C14 hS => ?_)
     try simp only [← List.map_append, ← List.map_drop, ← List.map_take, Nat.mul_one, Nat.zero_mul, Nat.sub_zero, List.drop_zero, List.nil_append, Nat.zero_add] at hS ⊢
     try simp only [opv, n1, n2, n3, n4, Value.cells, Array.toArray_toList] at hS ⊢
     rw [add_one] at hS
     refine s_go (s_assign) ?_
     try simp only [opv, n1, n2, n3, n4, Value.cells]
     refine x_nil ?_
     refine hK8 _ _ ?_
     refine x_region ?_
     refine s_go (s_move) ?_
     try simp only [opv, n1, n2, n3, n4, Value.cells]
     refine s_go (s_add (hc := by first | exact wr_i64 (by omega) (by omega) | rfl)) ?_
     try simp only [opv, n1, n2, n3, n4, Value.cells]
     refine s_go (s_assign) ?_
     try simp only [opv, n1, n2, n3, n4, Value.cells]
     refine x_nil ?_
     refine loop_back (m' := l.length - (k + 1)) (by simp only [clob, List.foldl, n1, n2, n3, n4]) ?_ ?_
     · try simp only [opv, n1, n2, n3, n4, Value.cells]
       refine ⟨k + 1, _, _, _, _, by omega, by omega, by rfl, by rfl, by simp only [List.length_append, List.length_cons, List.length_nil, Nat.zero_add]; rfl, hst2, by simp; omega, ?_⟩
       simp only [List.length_append, List.length_cons, List.length_nil, Nat.zero_add]; exact hS.sel (by repeat (first | exact Sel.nil | (refine Sel.cons (by repeat (first | exact Del.head | apply Del.tail)) ?_)))
     · omega
    ·
     try simp only [decide_eq_true_eq, decide_eq_false_iff_not, Bool.not_eq_true', Bool.not_eq_false', Int.not_lt, Int.not_le, ne_eq, Decidable.not_not, bne_iff_ne, beq_iff_eq, not_true_eq_false, not_false_eq_true] at hc3
     try have hst2 := hps.trans (put_on hne hc3)
     refine x_skip ?_
     refine hK13 _ _ ?_
     refine x_region ?_
     refine s_go (s_move) ?_
     try simp only [opv, n1, n2, n3, n4, Value.cells]
     refine s_go (s_move) ?_
     try simp only [opv, n1, n2, n3, n4, Value.cells]
     refine s_go (s_move) ?_
     try simp only [opv, n1, n2, n3, n4, Value.cells]
     first | refine s_go (m_indexAddr_rd Try.underlying22 ti54 (hS := hS)) ?_ | refine s_go (m_indexAddr_vec Try.underlying22 ti54 (hS := hS)) ?_
     try simp only [opv, n1, n2, n3, n4, Value.cells, Nat.mul_one, Nat.zero_add, Int.toNat_natCast, Int.reduceToNat]
     first | refine s_go (m_load_row Try.underlying54 (hi := ti54) (hS := hS) (hfit := by rw [arows_len]; omega)) ?_ | refine s_go (m_loada_obj Try.underlying54 (hi := ti54) (hS := hS) (hfit := by rw [arows_len]; omega)) ?_ | refine s_go (m_loada_bx Try.underlying54 (hi := ti54) (hS := hS) (hfit := by rw [arows_len]; omega)) ?_ | refine s_go (m_loada_rd Try.underlying54 (hi := ti54) (hS := hS) (hfit := by rw [arows_len]; omega)) ?_ | refine s_go (m_loada_vec Try.underlying54 (hi := ti54) (hS := hS) (hfit := by rw [arows_len]; omega)) ?_
     try simp only [opv, n1, n2, n3, n4, Value.cells, List.getElem_toArray, List.getElem_cons_zero, List.getElem_cons_succ]
     rw [arow_get (by omega) hv, hx]
     refine m_buildRow (cells := (AA x)) Try.underlying22 ti54 (hc := by simp only [List.map_toArray, List.map_cons, List.map_nil, opv, n1, n2, n3, n4, Value.cells, List.toList_toArray]; exact fill_one (by rfl) (zi_size21 hxl) (by rfl)) (hS := hS) (h := fun w15 g15 hS => ?_)
     try simp only [opv, n1, n2, n3, n4, Value.cells, Array.toArray_toList] at hS ⊢
     replace hS := hS.obj_rd (sz := 21) (n := 1) (by exact zi_size21 hxl) .head
     rw [arow_one hxl] at hS
     refine m_append Try.underlying22 ti54 (hS := hS) (h1 := rowsZ_cells _ _) (h := fun w16 A16 C16 hS => ?_)
     try simp only [← List.map_append, ← List.map_drop, ← List.map_take, Nat.mul_one, Nat.zero_mul, Nat.sub_zero, List.drop_zero, List.nil_append, Nat.zero_add] at hS ⊢
     try simp only [opv, n1, n2, n3, n4, Value.cells, Array.toArray_toList] at hS ⊢
     rw [add_one] at hS
     refine s_go (s_assign) ?_
     try simp only [opv, n1, n2, n3, n4, Value.cells]
     refine x_nil ?_
     refine hK8 _ _ ?_
     refine x_region ?_
     refine s_go (s_move) ?_
     try simp only [opv, n1, n2, n3, n4, Value.cells]
     refine s_go (s_add (hc := by first | exact wr_i64 (by omega) (by omega) | rfl)) ?_
     try simp only [opv, n1, n2, n3, n4, Value.cells]
     refine s_go (s_assign) ?_
     try simp only [opv, n1, n2, n3, n4, Value.cells]
     refine x_nil ?_
     refine loop_back (m' := l.length - (k + 1)) (by simp only [clob, List.foldl, n1, n2, n3, n4]) ?_ ?_
     · try simp only [opv, n1, n2, n3, n4, Value.cells]
       refine ⟨k + 1, _, _, _, _, by omega, by omega, by rfl, by rfl, by simp only [List.length_append, List.length_cons, List.length_nil, Nat.zero_add]; rfl, hst2, by simp; omega, ?_⟩
       simp only [List.length_append, List.length_cons, List.length_nil, Nat.zero_add]; exact hS.sel (by repeat (first | exact Sel.nil | (refine Sel.cons (by repeat (first | exact Del.head | apply Del.tail)) ?_)))
     · omega
   ·
    try simp only [n3, n4]
    try simp only [decide_eq_true_eq, decide_eq_false_iff_not, Bool.not_eq_true', Bool.not_eq_false', Int.not_lt, Int.not_le, ne_eq, Decidable.not_not] at hp1
    obtain rfl : dn = true := by simpa using hp1
    have hst2 := hps.trans (put_dn hne)
    refine q_off (yi (t := 38) rfl rfl) ?_
    try simp only [opv, n1, n2, n3, n4, Value.cells]
    refine q_off (yi (t := 38) rfl rfl) ?_
    try simp only [opv, n1, n2, n3, n4, Value.cells]
    refine q_off (yi (t := 38) rfl rfl) ?_
    try simp only [opv, n1, n2, n3, n4, Value.cells]
    refine q_off (yi (t := 38) rfl rfl) ?_
    try simp only [opv, n1, n2, n3, n4, Value.cells]
    refine q_off (yi (t := 38) rfl rfl) ?_
    try simp only [opv, n1, n2, n3, n4, Value.cells]
    refine q_off (yi (t := 38) rfl rfl) ?_
    try simp only [opv, n1, n2, n3, n4, Value.cells]
    refine q_off (yi (t := 38) rfl rfl) ?_
    try simp only [opv, n1, n2, n3, n4, Value.cells]
    refine q_off (yi (t := 38) rfl rfl) ?_
    try simp only [opv, n1, n2, n3, n4, Value.cells]
    first | refine q_go (fun w hS => s_pick_t) ?_ | refine q_go (fun w hS => s_pick_f) ?_
    try simp only [opv, n1, n2, n3, n4, Value.cells]
    clear hS
    refine q_nil fun w17 hS => ?_
    refine hK14 _ _ ?_
    refine x_cond_f (h := ?_)
    try have hst2 := hps.trans (put_on hne @c)
    refine x_skip ?_
    refine hK13 _ _ ?_
    refine x_region ?_
    refine s_go (s_move) ?_
    try simp only [opv, n1, n2, n3, n4, Value.cells]
    refine s_go (s_move) ?_
    try simp only [opv, n1, n2, n3, n4, Value.cells]
    refine s_go (s_move) ?_
    try simp only [opv, n1, n2, n3, n4, Value.cells]
    first | refine s_go (m_indexAddr_rd Try.underlying22 ti54 (hS := hS)) ?_ | refine s_go (m_indexAddr_vec Try.underlying22 ti54 (hS := hS)) ?_
    try simp only [opv, n1, n2, n3, n4, Value.cells, Nat.mul_one, Nat.zero_add, Int.toNat_natCast, Int.reduceToNat]
    first | refine s_go (m_load_row Try.underlying54 (hi := ti54) (hS := hS) (hfit := by rw [arows_len]; omega)) ?_ | refine s_go (m_loada_obj Try.underlying54 (hi := ti54) (hS := hS) (hfit := by rw [arows_len]; omega)) ?_ | refine s_go (m_loada_bx Try.underlying54 (hi := ti54) (hS := hS) (hfit := by rw [arows_len]; omega)) ?_ | refine s_go (m_loada_rd Try.underlying54 (hi := ti54) (hS := hS) (hfit := by rw [arows_len]; omega)) ?_ | refine s_go (m_loada_vec Try.underlying54 (hi := ti54) (hS := hS) (hfit := by rw [arows_len]; omega)) ?_
    try simp only [opv, n1, n2, n3, n4, Value.cells, List.getElem_toArray, List.getElem_cons_zero, List.getElem_cons_succ]
    rw [arow_get (by omega) hv, hx]
    refine m_buildRow (cells := (AA x)) Try.underlying22 ti54 (hc := by simp only [List.map_toArray, List.map_cons, List.map_nil, opv, n1, n2, n3, n4, Value.cells, List.toList_toArray]; exact fill_one (by rfl) (zi_size21 hxl) (by rfl)) (hS := hS) (h := fun w18 g18 hS => ?_)
    try simp only [opv, n1, n2, n3, n4, Value.cells, Array.toArray_toList] at hS ⊢
    replace hS := hS.obj_rd (sz := 21) (n := 1) (by exact zi_size21 hxl) .head
    rw [arow_one hxl] at hS
    refine m_append Try.underlying22 ti54 (hS := hS) (h1 := rowsZ_cells _ _) (h := fun w19 A19 C19 hS => ?_)
    try simp only [← List.map_append, ← List.map_drop, ← List.map_take, Nat.mul_one, Nat.zero_mul, Nat.sub_zero, List.drop_zero, List.nil_append, Nat.zero_add] at hS ⊢
    try simp only [opv, n1, n2, n3, n4, Value.cells, Array.toArray_toList] at hS ⊢
    rw [add_one] at hS
    refine s_go (s_assign) ?_
    try simp only [opv, n1, n2, n3, n4, Value.cells]
    refine x_nil ?_
    refine hK8 _ _ ?_
    refine x_region ?_
    refine s_go (s_move) ?_
    try simp only [opv, n1, n2, n3, n4, Value.cells]
    refine s_go (s_add (hc := by first | exact wr_i64 (by omega) (by omega) | rfl)) ?_
    try simp only [opv, n1, n2, n3, n4, Value.cells]
    refine s_go (s_assign) ?_
    try simp only [opv, n1, n2, n3, n4, Value.cells]
    refine x_nil ?_
    refine loop_back (m' := l.length - (k + 1)) (by simp only [clob, List.foldl, n1, n2, n3, n4]) ?_ ?_
    · try simp only [opv, n1, n2, n3, n4, Value.cells]
      refine ⟨k + 1, _, _, _, _, by omega, by omega, by rfl, by rfl, by simp only [List.length_append, List.length_cons, List.length_nil, Nat.zero_add]; rfl, hst2, by simp; omega, ?_⟩
      simp only [List.length_append, List.length_cons, List.length_nil, Nat.zero_add]; exact hS.sel (by repeat (first | exact Sel.nil | (refine Sel.cons (by repeat (first | exact Del.head | apply Del.tail)) ?_)))
    · omega
 ·
  try simp only [decide_eq_true_eq, decide_eq_false_iff_not, Bool.not_eq_true', Bool.not_eq_false', Int.not_lt, Int.not_le, ne_eq, Decidable.not_not, bne_iff_ne, beq_iff_eq, not_true_eq_false, not_false_eq_true] at hc1
  obtain rfl : k = l.length := by omega
  rw [List.take_of_length_le (Nat.le_refl _)] at hst
  have hpe := put_end hst
  refine x_exit (look_here ?_)
  refine hK4 _ _ ?_
  refine x_seq fun K16 hK16 => ?_
  refine x_seq fun K17 hK17 => ?_
  refine x_region ?_
  refine s_go (s_move) ?_
  try simp only [opv, n1, n2, n3, n4, Value.cells]
  refine s_go (s_not) ?_
  try simp only [opv, n1, n2, n3, n4, Value.cells]
  refine x_nil ?_
  refine hK17 _ _ ?_
  refine x_cond (ht := fun hc5 => ?_) (hf := fun hc5 => ?_)
  ·
   try simp only [decide_eq_true_eq, decide_eq_false_iff_not, Bool.not_eq_true', Bool.not_eq_false', Int.not_lt, Int.not_le, ne_eq, Decidable.not_not, bne_iff_ne, beq_iff_eq, not_true_eq_false, not_false_eq_true] at hc5
   obtain rfl : dn = false := by simpa using hc5
   rw [if_neg (by decide)] at hpe
   refine x_region ?_
   refine s_go (s_move) ?_
   try simp only [opv, n1, n2, n3, n4, Value.cells]
   first | refine s_go (m_load_row Try.underlying54 (hi := ti54) (hS := hS) (hfit := by first | omega | (rw [zi_size (by omega)]; first | rfl | decide) | (simp only [ic_size, List.length_map, List.size_toArray]; first | omega | decide) | rfl | (simp [*]; done) | (simp [*]; omega))) ?_ | refine s_go (m_loada_obj Try.underlying54 (hi := ti54) (hS := hS) (hfit := by first | omega | (rw [zi_size (by omega)]; first | rfl | decide) | (simp only [ic_size, List.length_map, List.size_toArray]; first | omega | decide) | rfl | (simp [*]; done) | (simp [*]; omega))) ?_ | refine s_go (m_loada_bx Try.underlying54 (hi := ti54) (hS := hS) (hfit := by first | omega | (rw [zi_size (by omega)]; first | rfl | decide) | (simp only [ic_size, List.length_map, List.size_toArray]; first | omega | decide) | rfl | (simp [*]; done) | (simp [*]; omega))) ?_ | refine s_go (m_loada_rd Try.underlying54 (hi := ti54) (hS := hS) (hfit := by first | omega | (rw [zi_size (by omega)]; first | rfl | decide) | (simp only [ic_size, List.length_map, List.size_toArray]; first | omega | decide) | rfl | (simp [*]; done) | (simp [*]; omega))) ?_ | refine s_go (m_loada_vec Try.underlying54 (hi := ti54) (hS := hS) (hfit := by first | omega | (rw [zi_size (by omega)]; first | rfl | decide) | (simp only [ic_size, List.length_map, List.size_toArray]; first | omega | decide) | rfl | (simp [*]; done) | (simp [*]; omega))) ?_
   try simp only [opv, n1, n2, n3, n4, Value.cells, List.getElem_toArray, List.getElem_cons_zero, List.getElem_cons_succ]
   refine m_buildRow (cells := (AA a)) Try.underlying22 ti54 (hc := by simp only [List.map_toArray, List.map_cons, List.map_nil, opv, n1, n2, n3, n4, Value.cells, List.toList_toArray]; exact fill_one (by rfl) (zi_size21 hal) (by rfl)) (hS := hS) (h := fun w20 g20 hS => ?_)
   try simp only [opv, n1, n2, n3, n4, Value.cells, Array.toArray_toList] at hS ⊢
   replace hS := hS.obj_rd (sz := 21) (n := 1) (by exact zi_size21 hal) .head
   rw [arow_one hal] at hS
   refine m_append Try.underlying22 ti54 (hS := hS) (h1 := rowsZ_cells _ _) (h := fun w21 A21 C21 hS => ?_)
   try simp only [← List.map_append, ← List.map_drop, ← List.map_take, Nat.mul_one, Nat.zero_mul, Nat.sub_zero, List.drop_zero, List.nil_append, Nat.zero_add] at hS ⊢
   try simp only [opv, n1, n2, n3, n4, Value.cells, Array.toArray_toList] at hS ⊢
   rw [add_one] at hS
   refine s_go (s_assign) ?_
   try simp only [opv, n1, n2, n3, n4, Value.cells]
   refine x_nil ?_
   refine hK16 _ _ ?_
   refine x_seq fun K18 hK18 => ?_
   refine x_region ?_
   refine s_go (s_move) ?_
   try simp only [opv, n1, n2, n3, n4, Value.cells]
   refine s_go (s_assign) ?_
   try simp only [opv, n1, n2, n3, n4, Value.cells]
   refine x_nil ?_
   refine hK18 _ _ ?_
   refine x_ret ?_
   refine r_tmp rfl ?_
   rw [hpe]
   first
   | exact ⟨_, _, rfl, hS.sel (by repeat (first | exact Sel.nil | (refine Sel.cons (by repeat (first | exact Del.head | apply Del.tail)) ?_)))⟩
   | (rw [List.length_append]; exact ⟨_, _, rfl, hS.sel (by repeat (first | exact Sel.nil | (refine Sel.cons (by repeat (first | exact Del.head | apply Del.tail)) ?_)))⟩)
  ·
   try simp only [decide_eq_true_eq, decide_eq_false_iff_not, Bool.not_eq_true', Bool.not_eq_false', Int.not_lt, Int.not_le, ne_eq, Decidable.not_not, bne_iff_ne, beq_iff_eq, not_true_eq_false, not_false_eq_true] at hc5
   obtain rfl : dn = true := by simpa using hc5
   rw [if_pos rfl] at hpe
   refine x_skip ?_
   refine hK16 _ _ ?_
   refine x_seq fun K19 hK19 => ?_
   refine x_region ?_
   refine s_go (s_move) ?_
   try simp only [opv, n1, n2, n3, n4, Value.cells]
   refine s_go (s_assign) ?_
   try simp only [opv, n1, n2, n3, n4, Value.cells]
   refine x_nil ?_
   refine hK19 _ _ ?_
   refine x_ret ?_
   refine r_tmp rfl ?_
   rw [hpe]
   first
   | exact ⟨_, _, rfl, hS.sel (by repeat (first | exact Sel.nil | (refine Sel.cons (by repeat (first | exact Del.head | apply Del.tail)) ?_)))⟩
   | (rw [List.length_append]; exact ⟨_, _, rfl, hS.sel (by repeat (first | exact Sel.nil | (refine Sel.cons (by repeat (first | exact Del.head | apply Del.tail)) ?_)))⟩)
end Go.Proofs.Ytffmanidnlbjjaa
set_option linter.unusedSimpArgs false
set_option linter.unusedVariables false
set_option maxHeartbeats 600000
set_option maxRecDepth 100000
namespace Go.Proofs.Ytffmanidnlbjjaa
open Go.RowKit

theorem norm_tk {l : List (List Int)} {k : Nat} {x : List Int} (hk : k < l.length) (hx : l.getD k [] = x) (hv : AOks l) : (atomR x = true → normP (l.take (k + 1)) = putS x (normP (l.take k))) ∧ (atomR x = false → normP (l.take (k + 1)) = normP (l.take k)) := by
  have ha : AtomOk x := by rw [← hx]; exact hv.get hk
  rw [norm_take hk, hx]
  refine ⟨fun h => ?_, fun h => ?_⟩
  · rw [if_pos h, put_eq ha (norm_sta (hv.take k))]
  · rw [if_neg (by rw [h]; decide)]
end Go.Proofs.Ytffmanidnlbjjaa
set_option linter.unusedSimpArgs false
set_option linter.unusedVariables false
set_option maxHeartbeats 1000000
set_option maxRecDepth 100000
namespace Go.Proofs.Ytffmanidnlbjjaa
open Go.RowKit

def k10 : List Int := [1, 1, 97, 0, 0, 0, 0, 0, 0, 0, 2, 3]
def b10 : List Int := k10 ++ [2, 0, 0, 0, 0, 0, 0, 0, 0]
end Go.Proofs.Ytffmanidnlbjjaa
set_option linter.unusedSimpArgs false
set_option linter.unusedVariables false
set_option maxHeartbeats 1000000
set_option maxRecDepth 100000
namespace Go.Proofs.Ytffmanidnlbjjaa
open Go.RowKit

def noteK (c : Nat) : List Int := mkKey 4 c nm0 0 0
def noteV (l : List (List Int)) (c : Nat) : List Int := (fnd (noteK c) (normP l)).getD v9
def noteN (l : List (List Int)) (c : Nat) : Nat := kn (noteV l c) 0 / 256 % 4294967296
def noteE (l : List (List Int)) (r : Nat) (tx : List Int) (c : Nat) : Int := if 16 ≤ r ∨ (¬ tx = nm0 ∧ nright tx = false) then 1 else if noteN l c = 4294967295 then 8 else 0
end Go.Proofs.Ytffmanidnlbjjaa
set_option linter.unusedSimpArgs false
set_option linter.unusedVariables false
set_option maxHeartbeats 1000000
set_option maxRecDepth 100000
namespace Go.Proofs.Ytffmanidnlbjjaa
open Go.RowKit

theorem akey_kk {a : List Int} (h : a.length = 21) : kn (akey a) 10 = kn a 10 ∧ kn (akey a) 11 = kn a 11 := by
  match a, h with
  | [_, _, _, _, _, _, _, _, _, _, _, _, _, _, _, _, _, _, _, _, _], _ => exact ⟨rfl, rfl⟩
/-- a state's vector -/
def ofStep (v a : List Int) : List Int := if kn a 0 = 1 then v.set (kn a 10) (max (v.getD (kn a 10) 0) (kn a 11 : Int)) else v
structure VOk (v : List Int) : Prop where
  len : v.length = 16
  nat : ∀ i, 0 ≤ v.getD i 0 ∧ v.getD i 0 ≤ 4294967295
theorem VOk.zero : VOk (List.replicate 16 0) := ⟨rfl, fun i => by
  rw [List.getD_eq_getElem?_getD, List.getElem?_replicate]
  split <;> simp⟩
theorem VOk.set {v : List Int} (h : VOk v) {r : Nat} {n : Int} (h0 : 0 ≤ n) (h1 : n ≤ 4294967295) : VOk (v.set r n) := ⟨by rw [List.length_set]; exact h.len, fun i => by
  by_cases e : r = i
  · subst e
    by_cases hr : r < v.length
    · rw [List.getD_eq_getElem?_getD, List.getElem?_set_self hr]; exact ⟨h0, h1⟩
    · rw [List.set_eq_of_length_le (by omega)]; exact h.nat r
  · rw [List.getD_eq_getElem?_getD, List.getElem?_set_ne e, ← List.getD_eq_getElem?_getD]; exact h.nat i⟩
theorem VOk.step {v a : List Int} (h : VOk v) (ha : AtomOk a) : VOk (ofStep v a) := by
  unfold ofStep
  split
  · have h1 := h.nat (kn a 10)
    have h2 := ha.key.b11
    rw [(akey_kk ha.len).2] at h2
    exact h.set (by omega) (by omega)
  · exact h
end Go.Proofs.Ytffmanidnlbjjaa
set_option linter.unusedSimpArgs false
set_option linter.unusedVariables false
set_option maxHeartbeats 2000000
set_option maxRecDepth 100000
namespace Go.Proofs.Ytffmanidnlbjjaa
open Go.RowKit

theorem fill_key5 {pl : Nat → Option (Nat × Nat)} {it : List Int} {s c r q : Int} (h0 : pl 0 = some (0, 1)) (h1 : pl 1 = some (1, 1)) (h2 : pl 2 = some (2, 8)) (h3 : pl 3 = some (10, 1)) (h4 : pl 4 = some (11, 1)) (hl : it.length = 8) :
    Instr.fill pl #[.int .u8 0, .int .u16 0, .int .u8 0, .int .u8 0, .int .u8 0, .int .u8 0, .int .u8 0, .int .u8 0, .int .u8 0, .int .u8 0, .int .u8 0, .int .u32 0] [(0, .int .u8 s), (1, .int .u16 c), (2, .agg (ic .u8 it)), (3, .int .u8 r), (4, .int .u32 q)] = some (KA ([s, c] ++ it ++ [r, q])) := by
  match it, hl with
  | [_, _, _, _, _, _, _, _], _ =>
    refine fill_cons h0 rfl (Nat.le_of_ble_eq_true rfl) ?_
    refine fill_cons h1 rfl (Nat.le_of_ble_eq_true rfl) ?_
    refine fill_cons h2 rfl (Nat.le_of_ble_eq_true rfl) ?_
    refine fill_cons h3 rfl (Nat.le_of_ble_eq_true rfl) ?_
    refine fill_cons h4 rfl (Nat.le_of_ble_eq_true rfl) ?_
    rfl

end Go.Proofs.Ytffmanidnlbjjaa
set_option linter.unusedSimpArgs false
set_option linter.unusedVariables false
set_option maxHeartbeats 2000000
set_option maxRecDepth 100000
namespace Go.Proofs.Ytffmanidnlbjjaa
open Go.RowKit

def dropA (a : List Int) : List Int := akey a ++ mkV 2 nm0
theorem drop_take {t : List (List Int)} {k : Nat} {x : List Int} (hk : k < t.length) (hx : t.getD k [] = x) : (t.take (k + 1)).map dropA = (t.take k).map dropA ++ [dropA x] := by rw [take_snoc hk, hx, List.map_append]; rfl
end Go.Proofs.Ytffmanidnlbjjaa
set_option linter.unusedSimpArgs false
set_option linter.unusedVariables false
set_option maxHeartbeats 1000000
set_option maxRecDepth 100000
namespace Go.Proofs.Ytffmanidnlbjjaa
open Go.RowKit

def halfB (x : List Int) : Bool := decide (kn x 0 = 2 ∨ kn x 0 = 3)
def halfN (l : List (List Int)) (x : List Int) : Nat := if halfB x = true then kn ((fnd x (normP l)).getD v9) 0 else 0
def turnK (s r c : Nat) (it : List Int) : List Int := mkKey s c it r 0
def turnE (l : List (List Int)) (s r c : Nat) (it : List Int) (n : Int) : Int := if 16 ≤ r ∨ n < 0 ∨ nright it = false then 1 else if 4294967295 < (halfN l (turnK s r c it) : Int) + n then 8 else 0
end Go.Proofs.Ytffmanidnlbjjaa
set_option linter.unusedSimpArgs false
set_option linter.unusedVariables false
set_option maxHeartbeats 1000000
set_option maxRecDepth 100000
namespace Go.Proofs.Ytffmanidnlbjjaa
open Go.RowKit

def cup8 : List Int := [99, 117, 112, 0, 0, 0, 0, 0]
theorem ct2 : turnE [] 2 0 1 cup8 3 = 0 := by decide +kernel
end Go.Proofs.Ytffmanidnlbjjaa
set_option linter.unusedSimpArgs false
set_option linter.unusedVariables false
namespace Go.Proofs.Ytffmanidnlbjjaa
open Go.RowKit
/-- what stands behind a piece of code of a scope whose label is lb -/
def Qg (lb : Nat) (J : Act → World → Prop) (n r : Act → World → Prop) (ex : List (Nat × (Act → World → Prop))) : Exit → Act → World → Prop
  | .goto i, a, w => i = lb ∧ J a w
  | e, a, w => Qx n r ex e a w
section
variable {P : Program} {lb : Nat} {J n r : Act → World → Prop} {ex : List (Nat × (Act → World → Prop))} {a : Act} {w w' : World} {l : List Value}
theorem gx_seq {x y : Code} (h : ∀ K : Act → World → Prop, (∀ a w, y.wp P (Qg lb J n r ex) a w → K a w) → x.wp P (Qg lb J K r ex) a w) : (Code.seq x y).wp P (Qg lb J n r ex) a w :=
  wp_seq (wp_mono (h _ fun _ _ h => h) fun e a w q => by cases e <;> first | exact q | exact q.elim)
theorem gx_ret (h : r a w) : Code.ret.wp P (Qg lb J n r ex) a w := wp_ret h
theorem gx_skip (h : n a w) : Code.skip.wp P (Qg lb J n r ex) a w := wp_skip h
theorem gx_goto (h : J a w) : (Code.goto lb).wp P (Qg lb J n r ex) a w := wp_goto ⟨rfl, h⟩
theorem gx_cond {c : Operand} {x y : Code} {b : Bool} (hc : opv l c = .bool b := by rfl) (ht : b = true → x.wp P (Qg lb J n r ex) (fr l) w) (hf : b = false → y.wp P (Qg lb J n r ex) (fr l) w) : (Code.cond c x y).wp P (Qg lb J n r ex) (fr l) w :=
  wp_cond_split (by rw [eval_fr]; exact hc) ht hf
theorem gx_region {id : Nat} {ops : List Oper} (h : WL P ops.toArray (Qg lb J n r ex) ops a w) : (Code.region id ops.toArray false).wp P (Qg lb J n r ex) a w := wp_region_lit h.run
theorem gx_nil {ops : Array Oper} (h : n a w) : WL P ops (Qg lb J n r ex) [] a w := ⟨h⟩
def ScI (I : Nat → (Nat → Value) → World → Prop) (l : List Value) (V : List Nat) (a : Act) (w : World) : Prop := ∃ m f, a = fr (clob l V f) ∧ I m f w
theorem scope_in {I : Nat → (Nat → Value) → World → Prop} {l lnow : List Value} {V : List Nat} (m : Nat) (he : lnow = clob l V (fun d => lnow.getD d undef)) (hI : I m (fun d => lnow.getD d undef) w) : ScI I l V (fr lnow) w := ⟨m, _, congrArg fr he, hI⟩
theorem x_scope_g {x1 x2 tail : Code} (hn1 : findLabel x1 lb = none) (hn2 : findLabel x2 lb = none) (V : List Nat) (I : Nat → (Nat → Value) → World → Prop)
    (h : x1.wp P (Qx (fun a w => x2.wp P (Qx (ScI I l V) (fun _ _ => False) []) a w) (fun _ _ => False) []) (fr l) w)
    (hr : ∀ m f w, I m f w → tail.wp P (Qg lb (LoopJ I l V m) n r ex) (fr (clob l V f)) w) :
    (Code.scope (.seq x1 (.seq x2 (.seq (.label lb) tail)))).wp P (Qx n r ex) (fr l) w := by
  intro b k cs
  obtain ⟨body, hbody⟩ : ∃ body, body = Code.seq x1 (.seq x2 (.seq (.label lb) tail)) := ⟨_, rfl⟩
  rw [← hbody]
  have hfl : findLabel body lb = some (.seq .skip tail) := by
    rw [hbody]; simp [findLabel, hn1, hn2]
  have hgo : gotoIn lb (.inScope body :: k) = some (.code (.seq .skip tail) :: .inScope body :: k) := by simp [gotoIn, hfl]
  have key : ∀ m f w, I m f w → ∃ e a' w', Qx n r ex e a' w' ∧ Arrives P (lone (b.at (fr (clob l V f)) (.code tail :: .inScope body :: k)) cs w) b k cs e a' w' := by
    intro m
    induction m using Nat.strongRecOn with
    | _ m ih =>
      intro f w hI
      obtain ⟨e, a1, w1, hq, harr⟩ := hr m f w hI b (.inScope body :: k) cs
      cases e with
      | normal => exact ⟨.normal, a1, w1, hq, Steps.trans harr (.one step_inScope)⟩
      | exit id => exact ⟨.exit id, a1, w1, hq, fun k' hk => harr k' (by simp [exitTo, hk])⟩
      | goto i =>
        obtain ⟨rfl, m2, f2, rfl, hI2, hlt⟩ := hq
        obtain ⟨e2, a2, w2, hq2, harr2⟩ := ih m2 hlt f2 w1 hI2
        refine ⟨e2, a2, w2, hq2, .of_steps (Steps.trans (harr _ hgo) (Steps.trans (.one step_seq) (.one step_skip))) harr2⟩
      | ret => exact ⟨.ret, a1, w1, hq, harr⟩
      | panic ch => exact hq.elim
      | outgrown => exact hq.elim
  obtain ⟨e, a1, w1, hq, harr⟩ := h b (.code (.seq x2 (.seq (.label lb) tail)) :: .inScope body :: k) cs
  cases e with
  | normal =>
    obtain ⟨e2, a2, w2, hq2, harr2⟩ := hq b (.code (.seq (.label lb) tail) :: .inScope body :: k) cs
    cases e2 with
    | normal =>
      obtain ⟨m, f, rfl, hI⟩ := hq2
      obtain ⟨e3, a3, w3, hq3, harr3⟩ := key m f w2 hI
      refine ⟨e3, a3, w3, hq3, .of_steps ?_ harr3⟩
      refine .head step_scope ?_
      refine Steps.trans (.one (by rw [hbody]; exact step_seq)) (Steps.trans harr (Steps.trans (.one step_seq) (Steps.trans harr2 (Steps.trans (.one step_seq) (.one step_label)))))
    | exit i => exact hq2.elim
    | goto i => exact hq2.elim
    | ret => exact hq2.elim
    | panic ch => exact hq2.elim
    | outgrown => exact hq2.elim
  | exit i => exact hq.elim
  | goto i => exact hq.elim
  | ret => exact hq.elim
  | panic ch => exact hq.elim
  | outgrown => exact hq.elim
end
end Go.Proofs.Ytffmanidnlbjjaa
set_option linter.unusedSimpArgs false
set_option linter.unusedVariables false
set_option maxHeartbeats 1000000
set_option maxRecDepth 100000
namespace Go.Proofs.Ytffmanidnlbjjaa
open Go.RowKit

def szA (a : List Int) : Int := ((atomOut a).length : Int)
def bySz (s : List (List Int)) : Int := (s.map szA).sum
def lstS (s : List (List Int)) : Int := s.foldl (fun m a => max m (szA a)) 0
theorem byt_take {s : List (List Int)} {k : Nat} {x : List Int} (hk : k < s.length) (hx : s.getD k [] = x) : bySz (s.take (k + 1)) = bySz (s.take k) + szA x := by
  rw [take_snoc hk, hx, bySz, List.map_append, List.sum_append]; simp [bySz]
theorem lst_take {s : List (List Int)} {k : Nat} {x : List Int} (hk : k < s.length) (hx : s.getD k [] = x) : lstS (s.take (k + 1)) = max (lstS (s.take k)) (szA x) := by
  rw [take_snoc hk, hx, lstS, List.foldl_append]; rfl
theorem lst_ge : ∀ {s : List (List Int)} {m : Int}, m ≤ s.foldl (fun m a => max m (szA a)) m ∧ ∀ a ∈ s, szA a ≤ s.foldl (fun m a => max m (szA a)) m
  | [], m => ⟨Int.le_refl _, fun a h => by cases h⟩
  | a :: s, m => by
    obtain ⟨h1, h2⟩ := lst_ge (s := s) (m := max m (szA a))
    rw [List.foldl_cons]
    refine ⟨by omega, fun b hb => ?_⟩
    rcases List.mem_cons.1 hb with rfl | hb
    · omega
    · exact h2 b hb
theorem lst_le : ∀ {s : List (List Int)} {m b : Int}, m ≤ b → (∀ a ∈ s, szA a ≤ b) → s.foldl (fun m a => max m (szA a)) m ≤ b
  | [], _, _, h, _ => h
  | a :: s, m, b, h, h2 => by
    rw [List.foldl_cons]
    exact lst_le (by have := h2 a (by simp); omega) fun x hx => h2 x (by simp [hx])
theorem lst_iff {s : List (List Int)} {b : Int} (hne : s ≠ []) : lstS s ≤ b ↔ ∀ a ∈ s, szA a ≤ b := by
  constructor
  · intro h a ha
    have := (lst_ge (s := s) (m := 0)).2 a ha
    unfold lstS at h; omega
  · intro h
    refine lst_le ?_ h
    cases s with
    | nil => exact absurd rfl hne
    | cons a s => have := h a (by simp); have h2 : 0 ≤ szA a := by unfold szA; omega
                  omega
/-- how many more pieces a greedy cut opens -/
def cost (b : Int) : Int → List (List Int) → Nat
  | _, [] => 0
  | left, x :: s => if left < szA x then 1 + cost b (b - szA x) s else cost b (left - szA x) s
inductive Seg (b : Int) : Int → List (List Int) → Nat → Prop
  | nil {left : Int} : Seg b left [] 0
  | cont {left : Int} {x : List Int} {s : List (List Int)} {k : Nat} : szA x ≤ left → Seg b (left - szA x) s k → Seg b left (x :: s) k
  | opn {left : Int} {x : List Int} {s : List (List Int)} {k : Nat} : szA x ≤ b → Seg b (b - szA x) s k → Seg b left (x :: s) (k + 1)
theorem greedy {b left' : Int} {s : List (List Int)} {k : Nat} (h : Seg b left' s k) : left' ≤ b → ∀ left : Int, left ≤ b → (left' ≤ left → cost b left s ≤ k) ∧ cost b left s ≤ 1 + k := by
  induction h with
  | nil => intro _ left _; exact ⟨fun _ => Nat.le_refl _, Nat.zero_le _⟩
  | @cont l' x s k hx _ ih =>
    intro hb left hl
    have hz : 0 ≤ szA x := by unfold szA; omega
    rw [cost]
    split
    · next hlt =>
      refine ⟨fun _ => by omega, ?_⟩
      have := (ih (by omega) (b - szA x) (by omega)).1 (by omega)
      omega
    · next hlt =>
      have h1 := ih (by omega) (left - szA x) (by omega)
      exact ⟨fun h => h1.1 (by omega), h1.2⟩
  | @opn l' x s k hx _ ih =>
    intro hb left hl
    have hz : 0 ≤ szA x := by unfold szA; omega
    rw [cost]
    split
    · next hlt =>
      have h1 := (ih (by omega) (b - szA x) (by omega)).1 (by omega)
      exact ⟨fun _ => by omega, by omega⟩
    · next hlt =>
      have h1 := (ih (by omega) (left - szA x) (by omega)).2
      exact ⟨fun _ => by omega, by omega⟩
theorem seg_more {b : Int} : ∀ {p s : List (List Int)} {left : Int} {k : Nat}, bySz p ≤ left → (∀ l', Seg b l' s k) → Seg b left (p ++ s) k
  | [], s, left, k, _, h => h left
  | x :: p, s, left, k, hp, h => by
    have e : bySz (x :: p) = szA x + bySz p := by simp [bySz]
    have h0 : ∀ (q : List (List Int)), 0 ≤ bySz q := by
      intro q
      induction q with
      | nil => simp [bySz]
      | cons y q ih => have e : bySz (y :: q) = szA y + bySz q := by simp [bySz]
                       have : 0 ≤ szA y := by unfold szA; omega
                       omega
    have := h0 p
    exact .cont (by omega) (seg_more (by omega) h)
theorem bySz_pos : ∀ (q : List (List Int)), 0 ≤ bySz q := by
  intro q
  induction q with
  | nil => simp [bySz]
  | cons y q ih => have e : bySz (y :: q) = szA y + bySz q := by simp [bySz]
                   have : 0 ≤ szA y := by unfold szA; omega
                   omega
/-- pieces that fit are a way to cut -/
theorem seg_of {b : Int} : ∀ {qs : List (List (List Int))}, (∀ q ∈ qs, q ≠ [] ∧ bySz q ≤ b) → ∀ left, Seg b left qs.flatten qs.length
  | [], _, left => .nil
  | q :: qs, h, left => by
    obtain ⟨h1, h2⟩ := h q (by simp)
    match q, h1 with
    | x :: p, _ =>
      have e : bySz (x :: p) = szA x + bySz p := by simp [bySz]
      have := bySz_pos p
      exact .opn (by omega) (seg_more (by omega) (seg_of fun y hy => h y (by simp [hy])))
/-- no cut has fewer pieces -/
theorem fewest {b : Int} {qs : List (List (List Int))} (h : ∀ q ∈ qs, q ≠ [] ∧ bySz q ≤ b) (hne : qs.flatten ≠ []) : 1 + cost b b qs.flatten ≤ qs.length := by
  match qs, hne with
  | q :: qs, _ =>
    obtain ⟨h1, h2⟩ := h q (by simp)
    have h3 := seg_of (b := b) (qs := qs) (fun y hy => h y (by simp [hy]))
    have h4 := seg_more (p := q) (left := b) h2 h3
    have h5 := (greedy h4 (Int.le_refl _) b (Int.le_refl _)).1 (Int.le_refl _)
    rw [List.flatten_cons, List.length_cons]; omega
/-- a stretch of a state, by its ends -/
def cutS (s : List (List Int)) (p : Nat × Nat) : List (List Int) := (s.take p.2).drop p.1
/-- ends that follow each other -/
def Chn : Nat → List (Nat × Nat) → Nat → Prop
  | i, [], n => i = n
  | i, p :: ps, n => p.1 = i ∧ i < p.2 ∧ Chn p.2 ps n
theorem chn_app {n m : Nat} : ∀ {i : Nat} {ps : List (Nat × Nat)}, Chn i ps n → n < m → Chn i (ps ++ [(n, m)]) m
  | i, [], h, hm => ⟨h.symm, h ▸ hm, rfl⟩
  | i, p :: ps, h, hm => ⟨h.1, h.2.1, chn_app h.2.2 hm⟩
theorem chn_le {n : Nat} : ∀ {i : Nat} {ps : List (Nat × Nat)}, Chn i ps n → i + ps.length ≤ n ∧ ∀ p ∈ ps, p.1 < p.2 ∧ p.2 ≤ n
  | i, [], h => ⟨by rw [h]; simp, fun p hp => by cases hp⟩
  | i, p :: ps, h => by
    obtain ⟨h1, h2⟩ := chn_le h.2.2
    have h3 := h.2.1
    refine ⟨by rw [List.length_cons]; omega, fun q hq => ?_⟩
    rcases List.mem_cons.1 hq with rfl | hq
    · exact ⟨by have := h.1; omega, by omega⟩
    · exact h2 q hq
theorem chn_flat {s : List (List Int)} {n : Nat} : ∀ {i : Nat} {ps : List (Nat × Nat)}, Chn i ps n → (ps.map (cutS s)).flatten = (s.take n).drop i
  | i, [], h => by
    rw [h]; simp [List.drop_of_length_le]
  | i, p :: ps, h => by
    have hle := (chn_le h.2.2).1
    have h3 := h.2.1
    rw [List.map_cons, List.flatten_cons, chn_flat h.2.2, cutS, h.1]
    have e1 : (s.take n).drop i = ((s.take n).drop i).take (p.2 - i) ++ ((s.take n).drop i).drop (p.2 - i) := (List.take_append_drop _ _).symm
    rw [e1, List.drop_drop, show i + (p.2 - i) = p.2 by omega, ← List.drop_take, List.take_take, Nat.min_eq_left (by omega)]
theorem cut_ne {s : List (List Int)} {p : Nat × Nat} (h : p.1 < p.2) (h2 : p.2 ≤ s.length) : cutS s p ≠ [] := fun e => by
  have := congrArg List.length e
  rw [cutS, List.length_drop, List.length_take] at this
  simp at this; omega
theorem cut_sub (s : List (List Int)) (p : Nat × Nat) : (cutS s p).Sublist s := (List.drop_sublist _ _).trans (List.take_sublist _ _)
end Go.Proofs.Ytffmanidnlbjjaa
set_option linter.unusedSimpArgs false
set_option linter.unusedVariables false
set_option maxHeartbeats 2000000
set_option maxRecDepth 100000
namespace Go.Proofs.Ytffmanidnlbjjaa
open Go.RowKit

theorem szA_bd {a : List Int} (h : AtomOk a) : 0 ≤ szA a ∧ szA a ≤ 70 := by have := atomOut_len h; unfold szA; omega
theorem bySz_bd : ∀ {s : List (List Int)}, AOks s → bySz s ≤ 70 * s.length
  | [], _ => by simp [bySz]
  | a :: s, h => by
    have e : bySz (a :: s) = szA a + bySz s := by simp [bySz]
    have h1 := (szA_bd (h a (by simp))).2
    have h2 := bySz_bd (s := s) fun b hb => h b (by simp [hb])
    rw [e, List.length_cons]; omega
theorem lst_bd {s : List (List Int)} (h : AOks s) : 0 ≤ lstS s ∧ lstS s ≤ 70 := ⟨(lst_ge (s := s) (m := 0)).1, lst_le (by decide) fun a ha => (szA_bd (h a ha)).2⟩
theorem arows_cut (s : List (List Int)) (f t : Nat) : ((arows s).drop (f * 21)).take ((t - f) * 21) = arows (cutS s (f, t)) := by
  rw [arows_drop, arows_take, cutS, List.drop_take]
theorem cut_len {s : List (List Int)} {f t : Nat} (h : t ≤ s.length) : (cutS s (f, t)).length = t - f := by
  rw [cutS, List.length_drop, List.length_take]; omega
theorem cut_snoc {s : List (List Int)} {f t : Nat} {x : List Int} (h : f ≤ t) (ht : t < s.length) (hx : s.getD t [] = x) : cutS s (f, t + 1) = cutS s (f, t) ++ [x] := by
  show (s.take (t + 1)).drop f = (s.take t).drop f ++ [x]
  rw [take_snoc ht, hx, List.drop_append_of_le_length (by rw [List.length_take]; omega)]
theorem cut_nil (s : List (List Int)) (f : Nat) : cutS s (f, f) = [] := by
  rw [cutS]; exact List.drop_of_length_le (by rw [List.length_take]; omega)
theorem bySz_app (a b : List (List Int)) : bySz (a ++ b) = bySz a + bySz b := by simp [bySz]
theorem bySz_one (x : List Int) : bySz [x] = szA x := by simp [bySz]
theorem cut_norm {s : List (List Int)} (h : StaR s) (p : Nat × Nat) : normP (cutS s p) = cutS s p := norm_id (h.sub (cut_sub s p))
/-- a stretch as a row -/
def rwP (B : Option Addr) (s : List (List Int)) (cp : Nat × Nat → Nat) (p : Nat × Nat) : Rw := ⟨B.map (·.add (p.1 * 21)), cp p, cutS s p⟩
theorem rd_cut {w : World} {B : Option Addr} {s : List (List Int)} (h : Rd w B 21 s.length (arows s)) {p : Nat × Nat} (h1 : p.1 ≤ p.2) (h2 : p.2 ≤ s.length) : Rd w (B.map (·.add (p.1 * 21))) 21 (cutS s p).length (arows (cutS s p)) := by
  have := ((St.rd1 (S := NoB) h).rd_sub .head p.1 p.2 h1 h2 (B.map (·.add (p.1 * 21))) (fun _ => rfl)).has .head
  rw [arows_cut, ← cut_len (s := s) (f := p.1) h2] at this
  exact this
theorem rwp_ok {w : World} {B : Option Addr} {s : List (List Int)} (cp : Nat × Nat → Nat) (hs : AOks s) (h : Rd w B 21 s.length (arows s)) {p : Nat × Nat} (h1 : p.1 ≤ p.2) (h2 : p.2 ≤ s.length) : RwOk w (rwP B s cp p) := ⟨rd_cut h h1 h2, fun a ha => hs a ((cut_sub s p).subset ha)⟩
def cutE (b : Int) (s : List (List Int)) : Int := if ∀ a ∈ s, szA a ≤ b then 0 else 11
structure CutOk (b : Int) (s : List (List Int)) (ps : List (Nat × Nat)) : Prop where
  bad : ¬ cutE b s = 0 → ps = []
  chn : cutE b s = 0 → Chn 0 ps s.length
  fit : cutE b s = 0 → ∀ p ∈ ps, bySz (cutS s p) ≤ b
  cnt : cutE b s = 0 → ps.length = if s = [] then 0 else 1 + cost b b s
theorem cutE_bad {b : Int} {s : List (List Int)} {x : List Int} (hx : x ∈ s) (h : b < szA x) : cutE b s = 11 := if_neg fun q => by have := q x hx; omega
theorem cutE_ok {b : Int} {s : List (List Int)} (h : ∀ a ∈ s, szA a ≤ b) : cutE b s = 0 := if_pos h
theorem cutE_iff {b : Int} {s : List (List Int)} : cutE b s = 0 ↔ s = [] ∨ lstS s ≤ b := by
  unfold cutE
  constructor
  · intro h
    split at h
    · next q =>
      by_cases e : s = []
      · exact .inl e
      · exact .inr ((lst_iff e).2 q)
    · cases h
  · rintro (rfl | h)
    · rw [if_pos (fun a ha => by cases ha)]
    · by_cases e : s = []
      · rw [e, if_pos (fun a ha => by cases ha)]
      · rw [if_pos ((lst_iff e).1 h)]
theorem cost_end (b left : Int) : cost b left [] = 0 := rfl
theorem cost_drop {b left : Int} {s : List (List Int)} {k : Nat} {x : List Int} (hk : k < s.length) (hx : s.getD k [] = x) : cost b left (s.drop k) = if left < szA x then 1 + cost b (b - szA x) (s.drop (k + 1)) else cost b (left - szA x) (s.drop (k + 1)) := by
  rw [List.drop_eq_getElem_cons hk, ← getD_lt hk, hx, cost]
theorem map_snoc_p {B : Option Addr} {s : List (List Int)} {cp : Nat × Nat → Nat} {ps : List (Nat × Nat)} {p : Nat × Nat} : ((ps.map (rwP B s cp)).map rwV) ++ [rwV (rwP B s cp p)] = ((ps ++ [p]).map (rwP B s cp)).map rwV := by simp
theorem c_chunkLeast1 (w0 : World) (gn : Nat) (z q : Int) (hz : -4000000000000 ≤ z ∧ z ≤ 4000000000000 ∧ -4000000000000 ≤ q ∧ q ≤ 4000000000000) (hM : St (OwnB [.obj gn (.cells #[.int .i64 z] 3 (0, 0))]) w0 w0 [.obj gn (.cells #[.int .i64 z] 3 (0, 0))])  :
    CallR Try.prog 74 #[.int .i64 q, .pointer (some ⟨gn, 0, none⟩)] w0 fun v w' => v = .tuple #[] ∧ St (OwnB [.obj gn (.cells #[.int .i64 z] 3 (0, 0))]) w0 w' [.obj gn (.cells #[.int .i64 (max z q)] 3 (0, 0))] := by
 have hS := hM
 refine c_enter (l := [.int .i64 q, .pointer (some ⟨gn, 0, none⟩), undef, undef, undef, undef]) Try.func74 rfl (by simp only [Try.ntmps74, List.size_toArray, List.length_cons, List.length_nil, Nat.reduceAdd, Nat.reduceSub, Array.replicate_succ, Array.replicate_zero, List.push_toArray, List.append_toArray, List.nil_append, List.cons_append]) ?_
 refine x_region ?_
 first | refine s_go (m_load_obj Try.underlying3 (hS := hS)) ?_ | refine s_go (m_load_bx Try.underlying3 (hS := hS)) ?_ | refine s_go (m_load_rd Try.underlying3 (hS := hS)) ?_ | refine s_go (m_load_vec Try.underlying3 (hS := hS)) ?_
 try simp only [opv, n1, n2, n3, n4, Value.cells, List.getElem_toArray, List.getElem_cons_zero, List.getElem_cons_succ]
 refine s_go (s_move) ?_
 try simp only [opv, n1, n2, n3, n4, Value.cells]
 refine s_go (s_max) ?_
 try simp only [opv, n1, n2, n3, n4, Value.cells]
 first | refine m_store_obj ti3 (hS := hS) (h := fun w1 hS => ?_) | refine m_store_vec ti3 (hS := hS) (h := fun w1 hS => ?_)
 try simp only [opv, n1, n2, n3, n4, Value.cells, Array.toArray_toList] at hS ⊢
 refine x_nil ?_
 refine r_none rfl ?_
 exact ⟨rfl, hS.sel (by repeat (first | exact Sel.nil | (refine Sel.cons (by repeat (first | exact Del.head | apply Del.tail)) ?_)))⟩
theorem c_chunkSizesLeast (w0 : World) (A : Option Addr) (c : Nat) (l : List (List Int)) (hr : Rd w0 A 21 l.length (arows l)) (hv : AOks l) (hn : l.length ≤ 1000000000) (gn : Nat) (hM : St (OwnB [.obj gn (.cells #[.int .i64 0] 3 (0, 0)), .rd A 21 (l).length (arows (l))]) w0 w0 [.obj gn (.cells #[.int .i64 0] 3 (0, 0)), .rd A 21 (l).length (arows (l))])  :
    CallR Try.prog 73 #[.slice A l.length c, .func (.func 74) #[] #[.pointer (some ⟨gn, 0, none⟩)]] w0 fun v w' => v = .tuple #[] ∧ St (OwnB [.obj gn (.cells #[.int .i64 0] 3 (0, 0)), .rd A 21 (l).length (arows (l))]) w0 w' [.obj gn (.cells #[.int .i64 (lstS (normP l))] 3 (0, 0))] := by
 have hS := hM
 have hno := (norm_sta hv).ok
 have hnb := norm_len l
 have hnl := arows_len (normP l)
 refine c_enter (l := [.slice A l.length c, .func (.func 74) #[] #[.pointer (some ⟨gn, 0, none⟩)], undef, undef, undef, undef, undef, undef, undef, undef, undef, undef, undef, undef, undef, undef, undef, undef]) Try.func73 rfl (by simp only [Try.ntmps73, List.size_toArray, List.length_cons, List.length_nil, Nat.reduceAdd, Nat.reduceSub, Array.replicate_succ, Array.replicate_zero, List.push_toArray, List.append_toArray, List.nil_append, List.cons_append]) ?_
 refine x_seq fun K1 hK1 => ?_
 refine x_region ?_
 refine s_go (s_move) ?_
 try simp only [opv, n1, n2, n3, n4, Value.cells]
 refine s_call en68 ?_
 try simp only [opv, n1, n2, n3, n4, Value.cells, List.map_toArray, List.map_cons, List.map_nil, List.append_toArray, List.cons_append, List.nil_append, Array.append_empty]
 refine CallR.mono (c_latNorm _ A c l (hS.hasRd (by repeat (first | exact Has.head | apply Has.tail))) hv hn) ?_
 rintro _ w1 ⟨Bn, cn, rfl, hC1⟩
 replace hS := hS.call hC1
 simp only [List.cons_append, List.nil_append] at hS
 replace hS := hS.vec_rd (by exact Upd.head)
 try simp only [opv, n1, n2, n3, n4, Value.cells]
 refine s_go (s_len_sl Try.underlying22) ?_
 try simp only [opv, n1, n2, n3, n4, Value.cells]
 refine s_go (s_move) ?_
 try simp only [opv, n1, n2, n3, n4, Value.cells]
 refine x_nil ?_
 refine hK1 _ _ ?_
 refine x_block ?_
 refine x_loop [5, 9, 10, 11, 12, 13, 14, 15, 16, 17] (fun m f w => ∃ k : Nat, k ≤ (normP l).length ∧ m = (normP l).length - k ∧ f 9 = .int .i64 (k : Int) ∧ St (OwnB [.obj gn (.cells #[.int .i64 0] 3 (0, 0)), .rd A 21 (l).length (arows (l))]) w0 w [.obj gn (.cells #[.int .i64 (lstS ((normP l).take k))] 3 (0, 0)), .rd Bn 21 (normP l).length (arows (normP l))]) ((normP l).length) ?init1 (fun m1 f1 wl1 hI => ?_)
 case init1 =>
  try simp only [opv, n1, n2, n3, n4, Value.cells]
  exact ⟨0, by omega, rfl, rfl, hS.sel (by repeat (first | exact Sel.nil | (refine Sel.cons (by repeat (first | exact Del.head | apply Del.tail)) ?_)))⟩
 obtain ⟨k, hk, hm, h9, hS⟩ := hI
 simp only [clob, List.foldl, n3, n4, h9]
 obtain ⟨x, hx⟩ : ∃ x, (normP l).getD k [] = x := ⟨_, rfl⟩
 refine x_seq fun K2 hK2 => ?_
 refine x_region ?_
 refine s_go (s_lss) ?_
 try simp only [opv, n1, n2, n3, n4, Value.cells]
 refine x_nil ?_
 refine hK2 _ _ ?_
 refine x_seq fun K3 hK3 => ?_
 refine x_cond (ht := fun hc1 => ?_) (hf := fun hc1 => ?_)
 ·
  try simp only [decide_eq_true_eq, decide_eq_false_iff_not, Bool.not_eq_true', Bool.not_eq_false', Int.not_lt, Int.not_le, ne_eq, Decidable.not_not, bne_iff_ne, beq_iff_eq, not_true_eq_false, not_false_eq_true] at hc1
  have ha : AtomOk x := by rw [← hx]; exact hno.get (by omega)
  have hal := ha.len
  have hzx := szA_bd ha
  have hst := lst_take (k := k) (by omega) hx
  have hbd := lst_bd (hno.take k)
  refine x_skip ?_
  refine hK3 _ _ ?_
  refine x_seq fun K4 hK4 => ?_
  refine x_block ?_
  refine x_seq fun K5 hK5 => ?_
  refine x_region ?_
  first | refine s_go (m_indexAddr_rd Try.underlying22 ti54 (hS := hS)) ?_ | refine s_go (m_indexAddr_vec Try.underlying22 ti54 (hS := hS)) ?_
  try simp only [opv, n1, n2, n3, n4, Value.cells, Nat.mul_one, Nat.zero_add, Int.toNat_natCast, Int.reduceToNat]
  first | refine s_go (m_load_row Try.underlying54 (hi := ti54) (hS := hS) (hfit := by rw [arows_len]; omega)) ?_ | refine s_go (m_loada_obj Try.underlying54 (hi := ti54) (hS := hS) (hfit := by rw [arows_len]; omega)) ?_ | refine s_go (m_loada_bx Try.underlying54 (hi := ti54) (hS := hS) (hfit := by rw [arows_len]; omega)) ?_ | refine s_go (m_loada_rd Try.underlying54 (hi := ti54) (hS := hS) (hfit := by rw [arows_len]; omega)) ?_ | refine s_go (m_loada_vec Try.underlying54 (hi := ti54) (hS := hS) (hfit := by rw [arows_len]; omega)) ?_
  try simp only [opv, n1, n2, n3, n4, Value.cells, List.getElem_toArray, List.getElem_cons_zero, List.getElem_cons_succ]
  rw [arow_get (by omega) hno, hx]
  refine m_alloc ti54 hS (fun w2 g2 hS => ?_)
  try simp only [opv, n1, n2, n3, n4, Value.cells, Array.toArray_toList] at hS ⊢
  have h0l : (List.replicate 21 (0 : Int)).length = 21 := rfl
  replace hS : St _ _ w2 (.obj g2 (.cells (AA (List.replicate 21 0)) 54 (0, 0)) :: _) := hS
  first | refine m_store_obj ti54 (hS := hS) (hc := by first | exact zi_set rfl (by omega) | exact zi_whole (by omega) (by omega) | (first | exact splice_ic (by first | omega | (simp [*]; done) | (simp [*]; omega)) | exact splice_il (by first | omega | (simp [*]; done) | (simp [*]; omega)) | exact splice_whole (by first | (simp [opv, Value.cells, *]; done) | rfl) | (simp only [opv, n1, n2, Value.cells, splice, List.take_succ_cons, List.take_zero, List.drop_succ_cons, List.drop_zero, List.length_cons, List.length_nil, Nat.zero_add, Nat.reduceAdd, List.append_assoc, List.cons_append, List.nil_append]; rfl))) (hv := by first | rfl | (show (zi _ _).toArray.size = _; rw [zi_size (by omega)]; rfl) | (simp [opv, Value.cells, *]; done)) (hfit := by first | omega | (rw [zi_size (by omega)]; first | rfl | decide) | (simp only [ic_size, List.length_map, List.size_toArray]; first | omega | decide) | rfl | (simp [*]; done) | (simp [*]; omega)) (h1 := by first | exact zi_one _ _ | exact ic_one _ _ | simp [opv, Value.cells, Value.oneCell']) (h := fun w3 hS => ?_) | refine m_store_vec ti54 (hS := hS) (hc := by first | exact zi_set rfl (by omega) | exact zi_whole (by omega) (by omega) | (first | exact splice_ic (by first | omega | (simp [*]; done) | (simp [*]; omega)) | exact splice_il (by first | omega | (simp [*]; done) | (simp [*]; omega)) | exact splice_whole (by first | (simp [opv, Value.cells, *]; done) | rfl) | (simp only [opv, n1, n2, Value.cells, splice, List.take_succ_cons, List.take_zero, List.drop_succ_cons, List.drop_zero, List.length_cons, List.length_nil, Nat.zero_add, Nat.reduceAdd, List.append_assoc, List.cons_append, List.nil_append]; rfl))) (hv := by first | rfl | (show (zi _ _).toArray.size = _; rw [zi_size (by omega)]; rfl) | (simp [opv, Value.cells, *]; done)) (hfit := by first | omega | (rw [zi_size (by omega)]; first | rfl | decide) | (simp only [ic_size, List.length_map, List.size_toArray]; first | omega | decide) | rfl | (simp [*]; done) | (simp [*]; omega)) (h1 := by first | exact zi_one _ _ | exact ic_one _ _ | simp [opv, Value.cells, Value.oneCell']) (h := fun w3 hS => ?_)
  try simp only [opv, n1, n2, n3, n4, Value.cells, Array.toArray_toList] at hS ⊢
  refine x_nil ?_
  refine hK5 _ _ ?_
  refine x_region ?_
  refine s_go (s_move) ?_
  try simp only [opv, n1, n2, n3, n4, Value.cells]
  first | refine s_go (m_load_row Try.underlying54 (hi := ti54) (hS := hS) (hfit := by first | omega | (rw [zi_size (by omega)]; first | rfl | decide) | (simp only [ic_size, List.length_map, List.size_toArray]; first | omega | decide) | rfl | (simp [*]; done) | (simp [*]; omega))) ?_ | refine s_go (m_loada_obj Try.underlying54 (hi := ti54) (hS := hS) (hfit := by first | omega | (rw [zi_size (by omega)]; first | rfl | decide) | (simp only [ic_size, List.length_map, List.size_toArray]; first | omega | decide) | rfl | (simp [*]; done) | (simp [*]; omega))) ?_ | refine s_go (m_loada_bx Try.underlying54 (hi := ti54) (hS := hS) (hfit := by first | omega | (rw [zi_size (by omega)]; first | rfl | decide) | (simp only [ic_size, List.length_map, List.size_toArray]; first | omega | decide) | rfl | (simp [*]; done) | (simp [*]; omega))) ?_ | refine s_go (m_loada_rd Try.underlying54 (hi := ti54) (hS := hS) (hfit := by first | omega | (rw [zi_size (by omega)]; first | rfl | decide) | (simp only [ic_size, List.length_map, List.size_toArray]; first | omega | decide) | rfl | (simp [*]; done) | (simp [*]; omega))) ?_ | refine s_go (m_loada_vec Try.underlying54 (hi := ti54) (hS := hS) (hfit := by first | omega | (rw [zi_size (by omega)]; first | rfl | decide) | (simp only [ic_size, List.length_map, List.size_toArray]; first | omega | decide) | rfl | (simp [*]; done) | (simp [*]; omega))) ?_
  try simp only [opv, n1, n2, n3, n4, Value.cells, List.getElem_toArray, List.getElem_cons_zero, List.getElem_cons_succ]
  refine s_call en69 ?_
  try simp only [opv, n1, n2, n3, n4, Value.cells, List.map_toArray, List.map_cons, List.map_nil, List.append_toArray, List.cons_append, List.nil_append, Array.append_empty]
  refine CallR.mono (c_atomSize x ha _) ?_
  rintro _ w4 ⟨rfl, hE4⟩
  replace hS := hS.ext hE4
  try simp only [opv, n1, n2, n3, n4, Value.cells]
  refine s_callv (hv := rfl) en74 ?_
  try simp only [opv, n1, n2, n3, n4, Value.cells, List.map_toArray, List.map_cons, List.map_nil, List.append_toArray, List.cons_append, List.nil_append, Array.append_empty]
  refine CallR.mono (c_chunkLeast1 _ gn (lstS ((normP l).take k)) (szA x) (by omega) (hS.owns (by repeat (first | exact Spl.nil | (apply Spl.cons (by repeat (first | exact Del.head | apply Del.tail))))))) ?_
  rintro _ w5 ⟨rfl, hC5⟩
  replace hS := hS.frame (by repeat (first | exact Spl.nil | (apply Spl.cons (by repeat (first | exact Del.head | apply Del.tail))))) hC5 (by intro r hr g hg; simp only [List.mem_cons, List.not_mem_nil, or_false] at hr; rcases hr with rfl <;> first | (simp [Res.reads] at hg; done) | exact .inr ⟨_, by simp, .inr hg⟩)
  simp only [List.cons_append, List.nil_append] at hS
  try simp only [opv, n1, n2, n3, n4, Value.cells]
  refine x_nil ?_
  refine hK4 _ _ ?_
  refine x_region ?_
  refine s_go (s_add (hc := by first | exact wr_i64 (by omega) (by omega) | rfl)) ?_
  try simp only [opv, n1, n2, n3, n4, Value.cells]
  refine s_go (s_move) ?_
  try simp only [opv, n1, n2, n3, n4, Value.cells]
  refine x_nil ?_
  refine loop_back (m' := (normP l).length - (k + 1)) (by simp only [clob, List.foldl, n1, n2, n3, n4]) ?_ ?_
  · try simp only [opv, n1, n2, n3, n4, Value.cells]
    rw [← hst] at hS
    exact ⟨k + 1, by omega, by omega, by rfl, hS.sel (by repeat (first | exact Sel.nil | (refine Sel.cons (by repeat (first | exact Del.head | apply Del.tail)) ?_)))⟩
  · omega
 ·
  try simp only [decide_eq_true_eq, decide_eq_false_iff_not, Bool.not_eq_true', Bool.not_eq_false', Int.not_lt, Int.not_le, ne_eq, Decidable.not_not, bne_iff_ne, beq_iff_eq, not_true_eq_false, not_false_eq_true] at hc1
  obtain rfl : k = (normP l).length := by omega
  rw [List.take_of_length_le (Nat.le_refl _)] at hS
  refine x_exit (look_here ?_)
  refine r_none rfl ?_
  exact ⟨rfl, hS.sel (by repeat (first | exact Sel.nil | (refine Sel.cons (by repeat (first | exact Del.head | apply Del.tail)) ?_)))⟩
theorem c_chunkLeast (w0 : World) (A : Option Addr) (c : Nat) (l : List (List Int)) (hr : Rd w0 A 21 l.length (arows l)) (hv : AOks l) (hn : l.length ≤ 1000000000)  :
    CallR Try.prog 28 #[.slice A l.length c] w0 fun v w' => v = .int .i64 (lstS (normP l)) ∧ Ext w0 w' := by
 have hS := St.rd1 (S := NoB) hr
 refine c_enter (l := [.slice A l.length c, undef, undef, undef, undef, undef, undef]) Try.func28 rfl (by simp only [Try.ntmps28, List.size_toArray, List.length_cons, List.length_nil, Nat.reduceAdd, Nat.reduceSub, Array.replicate_succ, Array.replicate_zero, List.push_toArray, List.append_toArray, List.nil_append, List.cons_append]) ?_
 refine x_seq fun K1 hK1 => ?_
 refine x_region ?_
 refine m_alloc ti3 hS (fun w1 g1 hS => ?_)
 try simp only [opv, n1, n2, n3, n4, Value.cells, Array.toArray_toList] at hS ⊢
 obtain ⟨gn, hgn⟩ : ∃ z, z = g1 := ⟨_, rfl⟩
 rw [← hgn] at hS ⊢
 refine x_nil ?_
 refine hK1 _ _ ?_
 refine x_seq fun K2 hK2 => ?_
 refine x_region ?_
 refine s_go (s_move) ?_
 try simp only [opv, n1, n2, n3, n4, Value.cells]
 refine s_go (s_makeFunc) ?_
 try simp only [opv, n1, n2, n3, n4, Value.cells, List.map_toArray, List.map_cons, List.map_nil]
 refine s_call en73 ?_
 try simp only [opv, n1, n2, n3, n4, Value.cells, List.map_toArray, List.map_cons, List.map_nil, List.append_toArray, List.cons_append, List.nil_append, Array.append_empty]
 refine CallR.mono (c_chunkSizesLeast _ A c l (hS.hasRd (by repeat (first | exact Has.head | apply Has.tail))) hv hn gn (hS.owns (by repeat (first | exact Spl.nil | (apply Spl.cons (by repeat (first | exact Del.head | apply Del.tail))))))) ?_
 rintro _ w2 ⟨rfl, hC2⟩
 replace hS := hS.frame (by repeat (first | exact Spl.nil | (apply Spl.cons (by repeat (first | exact Del.head | apply Del.tail))))) hC2 (by intro r hr g hg; simp only [List.mem_cons, List.not_mem_nil, or_false] at hr; rcases hr with rfl <;> first | (simp [Res.reads] at hg; done) | exact .inr ⟨_, by simp, .inr hg⟩)
 simp only [List.cons_append, List.nil_append] at hS
 try simp only [opv, n1, n2, n3, n4, Value.cells]
 refine x_nil ?_
 refine hK2 _ _ ?_
 refine x_seq fun K3 hK3 => ?_
 refine x_region ?_
 first | refine s_go (m_load_obj Try.underlying3 (hS := hS)) ?_ | refine s_go (m_load_bx Try.underlying3 (hS := hS)) ?_ | refine s_go (m_load_rd Try.underlying3 (hS := hS)) ?_ | refine s_go (m_load_vec Try.underlying3 (hS := hS)) ?_
 try simp only [opv, n1, n2, n3, n4, Value.cells, List.getElem_toArray, List.getElem_cons_zero, List.getElem_cons_succ]
 first | refine m_store_obj ti3 (hS := hS) (h := fun w3 hS => ?_) | refine m_store_vec ti3 (hS := hS) (h := fun w3 hS => ?_)
 try simp only [opv, n1, n2, n3, n4, Value.cells, Array.toArray_toList] at hS ⊢
 refine x_nil ?_
 refine hK3 _ _ ?_
 refine x_ret ?_
 refine r_cell_one rfl Try.underlying3 (hS := hS) (hR := ?_)
 exact ⟨rfl, hS.ext_of⟩
theorem c_chunkBytes1 (w0 : World) (gn : Nat) (z q : Int) (hz : -4000000000000 ≤ z ∧ z ≤ 4000000000000 ∧ -4000000000000 ≤ q ∧ q ≤ 4000000000000) (hM : St (OwnB [.obj gn (.cells #[.int .i64 z] 3 (0, 0))]) w0 w0 [.obj gn (.cells #[.int .i64 z] 3 (0, 0))])  :
    CallR Try.prog 75 #[.int .i64 q, .pointer (some ⟨gn, 0, none⟩)] w0 fun v w' => v = .tuple #[] ∧ St (OwnB [.obj gn (.cells #[.int .i64 z] 3 (0, 0))]) w0 w' [.obj gn (.cells #[.int .i64 ((z + q))] 3 (0, 0))] := by
 have hS := hM
 refine c_enter (l := [.int .i64 q, .pointer (some ⟨gn, 0, none⟩), undef, undef, undef, undef]) Try.func75 rfl (by simp only [Try.ntmps75, List.size_toArray, List.length_cons, List.length_nil, Nat.reduceAdd, Nat.reduceSub, Array.replicate_succ, Array.replicate_zero, List.push_toArray, List.append_toArray, List.nil_append, List.cons_append]) ?_
 refine x_region ?_
 first | refine s_go (m_load_obj Try.underlying3 (hS := hS)) ?_ | refine s_go (m_load_bx Try.underlying3 (hS := hS)) ?_ | refine s_go (m_load_rd Try.underlying3 (hS := hS)) ?_ | refine s_go (m_load_vec Try.underlying3 (hS := hS)) ?_
 try simp only [opv, n1, n2, n3, n4, Value.cells, List.getElem_toArray, List.getElem_cons_zero, List.getElem_cons_succ]
 refine s_go (s_move) ?_
 try simp only [opv, n1, n2, n3, n4, Value.cells]
 refine s_go (s_add (hc := by first | exact wr_i64 (by omega) (by omega) | rfl)) ?_
 try simp only [opv, n1, n2, n3, n4, Value.cells]
 first | refine m_store_obj ti3 (hS := hS) (h := fun w1 hS => ?_) | refine m_store_vec ti3 (hS := hS) (h := fun w1 hS => ?_)
 try simp only [opv, n1, n2, n3, n4, Value.cells, Array.toArray_toList] at hS ⊢
 refine x_nil ?_
 refine r_none rfl ?_
 exact ⟨rfl, hS.sel (by repeat (first | exact Sel.nil | (refine Sel.cons (by repeat (first | exact Del.head | apply Del.tail)) ?_)))⟩
theorem c_chunkSizesBytes (w0 : World) (A : Option Addr) (c : Nat) (l : List (List Int)) (hr : Rd w0 A 21 l.length (arows l)) (hv : AOks l) (hn : l.length ≤ 1000000000) (gn : Nat) (hM : St (OwnB [.obj gn (.cells #[.int .i64 0] 3 (0, 0)), .rd A 21 (l).length (arows (l))]) w0 w0 [.obj gn (.cells #[.int .i64 0] 3 (0, 0)), .rd A 21 (l).length (arows (l))])  :
    CallR Try.prog 73 #[.slice A l.length c, .func (.func 75) #[] #[.pointer (some ⟨gn, 0, none⟩)]] w0 fun v w' => v = .tuple #[] ∧ St (OwnB [.obj gn (.cells #[.int .i64 0] 3 (0, 0)), .rd A 21 (l).length (arows (l))]) w0 w' [.obj gn (.cells #[.int .i64 (bySz (normP l))] 3 (0, 0))] := by
 have hS := hM
 have hno := (norm_sta hv).ok
 have hnb := norm_len l
 have hnl := arows_len (normP l)
 refine c_enter (l := [.slice A l.length c, .func (.func 75) #[] #[.pointer (some ⟨gn, 0, none⟩)], undef, undef, undef, undef, undef, undef, undef, undef, undef, undef, undef, undef, undef, undef, undef, undef]) Try.func73 rfl (by simp only [Try.ntmps73, List.size_toArray, List.length_cons, List.length_nil, Nat.reduceAdd, Nat.reduceSub, Array.replicate_succ, Array.replicate_zero, List.push_toArray, List.append_toArray, List.nil_append, List.cons_append]) ?_
 refine x_seq fun K1 hK1 => ?_
 refine x_region ?_
 refine s_go (s_move) ?_
 try simp only [opv, n1, n2, n3, n4, Value.cells]
 refine s_call en68 ?_
 try simp only [opv, n1, n2, n3, n4, Value.cells, List.map_toArray, List.map_cons, List.map_nil, List.append_toArray, List.cons_append, List.nil_append, Array.append_empty]
 refine CallR.mono (c_latNorm _ A c l (hS.hasRd (by repeat (first | exact Has.head | apply Has.tail))) hv hn) ?_
 rintro _ w1 ⟨Bn, cn, rfl, hC1⟩
 replace hS := hS.call hC1
 simp only [List.cons_append, List.nil_append] at hS
 replace hS := hS.vec_rd (by exact Upd.head)
 try simp only [opv, n1, n2, n3, n4, Value.cells]
 refine s_go (s_len_sl Try.underlying22) ?_
 try simp only [opv, n1, n2, n3, n4, Value.cells]
 refine s_go (s_move) ?_
 try simp only [opv, n1, n2, n3, n4, Value.cells]
 refine x_nil ?_
 refine hK1 _ _ ?_
 refine x_block ?_
 refine x_loop [5, 9, 10, 11, 12, 13, 14, 15, 16, 17] (fun m f w => ∃ k : Nat, k ≤ (normP l).length ∧ m = (normP l).length - k ∧ f 9 = .int .i64 (k : Int) ∧ St (OwnB [.obj gn (.cells #[.int .i64 0] 3 (0, 0)), .rd A 21 (l).length (arows (l))]) w0 w [.obj gn (.cells #[.int .i64 (bySz ((normP l).take k))] 3 (0, 0)), .rd Bn 21 (normP l).length (arows (normP l))]) ((normP l).length) ?init1 (fun m1 f1 wl1 hI => ?_)
 case init1 =>
  try simp only [opv, n1, n2, n3, n4, Value.cells]
  exact ⟨0, by omega, rfl, rfl, hS.sel (by repeat (first | exact Sel.nil | (refine Sel.cons (by repeat (first | exact Del.head | apply Del.tail)) ?_)))⟩
 obtain ⟨k, hk, hm, h9, hS⟩ := hI
 simp only [clob, List.foldl, n3, n4, h9]
 obtain ⟨x, hx⟩ : ∃ x, (normP l).getD k [] = x := ⟨_, rfl⟩
 refine x_seq fun K2 hK2 => ?_
 refine x_region ?_
 refine s_go (s_lss) ?_
 try simp only [opv, n1, n2, n3, n4, Value.cells]
 refine x_nil ?_
 refine hK2 _ _ ?_
 refine x_seq fun K3 hK3 => ?_
 refine x_cond (ht := fun hc1 => ?_) (hf := fun hc1 => ?_)
 ·
  try simp only [decide_eq_true_eq, decide_eq_false_iff_not, Bool.not_eq_true', Bool.not_eq_false', Int.not_lt, Int.not_le, ne_eq, Decidable.not_not, bne_iff_ne, beq_iff_eq, not_true_eq_false, not_false_eq_true] at hc1
  have ha : AtomOk x := by rw [← hx]; exact hno.get (by omega)
  have hal := ha.len
  have hzx := szA_bd ha
  have hst := byt_take (k := k) (by omega) hx
  have hbd := bySz_bd (hno.take k)
  have hbd0 := bySz_pos ((normP l).take k)
  rw [List.length_take] at hbd
  refine x_skip ?_
  refine hK3 _ _ ?_
  refine x_seq fun K4 hK4 => ?_
  refine x_block ?_
  refine x_seq fun K5 hK5 => ?_
  refine x_region ?_
  first | refine s_go (m_indexAddr_rd Try.underlying22 ti54 (hS := hS)) ?_ | refine s_go (m_indexAddr_vec Try.underlying22 ti54 (hS := hS)) ?_
  try simp only [opv, n1, n2, n3, n4, Value.cells, Nat.mul_one, Nat.zero_add, Int.toNat_natCast, Int.reduceToNat]
  first | refine s_go (m_load_row Try.underlying54 (hi := ti54) (hS := hS) (hfit := by rw [arows_len]; omega)) ?_ | refine s_go (m_loada_obj Try.underlying54 (hi := ti54) (hS := hS) (hfit := by rw [arows_len]; omega)) ?_ | refine s_go (m_loada_bx Try.underlying54 (hi := ti54) (hS := hS) (hfit := by rw [arows_len]; omega)) ?_ | refine s_go (m_loada_rd Try.underlying54 (hi := ti54) (hS := hS) (hfit := by rw [arows_len]; omega)) ?_ | refine s_go (m_loada_vec Try.underlying54 (hi := ti54) (hS := hS) (hfit := by rw [arows_len]; omega)) ?_
  try simp only [opv, n1, n2, n3, n4, Value.cells, List.getElem_toArray, List.getElem_cons_zero, List.getElem_cons_succ]
  rw [arow_get (by omega) hno, hx]
  refine m_alloc ti54 hS (fun w2 g2 hS => ?_)
  try simp only [opv, n1, n2, n3, n4, Value.cells, Array.toArray_toList] at hS ⊢
  have h0l : (List.replicate 21 (0 : Int)).length = 21 := rfl
  replace hS : St _ _ w2 (.obj g2 (.cells (AA (List.replicate 21 0)) 54 (0, 0)) :: _) := hS
  first | refine m_store_obj ti54 (hS := hS) (hc := by first | exact zi_set rfl (by omega) | exact zi_whole (by omega) (by omega) | (first | exact splice_ic (by first | omega | (simp [*]; done) | (simp [*]; omega)) | exact splice_il (by first | omega | (simp [*]; done) | (simp [*]; omega)) | exact splice_whole (by first | (simp [opv, Value.cells, *]; done) | rfl) | (simp only [opv, n1, n2, Value.cells, splice, List.take_succ_cons, List.take_zero, List.drop_succ_cons, List.drop_zero, List.length_cons, List.length_nil, Nat.zero_add, Nat.reduceAdd, List.append_assoc, List.cons_append, List.nil_append]; rfl))) (hv := by first | rfl | (show (zi _ _).toArray.size = _; rw [zi_size (by omega)]; rfl) | (simp [opv, Value.cells, *]; done)) (hfit := by first | omega | (rw [zi_size (by omega)]; first | rfl | decide) | (simp only [ic_size, List.length_map, List.size_toArray]; first | omega | decide) | rfl | (simp [*]; done) | (simp [*]; omega)) (h1 := by first | exact zi_one _ _ | exact ic_one _ _ | simp [opv, Value.cells, Value.oneCell']) (h := fun w3 hS => ?_) | refine m_store_vec ti54 (hS := hS) (hc := by first | exact zi_set rfl (by omega) | exact zi_whole (by omega) (by omega) | (first | exact splice_ic (by first | omega | (simp [*]; done) | (simp [*]; omega)) | exact splice_il (by first | omega | (simp [*]; done) | (simp [*]; omega)) | exact splice_whole (by first | (simp [opv, Value.cells, *]; done) | rfl) | (simp only [opv, n1, n2, Value.cells, splice, List.take_succ_cons, List.take_zero, List.drop_succ_cons, List.drop_zero, List.length_cons, List.length_nil, Nat.zero_add, Nat.reduceAdd, List.append_assoc, List.cons_append, List.nil_append]; rfl))) (hv := by first | rfl | (show (zi _ _).toArray.size = _; rw [zi_size (by omega)]; rfl) | (simp [opv, Value.cells, *]; done)) (hfit := by first | omega | (rw [zi_size (by omega)]; first | rfl | decide) | (simp only [ic_size, List.length_map, List.size_toArray]; first | omega | decide) | rfl | (simp [*]; done) | (simp [*]; omega)) (h1 := by first | exact zi_one _ _ | exact ic_one _ _ | simp [opv, Value.cells, Value.oneCell']) (h := fun w3 hS => ?_)
  try simp only [opv, n1, n2, n3, n4, Value.cells, Array.toArray_toList] at hS ⊢
  refine x_nil ?_
  refine hK5 _ _ ?_
  refine x_region ?_
  refine s_go (s_move) ?_
  try simp only [opv, n1, n2, n3, n4, Value.cells]
  first | refine s_go (m_load_row Try.underlying54 (hi := ti54) (hS := hS) (hfit := by first | omega | (rw [zi_size (by omega)]; first | rfl | decide) | (simp only [ic_size, List.length_map, List.size_toArray]; first | omega | decide) | rfl | (simp [*]; done) | (simp [*]; omega))) ?_ | refine s_go (m_loada_obj Try.underlying54 (hi := ti54) (hS := hS) (hfit := by first | omega | (rw [zi_size (by omega)]; first | rfl | decide) | (simp only [ic_size, List.length_map, List.size_toArray]; first | omega | decide) | rfl | (simp [*]; done) | (simp [*]; omega))) ?_ | refine s_go (m_loada_bx Try.underlying54 (hi := ti54) (hS := hS) (hfit := by first | omega | (rw [zi_size (by omega)]; first | rfl | decide) | (simp only [ic_size, List.length_map, List.size_toArray]; first | omega | decide) | rfl | (simp [*]; done) | (simp [*]; omega))) ?_ | refine s_go (m_loada_rd Try.underlying54 (hi := ti54) (hS := hS) (hfit := by first | omega | (rw [zi_size (by omega)]; first | rfl | decide) | (simp only [ic_size, List.length_map, List.size_toArray]; first | omega | decide) | rfl | (simp [*]; done) | (simp [*]; omega))) ?_ | refine s_go (m_loada_vec Try.underlying54 (hi := ti54) (hS := hS) (hfit := by first | omega | (rw [zi_size (by omega)]; first | rfl | decide) | (simp only [ic_size, List.length_map, List.size_toArray]; first | omega | decide) | rfl | (simp [*]; done) | (simp [*]; omega))) ?_
  try simp only [opv, n1, n2, n3, n4, Value.cells, List.getElem_toArray, List.getElem_cons_zero, List.getElem_cons_succ]
  refine s_call en69 ?_
  try simp only [opv, n1, n2, n3, n4, Value.cells, List.map_toArray, List.map_cons, List.map_nil, List.append_toArray, List.cons_append, List.nil_append, Array.append_empty]
  refine CallR.mono (c_atomSize x ha _) ?_
  rintro _ w4 ⟨rfl, hE4⟩
  replace hS := hS.ext hE4
  try simp only [opv, n1, n2, n3, n4, Value.cells]
  refine s_callv (hv := rfl) en75 ?_
  try simp only [opv, n1, n2, n3, n4, Value.cells, List.map_toArray, List.map_cons, List.map_nil, List.append_toArray, List.cons_append, List.nil_append, Array.append_empty]
  refine CallR.mono (c_chunkBytes1 _ gn (bySz ((normP l).take k)) (szA x) (by omega) (hS.owns (by repeat (first | exact Spl.nil | (apply Spl.cons (by repeat (first | exact Del.head | apply Del.tail))))))) ?_
  rintro _ w5 ⟨rfl, hC5⟩
  replace hS := hS.frame (by repeat (first | exact Spl.nil | (apply Spl.cons (by repeat (first | exact Del.head | apply Del.tail))))) hC5 (by intro r hr g hg; simp only [List.mem_cons, List.not_mem_nil, or_false] at hr; rcases hr with rfl <;> first | (simp [Res.reads] at hg; done) | exact .inr ⟨_, by simp, .inr hg⟩)
  simp only [List.cons_append, List.nil_append] at hS
  try simp only [opv, n1, n2, n3, n4, Value.cells]
  refine x_nil ?_
  refine hK4 _ _ ?_
  refine x_region ?_
  refine s_go (s_add (hc := by first | exact wr_i64 (by omega) (by omega) | rfl)) ?_
  try simp only [opv, n1, n2, n3, n4, Value.cells]
  refine s_go (s_move) ?_
  try simp only [opv, n1, n2, n3, n4, Value.cells]
  refine x_nil ?_
  refine loop_back (m' := (normP l).length - (k + 1)) (by simp only [clob, List.foldl, n1, n2, n3, n4]) ?_ ?_
  · try simp only [opv, n1, n2, n3, n4, Value.cells]
    rw [← hst] at hS
    exact ⟨k + 1, by omega, by omega, by rfl, hS.sel (by repeat (first | exact Sel.nil | (refine Sel.cons (by repeat (first | exact Del.head | apply Del.tail)) ?_)))⟩
  · omega
 ·
  try simp only [decide_eq_true_eq, decide_eq_false_iff_not, Bool.not_eq_true', Bool.not_eq_false', Int.not_lt, Int.not_le, ne_eq, Decidable.not_not, bne_iff_ne, beq_iff_eq, not_true_eq_false, not_false_eq_true] at hc1
  obtain rfl : k = (normP l).length := by omega
  rw [List.take_of_length_le (Nat.le_refl _)] at hS
  refine x_exit (look_here ?_)
  refine r_none rfl ?_
  exact ⟨rfl, hS.sel (by repeat (first | exact Sel.nil | (refine Sel.cons (by repeat (first | exact Del.head | apply Del.tail)) ?_)))⟩
theorem c_chunkBytes (w0 : World) (A : Option Addr) (c : Nat) (l : List (List Int)) (hr : Rd w0 A 21 l.length (arows l)) (hv : AOks l) (hn : l.length ≤ 1000000000)  :
    CallR Try.prog 29 #[.slice A l.length c] w0 fun v w' => v = .int .i64 (bySz (normP l)) ∧ Ext w0 w' := by
 have hS := St.rd1 (S := NoB) hr
 refine c_enter (l := [.slice A l.length c, undef, undef, undef, undef, undef, undef]) Try.func29 rfl (by simp only [Try.ntmps29, List.size_toArray, List.length_cons, List.length_nil, Nat.reduceAdd, Nat.reduceSub, Array.replicate_succ, Array.replicate_zero, List.push_toArray, List.append_toArray, List.nil_append, List.cons_append]) ?_
 refine x_seq fun K1 hK1 => ?_
 refine x_region ?_
 refine m_alloc ti3 hS (fun w1 g1 hS => ?_)
 try simp only [opv, n1, n2, n3, n4, Value.cells, Array.toArray_toList] at hS ⊢
 obtain ⟨gn, hgn⟩ : ∃ z, z = g1 := ⟨_, rfl⟩
 rw [← hgn] at hS ⊢
 refine x_nil ?_
 refine hK1 _ _ ?_
 refine x_seq fun K2 hK2 => ?_
 refine x_region ?_
 refine s_go (s_move) ?_
 try simp only [opv, n1, n2, n3, n4, Value.cells]
 refine s_go (s_makeFunc) ?_
 try simp only [opv, n1, n2, n3, n4, Value.cells, List.map_toArray, List.map_cons, List.map_nil]
 refine s_call en73 ?_
 try simp only [opv, n1, n2, n3, n4, Value.cells, List.map_toArray, List.map_cons, List.map_nil, List.append_toArray, List.cons_append, List.nil_append, Array.append_empty]
 refine CallR.mono (c_chunkSizesBytes _ A c l (hS.hasRd (by repeat (first | exact Has.head | apply Has.tail))) hv hn gn (hS.owns (by repeat (first | exact Spl.nil | (apply Spl.cons (by repeat (first | exact Del.head | apply Del.tail))))))) ?_
 rintro _ w2 ⟨rfl, hC2⟩
 replace hS := hS.frame (by repeat (first | exact Spl.nil | (apply Spl.cons (by repeat (first | exact Del.head | apply Del.tail))))) hC2 (by intro r hr g hg; simp only [List.mem_cons, List.not_mem_nil, or_false] at hr; rcases hr with rfl <;> first | (simp [Res.reads] at hg; done) | exact .inr ⟨_, by simp, .inr hg⟩)
 simp only [List.cons_append, List.nil_append] at hS
 try simp only [opv, n1, n2, n3, n4, Value.cells]
 refine x_nil ?_
 refine hK2 _ _ ?_
 refine x_seq fun K3 hK3 => ?_
 refine x_region ?_
 first | refine s_go (m_load_obj Try.underlying3 (hS := hS)) ?_ | refine s_go (m_load_bx Try.underlying3 (hS := hS)) ?_ | refine s_go (m_load_rd Try.underlying3 (hS := hS)) ?_ | refine s_go (m_load_vec Try.underlying3 (hS := hS)) ?_
 try simp only [opv, n1, n2, n3, n4, Value.cells, List.getElem_toArray, List.getElem_cons_zero, List.getElem_cons_succ]
 first | refine m_store_obj ti3 (hS := hS) (h := fun w3 hS => ?_) | refine m_store_vec ti3 (hS := hS) (h := fun w3 hS => ?_)
 try simp only [opv, n1, n2, n3, n4, Value.cells, Array.toArray_toList] at hS ⊢
 refine x_nil ?_
 refine hK3 _ _ ?_
 refine x_ret ?_
 refine r_cell_one rfl Try.underlying3 (hS := hS) (hR := ?_)
 exact ⟨rfl, hS.ext_of⟩
theorem c_chunkFits (w0 : World) (B : Option Addr) (d : Nat) (rs : List Rw) (hB : Rd w0 B 1 rs.length (rs.map rwV)) (hrs : ∀ r ∈ rs, RwOk w0 r ∧ r.l.length ≤ 1000000000) (hm : rs.length ≤ 1000000000) (b : Int)  :
    CallR Try.prog 30 #[.slice B rs.length d, .int .i64 b] w0 fun v w' => v = .bool (rs.all fun r => decide (bySz (normP r.l) ≤ b)) ∧ Ext w0 w' := by
 have hS := St.rd1 (S := NoB) hB
 have hrl := rws_len rs
 refine c_enter (l := [.slice B rs.length d, .int .i64 b, undef, undef, undef, undef, undef, undef, undef, undef, undef, undef, undef, undef, undef, undef, undef, undef]) Try.func30 rfl (by simp only [Try.ntmps30, List.size_toArray, List.length_cons, List.length_nil, Nat.reduceAdd, Nat.reduceSub, Array.replicate_succ, Array.replicate_zero, List.push_toArray, List.append_toArray, List.nil_append, List.cons_append]) ?_
 refine x_seq fun K1 hK1 => ?_
 refine x_region ?_
 refine s_go (s_assign) ?_
 try simp only [opv, n1, n2, n3, n4, Value.cells]
 refine x_nil ?_
 refine hK1 _ _ ?_
 refine x_seq fun K2 hK2 => ?_
 refine x_seq fun K3 hK3 => ?_
 refine x_region ?_
 refine s_go (s_move) ?_
 try simp only [opv, n1, n2, n3, n4, Value.cells]
 refine s_go (s_len_sl Try.underlying57) ?_
 try simp only [opv, n1, n2, n3, n4, Value.cells]
 refine s_go (s_move) ?_
 try simp only [opv, n1, n2, n3, n4, Value.cells]
 refine x_nil ?_
 refine hK3 _ _ ?_
 refine x_block ?_
 refine x_loop [4, 6, 9, 10, 11, 12, 13, 14, 15, 16, 17] (fun m f w => ∃ k : Nat, k ≤ rs.length ∧ m = rs.length - k ∧ f 9 = .int .i64 (k : Int) ∧ ((rs.take k).all fun r => decide (bySz (normP r.l) ≤ b)) = true ∧ St NoB w0 w [.rd B 1 rs.length (rs.map rwV)]) (rs.length) ?init1 (fun m1 f1 wl1 hI => ?_)
 case init1 =>
  try simp only [opv, n1, n2, n3, n4, Value.cells]
  exact ⟨0, by omega, rfl, rfl, rfl, hS⟩
 obtain ⟨k, hk, hmk, h9, hal, hS⟩ := hI
 simp only [clob, List.foldl, n3, n4, h9]
 refine x_seq fun K4 hK4 => ?_
 refine x_region ?_
 refine s_go (s_lss) ?_
 try simp only [opv, n1, n2, n3, n4, Value.cells]
 refine x_nil ?_
 refine hK4 _ _ ?_
 refine x_seq fun K5 hK5 => ?_
 refine x_cond (ht := fun hc1 => ?_) (hf := fun hc1 => ?_)
 ·
  try simp only [decide_eq_true_eq, decide_eq_false_iff_not, Bool.not_eq_true', Bool.not_eq_false', Int.not_lt, Int.not_le, ne_eq, Decidable.not_not, bne_iff_ne, beq_iff_eq, not_true_eq_false, not_false_eq_true] at hc1
  obtain ⟨r, hr⟩ : ∃ r, rs.getD k rw0 = r := ⟨_, rfl⟩
  have hrk : r = rs[k]'(by omega) := by rw [← hr, List.getD_eq_getElem?_getD, List.getElem?_eq_getElem (by omega)]; rfl
  have hrm := hrs r (rws_mem (by omega) hr)
  refine x_skip ?_
  refine hK5 _ _ ?_
  refine x_seq fun K6 hK6 => ?_
  refine x_block ?_
  refine x_seq fun K7 hK7 => ?_
  refine x_region ?_
  first | refine s_go (m_indexAddr_rd Try.underlying57 ti22 (hS := hS)) ?_ | refine s_go (m_indexAddr_vec Try.underlying57 ti22 (hS := hS)) ?_
  try simp only [opv, n1, n2, n3, n4, Value.cells, Nat.mul_one, Nat.zero_add, Int.toNat_natCast, Int.reduceToNat]
  first | refine s_go (m_load_obj Try.underlying22 (hS := hS) (hv := rws_get (by omega) hr)) ?_ | refine s_go (m_load_bx Try.underlying22 (hS := hS) (hv := rws_get (by omega) hr)) ?_ | refine s_go (m_load_rd Try.underlying22 (hS := hS) (hv := rws_get (by omega) hr)) ?_ | refine s_go (m_load_vec Try.underlying22 (hS := hS) (hv := rws_get (by omega) hr)) ?_
  try simp only [opv, n1, n2, n3, n4, Value.cells, List.getElem_toArray, List.getElem_cons_zero, List.getElem_cons_succ]
  replace hS := hS.rd_old hrm.1.rd
  refine s_go (s_assign) ?_
  try simp only [opv, n1, n2, n3, n4, Value.cells]
  refine x_nil ?_
  refine hK7 _ _ ?_
  refine x_seq fun K8 hK8 => ?_
  refine x_region ?_
  refine s_go (s_move) ?_
  try simp only [opv, n1, n2, n3, n4, Value.cells]
  refine s_call en29 ?_
  try simp only [opv, n1, n2, n3, n4, Value.cells, List.map_toArray, List.map_cons, List.map_nil, List.append_toArray, List.cons_append, List.nil_append, Array.append_empty]
  refine CallR.mono (c_chunkBytes _ r.A r.c r.l (hS.hasRd (by repeat (first | exact Has.head | apply Has.tail))) hrm.1.ok hrm.2) ?_
  rintro _ w1 ⟨rfl, hE1⟩
  replace hS := hS.ext hE1
  try simp only [opv, n1, n2, n3, n4, Value.cells]
  refine s_go (s_move) ?_
  try simp only [opv, n1, n2, n3, n4, Value.cells]
  refine s_go (s_gtr) ?_
  try simp only [opv, n1, n2, n3, n4, Value.cells]
  refine x_nil ?_
  refine hK8 _ _ ?_
  refine x_cond (ht := fun hc2 => ?_) (hf := fun hc2 => ?_)
  ·
   try simp only [decide_eq_true_eq, decide_eq_false_iff_not, Bool.not_eq_true', Bool.not_eq_false', Int.not_lt, Int.not_le, ne_eq, Decidable.not_not, bne_iff_ne, beq_iff_eq, not_true_eq_false, not_false_eq_true] at hc2
   have hE : (rs.all fun r => decide (bySz (normP r.l) ≤ b)) = false := by rw [List.all_eq_false]; exact ⟨r, rws_mem (by omega) hr, by simpa using hc2⟩
   refine x_seq fun K9 hK9 => ?_
   refine x_region ?_
   refine s_go (s_assign) ?_
   try simp only [opv, n1, n2, n3, n4, Value.cells]
   refine x_nil ?_
   refine hK9 _ _ ?_
   refine x_ret ?_
   refine r_tmp rfl ?_
   first | exact ⟨by rw [hE]; rfl, hS.ext_of⟩ | exact ⟨by rw [hal]; rfl, hS.ext_of⟩
  ·
   try simp only [decide_eq_true_eq, decide_eq_false_iff_not, Bool.not_eq_true', Bool.not_eq_false', Int.not_lt, Int.not_le, ne_eq, Decidable.not_not, bne_iff_ne, beq_iff_eq, not_true_eq_false, not_false_eq_true] at hc2
   have hle : bySz (normP r.l) ≤ b := by omega
   refine x_skip ?_
   refine hK6 _ _ ?_
   refine x_region ?_
   refine s_go (s_add (hc := by first | exact wr_i64 (by omega) (by omega) | rfl)) ?_
   try simp only [opv, n1, n2, n3, n4, Value.cells]
   refine s_go (s_move) ?_
   try simp only [opv, n1, n2, n3, n4, Value.cells]
   refine x_nil ?_
   refine loop_back (m' := rs.length - (k + 1)) (by simp only [clob, List.foldl, n1, n2, n3, n4]) ?_ ?_
   · try simp only [opv, n1, n2, n3, n4, Value.cells]
     exact ⟨k + 1, by omega, by omega, by rfl, by rw [List.take_succ_eq_append_getElem (by omega), List.all_append, hal, ← hrk]; simp [hle], hS.sel (by repeat (first | exact Sel.nil | (refine Sel.cons (by repeat (first | exact Del.head | apply Del.tail)) ?_)))⟩
   · omega
 ·
  try simp only [decide_eq_true_eq, decide_eq_false_iff_not, Bool.not_eq_true', Bool.not_eq_false', Int.not_lt, Int.not_le, ne_eq, Decidable.not_not, bne_iff_ne, beq_iff_eq, not_true_eq_false, not_false_eq_true] at hc1
  obtain rfl : k = rs.length := by omega
  rw [List.take_of_length_le (Nat.le_refl _)] at hal
  refine x_exit (look_here ?_)
  refine hK2 _ _ ?_
  refine x_seq fun K10 hK10 => ?_
  refine x_region ?_
  refine s_go (s_assign) ?_
  try simp only [opv, n1, n2, n3, n4, Value.cells]
  refine x_nil ?_
  refine hK10 _ _ ?_
  refine x_ret ?_
  refine r_tmp rfl ?_
  first | exact ⟨by rw [hE]; rfl, hS.ext_of⟩ | exact ⟨by rw [hal]; rfl, hS.ext_of⟩
theorem c_chunkCut (w0 : World) (A : Option Addr) (c : Nat) (l : List (List Int)) (hr : Rd w0 A 21 l.length (arows l)) (hv : AOks l) (hn : l.length ≤ 1000000000) (b : Int) (hb : -9223372036854775808 ≤ b ∧ b < 9223372036854775808)  :
    CallR Try.prog 26 #[.slice A l.length c, .int .i64 b] w0 fun v w' => ∃ (O : Option Addr) (oc : Nat) (Bn : Option Addr) (ps : List (Nat × Nat)), v = .tuple #[.slice O ps.length oc, .int .i64 (cutE b (normP l))] ∧ CutOk b (normP l) ps ∧ (∀ g, (Res.rd Bn 21 (normP l).length (arows (normP l))).reads = some g → w0.heap.size ≤ g) ∧ St NoB w0 w' [.vec O oc 22 1 ps.length ((ps.map (rwP Bn (normP l) (fun p => (cutS (normP l) p).length))).map rwV), .rd Bn 21 (normP l).length (arows (normP l))] := by
 have hS := St.rd1 (S := NoB) hr
 have hsn := norm_sta hv
 have hno := hsn.ok
 have hnb := norm_len l
 have hnl := arows_len (normP l)
 refine c_enter (l := [.slice A l.length c, .int .i64 b, undef, undef, undef, undef, undef, undef, undef, undef, undef, undef, undef, undef, undef, undef, undef, undef, undef, undef, undef, undef, undef, undef, undef, undef, undef, undef, undef, undef, undef, undef, undef, undef, undef, undef, undef, undef, undef, undef, undef, undef, undef, undef, undef, undef, undef, undef, undef, undef, undef, undef, undef, undef, undef]) Try.func26 rfl (by simp only [Try.ntmps26, List.size_toArray, List.length_cons, List.length_nil, Nat.reduceAdd, Nat.reduceSub, Array.replicate_succ, Array.replicate_zero, List.push_toArray, List.append_toArray, List.nil_append, List.cons_append]) ?_
 refine x_seq fun K1 hK1 => ?_
 refine x_region ?_
 refine s_go (s_assign) ?_
 try simp only [opv, n1, n2, n3, n4, Value.cells]
 refine s_go (s_assign) ?_
 try simp only [opv, n1, n2, n3, n4, Value.cells]
 refine x_nil ?_
 refine hK1 _ _ ?_
 refine x_scope_g rfl rfl [0, 4, 5, 6, 7, 8, 9, 10, 11, 12, 13, 14, 15, 16, 17, 18, 19, 20, 21, 22, 23, 24, 25, 26, 27, 28, 29, 30, 31, 32, 33, 34, 35, 36, 37, 38, 39, 40, 41, 42, 43, 44, 45, 46, 47, 48, 49, 50, 51, 52, 53, 54] (fun m f w => ∃ (k i : Nat) (left : Int) (O : Option Addr) (oc : Nat) (ps : List (Nat × Nat)) (Bn : Option Addr) (cn : Nat), k ≤ (normP l).length ∧ m = (normP l).length - k ∧ f 7 = .int .i64 (k : Int) ∧ f 6 = .int .i64 (i : Int) ∧ f 8 = .int .i64 left ∧ f 4 = .slice O ps.length oc ∧ f 0 = .slice Bn (normP l).length cn ∧ (normP l).length ≤ cn ∧ Chn 0 ps i ∧ i ≤ k ∧ (i < k ∨ (k = 0 ∧ left = b)) ∧ (k = 0 ∨ 0 ≤ left) ∧ left = b - bySz (cutS (normP l) (i, k)) ∧ (∀ p ∈ ps, bySz (cutS (normP l) p) ≤ b) ∧ (∀ a ∈ (normP l).take k, szA a ≤ b) ∧ ps.length + cost b left ((normP l).drop k) = cost b b (normP l) ∧ (∀ g, (Res.rd Bn 21 (normP l).length (arows (normP l))).reads = some g → w0.heap.size ≤ g) ∧ St NoB w0 w [.vec O oc 22 1 ps.length ((ps.map (rwP Bn (normP l) (fun p => (cutS (normP l) p).length))).map rwV), .rd Bn 21 (normP l).length (arows (normP l))]) ?scp ?scr
 case scp =>
  refine x_region ?_
  refine s_go (s_move) ?_
  try simp only [opv, n1, n2, n3, n4, Value.cells]
  refine s_call en68 ?_
  try simp only [opv, n1, n2, n3, n4, Value.cells, List.map_toArray, List.map_cons, List.map_nil, List.append_toArray, List.cons_append, List.nil_append, Array.append_empty]
  refine CallR.mono (c_latNorm _ A c l (hS.hasRd (by repeat (first | exact Has.head | apply Has.tail))) hv hn) ?_
  rintro _ w1 ⟨Bn, cn, rfl, hC1⟩
  replace hS := hS.call hC1
  simp only [List.cons_append, List.nil_append] at hS
  have hcn := hS.vec_cap (by exact Has.head)
  have hown : ∀ g, (Res.rd Bn 21 (normP l).length (arows (normP l))).reads = some g → w0.heap.size ≤ g := fun g hg => by (have h1 := (hS.own _ (List.mem_cons_self ..) g (by simp only [Res.reads] at hg; split at hg; cases hg; exact hg))); exact h1.resolve_left (fun f => f)
  replace hS := hS.vec_rd (by exact Upd.head)
  try simp only [opv, n1, n2, n3, n4, Value.cells]
  refine s_go (s_assign) ?_
  try simp only [opv, n1, n2, n3, n4, Value.cells]
  refine x_nil ?_
  refine x_region ?_
  refine s_go (s_move) ?_
  try simp only [opv, n1, n2, n3, n4, Value.cells]
  refine s_go (s_assign) ?_
  try simp only [opv, n1, n2, n3, n4, Value.cells]
  refine s_go (s_assign) ?_
  try simp only [opv, n1, n2, n3, n4, Value.cells]
  refine s_go (s_assign) ?_
  try simp only [opv, n1, n2, n3, n4, Value.cells]
  refine x_nil ?_
  refine scope_in ((normP l).length) (by simp only [clob, List.foldl, n1, n2, n3, n4]) ?_
  try simp only [opv, n1, n2, n3, n4, Value.cells]
  replace hS := hS.nil_vec 22 1
  exact ⟨0, 0, b, none, 0, [], Bn, cn, by omega, rfl, rfl, rfl, rfl, rfl, rfl, hcn, rfl, by omega, .inr ⟨rfl, rfl⟩, .inl rfl, by rw [cut_nil]; simp [bySz], (fun p h => by cases h), (fun a h => by cases h), by simp, hown, hS.sel (by repeat (first | exact Sel.nil | (refine Sel.cons (by repeat (first | exact Del.head | apply Del.tail)) ?_)))⟩
 case scr =>
  intro msc fsc wlsc hI
  obtain ⟨k, i, left, O, oc, ps, Bn, cn, hk, hmk, h7, h6, h8, h4, h0, hcn, hch, hik, hlt, hl0, hle, hfit, hall, hco, hown, hS⟩ := hI
  simp only [clob, List.foldl, n3, n4, h7, h6, h8, h4, h0]
  obtain ⟨x, hx⟩ : ∃ x, (normP l).getD k [] = x := ⟨_, rfl⟩
  have hcle := chn_le hch
  refine gx_seq fun K2 hK2 => ?_
  refine gx_seq fun K3 hK3 => ?_
  refine gx_region ?_
  refine s_go (s_move) ?_
  try simp only [opv, n1, n2, n3, n4, Value.cells]
  refine s_go (s_move) ?_
  try simp only [opv, n1, n2, n3, n4, Value.cells]
  refine s_go (s_len_sl Try.underlying22) ?_
  try simp only [opv, n1, n2, n3, n4, Value.cells]
  refine s_go (s_lss) ?_
  try simp only [opv, n1, n2, n3, n4, Value.cells]
  refine gx_nil ?_
  refine hK3 _ _ ?_
  refine gx_cond (ht := fun hc1 => ?_) (hf := fun hc1 => ?_)
  ·
   try simp only [decide_eq_true_eq, decide_eq_false_iff_not, Bool.not_eq_true', Bool.not_eq_false', Int.not_lt, Int.not_le, ne_eq, Decidable.not_not, bne_iff_ne, beq_iff_eq, not_true_eq_false, not_false_eq_true] at hc1
   have ha : AtomOk x := by rw [← hx]; exact hno.get (by omega)
   have hal := ha.len
   have hzx := szA_bd ha
   have hcd := cost_drop (b := b) (left := left) (k := k) (by omega) hx
   have hbs := bySz_pos (cutS (normP l) (i, k))
   refine gx_seq fun K4 hK4 => ?_
   refine gx_region ?_
   refine s_go (s_move) ?_
   try simp only [opv, n1, n2, n3, n4, Value.cells]
   refine s_go (s_move) ?_
   try simp only [opv, n1, n2, n3, n4, Value.cells]
   first | refine s_go (m_indexAddr_rd Try.underlying22 ti54 (hS := hS)) ?_ | refine s_go (m_indexAddr_vec Try.underlying22 ti54 (hS := hS)) ?_
   try simp only [opv, n1, n2, n3, n4, Value.cells, Nat.mul_one, Nat.zero_add, Int.toNat_natCast, Int.reduceToNat]
   first | refine s_go (m_load_row Try.underlying54 (hi := ti54) (hS := hS) (hfit := by rw [arows_len]; omega)) ?_ | refine s_go (m_loada_obj Try.underlying54 (hi := ti54) (hS := hS) (hfit := by rw [arows_len]; omega)) ?_ | refine s_go (m_loada_bx Try.underlying54 (hi := ti54) (hS := hS) (hfit := by rw [arows_len]; omega)) ?_ | refine s_go (m_loada_rd Try.underlying54 (hi := ti54) (hS := hS) (hfit := by rw [arows_len]; omega)) ?_ | refine s_go (m_loada_vec Try.underlying54 (hi := ti54) (hS := hS) (hfit := by rw [arows_len]; omega)) ?_
   try simp only [opv, n1, n2, n3, n4, Value.cells, List.getElem_toArray, List.getElem_cons_zero, List.getElem_cons_succ]
   rw [arow_get (by omega) hno, hx]
   refine s_call en69 ?_
   try simp only [opv, n1, n2, n3, n4, Value.cells, List.map_toArray, List.map_cons, List.map_nil, List.append_toArray, List.cons_append, List.nil_append, Array.append_empty]
   refine CallR.mono (c_atomSize x ha _) ?_
   rintro _ w2 ⟨rfl, hE2⟩
   replace hS := hS.ext hE2
   try simp only [opv, n1, n2, n3, n4, Value.cells]
   rw [show ((atomOut x).length : Int) = szA x from rfl]
   refine s_go (s_assign) ?_
   try simp only [opv, n1, n2, n3, n4, Value.cells]
   refine gx_nil ?_
   refine hK4 _ _ ?_
   refine gx_seq fun K5 hK5 => ?_
   refine gx_seq fun K6 hK6 => ?_
   refine gx_region ?_
   refine s_go (s_move) ?_
   try simp only [opv, n1, n2, n3, n4, Value.cells]
   refine s_go (s_move) ?_
   try simp only [opv, n1, n2, n3, n4, Value.cells]
   refine s_go (s_gtr) ?_
   try simp only [opv, n1, n2, n3, n4, Value.cells]
   refine gx_nil ?_
   refine hK6 _ _ ?_
   refine gx_cond (ht := fun hc2 => ?_) (hf := fun hc2 => ?_)
   ·
    try simp only [decide_eq_true_eq, decide_eq_false_iff_not, Bool.not_eq_true', Bool.not_eq_false', Int.not_lt, Int.not_le, ne_eq, Decidable.not_not, bne_iff_ne, beq_iff_eq, not_true_eq_false, not_false_eq_true] at hc2
    have hE1 := cutE_bad (b := b) (by rw [← hx]; exact getD_mem' (by omega) : x ∈ (normP l)) hc2
    refine gx_seq fun K7 hK7 => ?_
    refine gx_region ?_
    refine s_go (s_assign) ?_
    try simp only [opv, n1, n2, n3, n4, Value.cells]
    refine s_go (s_assign) ?_
    try simp only [opv, n1, n2, n3, n4, Value.cells]
    refine gx_nil ?_
    refine hK7 _ _ ?_
    refine gx_ret ?_
    refine r_tmp2 rfl ?_
    (rw [hE1]; exact ⟨none, 0, Bn, [], rfl, ⟨fun _ => rfl, (fun q => by rw [hE1] at q; cases q), (fun q => by rw [hE1] at q; cases q), (fun q => by rw [hE1] at q; cases q)⟩, hown, (hS.nil_vec 22 1).sel (by repeat (first | exact Sel.nil | (refine Sel.cons (by repeat (first | exact Del.head | apply Del.tail)) ?_)))⟩)
   ·
    try simp only [decide_eq_true_eq, decide_eq_false_iff_not, Bool.not_eq_true', Bool.not_eq_false', Int.not_lt, Int.not_le, ne_eq, Decidable.not_not, bne_iff_ne, beq_iff_eq, not_true_eq_false, not_false_eq_true] at hc2
    have hxb : szA x ≤ b := by omega
    have hall2 : ∀ a ∈ (normP l).take (k + 1), szA a ≤ b := fun a ha2 => by (rw [take_snoc (by omega), hx] at ha2); (rcases List.mem_append.1 ha2 with h | h); exact hall a h; (rw [List.mem_singleton] at h; rw [h]; exact hxb)
    refine gx_skip ?_
    refine hK5 _ _ ?_
    refine gx_seq fun K8 hK8 => ?_
    refine gx_seq fun K9 hK9 => ?_
    refine gx_region ?_
    refine s_go (s_move) ?_
    try simp only [opv, n1, n2, n3, n4, Value.cells]
    refine s_go (s_move) ?_
    try simp only [opv, n1, n2, n3, n4, Value.cells]
    refine s_go (s_gtr) ?_
    try simp only [opv, n1, n2, n3, n4, Value.cells]
    refine gx_nil ?_
    refine hK9 _ _ ?_
    refine gx_cond (ht := fun hc3 => ?_) (hf := fun hc3 => ?_)
    ·
     try simp only [decide_eq_true_eq, decide_eq_false_iff_not, Bool.not_eq_true', Bool.not_eq_false', Int.not_lt, Int.not_le, ne_eq, Decidable.not_not, bne_iff_ne, beq_iff_eq, not_true_eq_false, not_false_eq_true] at hc3
     have hi_k : i < k := by omega
     rw [if_pos hc3] at hcd
     have hch2 := chn_app hch hi_k
     obtain ⟨i2, hi2⟩ : ∃ z, z = k := ⟨_, rfl⟩
     obtain ⟨left2, hl2⟩ : ∃ z, z = b := ⟨_, rfl⟩
     obtain ⟨ps2, hps2⟩ : ∃ z, z = ps ++ [(i, k)] := ⟨_, rfl⟩
     have hfit2 : ∀ p ∈ ps2, bySz (cutS (normP l) p) ≤ b := fun p hp => by (rw [hps2] at hp); (rcases List.mem_append.1 hp with h | h); exact hfit p h; (rw [List.mem_singleton] at h; rw [h]; omega)
     rw [← hps2, ← hi2] at hch2
     have hlcut : left2 = b - bySz (cutS (normP l) (i2, k)) := by rw [hl2, hi2, cut_nil]; simp [bySz]
     have hco2 : ps2.length + cost b (left2 - szA x) ((normP l).drop (k + 1)) = cost b b (normP l) := by rw [hps2, hl2, List.length_append, ← hco, hcd]; simp only [List.length_cons, List.length_nil]; omega
     refine gx_seq fun K10 hK10 => ?_
     refine gx_region ?_
     refine s_go (s_move) ?_
     try simp only [opv, n1, n2, n3, n4, Value.cells]
     refine s_go (s_move) ?_
     try simp only [opv, n1, n2, n3, n4, Value.cells]
     refine s_go (s_move) ?_
     try simp only [opv, n1, n2, n3, n4, Value.cells]
     refine s_go (s_move) ?_
     try simp only [opv, n1, n2, n3, n4, Value.cells]
     refine s_go (s_move) ?_
     try simp only [opv, n1, n2, n3, n4, Value.cells]
     refine s_go (m_slice (lo := i) (hi := k) (m := k) Try.underlying22 ti54 (hlo := by exact ⟨_, rfl⟩) (hhi := by exact ⟨_, rfl⟩) (hmx := by exact ⟨_, rfl⟩)) ?_
     try simp only [opv, n1, n2, n3, n4, Value.cells]
     rw [if_neg (by omega), show k - i = (cutS (normP l) (i, k)).length from (cut_len hk).symm]
     refine m_buildRow (cells := #[_]) Try.underlying57 ti22 (hc := by simp only [List.map_toArray, List.map_cons, List.map_nil, opv, n1, n2, n3, n4, Value.cells, List.toList_toArray]; (repeat (refine fill_cons rfl rfl (Nat.le_of_ble_eq_true rfl) ?_)); rfl) (hS := hS) (h := fun w3 g3 hS => ?_)
     try simp only [opv, n1, n2, n3, n4, Value.cells, Array.toArray_toList] at hS ⊢
     replace hS := hS.obj_rd (sz := 1) (n := 1) rfl .head
     refine m_append Try.underlying57 ti22 (hS := hS) (h1 := by intro u hu; rw [List.mem_singleton] at hu; rw [hu]; rfl) (h := fun w4 A4 C4 hS => ?_)
     try simp only [← List.map_append, ← List.map_drop, ← List.map_take, Nat.mul_one, Nat.zero_mul, Nat.sub_zero, List.drop_zero, List.nil_append, Nat.zero_add] at hS ⊢
     try simp only [opv, n1, n2, n3, n4, Value.cells, Array.toArray_toList] at hS ⊢
     rw [show ([Value.slice (Bn.map (·.add (i * 21))) (cutS (normP l) (i, k)).length (cutS (normP l) (i, k)).length] : List Value) = [rwV (rwP Bn (normP l) (fun p => (cutS (normP l) p).length) (i, k))] from rfl, map_snoc_p, ← hps2, show ps.length + 1 = ps2.length by rw [hps2, List.length_append]; rfl] at hS
     rw [show ps.length + 1 = ps2.length by rw [hps2, List.length_append]; rfl]
     refine s_go (s_assign) ?_
     try simp only [opv, n1, n2, n3, n4, Value.cells]
     refine gx_nil ?_
     refine hK10 _ _ ?_
     refine gx_region ?_
     refine s_go (s_move) ?_
     try simp only [opv, n1, n2, n3, n4, Value.cells]
     refine s_go (s_move) ?_
     try simp only [opv, n1, n2, n3, n4, Value.cells]
     refine s_go (s_assign) ?_
     try simp only [opv, n1, n2, n3, n4, Value.cells]
     refine s_go (s_assign) ?_
     try simp only [opv, n1, n2, n3, n4, Value.cells]
     refine gx_nil ?_
     refine hK8 _ _ ?_
     refine gx_seq fun K11 hK11 => ?_
     refine gx_region ?_
     refine s_go (s_move) ?_
     try simp only [opv, n1, n2, n3, n4, Value.cells]
     refine s_go (s_move) ?_
     try simp only [opv, n1, n2, n3, n4, Value.cells]
     refine s_go (s_sub (hc := by first | exact wr_i64 (by omega) (by omega) | rfl)) ?_
     try simp only [opv, n1, n2, n3, n4, Value.cells]
     refine s_go (s_assign) ?_
     try simp only [opv, n1, n2, n3, n4, Value.cells]
     refine gx_nil ?_
     refine hK11 _ _ ?_
     refine gx_seq fun K12 hK12 => ?_
     refine gx_region ?_
     refine s_go (s_move) ?_
     try simp only [opv, n1, n2, n3, n4, Value.cells]
     refine s_go (s_add (hc := by first | exact wr_i64 (by omega) (by omega) | rfl)) ?_
     try simp only [opv, n1, n2, n3, n4, Value.cells]
     refine s_go (s_assign) ?_
     try simp only [opv, n1, n2, n3, n4, Value.cells]
     refine gx_nil ?_
     refine hK12 _ _ ?_
     refine gx_goto ?_
     refine loop_back (m' := (normP l).length - (k + 1)) (by simp only [clob, List.foldl, n1, n2, n3, n4]) ?_ ?_
     · try simp only [opv, n1, n2, n3, n4, Value.cells]
       exact ⟨k + 1, i2, left2 - szA x, _, _, ps2, Bn, cn, by omega, by omega, by rfl, by rw [hi2], by rw [hl2], by rfl, by rfl, hcn, hch2, by omega, .inl (by omega), .inr (by omega), by rw [cut_snoc (by omega) (by omega) hx, bySz_app, bySz_one]; omega, hfit2, hall2, by rw [← hco2], hown, hS.sel (by repeat (first | exact Sel.nil | (refine Sel.cons (by repeat (first | exact Del.head | apply Del.tail)) ?_)))⟩
     · omega
    ·
     try simp only [decide_eq_true_eq, decide_eq_false_iff_not, Bool.not_eq_true', Bool.not_eq_false', Int.not_lt, Int.not_le, ne_eq, Decidable.not_not, bne_iff_ne, beq_iff_eq, not_true_eq_false, not_false_eq_true] at hc3
     rw [if_neg (by omega)] at hcd
     obtain ⟨i2, hi2⟩ : ∃ z, z = i := ⟨_, rfl⟩
     obtain ⟨left2, hl2⟩ : ∃ z, z = left := ⟨_, rfl⟩
     obtain ⟨ps2, hps2⟩ : ∃ z, z = ps := ⟨_, rfl⟩
     have hch2 := hch
     have hfit2 := hfit
     rw [← hps2] at hfit2 hS ⊢
     rw [← hps2, ← hi2] at hch2
     have hlcut : left2 = b - bySz (cutS (normP l) (i2, k)) := by rw [hl2, hi2]; exact hle
     have hco2 : ps2.length + cost b (left2 - szA x) ((normP l).drop (k + 1)) = cost b b (normP l) := by rw [hps2, hl2, ← hco, hcd]
     refine gx_skip ?_
     refine hK8 _ _ ?_
     refine gx_seq fun K13 hK13 => ?_
     refine gx_region ?_
     refine s_go (s_move) ?_
     try simp only [opv, n1, n2, n3, n4, Value.cells]
     refine s_go (s_move) ?_
     try simp only [opv, n1, n2, n3, n4, Value.cells]
     refine s_go (s_sub (hc := by first | exact wr_i64 (by omega) (by omega) | rfl)) ?_
     try simp only [opv, n1, n2, n3, n4, Value.cells]
     refine s_go (s_assign) ?_
     try simp only [opv, n1, n2, n3, n4, Value.cells]
     refine gx_nil ?_
     refine hK13 _ _ ?_
     refine gx_seq fun K14 hK14 => ?_
     refine gx_region ?_
     refine s_go (s_move) ?_
     try simp only [opv, n1, n2, n3, n4, Value.cells]
     refine s_go (s_add (hc := by first | exact wr_i64 (by omega) (by omega) | rfl)) ?_
     try simp only [opv, n1, n2, n3, n4, Value.cells]
     refine s_go (s_assign) ?_
     try simp only [opv, n1, n2, n3, n4, Value.cells]
     refine gx_nil ?_
     refine hK14 _ _ ?_
     refine gx_goto ?_
     refine loop_back (m' := (normP l).length - (k + 1)) (by simp only [clob, List.foldl, n1, n2, n3, n4]) ?_ ?_
     · try simp only [opv, n1, n2, n3, n4, Value.cells]
       exact ⟨k + 1, i2, left2 - szA x, _, _, ps2, Bn, cn, by omega, by omega, by rfl, by rw [hi2], by rw [hl2], by rfl, by rfl, hcn, hch2, by omega, .inl (by omega), .inr (by omega), by rw [cut_snoc (by omega) (by omega) hx, bySz_app, bySz_one]; omega, hfit2, hall2, by rw [← hco2], hown, hS.sel (by repeat (first | exact Sel.nil | (refine Sel.cons (by repeat (first | exact Del.head | apply Del.tail)) ?_)))⟩
     · omega
  ·
   try simp only [decide_eq_true_eq, decide_eq_false_iff_not, Bool.not_eq_true', Bool.not_eq_false', Int.not_lt, Int.not_le, ne_eq, Decidable.not_not, bne_iff_ne, beq_iff_eq, not_true_eq_false, not_false_eq_true] at hc1
   obtain rfl : k = (normP l).length := by omega
   rw [List.take_of_length_le (Nat.le_refl _)] at hall
   rw [List.drop_of_length_le (Nat.le_refl _), cost_end] at hco
   have hE0 := cutE_ok hall
   refine gx_skip ?_
   refine hK2 _ _ ?_
   refine gx_seq fun K15 hK15 => ?_
   refine gx_seq fun K16 hK16 => ?_
   refine gx_region ?_
   refine s_go (s_move) ?_
   try simp only [opv, n1, n2, n3, n4, Value.cells]
   refine s_go (s_move) ?_
   try simp only [opv, n1, n2, n3, n4, Value.cells]
   refine s_go (s_lss) ?_
   try simp only [opv, n1, n2, n3, n4, Value.cells]
   refine gx_nil ?_
   refine hK16 _ _ ?_
   refine gx_cond (ht := fun hc4 => ?_) (hf := fun hc4 => ?_)
   ·
    try simp only [decide_eq_true_eq, decide_eq_false_iff_not, Bool.not_eq_true', Bool.not_eq_false', Int.not_lt, Int.not_le, ne_eq, Decidable.not_not, bne_iff_ne, beq_iff_eq, not_true_eq_false, not_false_eq_true] at hc4
    have hi_k : i < (normP l).length := by omega
    have hch2 := chn_app hch hi_k
    obtain ⟨ps2, hps2⟩ : ∃ z, z = ps ++ [(i, (normP l).length)] := ⟨_, rfl⟩
    rw [← hps2] at hch2
    have hfit2 : ∀ p ∈ ps2, bySz (cutS (normP l) p) ≤ b := fun p hp => by (rw [hps2] at hp); (rcases List.mem_append.1 hp with h | h); exact hfit p h; (rw [List.mem_singleton] at h; rw [h]; omega)
    have hok2 : CutOk b (normP l) ps2 := ⟨fun q => absurd hE0 q, fun _ => hch2, fun _ => hfit2, fun _ => by rw [if_neg (fun e => by rw [e] at hi_k; simp at hi_k), hps2, List.length_append]; simp only [List.length_cons, List.length_nil]; omega⟩
    refine gx_region ?_
    refine s_go (s_move) ?_
    try simp only [opv, n1, n2, n3, n4, Value.cells]
    refine s_go (s_move) ?_
    try simp only [opv, n1, n2, n3, n4, Value.cells]
    refine s_go (s_move) ?_
    try simp only [opv, n1, n2, n3, n4, Value.cells]
    refine s_go (s_move) ?_
    try simp only [opv, n1, n2, n3, n4, Value.cells]
    refine s_go (s_move) ?_
    try simp only [opv, n1, n2, n3, n4, Value.cells]
    refine s_go (m_slice (lo := i) (hi := (normP l).length) (m := (normP l).length) Try.underlying22 ti54 (hlo := by exact ⟨_, rfl⟩) (hhi := by exact ⟨_, rfl⟩) (hmx := by exact ⟨_, rfl⟩)) ?_
    try simp only [opv, n1, n2, n3, n4, Value.cells]
    rw [if_neg (by omega), show (normP l).length - i = (cutS (normP l) (i, (normP l).length)).length from (cut_len (Nat.le_refl _)).symm]
    refine m_buildRow (cells := #[_]) Try.underlying57 ti22 (hc := by simp only [List.map_toArray, List.map_cons, List.map_nil, opv, n1, n2, n3, n4, Value.cells, List.toList_toArray]; (repeat (refine fill_cons rfl rfl (Nat.le_of_ble_eq_true rfl) ?_)); rfl) (hS := hS) (h := fun w5 g5 hS => ?_)
    try simp only [opv, n1, n2, n3, n4, Value.cells, Array.toArray_toList] at hS ⊢
    replace hS := hS.obj_rd (sz := 1) (n := 1) rfl .head
    refine m_append Try.underlying57 ti22 (hS := hS) (h1 := by intro u hu; rw [List.mem_singleton] at hu; rw [hu]; rfl) (h := fun w6 A6 C6 hS => ?_)
    try simp only [← List.map_append, ← List.map_drop, ← List.map_take, Nat.mul_one, Nat.zero_mul, Nat.sub_zero, List.drop_zero, List.nil_append, Nat.zero_add] at hS ⊢
    try simp only [opv, n1, n2, n3, n4, Value.cells, Array.toArray_toList] at hS ⊢
    rw [show ([Value.slice (Bn.map (·.add (i * 21))) (cutS (normP l) (i, (normP l).length)).length (cutS (normP l) (i, (normP l).length)).length] : List Value) = [rwV (rwP Bn (normP l) (fun p => (cutS (normP l) p).length) (i, (normP l).length))] from rfl, map_snoc_p, ← hps2, show ps.length + 1 = ps2.length by rw [hps2, List.length_append]; rfl] at hS
    rw [show ps.length + 1 = ps2.length by rw [hps2, List.length_append]; rfl]
    refine s_go (s_assign) ?_
    try simp only [opv, n1, n2, n3, n4, Value.cells]
    refine gx_nil ?_
    refine hK15 _ _ ?_
    refine gx_seq fun K17 hK17 => ?_
    refine gx_region ?_
    refine s_go (s_move) ?_
    try simp only [opv, n1, n2, n3, n4, Value.cells]
    refine s_go (s_assign) ?_
    try simp only [opv, n1, n2, n3, n4, Value.cells]
    refine s_go (s_assign) ?_
    try simp only [opv, n1, n2, n3, n4, Value.cells]
    refine gx_nil ?_
    refine hK17 _ _ ?_
    refine gx_ret ?_
    refine r_tmp2 rfl ?_
    first
    | (rw [hE0]; exact ⟨_, _, Bn, ps2, rfl, hok2, hown, hS.sel (by repeat (first | exact Sel.nil | (refine Sel.cons (by repeat (first | exact Del.head | apply Del.tail)) ?_)))⟩)
    | (rw [hE0]; exact ⟨_, _, Bn, ps, rfl, hok1, hown, hS.sel (by repeat (first | exact Sel.nil | (refine Sel.cons (by repeat (first | exact Del.head | apply Del.tail)) ?_)))⟩)
   ·
    try simp only [decide_eq_true_eq, decide_eq_false_iff_not, Bool.not_eq_true', Bool.not_eq_false', Int.not_lt, Int.not_le, ne_eq, Decidable.not_not, bne_iff_ne, beq_iff_eq, not_true_eq_false, not_false_eq_true] at hc4
    have hn0 : (normP l).length = 0 := by omega
    have hok1 : CutOk b (normP l) ps := ⟨fun q => absurd hE0 q, fun _ => by (have e : i = (normP l).length := by omega); rw [← e]; exact hch, fun _ => hfit, fun _ => by (have e2 : (normP l) = [] := List.eq_nil_of_length_eq_zero hn0); rw [if_pos e2]; omega⟩
    refine gx_skip ?_
    refine hK15 _ _ ?_
    refine gx_seq fun K18 hK18 => ?_
    refine gx_region ?_
    refine s_go (s_move) ?_
    try simp only [opv, n1, n2, n3, n4, Value.cells]
    refine s_go (s_assign) ?_
    try simp only [opv, n1, n2, n3, n4, Value.cells]
    refine s_go (s_assign) ?_
    try simp only [opv, n1, n2, n3, n4, Value.cells]
    refine gx_nil ?_
    refine hK18 _ _ ?_
    refine gx_ret ?_
    refine r_tmp2 rfl ?_
    first
    | (rw [hE0]; exact ⟨_, _, Bn, ps2, rfl, hok2, hown, hS.sel (by repeat (first | exact Sel.nil | (refine Sel.cons (by repeat (first | exact Del.head | apply Del.tail)) ?_)))⟩)
    | (rw [hE0]; exact ⟨_, _, Bn, ps, rfl, hok1, hown, hS.sel (by repeat (first | exact Sel.nil | (refine Sel.cons (by repeat (first | exact Del.head | apply Del.tail)) ?_)))⟩)
end Go.Proofs.Ytffmanidnlbjjaa
