/- Rules, plain words and walks that the claim leans on: Cx, De, Pread, Pread2, Df, Dg, Vz, Vo, Popen, Popen2, Prows, Pwire, Dh. -/
import Derived.Test.YtpjpaipkkcengaaGreatZAtomReads2
set_option linter.unusedSimpArgs false
set_option linter.unusedVariables false
set_option linter.unusedSimpArgs false
set_option linter.unusedVariables false
set_option maxHeartbeats 800000
set_option maxRecDepth 100000
namespace Go.Proofs.YtpjpaipkkcengaaGreat
open Go.RowKit

def WrSt (w0 w' : World) (M : List Res) (g : Nat) (xs : List Int) (R : List Res) : Prop := ∃ (A : Option Addr) (c : Nat), St (OwnB M) w0 w' (.obj g (.cells #[.slice A xs.length c] 74 (0, 0)) :: .vec A c 5 1 xs.length (xs.map (Value.int .u8)) :: R)

theorem c_wput (w0 : World) (g : Nat) (A : Option Addr) (c : Nat) (xs : List Int) (hx : xs.length ≤ 1000000000) (B : Option Addr) (d : Nat) (ys : List Int) (hy : ys.length ≤ 1000000000) (hM : St (OwnB [.obj g (.cells #[.slice A xs.length c] 74 (0, 0)), .vec A c 5 1 xs.length (xs.map (Value.int .u8)), .rd B 1 ys.length (ys.map (Value.int .u8))]) w0 w0 [.obj g (.cells #[.slice A xs.length c] 74 (0, 0)), .vec A c 5 1 xs.length (xs.map (Value.int .u8)), .rd B 1 ys.length (ys.map (Value.int .u8))]) :
    CallR Tryz.prog 70 #[.pointer (some ⟨g, 0, none⟩), .slice B ys.length d] w0 fun v w' => v = .tuple #[] ∧ WrSt w0 w' [.obj g (.cells #[.slice A xs.length c] 74 (0, 0)), .vec A c 5 1 xs.length (xs.map (Value.int .u8)), .rd B 1 ys.length (ys.map (Value.int .u8))] g (xs ++ ys) [.rd B 1 ys.length (ys.map (Value.int .u8))] := by
 have hS := hM
 refine c_enter (l := [.pointer (some ⟨g, 0, none⟩), .slice B ys.length d, undef, undef, undef, undef, undef, undef, undef, undef, undef, undef, undef, undef, undef]) Tryz.func70 rfl (by simp only [Tryz.ntmps70, List.size_toArray, List.length_cons, List.length_nil, Nat.reduceAdd, Nat.reduceSub, Array.replicate_succ, Array.replicate_zero, List.push_toArray, List.append_toArray, List.nil_append, List.cons_append]) ?_
 refine x_seq fun K1 hK1 => ?_
 refine x_region ?_
 refine s_go (s_move) ?_
 try simp only [opv, nZ, Value.cells]
 refine s_go (s_neq_pointer Tryz.underlying51) ?_
 try simp only [opv, nZ, Value.cells]
 refine x_nil ?_
 refine hK1 _ _ ?_
 refine x_cond_t (h := ?_)
 refine x_region ?_
 refine s_go (s_move) ?_
 try simp only [opv, nZ, Value.cells]
 refine s_go (s_move) ?_
 try simp only [opv, nZ, Value.cells]
 refine s_go (s_nilCheck) ?_
 try simp only [opv, nZ, Value.cells]
 refine s_go (m_fieldAddr Tryz.underlying74 (hi := ti33)) ?_
 try simp only [opv, nZ, Value.cells, Nat.zero_add, Nat.add_zero, List.getElem_toArray, List.getElem_cons_zero, List.getElem_cons_succ]
 refine s_go (m_load_obj Tryz.underlying33 (hS := hS)) ?_
 try simp only [opv, nZ, Value.cells, List.getElem_toArray, List.getElem_cons_zero, List.getElem_cons_succ]
 refine s_go (s_move) ?_
 try simp only [opv, nZ, Value.cells]
 refine m_append Tryz.underlying33 ti5 (hS := hS) (h := fun w1 A1 C1 hS => ?_)
 try simp only [← List.map_append, ← List.map_drop, ← List.map_take, Nat.mul_one, Nat.zero_mul, Nat.sub_zero, List.drop_zero, List.nil_append, Nat.zero_add] at hS ⊢
 try simp only [opv, nZ, Value.cells, Array.toArray_toList] at hS ⊢
 refine s_go (s_nilCheck) ?_
 try simp only [opv, nZ, Value.cells]
 refine s_go (m_fieldAddr Tryz.underlying74 (hi := ti33)) ?_
 try simp only [opv, nZ, Value.cells, Nat.zero_add, Nat.add_zero, List.getElem_toArray, List.getElem_cons_zero, List.getElem_cons_succ]
 refine m_store_obj ti33 (hS := hS) (h := fun w2 hS => ?_)
 try simp only [opv, nZ, Value.cells, Array.toArray_toList] at hS ⊢
 refine x_nil ?_
 refine r_none rfl ?_
 rw [← List.length_append] at hS
 exact ⟨rfl, _, _, hS.selA⟩
theorem c_wnum (w0 : World) (g : Nat) (A : Option Addr) (c : Nat) (xs : List Int) (hx : xs.length ≤ 100000000) (x : Nat) (hx64 : x < 18446744073709551616) (hM : St (OwnB [.obj g (.cells #[.slice A xs.length c] 74 (0, 0)), .vec A c 5 1 xs.length (xs.map (Value.int .u8))]) w0 w0 [.obj g (.cells #[.slice A xs.length c] 74 (0, 0)), .vec A c 5 1 xs.length (xs.map (Value.int .u8))]) :
    CallR Tryz.prog 34 #[.pointer (some ⟨g, 0, none⟩), .int .u64 (x : Int)] w0 fun v w' => v = .tuple #[] ∧ WrSt w0 w' [.obj g (.cells #[.slice A xs.length c] 74 (0, 0)), .vec A c 5 1 xs.length (xs.map (Value.int .u8))] g (xs ++ vari x) [] := by
 have hS := hM
 refine c_enter (l := [.pointer (some ⟨g, 0, none⟩), .int .u64 (x : Int), undef, undef, undef, undef, undef, undef]) Tryz.func34 rfl (by simp only [Tryz.ntmps34, List.size_toArray, List.length_cons, List.length_nil, Nat.reduceAdd, Nat.reduceSub, Array.replicate_succ, Array.replicate_zero, List.push_toArray, List.append_toArray, List.nil_append, List.cons_append]) ?_
 refine x_region ?_
 refine s_go (s_move) ?_
 try simp only [opv, nZ, Value.cells]
 refine s_go (s_move) ?_
 try simp only [opv, nZ, Value.cells]
 refine s_call en71 ?_
 try simp only [opv, nZ, Value.cells, List.map_toArray, List.map_cons, List.map_nil, List.append_toArray, List.cons_append, List.nil_append, Array.append_empty]
 refine CallR.mono (c_packVar x hx64 _) ?_
 rintro _ w1 ⟨A1, c1, rfl, hC1⟩
 replace hS := hS.call hC1
 simp only [List.cons_append, List.nil_append] at hS
 have hvl := vari_len10 hx64
 replace hS := hS.vec_rd (by exact Upd.head)
 try simp only [opv, nZ, Value.cells]
 refine s_call en70 ?_
 try simp only [opv, nZ, Value.cells, List.map_toArray, List.map_cons, List.map_nil, List.append_toArray, List.cons_append, List.nil_append, Array.append_empty]
 refine CallR.mono (c_wput _ g A c (xs) (by omega) _ _ (vari x) (by omega) (hS.owns (by repeat (first | exact Spl.nil | (apply Spl.cons (by repeat (first | exact Del.head | apply Del.tail))))))) ?_
 rintro _ w2 ⟨rfl, A2, c2, hC2⟩
 replace hS := hS.frame (by repeat (first | exact Spl.nil | (apply Spl.cons (by repeat (first | exact Del.head | apply Del.tail))))) hC2 (by intro r hr g hg; simp only [List.mem_cons, List.not_mem_nil, or_false] at hr; rcases hr with rfl | rfl | rfl <;> first | (simp [Res.reads] at hg; done) | exact .inr ⟨_, by simp, .inr hg⟩)
 simp only [List.cons_append, List.nil_append] at hS
 try simp only [opv, nZ, Value.cells]
 refine x_nil ?_
 refine r_none rfl ?_
 exact ⟨rfl, _, _, hS.sel (by repeat (first | exact Sel.nil | (refine Sel.cons (by repeat (exact Del.head)) ?_)))⟩
theorem c_wbyte (w0 : World) (g : Nat) (A : Option Addr) (c : Nat) (xs : List Int) (hx : xs.length ≤ 100000000) (b : Int) (hM : St (OwnB [.obj g (.cells #[.slice A xs.length c] 74 (0, 0)), .vec A c 5 1 xs.length (xs.map (Value.int .u8))]) w0 w0 [.obj g (.cells #[.slice A xs.length c] 74 (0, 0)), .vec A c 5 1 xs.length (xs.map (Value.int .u8))]) :
    CallR Tryz.prog 35 #[.pointer (some ⟨g, 0, none⟩), .int .u8 b] w0 fun v w' => v = .tuple #[] ∧ WrSt w0 w' [.obj g (.cells #[.slice A xs.length c] 74 (0, 0)), .vec A c 5 1 xs.length (xs.map (Value.int .u8))] g (xs ++ [b]) [] := by
 have hS := hM
 refine c_enter (l := [.pointer (some ⟨g, 0, none⟩), .int .u8 b, undef, undef, undef, undef, undef, undef]) Tryz.func35 rfl (by simp only [Tryz.ntmps35, List.size_toArray, List.length_cons, List.length_nil, Nat.reduceAdd, Nat.reduceSub, Array.replicate_succ, Array.replicate_zero, List.push_toArray, List.append_toArray, List.nil_append, List.cons_append]) ?_
 refine x_region ?_
 refine s_go (s_move) ?_
 try simp only [opv, nZ, Value.cells]
 refine s_go (s_move) ?_
 try simp only [opv, nZ, Value.cells]
 refine m_buildRow (cells := #[_]) Tryz.underlying33 ti5 (hc := by simp only [List.map_toArray, List.map_cons, List.map_nil, opv, nZ, Value.cells, List.toList_toArray]; (repeat (refine fill_cons rfl rfl (Nat.le_of_ble_eq_true rfl) ?_)); rfl) (hS := hS) (h := fun w1 g1 hS => ?_)
 try simp only [opv, nZ, Value.cells, Array.toArray_toList] at hS ⊢
 replace hS := hS.obj_rd (sz := 1) (n := 1) rfl .head
 refine s_call en70 ?_
 try simp only [opv, nZ, Value.cells, List.map_toArray, List.map_cons, List.map_nil, List.append_toArray, List.cons_append, List.nil_append, Array.append_empty]
 refine CallR.mono (c_wput _ g A c (xs) (by omega) _ _ ([b]) (by simp) (hS.owns (by repeat (first | exact Spl.nil | (apply Spl.cons (by repeat (first | exact Del.head | apply Del.tail))))))) ?_
 rintro _ w2 ⟨rfl, A2, c2, hC2⟩
 replace hS := hS.frame (by repeat (first | exact Spl.nil | (apply Spl.cons (by repeat (first | exact Del.head | apply Del.tail))))) hC2 (by intro r hr g hg; simp only [List.mem_cons, List.not_mem_nil, or_false] at hr; rcases hr with rfl | rfl | rfl <;> first | (simp [Res.reads] at hg; done) | exact .inr ⟨_, by simp, .inr hg⟩)
 simp only [List.cons_append, List.nil_append] at hS
 try simp only [opv, nZ, Value.cells]
 refine x_nil ?_
 refine r_none rfl ?_
 exact ⟨rfl, _, _, hS.sel (by repeat (first | exact Sel.nil | (refine Sel.cons (by repeat (exact Del.head)) ?_)))⟩
theorem c_wname (w0 : World) (g : Nat) (A : Option Addr) (c : Nat) (xs : List Int) (hx : xs.length ≤ 100000000) (l : List Int) (hl : l.length = 8) (hw : Byt l) (hM : St (OwnB [.obj g (.cells #[.slice A xs.length c] 74 (0, 0)), .vec A c 5 1 xs.length (xs.map (Value.int .u8))]) w0 w0 [.obj g (.cells #[.slice A xs.length c] 74 (0, 0)), .vec A c 5 1 xs.length (xs.map (Value.int .u8))]) :
    CallR Tryz.prog 36 #[.pointer (some ⟨g, 0, none⟩), .agg (ic .u8 l)] w0 fun v w' => v = .tuple #[] ∧ WrSt w0 w' [.obj g (.cells #[.slice A xs.length c] 74 (0, 0)), .vec A c 5 1 xs.length (xs.map (Value.int .u8))] g (xs ++ nmOut l) [] := by
 have hS := hM
 refine c_enter (l := [.pointer (some ⟨g, 0, none⟩), .agg (ic .u8 l), undef, undef, undef, undef, undef, undef, undef, undef, undef, undef, undef, undef, undef, undef, undef]) Tryz.func36 rfl (by simp only [Tryz.ntmps36, List.size_toArray, List.length_cons, List.length_nil, Nat.reduceAdd, Nat.reduceSub, Array.replicate_succ, Array.replicate_zero, List.push_toArray, List.append_toArray, List.nil_append, List.cons_append]) ?_
 refine x_seq fun K1 hK1 => ?_
 refine x_region ?_
 have hs := nsz_le l
 have htl := nmTxt_len l
 have htb := nmTxt_byt hw
 refine m_box hS (fun w1 g1 hS => ?_)
 try simp only [opv, nZ, Value.cells, Array.toArray_toList] at hS ⊢
 refine x_nil ?_
 refine hK1 _ _ ?_
 refine x_seq fun K2 hK2 => ?_
 refine x_region ?_
 refine s_go (m_load_row Tryz.underlying24 (hi := ti24) (hS := hS)) ?_
 try simp only [opv, nZ, Value.cells, List.getElem_toArray, List.getElem_cons_zero, List.getElem_cons_succ]
 refine s_call en72 ?_
 try simp only [opv, nZ, Value.cells, List.map_toArray, List.map_cons, List.map_nil, List.append_toArray, List.cons_append, List.nil_append, Array.append_empty]
 refine CallR.mono (c_nameText _ (by assumption) (by assumption) _) ?_
 rintro _ w2 ⟨rfl, hE2⟩
 replace hS := hS.ext hE2
 try simp only [opv, nZ, Value.cells]
 refine s_go (s_assign) ?_
 try simp only [opv, nZ, Value.cells]
 refine x_nil ?_
 refine hK2 _ _ ?_
 refine x_seq fun K3 hK3 => ?_
 refine x_region ?_
 refine s_go (s_move) ?_
 try simp only [opv, nZ, Value.cells]
 refine s_go (s_move) ?_
 try simp only [opv, nZ, Value.cells]
 refine s_go (s_len_str Tryz.underlying9) ?_
 try simp only [opv, nZ, Value.cells]
 rw [strOf_size, htl]
 refine s_go (s_conv Tryz.underlying3 Tryz.underlying5 (hc := by exact wr_u8 (by omega) (by omega))) ?_
 try simp only [opv, nZ, Value.cells]
 refine m_buildRow (cells := #[_]) Tryz.underlying33 ti5 (hc := by simp only [List.map_toArray, List.map_cons, List.map_nil, opv, nZ, Value.cells, List.toList_toArray]; (repeat (refine fill_cons rfl rfl (Nat.le_of_ble_eq_true rfl) ?_)); rfl) (hS := hS) (h := fun w3 g3 hS => ?_)
 try simp only [opv, nZ, Value.cells, Array.toArray_toList] at hS ⊢
 replace hS := hS.obj_rd (sz := 1) (n := 1) rfl .head
 refine s_call en70 ?_
 try simp only [opv, nZ, Value.cells, List.map_toArray, List.map_cons, List.map_nil, List.append_toArray, List.cons_append, List.nil_append, Array.append_empty]
 refine CallR.mono (c_wput _ g A c (xs) (by omega) _ _ ([(nsz l : Int)]) (by simp) (hS.owns (by repeat (first | exact Spl.nil | (apply Spl.cons (by repeat (first | exact Del.head | apply Del.tail))))))) ?_
 rintro _ w4 ⟨rfl, A4, c4, hC4⟩
 replace hS := hS.frame (by repeat (first | exact Spl.nil | (apply Spl.cons (by repeat (first | exact Del.head | apply Del.tail))))) hC4 (by intro r hr g hg; simp only [List.mem_cons, List.not_mem_nil, or_false] at hr; rcases hr with rfl | rfl | rfl <;> first | (simp [Res.reads] at hg; done) | exact .inr ⟨_, by simp, .inr hg⟩)
 simp only [List.cons_append, List.nil_append] at hS
 try simp only [opv, nZ, Value.cells]
 refine x_nil ?_
 refine hK3 _ _ ?_
 refine x_region ?_
 refine s_go (s_move) ?_
 try simp only [opv, nZ, Value.cells]
 refine s_go (s_move) ?_
 try simp only [opv, nZ, Value.cells]
 refine m_str_bytes Tryz.underlying9 Tryz.underlying33 Tryz.underlying5 (hS := hS) (h := fun w5 A5 C5 hS => ?_)
 try simp only [opv, nZ, Value.cells, Array.toArray_toList] at hS ⊢
 rw [strOf_size] at hS ⊢
 rw [byL_strOf htb] at hS
 refine s_call en70 ?_
 try simp only [opv, nZ, Value.cells, List.map_toArray, List.map_cons, List.map_nil, List.append_toArray, List.cons_append, List.nil_append, Array.append_empty]
 refine CallR.mono (c_wput _ g _ _ (xs ++ [(nsz l : Int)]) (by simp; omega) _ _ (nmTxt l) (by omega) (hS.owns (by repeat (first | exact Spl.nil | (apply Spl.cons (by repeat (first | exact Del.head | apply Del.tail))))))) ?_
 rintro _ w6 ⟨rfl, A6, c6, hC6⟩
 replace hS := hS.frame (by repeat (first | exact Spl.nil | (apply Spl.cons (by repeat (first | exact Del.head | apply Del.tail))))) hC6 (by intro r hr g hg; simp only [List.mem_cons, List.not_mem_nil, or_false] at hr; rcases hr with rfl | rfl | rfl <;> first | (simp [Res.reads] at hg; done) | exact .inr ⟨_, by simp, .inr hg⟩)
 simp only [List.cons_append, List.nil_append] at hS
 try simp only [opv, nZ, Value.cells]
 refine x_nil ?_
 refine r_none rfl ?_
 rw [show xs ++ [(nsz l : Int)] ++ nmTxt l = xs ++ nmOut l by simp [nmOut]] at hS
 exact ⟨rfl, _, _, hS.sel (by repeat (first | exact Sel.nil | (refine Sel.cons (by repeat (exact Del.head)) ?_)))⟩
theorem c_wout (w0 : World) (g : Nat) (A : Option Addr) (c : Nat) (xs : List Int) (hx : xs.length ≤ 100000000) (hM : St (OwnB [.obj g (.cells #[.slice A xs.length c] 74 (0, 0)), .vec A c 5 1 xs.length (xs.map (Value.int .u8))]) w0 w0 [.obj g (.cells #[.slice A xs.length c] 74 (0, 0)), .vec A c 5 1 xs.length (xs.map (Value.int .u8))]) :
    CallR Tryz.prog 19 #[.pointer (some ⟨g, 0, none⟩)] w0 fun v w' => ∃ A' c', v = .slice A' xs.length c' ∧ St (OwnB [.obj g (.cells #[.slice A xs.length c] 74 (0, 0)), .vec A c 5 1 xs.length (xs.map (Value.int .u8))]) w0 w' [.vec A' c' 5 1 xs.length (xs.map (Value.int .u8)), .obj g (.cells #[.slice A xs.length c] 74 (0, 0)), .vec A c 5 1 xs.length (xs.map (Value.int .u8))] := by
 have hS := hM
 refine c_enter (l := [.pointer (some ⟨g, 0, none⟩), undef, undef, undef, undef, undef, undef, undef, undef, undef, undef]) Tryz.func19 rfl (by simp only [Tryz.ntmps19, List.size_toArray, List.length_cons, List.length_nil, Nat.reduceAdd, Nat.reduceSub, Array.replicate_succ, Array.replicate_zero, List.push_toArray, List.append_toArray, List.nil_append, List.cons_append]) ?_
 refine x_seq fun K1 hK1 => ?_
 refine x_region ?_
 refine s_go (s_assign) ?_
 try simp only [opv, nZ, Value.cells]
 refine x_nil ?_
 refine hK1 _ _ ?_
 refine x_seq fun K2 hK2 => ?_
 refine x_seq fun K3 hK3 => ?_
 refine x_region ?_
 refine s_go (s_move) ?_
 try simp only [opv, nZ, Value.cells]
 refine s_go (s_eql_pointer Tryz.underlying51) ?_
 try simp only [opv, nZ, Value.cells]
 refine x_nil ?_
 refine hK3 _ _ ?_
 refine x_cond_f (h := ?_)
 refine x_skip ?_
 refine hK2 _ _ ?_
 refine x_seq fun K4 hK4 => ?_
 refine x_region ?_
 refine m_buildRow (cells := #[]) Tryz.underlying33 ti5 (hc := by simp only [List.map_toArray, List.map_cons, List.map_nil, opv, nZ, Value.cells, List.toList_toArray]; (repeat (refine fill_cons rfl rfl (Nat.le_of_ble_eq_true rfl) ?_)); rfl) (hS := hS) (h := fun w1 g1 hS => ?_)
 try simp only [opv, nZ, Value.cells, Array.toArray_toList] at hS ⊢
 replace hS := hS.obj_vec (sz := 1) (n := 0) rfl (by decide) .head
 refine s_go (s_move) ?_
 try simp only [opv, nZ, Value.cells]
 refine s_go (s_nilCheck) ?_
 try simp only [opv, nZ, Value.cells]
 refine s_go (m_fieldAddr Tryz.underlying74 (hi := ti33)) ?_
 try simp only [opv, nZ, Value.cells, Nat.zero_add, Nat.add_zero, List.getElem_toArray, List.getElem_cons_zero, List.getElem_cons_succ]
 refine s_go (m_load_obj Tryz.underlying33 (hS := hS)) ?_
 try simp only [opv, nZ, Value.cells, List.getElem_toArray, List.getElem_cons_zero, List.getElem_cons_succ]
 refine m_append_vec Tryz.underlying33 ti5 (hS := hS) (h := fun w2 A2 C2 hS => ?_)
 try simp only [← List.map_append, ← List.map_drop, ← List.map_take, Nat.mul_one, Nat.zero_mul, Nat.sub_zero, List.drop_zero, List.nil_append, Nat.zero_add] at hS ⊢
 try simp only [opv, nZ, Value.cells, Array.toArray_toList] at hS ⊢
 refine s_go (s_assign) ?_
 try simp only [opv, nZ, Value.cells]
 refine x_nil ?_
 refine hK4 _ _ ?_
 refine x_ret ?_
 refine r_tmp rfl ?_
 exact ⟨_, _, rfl, hS.sel (by repeat (first | exact Sel.nil | (refine Sel.cons (by repeat (exact Del.head)) ?_)))⟩
theorem c_wnew  (w0 : World) :
    CallR Tryz.prog 17 #[] w0 fun v w' => ∃ g, v = .pointer (some ⟨g, 0, none⟩) ∧ St NoB w0 w' [.obj g (.cells #[.slice none 0 0] 74 (0, 0)), .vec none 0 5 1 0 (([] : List Int).map (Value.int .u8))] := by
 have hS : St NoB w0 w0 [] := St.start w0
 refine c_enter (l := [undef, undef, undef]) Tryz.func17 rfl (by simp only [Tryz.ntmps17, List.size_toArray, List.length_cons, List.length_nil, Nat.reduceAdd, Nat.reduceSub, Array.replicate_succ, Array.replicate_zero, List.push_toArray, List.append_toArray, List.nil_append, List.cons_append]) ?_
 refine x_seq fun K1 hK1 => ?_
 refine x_region ?_
 refine s_go (s_assign) ?_
 try simp only [opv, nZ, Value.cells]
 refine x_nil ?_
 refine hK1 _ _ ?_
 refine x_seq fun K2 hK2 => ?_
 refine x_region ?_
 refine s_go (s_build_struct (cells := #[.slice none 0 0]) Tryz.underlying74 ti74 bp74 (hc := by simp only [List.map_toArray, List.map_cons, List.map_nil, opv, nZ, Value.cells, List.toList_toArray]; (repeat (refine fill_cons rfl rfl (Nat.le_of_ble_eq_true rfl) ?_)); rfl)) ?_
 try simp only [opv, nZ, Value.cells]
 refine m_box hS (fun w1 g1 hS => ?_)
 try simp only [opv, nZ, Value.cells, Array.toArray_toList] at hS ⊢
 refine s_go (s_assign) ?_
 try simp only [opv, nZ, Value.cells]
 refine x_nil ?_
 refine hK2 _ _ ?_
 refine x_ret ?_
 refine r_tmp rfl ?_
 have hS := hS.nil_vec 5 1
 exact ⟨_, rfl, hS.selA⟩
end Go.Proofs.YtpjpaipkkcengaaGreat
set_option linter.unusedSimpArgs false
set_option linter.unusedVariables false
set_option maxHeartbeats 800000
set_option maxRecDepth 100000
namespace Go.Proofs.YtpjpaipkkcengaaGreat
open Go.RowKit

/-- a cursor g with the error e and the bytes xs behind a call that was handed it as M says -/
def RdIn (w0 : World) (M : List Res) (A : Option Addr) (n : Nat) : Prop := ∀ b, (if n = 0 then none else A.map (·.block)) = some b → w0.heap.size ≤ b ∨ ∃ s ∈ M, s.own = some b ∨ s.reads = some b
def CuSt (w0 w' : World) (M : List Res) (g : Nat) (e : Int) (xs : List Int) (R : List Res) : Prop := ∃ (A : Option Addr) (c : Nat), xs.length ≤ c ∧ RdIn w0 M A xs.length ∧ St (OwnB M) w0 w' (.obj g (.cells #[.int .i64 e, .slice A xs.length c] 63 (0, 0)) :: .rd A 1 xs.length (xs.map (Value.int .u8)) :: R)
theorem RdIn.sub {w0 : World} {M : List Res} {A A' : Option Addr} {n n' k : Nat} {xs : List Value} (hm : Res.rd A 1 n xs ∈ M) (h : 0 < n' → 0 < n ∧ A' = A.map (·.add k)) : RdIn w0 M A' n' := fun b hb => by
  by_cases h0 : n' = 0
  · rw [if_pos h0] at hb; cases hb
  · obtain ⟨h1, rfl⟩ := h (by omega)
    rw [if_neg h0] at hb
    refine .inr ⟨_, hm, .inr ?_⟩
    simp only [Res.reads, if_neg (show ¬ n = 0 by omega)]
    rw [← hb]; rcases A with _ | ⟨g, o, p⟩ <;> simp only [Option.map, Addr.add] <;> (try (split <;> rfl))
theorem RdIn.none (w0 : World) (M : List Res) (A : Option Addr) : RdIn w0 M A 0 := fun b hb => by simp at hb
def errE (e e' : Int) : Int := if e = 0 then e' else e
def errX (e e' : Int) (xs : List Int) : List Int := if errE e e' = 0 then xs else []

theorem c_ffail (w0 : World) (g : Nat) (e : Int) (A : Option Addr) (c : Nat) (xs : List Int) (hc : xs.length ≤ c) (e' : Int) (hM : St (OwnB [.obj g (.cells #[.int .i64 e, .slice A xs.length c] 63 (0, 0)), .rd A 1 xs.length (xs.map (Value.int .u8))]) w0 w0 [.obj g (.cells #[.int .i64 e, .slice A xs.length c] 63 (0, 0)), .rd A 1 xs.length (xs.map (Value.int .u8))]) :
    CallR Tryz.prog 105 #[.pointer (some ⟨g, 0, none⟩), .int .i64 e'] w0 fun v w' => v = .bool (!decide (errE e e' = 0)) ∧ St (OwnB [.obj g (.cells #[.int .i64 e, .slice A xs.length c] 63 (0, 0)), .rd A 1 xs.length (xs.map (Value.int .u8))]) w0 w' [.obj g (.cells #[.int .i64 (errE e e'), .slice A xs.length c] 63 (0, 0)), .rd A 1 xs.length (xs.map (Value.int .u8))] := by
 have hS := hM
 refine c_enter (l := [.pointer (some ⟨g, 0, none⟩), .int .i64 e', undef, undef, undef, undef, undef, undef, undef, undef, undef, undef, undef, undef, undef, undef, undef, undef, undef]) Tryz.func105 rfl (by simp only [Tryz.ntmps105, List.size_toArray, List.length_cons, List.length_nil, Nat.reduceAdd, Nat.reduceSub, Array.replicate_succ, Array.replicate_zero, List.push_toArray, List.append_toArray, List.nil_append, List.cons_append]) ?_
 refine x_seq fun K1 hK1 => ?_
 refine x_region ?_
 refine s_go (s_assign) ?_
 try simp only [opv, nZ, Value.cells]
 refine x_nil ?_
 refine hK1 _ _ ?_
 refine x_seq fun K2 hK2 => ?_
 refine x_seq fun K3 hK3 => ?_
 refine x_region ?_
 refine s_go (s_move) ?_
 try simp only [opv, nZ, Value.cells]
 refine s_go (s_nilCheck) ?_
 try simp only [opv, nZ, Value.cells]
 refine s_go (m_fieldAddr Tryz.underlying61 (hi := ti42)) ?_
 try simp only [opv, nZ, Value.cells, Nat.zero_add, Nat.add_zero, List.getElem_toArray, List.getElem_cons_zero, List.getElem_cons_succ]
 refine s_go (m_load_obj Tryz.underlying42 (hS := hS)) ?_
 try simp only [opv, nZ, Value.cells, List.getElem_toArray, List.getElem_cons_zero, List.getElem_cons_succ]
 refine s_go (s_eql) ?_
 try simp only [opv, nZ, Value.cells]
 refine x_nil ?_
 refine hK3 _ _ ?_
 refine x_cond (ht := fun hc1 => ?_) (hf := fun hc1 => ?_)
 ·
  try simp only [decide_eq_true_eq, decide_eq_false_iff_not, Bool.not_eq_true', Bool.not_eq_false', Int.not_lt, Int.not_le, ne_eq, Decidable.not_not, bne_iff_ne, beq_iff_eq, not_true_eq_false, not_false_eq_true] at hc1
  have hE : errE e e' = e' := by rw [errE, if_pos hc1]
  refine x_region ?_
  refine s_go (s_move) ?_
  try simp only [opv, nZ, Value.cells]
  refine s_go (s_move) ?_
  try simp only [opv, nZ, Value.cells]
  refine s_go (s_nilCheck) ?_
  try simp only [opv, nZ, Value.cells]
  refine s_go (m_fieldAddr Tryz.underlying61 (hi := ti42)) ?_
  try simp only [opv, nZ, Value.cells, Nat.zero_add, Nat.add_zero, List.getElem_toArray, List.getElem_cons_zero, List.getElem_cons_succ]
  refine m_store_obj ti42 (hS := hS) (h := fun w1 hS => ?_)
  try simp only [opv, nZ, Value.cells, Array.toArray_toList] at hS ⊢
  refine x_nil ?_
  refine hK2 _ _ ?_
  refine x_seq fun K4 hK4 => ?_
  refine x_region ?_
  refine s_go (s_move) ?_
  try simp only [opv, nZ, Value.cells]
  refine s_go (s_nilCheck) ?_
  try simp only [opv, nZ, Value.cells]
  refine s_go (m_fieldAddr Tryz.underlying61 (hi := ti42)) ?_
  try simp only [opv, nZ, Value.cells, Nat.zero_add, Nat.add_zero, List.getElem_toArray, List.getElem_cons_zero, List.getElem_cons_succ]
  refine s_go (m_load_obj Tryz.underlying42 (hS := hS)) ?_
  try simp only [opv, nZ, Value.cells, List.getElem_toArray, List.getElem_cons_zero, List.getElem_cons_succ]
  refine s_go (s_neq) ?_
  try simp only [opv, nZ, Value.cells]
  refine s_go (s_assign) ?_
  try simp only [opv, nZ, Value.cells]
  refine x_nil ?_
  refine hK4 _ _ ?_
  refine x_ret ?_
  refine r_tmp rfl ?_
  exact ⟨congrArg Value.bool (by rw [hE]; simp), by rw [hE]; exact hS.sel (by repeat (first | exact Sel.nil | (refine Sel.cons (by repeat (exact Del.head)) ?_)))⟩
 ·
  try simp only [decide_eq_true_eq, decide_eq_false_iff_not, Bool.not_eq_true', Bool.not_eq_false', Int.not_lt, Int.not_le, ne_eq, Decidable.not_not, bne_iff_ne, beq_iff_eq, not_true_eq_false, not_false_eq_true] at hc1
  have hE : errE e e' = e := by rw [errE, if_neg hc1]
  refine x_skip ?_
  refine hK2 _ _ ?_
  refine x_seq fun K5 hK5 => ?_
  refine x_region ?_
  refine s_go (s_move) ?_
  try simp only [opv, nZ, Value.cells]
  refine s_go (s_nilCheck) ?_
  try simp only [opv, nZ, Value.cells]
  refine s_go (m_fieldAddr Tryz.underlying61 (hi := ti42)) ?_
  try simp only [opv, nZ, Value.cells, Nat.zero_add, Nat.add_zero, List.getElem_toArray, List.getElem_cons_zero, List.getElem_cons_succ]
  refine s_go (m_load_obj Tryz.underlying42 (hS := hS)) ?_
  try simp only [opv, nZ, Value.cells, List.getElem_toArray, List.getElem_cons_zero, List.getElem_cons_succ]
  refine s_go (s_neq) ?_
  try simp only [opv, nZ, Value.cells]
  refine s_go (s_assign) ?_
  try simp only [opv, nZ, Value.cells]
  refine x_nil ?_
  refine hK5 _ _ ?_
  refine x_ret ?_
  refine r_tmp rfl ?_
  exact ⟨congrArg Value.bool (by rw [hE]; simp), by rw [hE]; exact hS.sel (by repeat (first | exact Sel.nil | (refine Sel.cons (by repeat (exact Del.head)) ?_)))⟩
theorem c_cerr (w0 : World) (g : Nat) (e : Int) (A : Option Addr) (c : Nat) (xs : List Int) (hc : xs.length ≤ c) (e' : Int) (hM : St (OwnB [.obj g (.cells #[.int .i64 e, .slice A xs.length c] 63 (0, 0)), .rd A 1 xs.length (xs.map (Value.int .u8))]) w0 w0 [.obj g (.cells #[.int .i64 e, .slice A xs.length c] 63 (0, 0)), .rd A 1 xs.length (xs.map (Value.int .u8))]) :
    CallR Tryz.prog 86 #[.pointer (some ⟨g, 0, none⟩), .int .i64 e'] w0 fun v w' => v = .tuple #[] ∧ CuSt w0 w' [.obj g (.cells #[.int .i64 e, .slice A xs.length c] 63 (0, 0)), .rd A 1 xs.length (xs.map (Value.int .u8))] g (errE e e') (errX e e' xs) [] := by
 have hS := hM
 refine c_enter (l := [.pointer (some ⟨g, 0, none⟩), .int .i64 e', undef, undef, undef, undef, undef, undef, undef, undef, undef, undef]) Tryz.func86 rfl (by simp only [Tryz.ntmps86, List.size_toArray, List.length_cons, List.length_nil, Nat.reduceAdd, Nat.reduceSub, Array.replicate_succ, Array.replicate_zero, List.push_toArray, List.append_toArray, List.nil_append, List.cons_append]) ?_
 refine x_seq fun K1 hK1 => ?_
 refine x_region ?_
 refine s_go (s_move) ?_
 try simp only [opv, nZ, Value.cells]
 refine s_go (s_nilCheck) ?_
 try simp only [opv, nZ, Value.cells]
 refine s_go (m_fieldAddr Tryz.underlying63 (hi := ti61)) ?_
 try simp only [opv, nZ, Value.cells, Nat.zero_add, Nat.add_zero, List.getElem_toArray, List.getElem_cons_zero, List.getElem_cons_succ]
 refine s_go (s_move) ?_
 try simp only [opv, nZ, Value.cells]
 refine s_call en105 ?_
 try simp only [opv, nZ, Value.cells, List.map_toArray, List.map_cons, List.map_nil, List.append_toArray, List.cons_append, List.nil_append, Array.append_empty]
 refine CallR.mono (c_ffail _ g e A c xs hc e' (hS.owns (by repeat (first | exact Spl.nil | (apply Spl.cons (by repeat (exact Del.head))))))) ?_
 rintro _ w1 ⟨rfl, hC1⟩
 replace hS := hS.frame (by repeat (first | exact Spl.nil | (apply Spl.cons (by repeat (exact Del.head))))) hC1 (by intro r hr g hg; simp only [List.mem_cons, List.not_mem_nil, or_false] at hr; rcases hr with rfl | rfl | rfl <;> first | (simp [Res.reads] at hg; done) | exact .inr ⟨_, by simp, .inr hg⟩)
 simp only [List.cons_append, List.nil_append] at hS
 try simp only [opv, nZ, Value.cells]
 refine x_nil ?_
 refine hK1 _ _ ?_
 refine x_cond (ht := fun hc1 => ?_) (hf := fun hc1 => ?_)
 ·
  try simp only [decide_eq_true_eq, decide_eq_false_iff_not, Bool.not_eq_true', Bool.not_eq_false', Int.not_lt, Int.not_le, ne_eq, Decidable.not_not, bne_iff_ne, beq_iff_eq, not_true_eq_false, not_false_eq_true] at hc1
  have hX : errX e e' xs = [] := if_neg hc1
  replace hS := hS.rd_none none 1
  refine x_region ?_
  refine s_go (s_move) ?_
  try simp only [opv, nZ, Value.cells]
  refine s_go (s_nilCheck) ?_
  try simp only [opv, nZ, Value.cells]
  refine s_go (m_fieldAddr Tryz.underlying63 (hi := ti33)) ?_
  try simp only [opv, nZ, Value.cells, Nat.zero_add, Nat.add_zero, List.getElem_toArray, List.getElem_cons_zero, List.getElem_cons_succ]
  refine m_store_obj ti33 (hS := hS) (h := fun w2 hS => ?_)
  try simp only [opv, nZ, Value.cells, Array.toArray_toList] at hS ⊢
  refine x_nil ?_
  refine r_none rfl ?_
  exact ⟨rfl, none, 0, by rw [hX]; simp, fun b hb => by rw [hX] at hb; simp at hb, by rw [hX]; exact hS.selA⟩
 ·
  try simp only [decide_eq_true_eq, decide_eq_false_iff_not, Bool.not_eq_true', Bool.not_eq_false', Int.not_lt, Int.not_le, ne_eq, Decidable.not_not, bne_iff_ne, beq_iff_eq, not_true_eq_false, not_false_eq_true] at hc1
  have hX : errX e e' xs = xs := if_pos hc1
  refine x_skip ?_
  refine r_none rfl ?_
  exact ⟨rfl, A, c, by rw [hX]; exact hc, fun b hb => .inr ⟨_, List.mem_cons_of_mem _ (List.mem_cons_self ..), .inr (by rw [hX] at hb; exact hb)⟩, by rw [hX]; exact hS.sel (by repeat (first | exact Sel.nil | (refine Sel.cons (by repeat (exact Del.head)) ?_)))⟩

def takeE (e : Int) (xs : List Int) (k : Nat) : Int := if k ≤ xs.length then e else errE e 4
def takeX (e : Int) (xs : List Int) (k : Nat) : List Int := if k ≤ xs.length then xs.drop k else errX e 4 xs
def takeV (xs : List Int) (k : Nat) : List Int := if k ≤ xs.length then xs.take k else []
/-- what was taken: bytes that may be read, beside the cursor -/
def TkSt (w0 w' : World) (v : Value) (M : List Res) (g : Nat) (e : Int) (xs ys : List Int) : Prop := ∃ (A : Option Addr) (c : Nat) (B : Option Addr), v = .slice B ys.length ys.length ∧ xs.length ≤ c ∧ RdIn w0 M A xs.length ∧ RdIn w0 M B ys.length ∧ St (OwnB M) w0 w' (.obj g (.cells #[.int .i64 e, .slice A xs.length c] 63 (0, 0)) :: .rd A 1 xs.length (xs.map (Value.int .u8)) :: .rd B 1 ys.length (ys.map (Value.int .u8)) :: [])

theorem c_ctake (w0 : World) (g : Nat) (e : Int) (A : Option Addr) (c : Nat) (xs : List Int) (hc : xs.length ≤ c) (k : Nat) (hk : k ≤ 9223372036854775807) (hM : St (OwnB [.obj g (.cells #[.int .i64 e, .slice A xs.length c] 63 (0, 0)), .rd A 1 xs.length (xs.map (Value.int .u8))]) w0 w0 [.obj g (.cells #[.int .i64 e, .slice A xs.length c] 63 (0, 0)), .rd A 1 xs.length (xs.map (Value.int .u8))]) :
    CallR Tryz.prog 87 #[.pointer (some ⟨g, 0, none⟩), .int .i64 (k : Int)] w0 fun v w' => TkSt w0 w' v [.obj g (.cells #[.int .i64 e, .slice A xs.length c] 63 (0, 0)), .rd A 1 xs.length (xs.map (Value.int .u8))] g (takeE e xs k) (takeX e xs k) (takeV xs k) := by
 have hS := hM
 refine c_enter (l := [.pointer (some ⟨g, 0, none⟩), .int .i64 (k : Int), undef, undef, undef, undef, undef, undef, undef, undef, undef, undef, undef, undef, undef, undef, undef, undef, undef, undef, undef, undef, undef, undef, undef, undef, undef, undef, undef, undef, undef, undef]) Tryz.func87 rfl (by simp only [Tryz.ntmps87, List.size_toArray, List.length_cons, List.length_nil, Nat.reduceAdd, Nat.reduceSub, Array.replicate_succ, Array.replicate_zero, List.push_toArray, List.append_toArray, List.nil_append, List.cons_append]) ?_
 refine x_seq fun K1 hK1 => ?_
 refine x_region ?_
 refine s_go (s_assign) ?_
 try simp only [opv, nZ, Value.cells]
 refine x_nil ?_
 refine hK1 _ _ ?_
 refine x_seq fun K2 hK2 => ?_
 refine x_seq fun K3 hK3 => ?_
 refine x_region ?_
 refine s_go (s_move) ?_
 try simp only [opv, nZ, Value.cells]
 refine s_go (s_move) ?_
 try simp only [opv, nZ, Value.cells]
 refine s_go (s_nilCheck) ?_
 try simp only [opv, nZ, Value.cells]
 refine s_go (m_fieldAddr Tryz.underlying63 (hi := ti33)) ?_
 try simp only [opv, nZ, Value.cells, Nat.zero_add, Nat.add_zero, List.getElem_toArray, List.getElem_cons_zero, List.getElem_cons_succ]
 refine s_go (m_load_obj Tryz.underlying33 (hS := hS)) ?_
 try simp only [opv, nZ, Value.cells, List.getElem_toArray, List.getElem_cons_zero, List.getElem_cons_succ]
 refine s_go (s_len_sl Tryz.underlying33) ?_
 try simp only [opv, nZ, Value.cells]
 refine s_go (s_gtr) ?_
 try simp only [opv, nZ, Value.cells]
 refine x_nil ?_
 refine hK3 _ _ ?_
 refine x_cond (ht := fun hc1 => ?_) (hf := fun hc1 => ?_)
 ·
  try simp only [decide_eq_true_eq, decide_eq_false_iff_not, Bool.not_eq_true', Bool.not_eq_false', Int.not_lt, Int.not_le, ne_eq, Decidable.not_not, bne_iff_ne, beq_iff_eq, not_true_eq_false, not_false_eq_true] at hc1
  have hlt : ¬ k ≤ xs.length := by omega
  refine x_seq fun K4 hK4 => ?_
  refine x_region ?_
  refine s_go (s_move) ?_
  try simp only [opv, nZ, Value.cells]
  refine s_call en86 ?_
  try simp only [opv, nZ, Value.cells, List.map_toArray, List.map_cons, List.map_nil, List.append_toArray, List.cons_append, List.nil_append, Array.append_empty]
  refine CallR.mono (c_cerr _ g e A c xs hc 4 (hS.owns (by repeat (first | exact Spl.nil | (apply Spl.cons (by repeat (exact Del.head))))))) ?_
  rintro _ w1 ⟨rfl, A1, c1, hcp1, hR1, hC1⟩
  replace hS := hS.frame (by repeat (first | exact Spl.nil | (apply Spl.cons (by repeat (exact Del.head))))) hC1 (by intro r hr b hb; simp only [List.mem_cons, List.not_mem_nil, or_false] at hr; rcases hr with rfl | rfl <;> first | (simp [Res.reads] at hb; done) | exact hR1 b hb)
  simp only [List.cons_append, List.nil_append] at hS
  try simp only [opv, nZ, Value.cells]
  refine x_nil ?_
  refine hK4 _ _ ?_
  refine x_seq fun K5 hK5 => ?_
  refine x_region ?_
  refine s_go (s_assign) ?_
  try simp only [opv, nZ, Value.cells]
  refine x_nil ?_
  refine hK5 _ _ ?_
  refine x_ret ?_
  refine r_tmp rfl ?_
  replace hS := hS.rd_none none 1
  exact ⟨_, _, none, by simp only [takeV, if_neg hlt]; rfl, by simp only [takeX, if_neg hlt]; assumption, by simp only [takeX, if_neg hlt]; assumption, by simp only [takeV, if_neg hlt]; exact RdIn.none _ _ _, by simp only [takeE, takeX, takeV, if_neg hlt]; exact hS.selA⟩
 ·
  try simp only [decide_eq_true_eq, decide_eq_false_iff_not, Bool.not_eq_true', Bool.not_eq_false', Int.not_lt, Int.not_le, ne_eq, Decidable.not_not, bne_iff_ne, beq_iff_eq, not_true_eq_false, not_false_eq_true] at hc1
  have hle : k ≤ xs.length := by omega
  refine x_skip ?_
  refine hK2 _ _ ?_
  refine x_seq fun K6 hK6 => ?_
  refine x_region ?_
  refine s_go (s_move) ?_
  try simp only [opv, nZ, Value.cells]
  refine s_go (s_nilCheck) ?_
  try simp only [opv, nZ, Value.cells]
  refine s_go (m_fieldAddr Tryz.underlying63 (hi := ti33)) ?_
  try simp only [opv, nZ, Value.cells, Nat.zero_add, Nat.add_zero, List.getElem_toArray, List.getElem_cons_zero, List.getElem_cons_succ]
  refine s_go (m_load_obj Tryz.underlying33 (hS := hS)) ?_
  try simp only [opv, nZ, Value.cells, List.getElem_toArray, List.getElem_cons_zero, List.getElem_cons_succ]
  refine s_go (s_move) ?_
  try simp only [opv, nZ, Value.cells]
  refine s_go (s_move) ?_
  try simp only [opv, nZ, Value.cells]
  refine m_slice_rd (lo := 0) (hi := k) (m := k) Tryz.underlying33 ti5 (hlo := rfl) (hhi := ⟨_, rfl⟩) (hmx := ⟨_, rfl⟩) (hS := hS) (h := fun A1 hA1 hS => ?_)
  try simp only [Nat.mul_one, Nat.zero_mul] at hA1
  try simp only [← List.map_append, ← List.map_drop, ← List.map_take, Nat.mul_one, Nat.zero_mul, Nat.sub_zero, List.drop_zero, List.nil_append, Nat.zero_add] at hS ⊢
  try simp only [opv, nZ, Value.cells, Array.toArray_toList] at hS ⊢
  refine s_go (s_assign) ?_
  try simp only [opv, nZ, Value.cells]
  refine x_nil ?_
  refine hK6 _ _ ?_
  refine x_seq fun K7 hK7 => ?_
  refine x_region ?_
  refine s_go (s_move) ?_
  try simp only [opv, nZ, Value.cells]
  refine s_go (s_move) ?_
  try simp only [opv, nZ, Value.cells]
  refine s_go (s_nilCheck) ?_
  try simp only [opv, nZ, Value.cells]
  refine s_go (m_fieldAddr Tryz.underlying63 (hi := ti33)) ?_
  try simp only [opv, nZ, Value.cells, Nat.zero_add, Nat.add_zero, List.getElem_toArray, List.getElem_cons_zero, List.getElem_cons_succ]
  refine s_go (m_load_obj Tryz.underlying33 (hS := hS)) ?_
  try simp only [opv, nZ, Value.cells, List.getElem_toArray, List.getElem_cons_zero, List.getElem_cons_succ]
  refine s_go (s_move) ?_
  try simp only [opv, nZ, Value.cells]
  refine m_slice_rd (lo := k) (hi := xs.length) (m := c) Tryz.underlying33 ti5 (hlo := ⟨_, rfl⟩) (hhi := ⟨rfl, rfl⟩) (hmx := rfl) (hS := hS) (h := fun A2 hA2 hS => ?_)
  try simp only [Nat.mul_one, Nat.zero_mul] at hA2
  try simp only [← List.map_append, ← List.map_drop, ← List.map_take, Nat.mul_one, Nat.zero_mul, Nat.sub_zero, List.drop_zero, List.nil_append, Nat.zero_add] at hS ⊢
  try simp only [opv, nZ, Value.cells, Array.toArray_toList] at hS ⊢
  rw [show List.take (xs.length - k) (List.drop k xs) = List.drop k xs from List.take_of_length_le (by simp)] at hS
  refine s_go (s_nilCheck) ?_
  try simp only [opv, nZ, Value.cells]
  refine s_go (m_fieldAddr Tryz.underlying63 (hi := ti33)) ?_
  try simp only [opv, nZ, Value.cells, Nat.zero_add, Nat.add_zero, List.getElem_toArray, List.getElem_cons_zero, List.getElem_cons_succ]
  refine m_store_obj ti33 (hS := hS) (h := fun w2 hS => ?_)
  try simp only [opv, nZ, Value.cells, Array.toArray_toList] at hS ⊢
  refine x_nil ?_
  refine hK7 _ _ ?_
  refine x_seq fun K8 hK8 => ?_
  refine x_region ?_
  refine s_go (s_move) ?_
  try simp only [opv, nZ, Value.cells]
  refine s_go (s_assign) ?_
  try simp only [opv, nZ, Value.cells]
  refine x_nil ?_
  refine hK8 _ _ ?_
  refine x_ret ?_
  refine r_tmp rfl ?_
  rw [← List.length_drop] at hS
  refine ⟨_, _, _, by simp only [takeV, if_pos hle, List.length_take, Nat.min_eq_left hle]; rfl, ?_, by simp only [takeX, if_pos hle]; exact RdIn.sub (List.mem_cons_of_mem _ (List.mem_cons_self ..)) (fun h => ⟨by simp at h; omega, hA2 (by simp at h; omega)⟩), by simp only [takeV, if_pos hle]; exact RdIn.sub (List.mem_cons_of_mem _ (List.mem_cons_self ..)) (fun h => ⟨by simp at h; omega, hA1 (by simp at h; omega)⟩), by simp only [takeE, takeX, takeV, if_pos hle, List.length_take, Nat.min_eq_left hle]; exact hS.selA⟩
  simp only [takeX, if_pos hle, List.length_drop]; omega
theorem c_cwell (w0 : World) (g : Nat) (e : Int) (A : Option Addr) (c : Nat) (xs : List Int) (hc : xs.length ≤ c) (hM : St (OwnB [.obj g (.cells #[.int .i64 e, .slice A xs.length c] 63 (0, 0)), .rd A 1 xs.length (xs.map (Value.int .u8))]) w0 w0 [.obj g (.cells #[.int .i64 e, .slice A xs.length c] 63 (0, 0)), .rd A 1 xs.length (xs.map (Value.int .u8))]) :
    CallR Tryz.prog 104 #[.pointer (some ⟨g, 0, none⟩)] w0 fun v w' => v = .bool (decide (e = 0)) ∧ St (OwnB [.obj g (.cells #[.int .i64 e, .slice A xs.length c] 63 (0, 0)), .rd A 1 xs.length (xs.map (Value.int .u8))]) w0 w' [.obj g (.cells #[.int .i64 e, .slice A xs.length c] 63 (0, 0)), .rd A 1 xs.length (xs.map (Value.int .u8))] := by
 have hS := hM
 refine c_enter (l := [.pointer (some ⟨g, 0, none⟩), undef, undef, undef, undef, undef, undef, undef, undef, undef, undef, undef, undef]) Tryz.func104 rfl (by simp only [Tryz.ntmps104, List.size_toArray, List.length_cons, List.length_nil, Nat.reduceAdd, Nat.reduceSub, Array.replicate_succ, Array.replicate_zero, List.push_toArray, List.append_toArray, List.nil_append, List.cons_append]) ?_
 refine x_seq fun K1 hK1 => ?_
 refine x_region ?_
 refine s_go (s_assign) ?_
 try simp only [opv, nZ, Value.cells]
 refine x_nil ?_
 refine hK1 _ _ ?_
 refine x_seq fun K2 hK2 => ?_
 refine x_region ?_
 refine s_go (s_move) ?_
 try simp only [opv, nZ, Value.cells]
 refine s_go (s_neq_pointer Tryz.underlying39) ?_
 try simp only [opv, nZ, Value.cells]
 rw [show (!(some (⟨g, 0, none⟩ : Addr)).isNone) = true from rfl]
 refine s_go (s_move) ?_
 try simp only [opv, nZ, Value.cells]
 refine g_on (yi (t := 5) rfl rfl) ?_
 refine s_go (s_move) ?_
 try simp only [opv, nZ, Value.cells]
 refine g_on (yi (t := 5) rfl rfl) ?_
 refine s_go (s_nilCheck) ?_
 try simp only [opv, nZ, Value.cells]
 refine g_on (yi (t := 5) rfl rfl) ?_
 refine s_go (m_fieldAddr Tryz.underlying63 (hi := ti61)) ?_
 try simp only [opv, nZ, Value.cells, Nat.zero_add, Nat.add_zero, List.getElem_toArray, List.getElem_cons_zero, List.getElem_cons_succ]
 refine g_on (yi (t := 5) rfl rfl) ?_
 refine s_go (m_fieldAddr Tryz.underlying61 (hi := ti42)) ?_
 try simp only [opv, nZ, Value.cells, Nat.zero_add, Nat.add_zero, List.getElem_toArray, List.getElem_cons_zero, List.getElem_cons_succ]
 refine g_on (yi (t := 5) rfl rfl) ?_
 refine s_go (m_load_obj Tryz.underlying42 (hS := hS)) ?_
 try simp only [opv, nZ, Value.cells, List.getElem_toArray, List.getElem_cons_zero, List.getElem_cons_succ]
 refine g_on (yi (t := 5) rfl rfl) ?_
 refine s_go (s_eql) ?_
 try simp only [opv, nZ, Value.cells]
 refine s_go (s_pick_t) ?_
 try simp only [opv, nZ, Value.cells]
 refine s_go (s_assign) ?_
 try simp only [opv, nZ, Value.cells]
 refine x_nil ?_
 refine hK2 _ _ ?_
 refine x_ret ?_
 refine r_tmp rfl ?_
 exact ⟨rfl, hS⟩
theorem c_cErr (w0 : World) (g : Nat) (e : Int) (A : Option Addr) (c : Nat) (xs : List Int) (hc : xs.length ≤ c) (hM : St (OwnB [.obj g (.cells #[.int .i64 e, .slice A xs.length c] 63 (0, 0)), .rd A 1 xs.length (xs.map (Value.int .u8))]) w0 w0 [.obj g (.cells #[.int .i64 e, .slice A xs.length c] 63 (0, 0)), .rd A 1 xs.length (xs.map (Value.int .u8))]) :
    CallR Tryz.prog 14 #[.pointer (some ⟨g, 0, none⟩)] w0 fun v w' => v = .int .i64 e ∧ St (OwnB [.obj g (.cells #[.int .i64 e, .slice A xs.length c] 63 (0, 0)), .rd A 1 xs.length (xs.map (Value.int .u8))]) w0 w' [.obj g (.cells #[.int .i64 e, .slice A xs.length c] 63 (0, 0)), .rd A 1 xs.length (xs.map (Value.int .u8))] := by
 have hS := hM
 refine c_enter (l := [.pointer (some ⟨g, 0, none⟩), undef, undef, undef, undef, undef, undef, undef, undef, undef]) Tryz.func14 rfl (by simp only [Tryz.ntmps14, List.size_toArray, List.length_cons, List.length_nil, Nat.reduceAdd, Nat.reduceSub, Array.replicate_succ, Array.replicate_zero, List.push_toArray, List.append_toArray, List.nil_append, List.cons_append]) ?_
 refine x_seq fun K1 hK1 => ?_
 refine x_region ?_
 refine s_go (s_assign) ?_
 try simp only [opv, nZ, Value.cells]
 refine x_nil ?_
 refine hK1 _ _ ?_
 refine x_seq fun K2 hK2 => ?_
 refine x_seq fun K3 hK3 => ?_
 refine x_region ?_
 refine s_go (s_move) ?_
 try simp only [opv, nZ, Value.cells]
 refine s_go (s_eql_pointer Tryz.underlying39) ?_
 try simp only [opv, nZ, Value.cells]
 refine x_nil ?_
 refine hK3 _ _ ?_
 refine x_cond_f (h := ?_)
 refine x_skip ?_
 refine hK2 _ _ ?_
 refine x_seq fun K4 hK4 => ?_
 refine x_region ?_
 refine s_go (s_move) ?_
 try simp only [opv, nZ, Value.cells]
 refine s_go (s_nilCheck) ?_
 try simp only [opv, nZ, Value.cells]
 refine s_go (m_fieldAddr Tryz.underlying63 (hi := ti61)) ?_
 try simp only [opv, nZ, Value.cells, Nat.zero_add, Nat.add_zero, List.getElem_toArray, List.getElem_cons_zero, List.getElem_cons_succ]
 refine s_go (m_fieldAddr Tryz.underlying61 (hi := ti42)) ?_
 try simp only [opv, nZ, Value.cells, Nat.zero_add, Nat.add_zero, List.getElem_toArray, List.getElem_cons_zero, List.getElem_cons_succ]
 refine s_go (m_load_obj Tryz.underlying42 (hS := hS)) ?_
 try simp only [opv, nZ, Value.cells, List.getElem_toArray, List.getElem_cons_zero, List.getElem_cons_succ]
 refine s_go (s_assign) ?_
 try simp only [opv, nZ, Value.cells]
 refine x_nil ?_
 refine hK4 _ _ ?_
 refine x_ret ?_
 refine r_tmp rfl ?_
 exact ⟨rfl, hS⟩
theorem c_cLeft (w0 : World) (g : Nat) (e : Int) (A : Option Addr) (c : Nat) (xs : List Int) (hc : xs.length ≤ c) (hM : St (OwnB [.obj g (.cells #[.int .i64 e, .slice A xs.length c] 63 (0, 0)), .rd A 1 xs.length (xs.map (Value.int .u8))]) w0 w0 [.obj g (.cells #[.int .i64 e, .slice A xs.length c] 63 (0, 0)), .rd A 1 xs.length (xs.map (Value.int .u8))]) :
    CallR Tryz.prog 15 #[.pointer (some ⟨g, 0, none⟩)] w0 fun v w' => v = .int .i64 (xs.length : Int) ∧ St (OwnB [.obj g (.cells #[.int .i64 e, .slice A xs.length c] 63 (0, 0)), .rd A 1 xs.length (xs.map (Value.int .u8))]) w0 w' [.obj g (.cells #[.int .i64 e, .slice A xs.length c] 63 (0, 0)), .rd A 1 xs.length (xs.map (Value.int .u8))] := by
 have hS := hM
 refine c_enter (l := [.pointer (some ⟨g, 0, none⟩), undef, undef, undef, undef, undef, undef, undef, undef, undef]) Tryz.func15 rfl (by simp only [Tryz.ntmps15, List.size_toArray, List.length_cons, List.length_nil, Nat.reduceAdd, Nat.reduceSub, Array.replicate_succ, Array.replicate_zero, List.push_toArray, List.append_toArray, List.nil_append, List.cons_append]) ?_
 refine x_seq fun K1 hK1 => ?_
 refine x_region ?_
 refine s_go (s_assign) ?_
 try simp only [opv, nZ, Value.cells]
 refine x_nil ?_
 refine hK1 _ _ ?_
 refine x_seq fun K2 hK2 => ?_
 refine x_seq fun K3 hK3 => ?_
 refine x_region ?_
 refine s_go (s_move) ?_
 try simp only [opv, nZ, Value.cells]
 refine s_go (s_eql_pointer Tryz.underlying39) ?_
 try simp only [opv, nZ, Value.cells]
 refine x_nil ?_
 refine hK3 _ _ ?_
 refine x_cond_f (h := ?_)
 refine x_skip ?_
 refine hK2 _ _ ?_
 refine x_seq fun K4 hK4 => ?_
 refine x_region ?_
 refine s_go (s_move) ?_
 try simp only [opv, nZ, Value.cells]
 refine s_go (s_nilCheck) ?_
 try simp only [opv, nZ, Value.cells]
 refine s_go (m_fieldAddr Tryz.underlying63 (hi := ti33)) ?_
 try simp only [opv, nZ, Value.cells, Nat.zero_add, Nat.add_zero, List.getElem_toArray, List.getElem_cons_zero, List.getElem_cons_succ]
 refine s_go (m_load_obj Tryz.underlying33 (hS := hS)) ?_
 try simp only [opv, nZ, Value.cells, List.getElem_toArray, List.getElem_cons_zero, List.getElem_cons_succ]
 refine s_go (s_len_sl Tryz.underlying33) ?_
 try simp only [opv, nZ, Value.cells]
 refine s_go (s_assign) ?_
 try simp only [opv, nZ, Value.cells]
 refine x_nil ?_
 refine hK4 _ _ ?_
 refine x_ret ?_
 refine r_tmp rfl ?_
 exact ⟨rfl, hS⟩

theorem take1_len {xs : List Int} : (takeV xs 1).length = if 1 ≤ xs.length then 1 else 0 := by
  unfold takeV; split
  · simp; omega
  · rfl
def oneV (xs : List Int) : Int := if 1 ≤ xs.length then xs.getD 0 0 else 0
theorem take1_get {xs : List Int} (h : (takeV xs 1).length = 1) : (takeV xs 1).getD 0 0 = oneV xs := by
  rw [take1_len] at h
  have h1 : 1 ≤ xs.length := by split at h <;> omega
  rw [takeV, oneV, if_pos h1, if_pos h1]
  match xs, h1 with
  | x :: _, _ => rfl
theorem take1_no {xs : List Int} (h : ¬ (takeV xs 1).length = 1) : oneV xs = 0 := by
  rw [take1_len] at h
  rw [oneV, if_neg (by split at h <;> omega)]

theorem c_cone (w0 : World) (g : Nat) (e : Int) (A : Option Addr) (c : Nat) (xs : List Int) (hc : xs.length ≤ c) (hM : St (OwnB [.obj g (.cells #[.int .i64 e, .slice A xs.length c] 63 (0, 0)), .rd A 1 xs.length (xs.map (Value.int .u8))]) w0 w0 [.obj g (.cells #[.int .i64 e, .slice A xs.length c] 63 (0, 0)), .rd A 1 xs.length (xs.map (Value.int .u8))]) :
    CallR Tryz.prog 82 #[.pointer (some ⟨g, 0, none⟩)] w0 fun v w' => v = .int .u8 (oneV xs) ∧ CuSt w0 w' [.obj g (.cells #[.int .i64 e, .slice A xs.length c] 63 (0, 0)), .rd A 1 xs.length (xs.map (Value.int .u8))] g (takeE e xs 1) (takeX e xs 1) [] := by
 have hS := hM
 refine c_enter (l := [.pointer (some ⟨g, 0, none⟩), undef, undef, undef, undef, undef, undef, undef, undef, undef, undef, undef]) Tryz.func82 rfl (by simp only [Tryz.ntmps82, List.size_toArray, List.length_cons, List.length_nil, Nat.reduceAdd, Nat.reduceSub, Array.replicate_succ, Array.replicate_zero, List.push_toArray, List.append_toArray, List.nil_append, List.cons_append]) ?_
 refine x_seq fun K1 hK1 => ?_
 refine x_region ?_
 refine s_go (s_assign) ?_
 try simp only [opv, nZ, Value.cells]
 refine x_nil ?_
 refine hK1 _ _ ?_
 refine x_seq fun K2 hK2 => ?_
 refine x_seq fun K3 hK3 => ?_
 refine x_region ?_
 refine s_go (s_move) ?_
 try simp only [opv, nZ, Value.cells]
 refine s_call en87 ?_
 try simp only [opv, nZ, Value.cells, List.map_toArray, List.map_cons, List.map_nil, List.append_toArray, List.cons_append, List.nil_append, Array.append_empty]
 refine CallR.mono (c_ctake _ g e A c xs hc 1 (by omega) (hS.owns (by repeat (first | exact Spl.nil | (apply Spl.cons (by repeat (exact Del.head))))))) ?_
 rintro _ w1 ⟨A1, c1, B1, rfl, hcp1, hR1, hQ1, hC1⟩
 replace hS := hS.frame (by repeat (first | exact Spl.nil | (apply Spl.cons (by repeat (exact Del.head))))) hC1 (by intro r hr b hb; simp only [List.mem_cons, List.not_mem_nil, or_false] at hr; rcases hr with rfl | rfl | rfl <;> first | (simp [Res.reads] at hb; done) | exact hR1 b hb | exact hQ1 b hb)
 simp only [List.cons_append, List.nil_append] at hS
 try simp only [opv, nZ, Value.cells]
 refine s_go (s_assign) ?_
 try simp only [opv, nZ, Value.cells]
 refine x_nil ?_
 refine hK3 _ _ ?_
 refine x_seq fun K4 hK4 => ?_
 refine x_region ?_
 refine s_go (s_move) ?_
 try simp only [opv, nZ, Value.cells]
 refine s_go (s_len_sl Tryz.underlying33) ?_
 try simp only [opv, nZ, Value.cells]
 refine s_go (s_eql) ?_
 try simp only [opv, nZ, Value.cells]
 refine x_nil ?_
 refine hK4 _ _ ?_
 refine x_cond (ht := fun hc1 => ?_) (hf := fun hc1 => ?_)
 ·
  try simp only [decide_eq_true_eq, decide_eq_false_iff_not, Bool.not_eq_true', Bool.not_eq_false', Int.not_lt, Int.not_le, ne_eq, Decidable.not_not, bne_iff_ne, beq_iff_eq, not_true_eq_false, not_false_eq_true] at hc1
  have h1 : (takeV xs 1).length = 1 := by omega
  refine x_seq fun K5 hK5 => ?_
  refine x_region ?_
  refine s_go (s_move) ?_
  try simp only [opv, nZ, Value.cells]
  refine s_go (m_indexAddr_rd Tryz.underlying33 ti5 (hS := hS)) ?_
  try simp only [opv, nZ, Value.cells, Nat.mul_one, Nat.zero_add, Int.toNat_natCast, Int.reduceToNat]
  refine s_go (m_load_rd Tryz.underlying5 (hS := hS)) ?_
  try simp only [opv, nZ, Value.cells, List.getElem_toArray, List.getElem_cons_zero, List.getElem_cons_succ]
  refine s_go (s_assign) ?_
  try simp only [opv, nZ, Value.cells]
  refine x_nil ?_
  refine hK5 _ _ ?_
  refine x_ret ?_
  refine r_tmp rfl ?_
  exact ⟨by rw [← take1_get h1]; rfl, _, _, by assumption, by assumption, hS.sel (by repeat (first | exact Sel.nil | (refine Sel.cons (by repeat (exact Del.head)) ?_)))⟩
 ·
  try simp only [decide_eq_true_eq, decide_eq_false_iff_not, Bool.not_eq_true', Bool.not_eq_false', Int.not_lt, Int.not_le, ne_eq, Decidable.not_not, bne_iff_ne, beq_iff_eq, not_true_eq_false, not_false_eq_true] at hc1
  have h1 : ¬ (takeV xs 1).length = 1 := by omega
  refine x_skip ?_
  refine hK2 _ _ ?_
  refine x_seq fun K6 hK6 => ?_
  refine x_region ?_
  refine s_go (s_assign) ?_
  try simp only [opv, nZ, Value.cells]
  refine x_nil ?_
  refine hK6 _ _ ?_
  refine x_ret ?_
  refine r_tmp rfl ?_
  exact ⟨by rw [take1_no h1]; rfl, _, _, by assumption, by assumption, hS.sel (by repeat (first | exact Sel.nil | (refine Sel.cons (by repeat (exact Del.head)) ?_)))⟩
theorem c_cFrom (w0 : World) (B : Option Addr) (d : Nat) (ys : List Int) (hr : Rd w0 B 1 ys.length (ys.map (Value.int .u8))) (hy : ys.length ≤ 1000000000) :
    CallR Tryz.prog 11 #[.slice B ys.length d] w0 fun v w' => ∃ g A c, v = .pointer (some ⟨g, 0, none⟩) ∧ ys.length ≤ c ∧ St NoB w0 w' [.obj g (.cells #[.int .i64 0, .slice A ys.length c] 63 (0, 0)), .vec A c 5 1 ys.length (ys.map (Value.int .u8))] := by
 have hS := St.rd1 (S := NoB) hr
 refine c_enter (l := [.slice B ys.length d, undef, undef, undef, undef, undef, undef, undef]) Tryz.func11 rfl (by simp only [Tryz.ntmps11, List.size_toArray, List.length_cons, List.length_nil, Nat.reduceAdd, Nat.reduceSub, Array.replicate_succ, Array.replicate_zero, List.push_toArray, List.append_toArray, List.nil_append, List.cons_append]) ?_
 refine x_seq fun K1 hK1 => ?_
 refine x_region ?_
 refine s_go (s_assign) ?_
 try simp only [opv, nZ, Value.cells]
 refine x_nil ?_
 refine hK1 _ _ ?_
 refine x_seq fun K2 hK2 => ?_
 refine x_region ?_
 refine m_buildRow (cells := #[]) Tryz.underlying33 ti5 (hc := by simp only [List.map_toArray, List.map_cons, List.map_nil, opv, nZ, Value.cells, List.toList_toArray]; (repeat (refine fill_cons rfl rfl (Nat.le_of_ble_eq_true rfl) ?_)); rfl) (hS := hS) (h := fun w1 g1 hS => ?_)
 try simp only [opv, nZ, Value.cells, Array.toArray_toList] at hS ⊢
 replace hS := hS.obj_vec (sz := 1) (n := 0) rfl (by decide) .head
 refine s_go (s_move) ?_
 try simp only [opv, nZ, Value.cells]
 refine m_append Tryz.underlying33 ti5 (hS := hS) (h := fun w2 A2 C2 hS => ?_)
 try simp only [← List.map_append, ← List.map_drop, ← List.map_take, Nat.mul_one, Nat.zero_mul, Nat.sub_zero, List.drop_zero, List.nil_append, Nat.zero_add] at hS ⊢
 try simp only [opv, nZ, Value.cells, Array.toArray_toList] at hS ⊢
 have hcq := hS.vec_cap (by exact Has.head)
 refine s_go (s_build_struct (cells := #[.int .i64 0, _]) Tryz.underlying63 ti63 bp63 (hc := by simp only [List.map_toArray, List.map_cons, List.map_nil, opv, nZ, Value.cells, List.toList_toArray]; (repeat (refine fill_cons rfl rfl (Nat.le_of_ble_eq_true rfl) ?_)); rfl)) ?_
 try simp only [opv, nZ, Value.cells]
 refine m_box hS (fun w3 g3 hS => ?_)
 try simp only [opv, nZ, Value.cells, Array.toArray_toList] at hS ⊢
 refine s_go (s_assign) ?_
 try simp only [opv, nZ, Value.cells]
 refine x_nil ?_
 refine hK2 _ _ ?_
 refine x_ret ?_
 refine r_tmp rfl ?_
 exact ⟨_, _, _, rfl, hcq, hS.sel (by repeat (first | exact Sel.nil | (refine Sel.cons (by repeat (exact Del.head)) ?_)))⟩
end Go.Proofs.YtpjpaipkkcengaaGreat
namespace Go.Proofs.YtpjpaipkkcengaaGreat
def numS (m : Nat) (e : Int) (xs : List Int) : Nat × Int × List Int :=
  if e = 0 then (if (unvar xs).2.2 = 0 then (if (unvar xs).1 ≤ m then ((unvar xs).1, 0, xs.drop (unvar xs).2.1) else (0, 2, [])) else (0, ((unvar xs).2.2 : Int), [])) else (0, e, xs)
def oneS (e : Int) (xs : List Int) : Int × Int × List Int :=
  if e = 0 then (if 1 ≤ xs.length then (xs.getD 0 0, 0, xs.drop 1) else (0, 4, [])) else (0, e, xs)
def namS (e : Int) (xs : List Int) : List Int × Int × List Int :=
  if e = 0 then
    if 1 ≤ xs.length then
      if xs.getD 0 0 ≤ 8 then
        if 1 + (xs.getD 0 0).toNat ≤ xs.length then
          if xs.getD 0 0 = 0 ∨ isN ((xs.drop 1).take (xs.getD 0 0).toNat) = true then (padN ((xs.drop 1).take (xs.getD 0 0).toNat), 0, xs.drop (1 + (xs.getD 0 0).toNat)) else (nm0, 3, [])
        else (nm0, 4, [])
      else (nm0, 3, [])
    else (nm0, 4, [])
  else (nm0, e, xs)
def bytS (m : Nat) (e : Int) (xs : List Int) : List Int × Int × List Int :=
  if (numS m e xs).2.1 = 0 then (if (numS m e xs).1 ≤ (numS m e xs).2.2.length then ((numS m e xs).2.2.take (numS m e xs).1, 0, (numS m e xs).2.2.drop (numS m e xs).1) else ([], 4, [])) else ([], (numS m e xs).2.1, (numS m e xs).2.2)
theorem namS_len (e : Int) (xs : List Int) : (namS e xs).1.length = 8 := by
  unfold namS
  repeat' split
  all_goals first | exact padN_len _ | rfl
theorem namS_byt {e : Int} {xs : List Int} (h : Byt xs) : Byt (namS e xs).1 := by
  unfold namS
  repeat' split
  all_goals first | exact padN_byt ((h.drop _).take _) | exact nm0_byt
theorem numS_le (m : Nat) (e : Int) (xs : List Int) : (numS m e xs).1 ≤ m := by
  unfold numS
  repeat' split
  all_goals first | assumption | omega
theorem numS_byt {m : Nat} {e : Int} {xs : List Int} (h : Byt xs) : Byt (numS m e xs).2.2 := by
  unfold numS
  repeat' split
  all_goals first | exact h | exact h.drop _ | (intro y hy; simp at hy)
theorem oneS_byt {e : Int} {xs : List Int} (h : Byt xs) : Byt (oneS e xs).2.2 := by
  unfold oneS
  repeat' split
  all_goals first | exact h | exact h.drop _ | (intro y hy; simp at hy)
theorem namS_byt' {e : Int} {xs : List Int} (h : Byt xs) : Byt (namS e xs).2.2 := by
  unfold namS
  repeat' split
  all_goals first | exact h | exact h.drop _ | (intro y hy; simp at hy)
theorem oneS_val {e : Int} {xs : List Int} (h : Byt xs) : 0 ≤ (oneS e xs).1 ∧ (oneS e xs).1 ≤ 255 := by
  unfold oneS
  repeat' split
  all_goals first | exact h.get 0 | (constructor <;> simp)
theorem numS_len (m : Nat) (e : Int) (xs : List Int) : (numS m e xs).2.2.length ≤ xs.length := by
  unfold numS
  repeat' split
  all_goals simp
theorem oneS_len (e : Int) (xs : List Int) : (oneS e xs).2.2.length ≤ xs.length := by
  unfold oneS
  repeat' split
  all_goals simp
theorem namS_len' (e : Int) (xs : List Int) : (namS e xs).2.2.length ≤ xs.length := by
  unfold namS
  repeat' split
  all_goals simp
def rdS (d : Int) (x : Nat) (n : Int) (e : Int) (xs : List Int) : (Nat × Int × List Int × List Int) × Int × List Int :=
  if d = 0 then (((numS x e xs).1, 0, nm0, []), (numS x e xs).2) else
  if d = 1 then ((0, (oneS e xs).1, nm0, []), (oneS e xs).2) else
  if d = 2 then ((0, 0, (namS e xs).1, []), (namS e xs).2) else
  ((0, 0, nm0, (bytS n.toNat e xs).1), (bytS n.toNat e xs).2)
end Go.Proofs.YtpjpaipkkcengaaGreat
namespace Go.Proofs.YtpjpaipkkcengaaGreat
section
variable {e : Int} {xs : List Int} {m : Nat}
theorem numS_err (h : ¬ e = 0) : numS m e xs = (0, e, xs) := by simp [numS, h]
theorem oneS_err (h : ¬ e = 0) : oneS e xs = (0, e, xs) := by simp [oneS, h]
theorem namS_err (h : ¬ e = 0) : namS e xs = (nm0, e, xs) := by simp [namS, h]
theorem bytS_err (h : ¬ e = 0) : bytS m e xs = ([], e, xs) := by simp [bytS, numS_err h, h]
end
/-- no bytes come behind an error -/
def ErrOk (e : Int) (xs : List Int) : Prop := ¬ e = 0 → xs = []
theorem numS_ok {m : Nat} {e : Int} {xs : List Int} (h : ErrOk e xs) : ErrOk (numS m e xs).2.1 (numS m e xs).2.2 := by
  unfold numS
  repeat' split
  all_goals first | exact h | (intro h2; first | rfl | exact absurd rfl h2)
theorem oneS_ok {e : Int} {xs : List Int} (h : ErrOk e xs) : ErrOk (oneS e xs).2.1 (oneS e xs).2.2 := by
  unfold oneS
  repeat' split
  all_goals first | exact h | (intro h2; first | rfl | exact absurd rfl h2)
def keyS (e : Int) (xs : List Int) : List Int × Int × List Int :=
  if (oneS e xs).2.1 = 0 then
    if 1 ≤ (oneS e xs).1 ∧ (oneS e xs).1 ≤ 4 then
      if (numS 65535 (oneS e xs).2.1 (oneS e xs).2.2).2.1 = 0 then
        if (oneS e xs).1 = 4 then (mkKey 4 (numS 65535 (oneS e xs).2.1 (oneS e xs).2.2).1 nm0 0 0, (numS 65535 (oneS e xs).2.1 (oneS e xs).2.2).2) else
        keyT (oneS e xs).1 (numS 65535 (oneS e xs).2.1 (oneS e xs).2.2).1 (numS 65535 (oneS e xs).2.1 (oneS e xs).2.2).2.1 (numS 65535 (oneS e xs).2.1 (oneS e xs).2.2).2.2
      else (key0, (numS 65535 (oneS e xs).2.1 (oneS e xs).2.2).2)
    else (key0, 3, [])
  else (key0, (oneS e xs).2)
where
  /-- a name, a replica, a number -/
  keyT (s : Int) (c : Nat) (e : Int) (xs : List Int) : List Int × Int × List Int :=
    if (namS e xs).2.1 = 0 then
      if (namS e xs).1 = nm0 then (key0, 3, []) else
      if (oneS (namS e xs).2.1 (namS e xs).2.2).2.1 = 0 then
        if 16 ≤ (oneS (namS e xs).2.1 (namS e xs).2.2).1 then (key0, 2, []) else
        if s = 1 then keyQ c (namS e xs).1 (oneS (namS e xs).2.1 (namS e xs).2.2).1 (oneS (namS e xs).2.1 (namS e xs).2.2).2.1 (oneS (namS e xs).2.1 (namS e xs).2.2).2.2 else
        (mkKey s.toNat c (namS e xs).1 (oneS (namS e xs).2.1 (namS e xs).2.2).1.toNat 0, (oneS (namS e xs).2.1 (namS e xs).2.2).2)
      else (key0, (oneS (namS e xs).2.1 (namS e xs).2.2).2)
    else (key0, (namS e xs).2)
  keyQ (c : Nat) (nm : List Int) (r : Int) (e : Int) (xs : List Int) : List Int × Int × List Int :=
    if (numS 4294967295 e xs).2.1 = 0 then
      if (numS 4294967295 e xs).1 = 0 then (key0, 3, []) else (mkKey 1 c nm r.toNat (numS 4294967295 e xs).1, (numS 4294967295 e xs).2)
    else (key0, (numS 4294967295 e xs).2)
theorem key0_ok : KeyOk key0 := mkKey_ok rfl nm0_byt (by decide) (by decide) (by decide) (by decide)
theorem keyS_key {e : Int} {xs : List Int} (hb : Byt xs) : KeyOk (keyS e xs).1 := by
  have hb1 := oneS_byt (e := e) hb
  have hv := oneS_val (e := e) hb
  have hn := numS_le 65535 (oneS e xs).2.1 (oneS e xs).2.2
  have hb2 := numS_byt (m := 65535) (e := (oneS e xs).2.1) hb1
  unfold keyS
  split
  · split
    · split
      · split
        · exact mkKey_ok rfl nm0_byt (by decide) (by omega) (by decide) (by decide)
        · generalize numS 65535 (oneS e xs).2.1 (oneS e xs).2.2 = b at hn hb2
          obtain ⟨c, e2, ys⟩ := b
          have hb3 := namS_byt' (e := e2) hb2
          have hv3 := oneS_val (e := (namS e2 ys).2.1) hb3
          have hb4 := oneS_byt (e := (namS e2 ys).2.1) hb3
          unfold keyS.keyT
          split
          · split
            · exact key0_ok
            · split
              · split
                · exact key0_ok
                · split
                  · unfold keyS.keyQ
                    split
                    · split
                      · exact key0_ok
                      · exact mkKey_ok (namS_len _ _) (namS_byt hb2) (by decide) (by dsimp only at hn ⊢; omega) (by dsimp only at hv3 ⊢; omega) (Nat.lt_of_le_of_lt (numS_le _ _ _) (by decide))
                    · exact key0_ok
                  · exact mkKey_ok (namS_len _ _) (namS_byt hb2) (by omega) (by dsimp only at hn ⊢; omega) (by dsimp only at hv3 ⊢; omega) (by decide)
              · exact key0_ok
          · exact key0_ok
      · exact key0_ok
    · exact key0_ok
  · exact key0_ok
end Go.Proofs.YtpjpaipkkcengaaGreat
set_option linter.unusedSimpArgs false
set_option linter.unusedVariables false
set_option maxHeartbeats 800000
set_option maxRecDepth 100000
namespace Go.Proofs.YtpjpaipkkcengaaGreat
open Go.RowKit

theorem RdIn.trans {w0 w1 : World} {M M1 L R : List Res} {A : Option Addr} {n : Nat} (_hM : St (OwnB M) w0 w0 M) (hS : St (OwnB M) w0 w1 L) (hs : Spl M1 L R) (h : RdIn w1 M1 A n) (hm : ∀ s ∈ M1, ∀ b, s.reads = some b → w0.heap.size ≤ b ∨ ∃ s ∈ M, s.own = some b ∨ s.reads = some b) : RdIn w0 M A n := fun b hb => by
  have hz := hS.keep.size
  rcases h b hb with h1 | ⟨s, h1, h2 | h2⟩
  · exact .inl (by omega)
  · rcases hS.own s (hs.mem h1) b h2 with ⟨r, hr, ho⟩ | h3
    · exact .inr ⟨r, hr, .inl ho⟩
    · exact .inl h3
  · exact hm s h1 b h2
theorem RdIn.self {w0 : World} {M : List Res} {A : Option Addr} {n : Nat} {xs : List Value} (hm : Res.rd A 1 n xs ∈ M) : RdIn w0 M A n := fun b hb => .inr ⟨_, hm, .inr hb⟩
theorem errE0 (x : Int) : errE 0 x = x := rfl
theorem errX0 {x : Int} {xs : List Int} (h : ¬ x = 0) : errX 0 x xs = [] := by simp [errX, errE, h]
theorem numS_bad {m : Nat} {e : Int} {xs : List Int} (h : ¬ (numS m e xs).2.1 = 0) : (numS m e xs).1 = 0 := by
  unfold numS at h ⊢
  repeat' split
  all_goals first | rfl | (exfalso; simp_all)
theorem namS_bad {e : Int} {xs : List Int} (h : ¬ (namS e xs).2.1 = 0) : (namS e xs).1 = nm0 := by
  unfold namS at h ⊢
  repeat' split
  all_goals first | rfl | (exfalso; simp_all)
theorem oneS_bad {e : Int} {xs : List Int} (h : ¬ (oneS e xs).2.1 = 0) : (oneS e xs).1 = 0 := by
  unfold oneS at h ⊢
  repeat' split
  all_goals first | rfl | (exfalso; simp_all)
theorem oneS_take (xs : List Int) : oneS 0 xs = (oneV xs, takeE 0 xs 1, takeX 0 xs 1) := by
  unfold oneS oneV takeE takeX
  simp only [if_true]
  split
  · rfl
  · rw [errE0, errX0 (by decide)]
/-- a text as a name -/
def ofN (ns : List Int) : List Int × Int := if isN ns then (padN ns, 0) else (nm0, 3)
theorem padN_le {ns : List Int} (h : ns.length ≤ 8) : padN ns = ns ++ nm0.drop ns.length := by
  rw [padN, List.take_of_length_le h, nm0, List.drop_replicate]
theorem nsz_pad : ∀ {ns : List Int} {k : Nat}, (∀ x ∈ ns, ¬ x = 0) → nsz (ns ++ List.replicate k 0) = ns.length
  | [], 0, _ => rfl
  | [], k + 1, _ => by simp [List.replicate_succ, nsz]
  | x :: ns, k, h => by
    have h1 := h x (by simp)
    have := nsz_pad (ns := ns) (k := k) (fun y hy => h y (by simp [hy]))
    simp [nsz, h1, this]
theorem nmTxt_pad {ns : List Int} (h : isN ns = true) : nmTxt (padN ns) = ns := by
  simp only [isN, Bool.and_eq_true, decide_eq_true_eq, List.all_eq_true] at h
  obtain ⟨⟨⟨h1, h2⟩, h3⟩, h4⟩ := h
  have hz : ∀ x ∈ ns, ¬ x = 0 := fun x hx e => by have := h4 x hx; subst e; revert this; decide
  rw [nmTxt, padN, List.take_of_length_le h2, nsz_pad hz]
  exact List.take_left
theorem ofN_bad {ns : List Int} (h : 8 < ns.length ∨ ns.length = 0 ∨ ¬ nmTxt (padN ns) = ns ∨ nright (padN ns) = false) : isN ns = false := by
  rw [Bool.eq_false_iff]
  intro hI
  have hI' := hI
  simp only [isN, Bool.and_eq_true, decide_eq_true_eq] at hI'
  have ht := nmTxt_pad hI
  rcases h with h | h | h | h
  · omega
  · omega
  · exact h ht
  · rw [nright_eq (padN_len ns), ht, hI] at h
    simp at h
theorem ofN_good {ns : List Int} (h1 : nmTxt (padN ns) = ns) (h2 : nright (padN ns) = true) : isN ns = true := by
  rw [nright_eq (padN_len ns), h1] at h2
  simpa using h2
theorem max_u64 {m : Int} (h : m ≤ 9223372036854775807) : IntKind.u64.wrap (max m 0) = ((m.toNat : Nat) : Int) := by
  rw [Int.ofNat_toNat]; exact wr_u64 (by omega) (by omega)

theorem c_nameOf (ns : List Int) (hw : Byt ns) (hn : ns.length ≤ 1000)  (w0 : World) :
    CallR Tryz.prog 106 #[.string (strOf ns)] w0 fun v w' => v = .tuple #[.agg (ic .u8 (ofN ns).1), .int .i64 (ofN ns).2] ∧ Ext w0 w' := by
 have hS : St NoB w0 w0 [] := St.start w0
 refine c_enter (l := [.string (strOf ns), undef, undef, undef, undef, undef, undef, undef, undef, undef, undef, undef, undef, undef, undef, undef, undef, undef, undef, undef, undef, undef, undef, undef, undef, undef]) Tryz.func106 rfl (by simp only [Tryz.ntmps106, List.size_toArray, List.length_cons, List.length_nil, Nat.reduceAdd, Nat.reduceSub, Array.replicate_succ, Array.replicate_zero, List.push_toArray, List.append_toArray, List.nil_append, List.cons_append]) ?_
 refine x_seq fun K1 hK1 => ?_
 refine x_region ?_
 refine m_alloc ti24 hS (fun w1 g1 hS => ?_)
 try simp only [opv, nZ, Value.cells, Array.toArray_toList] at hS ⊢
 replace hS : St NoB w0 w1 [.obj g1 (.cells (ic .u8 nm0) 24 (0, 0))] := hS
 refine s_go (s_assign) ?_
 try simp only [opv, nZ, Value.cells]
 refine x_nil ?_
 refine hK1 _ _ ?_
 refine x_seq fun K2 hK2 => ?_
 refine x_seq fun K3 hK3 => ?_
 refine x_region ?_
 have h0l : nm0.length = 8 := rfl
 have hpl := padN_len ns
 have hpb := padN_byt hw
 refine s_go (s_move) ?_
 try simp only [opv, nZ, Value.cells]
 refine s_go (s_len_str Tryz.underlying9) ?_
 try simp only [opv, nZ, Value.cells]
 rw [strOf_size]
 refine s_go (s_gtr) ?_
 try simp only [opv, nZ, Value.cells]
 refine s_go (s_move) ?_
 try simp only [opv, nZ, Value.cells]
 refine s_part 7 rfl (fun hp1 => ?_) (fun hp1 => ?_)
 ·
  try simp only [n3, n4]
  try simp only [decide_eq_true_eq, decide_eq_false_iff_not, Bool.not_eq_true', Bool.not_eq_false', Int.not_lt, Int.not_le, ne_eq, Decidable.not_not] at hp1
  refine g_off (yi (t := 7) rfl rfl) ?_
  try simp only [opv, nZ, Value.cells]
  refine g_off (yi (t := 7) rfl rfl) ?_
  try simp only [opv, nZ, Value.cells]
  refine g_off (yi (t := 7) rfl rfl) ?_
  try simp only [opv, nZ, Value.cells]
  refine g_off (yi (t := 7) rfl rfl) ?_
  try simp only [opv, nZ, Value.cells]
  refine s_go (s_pick_t) ?_
  try simp only [opv, nZ, Value.cells]
  refine s_go (s_move) ?_
  try simp only [opv, nZ, Value.cells]
  refine g_off (yi (t := 13) rfl rfl) ?_
  try simp only [opv, nZ, Value.cells]
  refine g_off (yi (t := 13) rfl rfl) ?_
  try simp only [opv, nZ, Value.cells]
  refine g_off (yi (t := 13) rfl rfl) ?_
  try simp only [opv, nZ, Value.cells]
  refine g_off (yi (t := 13) rfl rfl) ?_
  try simp only [opv, nZ, Value.cells]
  refine s_go (s_pick_t) ?_
  try simp only [opv, nZ, Value.cells]
  refine s_go (s_move) ?_
  try simp only [opv, nZ, Value.cells]
  refine g_off (yi (t := 19) rfl rfl) ?_
  try simp only [opv, nZ, Value.cells]
  refine g_off (yi (t := 19) rfl rfl) ?_
  try simp only [opv, nZ, Value.cells]
  refine g_off (yi (t := 19) rfl rfl) ?_
  try simp only [opv, nZ, Value.cells]
  refine s_go (s_pick_t) ?_
  try simp only [opv, nZ, Value.cells]
  refine x_nil ?_
  refine hK3 _ _ ?_
  refine x_cond_t (h := ?_)
  have hI : isN ns = false := ofN_bad (by exact .inl (by omega))
  refine x_seq fun K4 hK4 => ?_
  refine x_region ?_
  refine s_go (s_build_arr (cells := #[.int .u8 0, .int .u8 0, .int .u8 0, .int .u8 0, .int .u8 0, .int .u8 0, .int .u8 0, .int .u8 0]) Tryz.underlying24 ti24 ti5 (hc := by simp only [List.map_toArray, List.map_cons, List.map_nil, opv, nZ, Value.cells, List.toList_toArray]; (repeat (refine fill_cons rfl rfl (Nat.le_of_ble_eq_true rfl) ?_)); rfl)) ?_
  try simp only [opv, nZ, Value.cells]
  refine m_store_obj ti24 (hS := hS) (h := fun w2 hS => ?_)
  try simp only [opv, nZ, Value.cells, Array.toArray_toList] at hS ⊢
  refine s_go (s_assign) ?_
  try simp only [opv, nZ, Value.cells]
  refine x_nil ?_
  refine hK4 _ _ ?_
  refine x_ret ?_
  refine r_cell_tmp_agg rfl Tryz.underlying24 ti24 (hS := hS) (hR := ?_)
  exact ⟨by simp only [ofN, hI]; rfl, hS.ext_of⟩
 ·
  try simp only [n3, n4]
  try simp only [decide_eq_true_eq, decide_eq_false_iff_not, Bool.not_eq_true', Bool.not_eq_false', Int.not_lt, Int.not_le, ne_eq, Decidable.not_not] at hp1
  refine g_on (yi (t := 7) rfl rfl) ?_
  refine s_go (s_slice_whole Tryz.underlying24 ti5) ?_
  try simp only [opv, nZ, Value.cells]
  refine g_on (yi (t := 7) rfl rfl) ?_
  refine s_go (s_move) ?_
  try simp only [opv, nZ, Value.cells]
  refine g_on (yi (t := 7) rfl rfl) ?_
  refine m_copy_str Tryz.underlying33 ti5 (ns := ns) (cs := nm0) (hw := hw) (hl := by omega) (hc := rfl) (hS := hS) (h := fun w3 hS => ?_)
  try simp only [opv, nZ, Value.cells, Array.toArray_toList] at hS ⊢
  rw [← padN_le (by omega)] at hS
  refine g_on (yi (t := 7) rfl rfl) ?_
  refine s_go (s_eql) ?_
  try simp only [opv, nZ, Value.cells]
  refine s_go (s_pick_f) ?_
  try simp only [opv, nZ, Value.cells]
  refine s_go (s_move) ?_
  try simp only [opv, nZ, Value.cells]
  refine s_part 13 rfl (fun hp2 => ?_) (fun hp2 => ?_)
  ·
   try simp only [n3, n4]
   try simp only [decide_eq_true_eq, decide_eq_false_iff_not, Bool.not_eq_true', Bool.not_eq_false', Int.not_lt, Int.not_le, ne_eq, Decidable.not_not] at hp2
   refine g_off (yi (t := 13) rfl rfl) ?_
   try simp only [opv, nZ, Value.cells]
   refine g_off (yi (t := 13) rfl rfl) ?_
   try simp only [opv, nZ, Value.cells]
   refine g_off (yi (t := 13) rfl rfl) ?_
   try simp only [opv, nZ, Value.cells]
   refine g_off (yi (t := 13) rfl rfl) ?_
   try simp only [opv, nZ, Value.cells]
   refine s_go (s_pick_t) ?_
   try simp only [opv, nZ, Value.cells]
   refine s_go (s_move) ?_
   try simp only [opv, nZ, Value.cells]
   refine g_off (yi (t := 19) rfl rfl) ?_
   try simp only [opv, nZ, Value.cells]
   refine g_off (yi (t := 19) rfl rfl) ?_
   try simp only [opv, nZ, Value.cells]
   refine g_off (yi (t := 19) rfl rfl) ?_
   try simp only [opv, nZ, Value.cells]
   refine s_go (s_pick_t) ?_
   try simp only [opv, nZ, Value.cells]
   refine x_nil ?_
   refine hK3 _ _ ?_
   refine x_cond_t (h := ?_)
   have hI : isN ns = false := ofN_bad (by exact .inr (.inl (by omega)))
   refine x_seq fun K5 hK5 => ?_
   refine x_region ?_
   refine s_go (s_build_arr (cells := #[.int .u8 0, .int .u8 0, .int .u8 0, .int .u8 0, .int .u8 0, .int .u8 0, .int .u8 0, .int .u8 0]) Tryz.underlying24 ti24 ti5 (hc := by simp only [List.map_toArray, List.map_cons, List.map_nil, opv, nZ, Value.cells, List.toList_toArray]; (repeat (refine fill_cons rfl rfl (Nat.le_of_ble_eq_true rfl) ?_)); rfl)) ?_
   try simp only [opv, nZ, Value.cells]
   refine m_store_obj ti24 (hS := hS) (h := fun w4 hS => ?_)
   try simp only [opv, nZ, Value.cells, Array.toArray_toList] at hS ⊢
   refine s_go (s_assign) ?_
   try simp only [opv, nZ, Value.cells]
   refine x_nil ?_
   refine hK5 _ _ ?_
   refine x_ret ?_
   refine r_cell_tmp_agg rfl Tryz.underlying24 ti24 (hS := hS) (hR := ?_)
   exact ⟨by simp only [ofN, hI]; rfl, hS.ext_of⟩
  ·
   try simp only [n3, n4]
   try simp only [decide_eq_true_eq, decide_eq_false_iff_not, Bool.not_eq_true', Bool.not_eq_false', Int.not_lt, Int.not_le, ne_eq, Decidable.not_not] at hp2
   refine g_on (yi (t := 13) rfl rfl) ?_
   refine s_go (m_load_row Tryz.underlying24 (hi := ti24) (hS := hS)) ?_
   try simp only [opv, nZ, Value.cells, List.getElem_toArray, List.getElem_cons_zero, List.getElem_cons_succ]
   refine g_on (yi (t := 13) rfl rfl) ?_
   refine s_call en72 ?_
   try simp only [opv, nZ, Value.cells, List.map_toArray, List.map_cons, List.map_nil, List.append_toArray, List.cons_append, List.nil_append, Array.append_empty]
   refine CallR.mono (c_nameText _ (by assumption) (by assumption) _) ?_
   rintro _ w5 ⟨rfl, hE5⟩
   replace hS := hS.ext hE5
   try simp only [opv, nZ, Value.cells]
   refine g_on (yi (t := 13) rfl rfl) ?_
   refine s_go (s_move) ?_
   try simp only [opv, nZ, Value.cells]
   refine g_on (yi (t := 13) rfl rfl) ?_
   refine s_go (s_neq_string Tryz.underlying9) ?_
   try simp only [opv, nZ, Value.cells]
   rw [strOf_beq (nmTxt_byt hpb) hw]
   refine s_go (s_pick_f) ?_
   try simp only [opv, nZ, Value.cells]
   refine s_go (s_move) ?_
   try simp only [opv, nZ, Value.cells]
   refine s_part 19 rfl (fun hp3 => ?_) (fun hp3 => ?_)
   ·
    try simp only [n3, n4]
    try simp only [decide_eq_true_eq, decide_eq_false_iff_not, Bool.not_eq_true', Bool.not_eq_false', Int.not_lt, Int.not_le, ne_eq, Decidable.not_not] at hp3
    refine g_off (yi (t := 19) rfl rfl) ?_
    try simp only [opv, nZ, Value.cells]
    refine g_off (yi (t := 19) rfl rfl) ?_
    try simp only [opv, nZ, Value.cells]
    refine g_off (yi (t := 19) rfl rfl) ?_
    try simp only [opv, nZ, Value.cells]
    refine s_go (s_pick_t) ?_
    try simp only [opv, nZ, Value.cells]
    refine x_nil ?_
    refine hK3 _ _ ?_
    refine x_cond_t (h := ?_)
    have hI : isN ns = false := ofN_bad (by exact .inr (.inr (.inl (by assumption))))
    refine x_seq fun K6 hK6 => ?_
    refine x_region ?_
    refine s_go (s_build_arr (cells := #[.int .u8 0, .int .u8 0, .int .u8 0, .int .u8 0, .int .u8 0, .int .u8 0, .int .u8 0, .int .u8 0]) Tryz.underlying24 ti24 ti5 (hc := by simp only [List.map_toArray, List.map_cons, List.map_nil, opv, nZ, Value.cells, List.toList_toArray]; (repeat (refine fill_cons rfl rfl (Nat.le_of_ble_eq_true rfl) ?_)); rfl)) ?_
    try simp only [opv, nZ, Value.cells]
    refine m_store_obj ti24 (hS := hS) (h := fun w6 hS => ?_)
    try simp only [opv, nZ, Value.cells, Array.toArray_toList] at hS ⊢
    refine s_go (s_assign) ?_
    try simp only [opv, nZ, Value.cells]
    refine x_nil ?_
    refine hK6 _ _ ?_
    refine x_ret ?_
    refine r_cell_tmp_agg rfl Tryz.underlying24 ti24 (hS := hS) (hR := ?_)
    exact ⟨by simp only [ofN, hI]; rfl, hS.ext_of⟩
   ·
    try simp only [n3, n4]
    try simp only [decide_eq_true_eq, decide_eq_false_iff_not, Bool.not_eq_true', Bool.not_eq_false', Int.not_lt, Int.not_le, ne_eq, Decidable.not_not] at hp3
    refine g_on (yi (t := 19) rfl rfl) ?_
    refine s_go (m_load_row Tryz.underlying24 (hi := ti24) (hS := hS)) ?_
    try simp only [opv, nZ, Value.cells, List.getElem_toArray, List.getElem_cons_zero, List.getElem_cons_succ]
    refine g_on (yi (t := 19) rfl rfl) ?_
    refine s_call en64 ?_
    try simp only [opv, nZ, Value.cells, List.map_toArray, List.map_cons, List.map_nil, List.append_toArray, List.cons_append, List.nil_append, Array.append_empty]
    refine CallR.mono (c_nameRight _ (by assumption) (by assumption) _) ?_
    rintro _ w7 ⟨rfl, hE7⟩
    replace hS := hS.ext hE7
    try simp only [opv, nZ, Value.cells]
    refine g_on (yi (t := 19) rfl rfl) ?_
    refine s_go (s_not) ?_
    try simp only [opv, nZ, Value.cells]
    refine s_go (s_pick_f) ?_
    try simp only [opv, nZ, Value.cells]
    refine x_nil ?_
    refine hK3 _ _ ?_
    refine x_cond (ht := fun hc4 => ?_) (hf := fun hc4 => ?_)
    ·
     try simp only [decide_eq_true_eq, decide_eq_false_iff_not, Bool.not_eq_true', Bool.not_eq_false', Int.not_lt, Int.not_le, ne_eq, Decidable.not_not, bne_iff_ne, beq_iff_eq, not_true_eq_false, not_false_eq_true] at hc4
     have hI : isN ns = false := ofN_bad (by exact .inr (.inr (.inr (by simpa using hc4))))
     refine x_seq fun K7 hK7 => ?_
     refine x_region ?_
     refine s_go (s_build_arr (cells := #[.int .u8 0, .int .u8 0, .int .u8 0, .int .u8 0, .int .u8 0, .int .u8 0, .int .u8 0, .int .u8 0]) Tryz.underlying24 ti24 ti5 (hc := by simp only [List.map_toArray, List.map_cons, List.map_nil, opv, nZ, Value.cells, List.toList_toArray]; (repeat (refine fill_cons rfl rfl (Nat.le_of_ble_eq_true rfl) ?_)); rfl)) ?_
     try simp only [opv, nZ, Value.cells]
     refine m_store_obj ti24 (hS := hS) (h := fun w8 hS => ?_)
     try simp only [opv, nZ, Value.cells, Array.toArray_toList] at hS ⊢
     refine s_go (s_assign) ?_
     try simp only [opv, nZ, Value.cells]
     refine x_nil ?_
     refine hK7 _ _ ?_
     refine x_ret ?_
     refine r_cell_tmp_agg rfl Tryz.underlying24 ti24 (hS := hS) (hR := ?_)
     exact ⟨by simp only [ofN, hI]; rfl, hS.ext_of⟩
    ·
     try simp only [decide_eq_true_eq, decide_eq_false_iff_not, Bool.not_eq_true', Bool.not_eq_false', Int.not_lt, Int.not_le, ne_eq, Decidable.not_not, bne_iff_ne, beq_iff_eq, not_true_eq_false, not_false_eq_true] at hc4
     have hI : isN ns = true := ofN_good (by assumption) (by assumption)
     refine x_skip ?_
     refine hK2 _ _ ?_
     refine x_seq fun K8 hK8 => ?_
     refine x_region ?_
     refine s_go (m_load_row Tryz.underlying24 (hi := ti24) (hS := hS)) ?_
     try simp only [opv, nZ, Value.cells, List.getElem_toArray, List.getElem_cons_zero, List.getElem_cons_succ]
     refine m_store_obj ti24 (hS := hS) (h := fun w9 hS => ?_)
     try simp only [opv, nZ, Value.cells, Array.toArray_toList] at hS ⊢
     refine s_go (s_assign) ?_
     try simp only [opv, nZ, Value.cells]
     refine x_nil ?_
     refine hK8 _ _ ?_
     refine x_ret ?_
     refine r_cell_tmp_agg rfl Tryz.underlying24 ti24 (hS := hS) (hR := ?_)
     exact ⟨by simp only [ofN, hI]; rfl, hS.ext_of⟩
theorem c_cnum1 (w0 : World) (g : Nat) (A : Option Addr) (c : Nat) (xs : List Int) (hc : xs.length ≤ c) (hw : Byt xs) (hn : xs.length ≤ 1000000000) (b : Nat) (m : Nat) (hm : m < 18446744073709551616) (hM : St (OwnB [.obj g (.cells #[.int .i64 0, .slice A xs.length c] 63 (0, 0)), .rd A 1 xs.length (xs.map (Value.int .u8)), .obj b (.cells #[.int .u64 (m : Int)] 28 (0, 0))]) w0 w0 [.obj g (.cells #[.int .i64 0, .slice A xs.length c] 63 (0, 0)), .rd A 1 xs.length (xs.map (Value.int .u8)), .obj b (.cells #[.int .u64 (m : Int)] 28 (0, 0))]) :
    CallR Tryz.prog 84 #[.pointer (some ⟨g, 0, none⟩), .pointer (some ⟨b, 0, none⟩)] w0 fun v w' => ∃ x : Nat, v = .int .u64 (x : Int) ∧ ((numS m 0 xs).2.1 = 0 → x = (numS m 0 xs).1) ∧ CuSt w0 w' [.obj g (.cells #[.int .i64 0, .slice A xs.length c] 63 (0, 0)), .rd A 1 xs.length (xs.map (Value.int .u8)), .obj b (.cells #[.int .u64 (m : Int)] 28 (0, 0))] g (numS m 0 xs).2.1 (numS m 0 xs).2.2 [.obj b (.cells #[.int .u64 (m : Int)] 28 (0, 0))] := by
 have hS := hM
 have hul := unvar_lt hw
 refine c_enter (l := [.pointer (some ⟨g, 0, none⟩), .pointer (some ⟨b, 0, none⟩), undef, undef, undef, undef, undef, undef, undef, undef, undef, undef, undef, undef, undef, undef, undef, undef, undef, undef, undef, undef, undef, undef, undef, undef, undef, undef, undef, undef, undef, undef]) Tryz.func84 rfl (by simp only [Tryz.ntmps84, List.size_toArray, List.length_cons, List.length_nil, Nat.reduceAdd, Nat.reduceSub, Array.replicate_succ, Array.replicate_zero, List.push_toArray, List.append_toArray, List.nil_append, List.cons_append]) ?_
 refine x_seq fun K1 hK1 => ?_
 refine x_region ?_
 refine s_go (s_assign) ?_
 try simp only [opv, nZ, Value.cells]
 refine x_nil ?_
 refine hK1 _ _ ?_
 refine x_seq fun K2 hK2 => ?_
 refine x_region ?_
 refine s_go (s_move) ?_
 try simp only [opv, nZ, Value.cells]
 refine s_go (s_nilCheck) ?_
 try simp only [opv, nZ, Value.cells]
 refine s_go (m_fieldAddr Tryz.underlying63 (hi := ti33)) ?_
 try simp only [opv, nZ, Value.cells, Nat.zero_add, Nat.add_zero, List.getElem_toArray, List.getElem_cons_zero, List.getElem_cons_succ]
 refine s_go (m_load_obj Tryz.underlying33 (hS := hS)) ?_
 try simp only [opv, nZ, Value.cells, List.getElem_toArray, List.getElem_cons_zero, List.getElem_cons_succ]
 refine s_call en85 ?_
 try simp only [opv, nZ, Value.cells, List.map_toArray, List.map_cons, List.map_nil, List.append_toArray, List.cons_append, List.nil_append, Array.append_empty]
 refine CallR.mono (c_packUnvar _ A _ c xs (hS.hasRd (by repeat (first | exact Has.head | apply Has.tail))) rfl hw (by omega) hc) ?_
 rintro _ w1 ⟨rfl, hE1⟩
 replace hS := hS.ext hE1
 try simp only [opv, nZ, Value.cells]
 unfold UnvP
 refine s_go (s_move) ?_
 try simp only [opv, nZ, Value.cells]
 refine s_go (s_extract (hv := rfl)) ?_
 try simp only [List.getElem_toArray, List.getElem_cons_zero, List.getElem_cons_succ]
 try simp only [opv, nZ, Value.cells]
 refine s_go (s_extract (hv := rfl)) ?_
 try simp only [List.getElem_toArray, List.getElem_cons_zero, List.getElem_cons_succ]
 try simp only [opv, nZ, Value.cells]
 refine s_go (s_extract (hv := rfl)) ?_
 try simp only [List.getElem_toArray, List.getElem_cons_zero, List.getElem_cons_succ]
 try simp only [opv, nZ, Value.cells]
 refine s_go (s_assign) ?_
 try simp only [opv, nZ, Value.cells]
 refine s_go (s_assign) ?_
 try simp only [opv, nZ, Value.cells]
 refine s_go (s_assign) ?_
 try simp only [opv, nZ, Value.cells]
 refine x_nil ?_
 refine hK2 _ _ ?_
 refine x_seq fun K3 hK3 => ?_
 refine x_block ?_
 refine x_seq fun K4 hK4 => ?_
 refine x_region ?_
 refine s_go (s_move) ?_
 try simp only [opv, nZ, Value.cells]
 refine s_go (s_neq) ?_
 try simp only [opv, nZ, Value.cells]
 refine s_go (s_assign) ?_
 try simp only [opv, nZ, Value.cells]
 refine x_nil ?_
 refine hK4 _ _ ?_
 refine x_cond (ht := fun hc1 => ?_) (hf := fun hc1 => ?_)
 ·
  try simp only [decide_eq_true_eq, decide_eq_false_iff_not, Bool.not_eq_true', Bool.not_eq_false', Int.not_lt, Int.not_le, ne_eq, Decidable.not_not, bne_iff_ne, beq_iff_eq, not_true_eq_false, not_false_eq_true] at hc1
  have hN : numS m 0 xs = (0, ((unvar xs).2.2 : Int), []) := by simp only [numS, if_true]; rw [if_neg (by omega)]
  refine x_region ?_
  refine s_go (s_move) ?_
  try simp only [opv, nZ, Value.cells]
  refine s_go (s_move) ?_
  try simp only [opv, nZ, Value.cells]
  refine s_call en86 ?_
  try simp only [opv, nZ, Value.cells, List.map_toArray, List.map_cons, List.map_nil, List.append_toArray, List.cons_append, List.nil_append, Array.append_empty]
  refine CallR.mono (c_cerr _ g 0 A c xs hc ((unvar xs).2.2 : Int) (hS.owns (by repeat (first | exact Spl.nil | (apply Spl.cons (by repeat (exact Del.head))))))) ?_
  rintro _ w2 ⟨rfl, A2, c2, hcp2, hR2, hC2⟩
  have hY2 := RdIn.trans hM hS (by repeat (first | exact Spl.nil | (apply Spl.cons (by repeat (exact Del.head))))) hR2 (by intro s hs q hb; simp only [List.mem_cons, List.not_mem_nil, or_false] at hs; rcases hs with rfl | rfl <;> first | (simp [Res.reads] at hb; done) | exact .inr ⟨_, List.mem_cons_of_mem _ (List.mem_cons_self ..), .inr hb⟩)
  replace hS := hS.frame (by repeat (first | exact Spl.nil | (apply Spl.cons (by repeat (exact Del.head))))) hC2 (by intro r hr b hb; simp only [List.mem_cons, List.not_mem_nil, or_false] at hr; rcases hr with rfl | rfl <;> first | (simp [Res.reads] at hb; done) | exact hR2 b hb)
  replace hR2 := hY2
  simp only [List.cons_append, List.nil_append] at hS
  simp only [errE0, errX0 hc1] at hS hcp2 hR2
  try simp only [opv, nZ, Value.cells]
  refine x_nil ?_
  refine hK3 _ _ ?_
  refine x_seq fun K5 hK5 => ?_
  refine x_region ?_
  refine s_go (s_move) ?_
  try simp only [opv, nZ, Value.cells]
  refine s_go (s_assign) ?_
  try simp only [opv, nZ, Value.cells]
  refine x_nil ?_
  refine hK5 _ _ ?_
  refine x_ret ?_
  refine r_tmp rfl ?_
  exact ⟨_, rfl, fun h => by rw [hN] at h; exact absurd h hc1, _, _, by rw [hN]; assumption, by rw [hN]; assumption, by rw [hN]; exact hS.sel (by repeat (first | exact Sel.nil | (refine Sel.cons (by repeat (exact Del.head)) ?_)))⟩
 ·
  try simp only [decide_eq_true_eq, decide_eq_false_iff_not, Bool.not_eq_true', Bool.not_eq_false', Int.not_lt, Int.not_le, ne_eq, Decidable.not_not, bne_iff_ne, beq_iff_eq, not_true_eq_false, not_false_eq_true] at hc1
  have h0 : (unvar xs).2.2 = 0 := by omega
  refine x_seq fun K6 hK6 => ?_
  refine x_region ?_
  refine s_go (s_move) ?_
  try simp only [opv, nZ, Value.cells]
  refine s_go (m_load_obj Tryz.underlying28 (hS := hS)) ?_
  try simp only [opv, nZ, Value.cells, List.getElem_toArray, List.getElem_cons_zero, List.getElem_cons_succ]
  refine s_go (s_gtr) ?_
  try simp only [opv, nZ, Value.cells]
  refine s_go (s_assign) ?_
  try simp only [opv, nZ, Value.cells]
  refine x_nil ?_
  refine hK6 _ _ ?_
  refine x_cond (ht := fun hc2 => ?_) (hf := fun hc2 => ?_)
  ·
   try simp only [decide_eq_true_eq, decide_eq_false_iff_not, Bool.not_eq_true', Bool.not_eq_false', Int.not_lt, Int.not_le, ne_eq, Decidable.not_not, bne_iff_ne, beq_iff_eq, not_true_eq_false, not_false_eq_true] at hc2
   have hN : numS m 0 xs = (0, 2, []) := by simp only [numS, if_true]; rw [if_pos h0, if_neg (by omega)]
   refine x_region ?_
   refine s_go (s_move) ?_
   try simp only [opv, nZ, Value.cells]
   refine s_call en86 ?_
   try simp only [opv, nZ, Value.cells, List.map_toArray, List.map_cons, List.map_nil, List.append_toArray, List.cons_append, List.nil_append, Array.append_empty]
   refine CallR.mono (c_cerr _ g 0 A c xs hc 2 (hS.owns (by repeat (first | exact Spl.nil | (apply Spl.cons (by repeat (exact Del.head))))))) ?_
   rintro _ w3 ⟨rfl, A3, c3, hcp3, hR3, hC3⟩
   have hY3 := RdIn.trans hM hS (by repeat (first | exact Spl.nil | (apply Spl.cons (by repeat (exact Del.head))))) hR3 (by intro s hs q hb; simp only [List.mem_cons, List.not_mem_nil, or_false] at hs; rcases hs with rfl | rfl <;> first | (simp [Res.reads] at hb; done) | exact .inr ⟨_, List.mem_cons_of_mem _ (List.mem_cons_self ..), .inr hb⟩)
   replace hS := hS.frame (by repeat (first | exact Spl.nil | (apply Spl.cons (by repeat (exact Del.head))))) hC3 (by intro r hr b hb; simp only [List.mem_cons, List.not_mem_nil, or_false] at hr; rcases hr with rfl | rfl <;> first | (simp [Res.reads] at hb; done) | exact hR3 b hb)
   replace hR3 := hY3
   simp only [List.cons_append, List.nil_append] at hS
   simp only [errE0, errX0 (show ¬ (2 : Int) = 0 by decide)] at hS hcp3 hR3
   try simp only [opv, nZ, Value.cells]
   refine x_nil ?_
   refine hK3 _ _ ?_
   refine x_seq fun K7 hK7 => ?_
   refine x_region ?_
   refine s_go (s_move) ?_
   try simp only [opv, nZ, Value.cells]
   refine s_go (s_assign) ?_
   try simp only [opv, nZ, Value.cells]
   refine x_nil ?_
   refine hK7 _ _ ?_
   refine x_ret ?_
   refine r_tmp rfl ?_
   exact ⟨_, rfl, fun h => by rw [hN] at h; exact absurd h (by decide), _, _, by rw [hN]; assumption, by rw [hN]; assumption, by rw [hN]; exact hS.sel (by repeat (first | exact Sel.nil | (refine Sel.cons (by repeat (exact Del.head)) ?_)))⟩
  ·
   try simp only [decide_eq_true_eq, decide_eq_false_iff_not, Bool.not_eq_true', Bool.not_eq_false', Int.not_lt, Int.not_le, ne_eq, Decidable.not_not, bne_iff_ne, beq_iff_eq, not_true_eq_false, not_false_eq_true] at hc2
   have hN : numS m 0 xs = ((unvar xs).1, 0, xs.drop (unvar xs).2.1) := by simp only [numS, if_true]; rw [if_pos h0, if_pos (by omega)]
   have hub := (unvar_back hw h0).1
   refine x_region ?_
   refine s_go (s_move) ?_
   try simp only [opv, nZ, Value.cells]
   refine s_go (s_move) ?_
   try simp only [opv, nZ, Value.cells]
   refine s_call en87 ?_
   try simp only [opv, nZ, Value.cells, List.map_toArray, List.map_cons, List.map_nil, List.append_toArray, List.cons_append, List.nil_append, Array.append_empty]
   refine CallR.mono (c_ctake _ g 0 A c xs hc (unvar xs).2.1 (by omega) (hS.owns (by repeat (first | exact Spl.nil | (apply Spl.cons (by repeat (exact Del.head))))))) ?_
   rintro _ w4 ⟨A4, c4, B4, rfl, hcp4, hR4, hQ4, hC4⟩
   have hY4 := RdIn.trans hM hS (by repeat (first | exact Spl.nil | (apply Spl.cons (by repeat (exact Del.head))))) hR4 (by intro s hs q hb; simp only [List.mem_cons, List.not_mem_nil, or_false] at hs; rcases hs with rfl | rfl <;> first | (simp [Res.reads] at hb; done) | exact .inr ⟨_, List.mem_cons_of_mem _ (List.mem_cons_self ..), .inr hb⟩)
   replace hS := hS.frame (by repeat (first | exact Spl.nil | (apply Spl.cons (by repeat (exact Del.head))))) hC4 (by intro r hr b hb; simp only [List.mem_cons, List.not_mem_nil, or_false] at hr; rcases hr with rfl | rfl | rfl <;> first | (simp [Res.reads] at hb; done) | exact hR4 b hb | exact hQ4 b hb)
   simp only [List.cons_append, List.nil_append] at hS
   replace hR4 := hY4
   rw [takeE, if_pos hub] at hS
   rw [takeX, if_pos hub] at hS hcp4 hR4
   try simp only [opv, nZ, Value.cells]
   refine x_nil ?_
   refine hK3 _ _ ?_
   refine x_seq fun K8 hK8 => ?_
   refine x_region ?_
   refine s_go (s_move) ?_
   try simp only [opv, nZ, Value.cells]
   refine s_go (s_assign) ?_
   try simp only [opv, nZ, Value.cells]
   refine x_nil ?_
   refine hK8 _ _ ?_
   refine x_ret ?_
   refine r_tmp rfl ?_
   exact ⟨_, rfl, fun h => by rw [hN] at h; rw [hN], _, _, by rw [hN]; assumption, by rw [hN]; assumption, by rw [hN]; exact hS.selA⟩
theorem c_onceN (w0 : World) (g : Nat) (e : Int) (A : Option Addr) (c : Nat) (xs : List Int) (hc : xs.length ≤ c) (hw : Byt xs) (hn : xs.length ≤ 1000000000) (b : Nat) (m : Nat) (hm : m < 18446744073709551616) (hM : St (OwnB [.obj g (.cells #[.int .i64 e, .slice A xs.length c] 63 (0, 0)), .rd A 1 xs.length (xs.map (Value.int .u8)), .obj b (.cells #[.int .u64 (m : Int)] 28 (0, 0))]) w0 w0 [.obj g (.cells #[.int .i64 e, .slice A xs.length c] 63 (0, 0)), .rd A 1 xs.length (xs.map (Value.int .u8)), .obj b (.cells #[.int .u64 (m : Int)] 28 (0, 0))]) :
    CallR Tryz.prog 83 #[.pointer (some ⟨g, 0, none⟩), .func (.func 84) #[] #[.pointer (some ⟨b, 0, none⟩)]] w0 fun v w' => v = .int .u64 ((numS m e xs).1 : Int) ∧ CuSt w0 w' [.obj g (.cells #[.int .i64 e, .slice A xs.length c] 63 (0, 0)), .rd A 1 xs.length (xs.map (Value.int .u8)), .obj b (.cells #[.int .u64 (m : Int)] 28 (0, 0))] g (numS m e xs).2.1 (numS m e xs).2.2 [.obj b (.cells #[.int .u64 (m : Int)] 28 (0, 0))] := by
 have hS := hM
 refine c_enter (l := [.pointer (some ⟨g, 0, none⟩), .func (.func 84) #[] #[.pointer (some ⟨b, 0, none⟩)], undef, undef, undef, undef, undef, undef, undef, undef, undef, undef, undef, undef, undef, undef, undef, undef]) Tryz.func83 rfl (by simp only [Tryz.ntmps83, List.size_toArray, List.length_cons, List.length_nil, Nat.reduceAdd, Nat.reduceSub, Array.replicate_succ, Array.replicate_zero, List.push_toArray, List.append_toArray, List.nil_append, List.cons_append]) ?_
 refine x_seq fun K1 hK1 => ?_
 refine x_region ?_
 refine s_go (s_assign) ?_
 try simp only [opv, nZ, Value.cells]
 refine x_nil ?_
 refine hK1 _ _ ?_
 refine x_seq fun K2 hK2 => ?_
 refine x_region ?_
 refine s_go (s_assign) ?_
 try simp only [opv, nZ, Value.cells]
 refine x_nil ?_
 refine hK2 _ _ ?_
 refine x_seq fun K3 hK3 => ?_
 refine x_seq fun K4 hK4 => ?_
 refine x_region ?_
 refine s_go (s_move) ?_
 try simp only [opv, nZ, Value.cells]
 refine s_call en104 ?_
 try simp only [opv, nZ, Value.cells, List.map_toArray, List.map_cons, List.map_nil, List.append_toArray, List.cons_append, List.nil_append, Array.append_empty]
 refine CallR.mono (c_cwell _ g (e) A c (xs) hc (hS.owns (by repeat (first | exact Spl.nil | (apply Spl.cons (by repeat (exact Del.head))))))) ?_
 rintro _ w1 ⟨rfl, hC1⟩
 replace hS := hS.frame (by repeat (first | exact Spl.nil | (apply Spl.cons (by repeat (exact Del.head))))) hC1 (by intro r hr g hg; simp only [List.mem_cons, List.not_mem_nil, or_false] at hr; rcases hr with rfl | rfl | rfl <;> first | (simp [Res.reads] at hg; done) | exact .inr ⟨_, by simp, .inr hg⟩)
 simp only [List.cons_append, List.nil_append] at hS
 try simp only [opv, nZ, Value.cells]
 refine s_go (s_not) ?_
 try simp only [opv, nZ, Value.cells]
 refine x_nil ?_
 refine hK4 _ _ ?_
 refine x_cond (ht := fun hc1 => ?_) (hf := fun hc1 => ?_)
 ·
  try simp only [decide_eq_true_eq, decide_eq_false_iff_not, Bool.not_eq_true', Bool.not_eq_false', Int.not_lt, Int.not_le, ne_eq, Decidable.not_not, bne_iff_ne, beq_iff_eq, not_true_eq_false, not_false_eq_true] at hc1
  have hN := numS_err (m := m) (xs := xs) (by simpa using hc1)
  refine x_seq fun K5 hK5 => ?_
  refine x_region ?_
  refine s_go (s_move) ?_
  try simp only [opv, nZ, Value.cells]
  refine s_go (s_assign) ?_
  try simp only [opv, nZ, Value.cells]
  refine x_nil ?_
  refine hK5 _ _ ?_
  refine x_ret ?_
  refine r_tmp rfl ?_
  exact ⟨by rw [hN]; rfl, A, c, by rw [hN]; exact hc, by rw [hN]; exact RdIn.self (List.mem_cons_of_mem _ (List.mem_cons_self ..)), by rw [hN]; exact hS.sel (by repeat (first | exact Sel.nil | (refine Sel.cons (by repeat (exact Del.head)) ?_)))⟩
 ·
  try simp only [decide_eq_true_eq, decide_eq_false_iff_not, Bool.not_eq_true', Bool.not_eq_false', Int.not_lt, Int.not_le, ne_eq, Decidable.not_not, bne_iff_ne, beq_iff_eq, not_true_eq_false, not_false_eq_true] at hc1
  have he0 : e = 0 := by simpa using hc1
  subst he0
  refine x_skip ?_
  refine hK3 _ _ ?_
  refine x_seq fun K6 hK6 => ?_
  refine x_seq fun K7 hK7 => ?_
  refine x_region ?_
  refine s_go (s_move) ?_
  try simp only [opv, nZ, Value.cells]
  refine s_go (s_move) ?_
  try simp only [opv, nZ, Value.cells]
  refine s_callv (hv := rfl) en84 ?_
  try simp only [opv, nZ, Value.cells, List.map_toArray, List.map_cons, List.map_nil, List.append_toArray, List.cons_append, List.nil_append, Array.append_empty]
  refine CallR.mono (c_cnum1 _ g A c xs hc hw hn b m hm (hS.owns (by repeat (first | exact Spl.nil | (apply Spl.cons (by repeat (exact Del.head))))))) ?_
  rintro _ w2 ⟨x, rfl, hx, A2, c2, hcp2, hR2, hC2⟩
  have hY2 := RdIn.trans hM hS (by repeat (first | exact Spl.nil | (apply Spl.cons (by repeat (exact Del.head))))) hR2 (by intro s hs q hb; simp only [List.mem_cons, List.not_mem_nil, or_false] at hs; rcases hs with rfl | rfl | rfl <;> first | (simp [Res.reads] at hb; done) | exact .inr ⟨_, List.mem_cons_of_mem _ (List.mem_cons_self ..), .inr hb⟩)
  replace hS := hS.frame (by repeat (first | exact Spl.nil | (apply Spl.cons (by repeat (exact Del.head))))) hC2 (by intro r hr b hb; simp only [List.mem_cons, List.not_mem_nil, or_false] at hr; rcases hr with rfl | rfl | rfl <;> first | (simp [Res.reads] at hb; done) | exact hR2 b hb)
  replace hR2 := hY2
  simp only [List.cons_append, List.nil_append] at hS
  try simp only [opv, nZ, Value.cells]
  refine s_go (s_assign) ?_
  try simp only [opv, nZ, Value.cells]
  refine x_nil ?_
  refine hK7 _ _ ?_
  refine x_seq fun K8 hK8 => ?_
  refine x_region ?_
  refine s_go (s_move) ?_
  try simp only [opv, nZ, Value.cells]
  refine s_call en104 ?_
  try simp only [opv, nZ, Value.cells, List.map_toArray, List.map_cons, List.map_nil, List.append_toArray, List.cons_append, List.nil_append, Array.append_empty]
  refine CallR.mono (c_cwell _ g ((numS m 0 xs).2.1) A2 c2 ((numS m 0 xs).2.2) hcp2 (hS.owns (by repeat (first | exact Spl.nil | (apply Spl.cons (by repeat (exact Del.head))))))) ?_
  rintro _ w3 ⟨rfl, hC3⟩
  replace hS := hS.frame (by repeat (first | exact Spl.nil | (apply Spl.cons (by repeat (exact Del.head))))) hC3 (by intro r hr g hg; simp only [List.mem_cons, List.not_mem_nil, or_false] at hr; rcases hr with rfl | rfl | rfl <;> first | (simp [Res.reads] at hg; done) | exact .inr ⟨_, by simp, .inr hg⟩)
  simp only [List.cons_append, List.nil_append] at hS
  try simp only [opv, nZ, Value.cells]
  refine x_nil ?_
  refine hK8 _ _ ?_
  refine x_cond (ht := fun hc2 => ?_) (hf := fun hc2 => ?_)
  ·
   try simp only [decide_eq_true_eq, decide_eq_false_iff_not, Bool.not_eq_true', Bool.not_eq_false', Int.not_lt, Int.not_le, ne_eq, Decidable.not_not, bne_iff_ne, beq_iff_eq, not_true_eq_false, not_false_eq_true] at hc2
   have hx1 := hx (by simpa using hc2)
   refine x_seq fun K9 hK9 => ?_
   refine x_region ?_
   refine s_go (s_move) ?_
   try simp only [opv, nZ, Value.cells]
   refine s_go (s_assign) ?_
   try simp only [opv, nZ, Value.cells]
   refine x_nil ?_
   refine hK9 _ _ ?_
   refine x_ret ?_
   refine r_tmp rfl ?_
   exact ⟨by rw [← hx1]; rfl, _, _, by assumption, by assumption, hS.sel (by repeat (first | exact Sel.nil | (refine Sel.cons (by repeat (exact Del.head)) ?_)))⟩
  ·
   try simp only [decide_eq_true_eq, decide_eq_false_iff_not, Bool.not_eq_true', Bool.not_eq_false', Int.not_lt, Int.not_le, ne_eq, Decidable.not_not, bne_iff_ne, beq_iff_eq, not_true_eq_false, not_false_eq_true] at hc2
   have hx0 := numS_bad (by simpa using hc2)
   refine x_skip ?_
   refine hK6 _ _ ?_
   refine x_seq fun K10 hK10 => ?_
   refine x_region ?_
   refine s_go (s_move) ?_
   try simp only [opv, nZ, Value.cells]
   refine s_go (s_assign) ?_
   try simp only [opv, nZ, Value.cells]
   refine x_nil ?_
   refine hK10 _ _ ?_
   refine x_ret ?_
   refine r_tmp rfl ?_
   exact ⟨by rw [hx0]; rfl, _, _, by assumption, by assumption, hS.sel (by repeat (first | exact Sel.nil | (refine Sel.cons (by repeat (exact Del.head)) ?_)))⟩
theorem c_cNum (w0 : World) (g : Nat) (e : Int) (A : Option Addr) (c : Nat) (xs : List Int) (hc : xs.length ≤ c) (hw : Byt xs) (hn : xs.length ≤ 1000000000) (m : Nat) (hm : m < 18446744073709551616) (hM : St (OwnB [.obj g (.cells #[.int .i64 e, .slice A xs.length c] 63 (0, 0)), .rd A 1 xs.length (xs.map (Value.int .u8))]) w0 w0 [.obj g (.cells #[.int .i64 e, .slice A xs.length c] 63 (0, 0)), .rd A 1 xs.length (xs.map (Value.int .u8))]) :
    CallR Tryz.prog 49 #[.pointer (some ⟨g, 0, none⟩), .int .u64 (m : Int)] w0 fun v w' => v = .int .u64 ((numS m e xs).1 : Int) ∧ CuSt w0 w' [.obj g (.cells #[.int .i64 e, .slice A xs.length c] 63 (0, 0)), .rd A 1 xs.length (xs.map (Value.int .u8))] g (numS m e xs).2.1 (numS m e xs).2.2 [] := by
 have hS := hM
 refine c_enter (l := [.pointer (some ⟨g, 0, none⟩), .int .u64 (m : Int), undef, undef, undef, undef, undef, undef]) Tryz.func49 rfl (by simp only [Tryz.ntmps49, List.size_toArray, List.length_cons, List.length_nil, Nat.reduceAdd, Nat.reduceSub, Array.replicate_succ, Array.replicate_zero, List.push_toArray, List.append_toArray, List.nil_append, List.cons_append]) ?_
 refine x_seq fun K1 hK1 => ?_
 refine x_region ?_
 refine m_box hS (fun w1 g1 hS => ?_)
 try simp only [opv, nZ, Value.cells, Array.toArray_toList] at hS ⊢
 refine s_go (s_assign) ?_
 try simp only [opv, nZ, Value.cells]
 refine x_nil ?_
 refine hK1 _ _ ?_
 refine x_seq fun K2 hK2 => ?_
 refine x_region ?_
 refine s_go (s_move) ?_
 try simp only [opv, nZ, Value.cells]
 refine s_go (s_makeFunc) ?_
 try simp only [opv, nZ, Value.cells, List.map_toArray, List.map_cons, List.map_nil]
 refine s_call en83 ?_
 try simp only [opv, nZ, Value.cells, List.map_toArray, List.map_cons, List.map_nil, List.append_toArray, List.cons_append, List.nil_append, Array.append_empty]
 refine CallR.mono (c_onceN _ g e A c xs hc hw hn _ m hm (hS.owns (by repeat (first | exact Spl.nil | (apply Spl.cons (by repeat (first | exact Del.head | apply Del.tail))))))) ?_
 rintro _ w2 ⟨rfl, A2, c2, hcp2, hR2, hC2⟩
 have hY2 := RdIn.trans hM hS (by repeat (first | exact Spl.nil | (apply Spl.cons (by repeat (first | exact Del.head | apply Del.tail))))) hR2 (by intro s hs q hb; simp only [List.mem_cons, List.not_mem_nil, or_false] at hs; rcases hs with rfl | rfl | rfl <;> first | (simp [Res.reads] at hb; done) | exact .inr ⟨_, List.mem_cons_of_mem _ (List.mem_cons_self ..), .inr hb⟩)
 replace hS := hS.frame (by repeat (first | exact Spl.nil | (apply Spl.cons (by repeat (first | exact Del.head | apply Del.tail))))) hC2 (by intro r hr b hb; simp only [List.mem_cons, List.not_mem_nil, or_false] at hr; rcases hr with rfl | rfl | rfl <;> first | (simp [Res.reads] at hb; done) | exact hR2 b hb)
 replace hR2 := hY2
 simp only [List.cons_append, List.nil_append] at hS
 try simp only [opv, nZ, Value.cells]
 refine s_go (s_assign) ?_
 try simp only [opv, nZ, Value.cells]
 refine x_nil ?_
 refine hK2 _ _ ?_
 refine x_ret ?_
 refine r_tmp rfl ?_
 exact ⟨rfl, _, _, by assumption, by assumption, hS.sel (by repeat (first | exact Sel.nil | (refine Sel.cons (by repeat (exact Del.head)) ?_)))⟩
theorem c_onceB (w0 : World) (g : Nat) (e : Int) (A : Option Addr) (c : Nat) (xs : List Int) (hc : xs.length ≤ c) (hw : Byt xs) (hn : xs.length ≤ 1000000000) (hM : St (OwnB [.obj g (.cells #[.int .i64 e, .slice A xs.length c] 63 (0, 0)), .rd A 1 xs.length (xs.map (Value.int .u8))]) w0 w0 [.obj g (.cells #[.int .i64 e, .slice A xs.length c] 63 (0, 0)), .rd A 1 xs.length (xs.map (Value.int .u8))]) :
    CallR Tryz.prog 81 #[.pointer (some ⟨g, 0, none⟩), .func (.func 82) #[] #[]] w0 fun v w' => v = .int .u8 (oneS e xs).1 ∧ CuSt w0 w' [.obj g (.cells #[.int .i64 e, .slice A xs.length c] 63 (0, 0)), .rd A 1 xs.length (xs.map (Value.int .u8))] g (oneS e xs).2.1 (oneS e xs).2.2 [] := by
 have hS := hM
 refine c_enter (l := [.pointer (some ⟨g, 0, none⟩), .func (.func 82) #[] #[], undef, undef, undef, undef, undef, undef, undef, undef, undef, undef, undef, undef, undef, undef, undef, undef]) Tryz.func81 rfl (by simp only [Tryz.ntmps81, List.size_toArray, List.length_cons, List.length_nil, Nat.reduceAdd, Nat.reduceSub, Array.replicate_succ, Array.replicate_zero, List.push_toArray, List.append_toArray, List.nil_append, List.cons_append]) ?_
 refine x_seq fun K1 hK1 => ?_
 refine x_region ?_
 refine s_go (s_assign) ?_
 try simp only [opv, nZ, Value.cells]
 refine x_nil ?_
 refine hK1 _ _ ?_
 refine x_seq fun K2 hK2 => ?_
 refine x_region ?_
 refine s_go (s_assign) ?_
 try simp only [opv, nZ, Value.cells]
 refine x_nil ?_
 refine hK2 _ _ ?_
 refine x_seq fun K3 hK3 => ?_
 refine x_seq fun K4 hK4 => ?_
 refine x_region ?_
 refine s_go (s_move) ?_
 try simp only [opv, nZ, Value.cells]
 refine s_call en104 ?_
 try simp only [opv, nZ, Value.cells, List.map_toArray, List.map_cons, List.map_nil, List.append_toArray, List.cons_append, List.nil_append, Array.append_empty]
 refine CallR.mono (c_cwell _ g (e) A c (xs) hc (hS.owns (by repeat (first | exact Spl.nil | (apply Spl.cons (by repeat (exact Del.head))))))) ?_
 rintro _ w1 ⟨rfl, hC1⟩
 replace hS := hS.frame (by repeat (first | exact Spl.nil | (apply Spl.cons (by repeat (exact Del.head))))) hC1 (by intro r hr g hg; simp only [List.mem_cons, List.not_mem_nil, or_false] at hr; rcases hr with rfl | rfl | rfl <;> first | (simp [Res.reads] at hg; done) | exact .inr ⟨_, by simp, .inr hg⟩)
 simp only [List.cons_append, List.nil_append] at hS
 try simp only [opv, nZ, Value.cells]
 refine s_go (s_not) ?_
 try simp only [opv, nZ, Value.cells]
 refine x_nil ?_
 refine hK4 _ _ ?_
 refine x_cond (ht := fun hc1 => ?_) (hf := fun hc1 => ?_)
 ·
  try simp only [decide_eq_true_eq, decide_eq_false_iff_not, Bool.not_eq_true', Bool.not_eq_false', Int.not_lt, Int.not_le, ne_eq, Decidable.not_not, bne_iff_ne, beq_iff_eq, not_true_eq_false, not_false_eq_true] at hc1
  have hN := oneS_err (xs := xs) (by simpa using hc1)
  refine x_seq fun K5 hK5 => ?_
  refine x_region ?_
  refine s_go (s_move) ?_
  try simp only [opv, nZ, Value.cells]
  refine s_go (s_assign) ?_
  try simp only [opv, nZ, Value.cells]
  refine x_nil ?_
  refine hK5 _ _ ?_
  refine x_ret ?_
  refine r_tmp rfl ?_
  exact ⟨by rw [hN]; rfl, A, c, by rw [hN]; exact hc, by rw [hN]; exact RdIn.self (List.mem_cons_of_mem _ (List.mem_cons_self ..)), by rw [hN]; exact hS.sel (by repeat (first | exact Sel.nil | (refine Sel.cons (by repeat (exact Del.head)) ?_)))⟩
 ·
  try simp only [decide_eq_true_eq, decide_eq_false_iff_not, Bool.not_eq_true', Bool.not_eq_false', Int.not_lt, Int.not_le, ne_eq, Decidable.not_not, bne_iff_ne, beq_iff_eq, not_true_eq_false, not_false_eq_true] at hc1
  have he0 : e = 0 := by simpa using hc1
  subst he0
  have hN := oneS_take xs
  refine x_skip ?_
  refine hK3 _ _ ?_
  refine x_seq fun K6 hK6 => ?_
  refine x_seq fun K7 hK7 => ?_
  refine x_region ?_
  refine s_go (s_move) ?_
  try simp only [opv, nZ, Value.cells]
  refine s_go (s_move) ?_
  try simp only [opv, nZ, Value.cells]
  refine s_callv (hv := rfl) en82 ?_
  try simp only [opv, nZ, Value.cells, List.map_toArray, List.map_cons, List.map_nil, List.append_toArray, List.cons_append, List.nil_append, Array.append_empty]
  refine CallR.mono (c_cone _ g 0 A c xs hc (hS.owns (by repeat (first | exact Spl.nil | (apply Spl.cons (by repeat (exact Del.head))))))) ?_
  rintro _ w2 ⟨rfl, A2, c2, hcp2, hR2, hC2⟩
  have hY2 := RdIn.trans hM hS (by repeat (first | exact Spl.nil | (apply Spl.cons (by repeat (exact Del.head))))) hR2 (by intro s hs q hb; simp only [List.mem_cons, List.not_mem_nil, or_false] at hs; rcases hs with rfl | rfl <;> first | (simp [Res.reads] at hb; done) | exact .inr ⟨_, List.mem_cons_of_mem _ (List.mem_cons_self ..), .inr hb⟩)
  replace hS := hS.frame (by repeat (first | exact Spl.nil | (apply Spl.cons (by repeat (exact Del.head))))) hC2 (by intro r hr b hb; simp only [List.mem_cons, List.not_mem_nil, or_false] at hr; rcases hr with rfl | rfl <;> first | (simp [Res.reads] at hb; done) | exact hR2 b hb)
  replace hR2 := hY2
  simp only [List.cons_append, List.nil_append] at hS
  try simp only [opv, nZ, Value.cells]
  refine s_go (s_assign) ?_
  try simp only [opv, nZ, Value.cells]
  refine x_nil ?_
  refine hK7 _ _ ?_
  refine x_seq fun K8 hK8 => ?_
  refine x_region ?_
  refine s_go (s_move) ?_
  try simp only [opv, nZ, Value.cells]
  refine s_call en104 ?_
  try simp only [opv, nZ, Value.cells, List.map_toArray, List.map_cons, List.map_nil, List.append_toArray, List.cons_append, List.nil_append, Array.append_empty]
  refine CallR.mono (c_cwell _ g (takeE 0 xs 1) A2 c2 (takeX 0 xs 1) hcp2 (hS.owns (by repeat (first | exact Spl.nil | (apply Spl.cons (by repeat (exact Del.head))))))) ?_
  rintro _ w3 ⟨rfl, hC3⟩
  replace hS := hS.frame (by repeat (first | exact Spl.nil | (apply Spl.cons (by repeat (exact Del.head))))) hC3 (by intro r hr g hg; simp only [List.mem_cons, List.not_mem_nil, or_false] at hr; rcases hr with rfl | rfl | rfl <;> first | (simp [Res.reads] at hg; done) | exact .inr ⟨_, by simp, .inr hg⟩)
  simp only [List.cons_append, List.nil_append] at hS
  try simp only [opv, nZ, Value.cells]
  refine x_nil ?_
  refine hK8 _ _ ?_
  refine x_cond (ht := fun hc2 => ?_) (hf := fun hc2 => ?_)
  ·
   try simp only [decide_eq_true_eq, decide_eq_false_iff_not, Bool.not_eq_true', Bool.not_eq_false', Int.not_lt, Int.not_le, ne_eq, Decidable.not_not, bne_iff_ne, beq_iff_eq, not_true_eq_false, not_false_eq_true] at hc2
   refine x_seq fun K9 hK9 => ?_
   refine x_region ?_
   refine s_go (s_move) ?_
   try simp only [opv, nZ, Value.cells]
   refine s_go (s_assign) ?_
   try simp only [opv, nZ, Value.cells]
   refine x_nil ?_
   refine hK9 _ _ ?_
   refine x_ret ?_
   refine r_tmp rfl ?_
   exact ⟨by rw [hN]; rfl, _, _, by rw [hN]; assumption, by rw [hN]; assumption, by rw [hN]; exact hS.sel (by repeat (first | exact Sel.nil | (refine Sel.cons (by repeat (exact Del.head)) ?_)))⟩
  ·
   try simp only [decide_eq_true_eq, decide_eq_false_iff_not, Bool.not_eq_true', Bool.not_eq_false', Int.not_lt, Int.not_le, ne_eq, Decidable.not_not, bne_iff_ne, beq_iff_eq, not_true_eq_false, not_false_eq_true] at hc2
   have hx0 := oneS_bad (e := 0) (xs := xs) (by rw [hN]; simpa using hc2)
   rw [hN] at hx0
   refine x_skip ?_
   refine hK6 _ _ ?_
   refine x_seq fun K10 hK10 => ?_
   refine x_region ?_
   refine s_go (s_move) ?_
   try simp only [opv, nZ, Value.cells]
   refine s_go (s_assign) ?_
   try simp only [opv, nZ, Value.cells]
   refine x_nil ?_
   refine hK10 _ _ ?_
   refine x_ret ?_
   refine r_tmp rfl ?_
   exact ⟨by rw [hN]; exact (congrArg (Value.int .u8) hx0).symm, _, _, by rw [hN]; assumption, by rw [hN]; assumption, by rw [hN]; exact hS.sel (by repeat (first | exact Sel.nil | (refine Sel.cons (by repeat (exact Del.head)) ?_)))⟩
theorem c_cByte (w0 : World) (g : Nat) (e : Int) (A : Option Addr) (c : Nat) (xs : List Int) (hc : xs.length ≤ c) (hw : Byt xs) (hn : xs.length ≤ 1000000000) (hM : St (OwnB [.obj g (.cells #[.int .i64 e, .slice A xs.length c] 63 (0, 0)), .rd A 1 xs.length (xs.map (Value.int .u8))]) w0 w0 [.obj g (.cells #[.int .i64 e, .slice A xs.length c] 63 (0, 0)), .rd A 1 xs.length (xs.map (Value.int .u8))]) :
    CallR Tryz.prog 47 #[.pointer (some ⟨g, 0, none⟩)] w0 fun v w' => v = .int .u8 (oneS e xs).1 ∧ CuSt w0 w' [.obj g (.cells #[.int .i64 e, .slice A xs.length c] 63 (0, 0)), .rd A 1 xs.length (xs.map (Value.int .u8))] g (oneS e xs).2.1 (oneS e xs).2.2 [] := by
 have hS := hM
 refine c_enter (l := [.pointer (some ⟨g, 0, none⟩), undef, undef, undef, undef]) Tryz.func47 rfl (by simp only [Tryz.ntmps47, List.size_toArray, List.length_cons, List.length_nil, Nat.reduceAdd, Nat.reduceSub, Array.replicate_succ, Array.replicate_zero, List.push_toArray, List.append_toArray, List.nil_append, List.cons_append]) ?_
 refine x_seq fun K1 hK1 => ?_
 refine x_region ?_
 refine s_go (s_assign) ?_
 try simp only [opv, nZ, Value.cells]
 refine x_nil ?_
 refine hK1 _ _ ?_
 refine x_seq fun K2 hK2 => ?_
 refine x_region ?_
 refine s_go (s_move) ?_
 try simp only [opv, nZ, Value.cells]
 refine s_call en81 ?_
 try simp only [opv, nZ, Value.cells, List.map_toArray, List.map_cons, List.map_nil, List.append_toArray, List.cons_append, List.nil_append, Array.append_empty]
 refine CallR.mono (c_onceB _ g e A c xs hc hw hn (hS.owns (by repeat (first | exact Spl.nil | (apply Spl.cons (by repeat (exact Del.head))))))) ?_
 rintro _ w1 ⟨rfl, A1, c1, hcp1, hR1, hC1⟩
 have hY1 := RdIn.trans hM hS (by repeat (first | exact Spl.nil | (apply Spl.cons (by repeat (exact Del.head))))) hR1 (by intro s hs q hb; simp only [List.mem_cons, List.not_mem_nil, or_false] at hs; rcases hs with rfl | rfl <;> first | (simp [Res.reads] at hb; done) | exact .inr ⟨_, List.mem_cons_of_mem _ (List.mem_cons_self ..), .inr hb⟩)
 replace hS := hS.frame (by repeat (first | exact Spl.nil | (apply Spl.cons (by repeat (exact Del.head))))) hC1 (by intro r hr b hb; simp only [List.mem_cons, List.not_mem_nil, or_false] at hr; rcases hr with rfl | rfl <;> first | (simp [Res.reads] at hb; done) | exact hR1 b hb)
 replace hR1 := hY1
 simp only [List.cons_append, List.nil_append] at hS
 try simp only [opv, nZ, Value.cells]
 refine s_go (s_assign) ?_
 try simp only [opv, nZ, Value.cells]
 refine x_nil ?_
 refine hK2 _ _ ?_
 refine x_ret ?_
 refine r_tmp rfl ?_
 exact ⟨rfl, _, _, by assumption, by assumption, hS.sel (by repeat (first | exact Sel.nil | (refine Sel.cons (by repeat (exact Del.head)) ?_)))⟩
end Go.Proofs.YtpjpaipkkcengaaGreat
set_option linter.unusedSimpArgs false
set_option linter.unusedVariables false
set_option maxHeartbeats 800000
set_option maxRecDepth 100000
namespace Go.Proofs.YtpjpaipkkcengaaGreat
open Go.RowKit

theorem namS_short {xs : List Int} (h : ¬ 1 ≤ xs.length) : namS 0 xs = (nm0, 4, []) := by simp only [namS, if_true]; rw [if_neg h]
theorem namS_long {xs : List Int} (h : 1 ≤ xs.length) (h2 : ¬ xs.getD 0 0 ≤ 8) : namS 0 xs = (nm0, 3, []) := by simp only [namS, if_true]; rw [if_pos h, if_neg h2]
theorem namS_cut {xs : List Int} {k : Nat} (h : 1 ≤ xs.length) (hk : xs.getD 0 0 = (k : Int)) (h2 : k ≤ 8) (h3 : ¬ k ≤ (xs.drop 1).length) : namS 0 xs = (nm0, 4, []) := by
  simp only [namS, if_true]; rw [if_pos h, hk, if_pos (by omega), if_neg (by simp at h3 ⊢; omega)]
theorem namS_no {xs : List Int} {k : Nat} (h : 1 ≤ xs.length) (hk : xs.getD 0 0 = (k : Int)) (h2 : k ≤ 8) (h3 : k ≤ (xs.drop 1).length) (h4 : ¬ k = 0) (h5 : ¬ isN ((xs.drop 1).take k) = true) : namS 0 xs = (nm0, 3, []) := by
  simp only [namS, if_true]; rw [if_pos h, hk, if_pos (by omega), if_pos (by simp at h3 ⊢; omega), if_neg (by simp only [Int.toNat_natCast]; rintro (h | h); omega; exact h5 h)]
theorem namS_yes {xs : List Int} {k : Nat} (h : 1 ≤ xs.length) (hk : xs.getD 0 0 = (k : Int)) (h2 : k ≤ 8) (h3 : k ≤ (xs.drop 1).length) (h4 : k = 0 ∨ isN ((xs.drop 1).take k) = true) : namS 0 xs = (padN ((xs.drop 1).take k), 0, (xs.drop 1).drop k) := by
  simp only [namS, if_true]; rw [if_pos h, hk, if_pos (by omega), if_pos (by simp at h3 ⊢; omega), if_pos (by simp only [Int.toNat_natCast]; rcases h4 with h | h; exact .inl (by omega); exact .inr h), Int.toNat_natCast, List.drop_drop]
theorem ofN_len (ns : List Int) : (ofN ns).1.length = 8 := by
  unfold ofN; split
  · exact padN_len ns
  · rfl
theorem ofN_no {ns : List Int} (h : ¬ (ofN ns).2 = 0) : isN ns = false ∧ ofN ns = (nm0, 3) := by
  unfold ofN at h ⊢
  split at h
  · exact absurd rfl h
  · next h1 => exact ⟨by simpa using h1, if_neg h1⟩
theorem ofN_yes {ns : List Int} (h : (ofN ns).2 = 0) : isN ns = true ∧ ofN ns = (padN ns, 0) := by
  unfold ofN at h ⊢
  split at h
  · next h1 => exact ⟨h1, if_pos h1⟩
  · exact absurd h (by decide)
theorem take_in {xs : List Int} {k : Nat} (h : k ≤ xs.length) (e : Int) : takeE e xs k = e ∧ takeX e xs k = xs.drop k ∧ takeV xs k = xs.take k := ⟨if_pos h, if_pos h, if_pos h⟩
theorem take_out {xs : List Int} {k : Nat} (h : ¬ k ≤ xs.length) : takeE 0 xs k = 4 ∧ takeX 0 xs k = [] ∧ takeV xs k = [] := ⟨if_neg h, (if_neg h).trans (errX0 (by decide)), if_neg h⟩
theorem c_cnamed (w0 : World) (g : Nat) (A : Option Addr) (c : Nat) (xs : List Int) (hc : xs.length ≤ c) (hw : Byt xs) (hn : xs.length ≤ 1000000000) (hM : St (OwnB [.obj g (.cells #[.int .i64 0, .slice A xs.length c] 63 (0, 0)), .rd A 1 xs.length (xs.map (Value.int .u8))]) w0 w0 [.obj g (.cells #[.int .i64 0, .slice A xs.length c] 63 (0, 0)), .rd A 1 xs.length (xs.map (Value.int .u8))]) :
    CallR Tryz.prog 89 #[.pointer (some ⟨g, 0, none⟩)] w0 fun v w' => v = .agg (ic .u8 (namS 0 xs).1) ∧ CuSt w0 w' [.obj g (.cells #[.int .i64 0, .slice A xs.length c] 63 (0, 0)), .rd A 1 xs.length (xs.map (Value.int .u8))] g (namS 0 xs).2.1 (namS 0 xs).2.2 [] := by
 have hS := hM
 refine c_enter (l := [.pointer (some ⟨g, 0, none⟩), undef, undef, undef, undef, undef, undef, undef, undef, undef, undef, undef, undef, undef, undef, undef, undef, undef, undef, undef, undef, undef, undef, undef, undef, undef, undef, undef, undef, undef, undef, undef, undef, undef, undef, undef, undef, undef, undef, undef, undef, undef]) Tryz.func89 rfl (by simp only [Tryz.ntmps89, List.size_toArray, List.length_cons, List.length_nil, Nat.reduceAdd, Nat.reduceSub, Array.replicate_succ, Array.replicate_zero, List.push_toArray, List.append_toArray, List.nil_append, List.cons_append]) ?_
 refine x_seq fun K1 hK1 => ?_
 refine x_region ?_
 refine m_alloc ti24 hS (fun w1 g1 hS => ?_)
 try simp only [opv, nZ, Value.cells, Array.toArray_toList] at hS ⊢
 have h0l : nm0.length = 8 := rfl
 replace hS : St (OwnB [.obj g (.cells #[.int .i64 0, .slice A xs.length c] 63 (0, 0)), .rd A 1 xs.length (xs.map (Value.int .u8))]) w0 w1 (.obj g1 (.cells (ic .u8 nm0) 24 (0, 0)) :: [.obj g (.cells #[.int .i64 0, .slice A xs.length c] 63 (0, 0)), .rd A 1 xs.length (xs.map (Value.int .u8))]) := hS
 refine x_nil ?_
 refine hK1 _ _ ?_
 refine x_seq fun K2 hK2 => ?_
 refine x_region ?_
 refine s_go (s_move) ?_
 try simp only [opv, nZ, Value.cells]
 refine s_call en82 ?_
 try simp only [opv, nZ, Value.cells, List.map_toArray, List.map_cons, List.map_nil, List.append_toArray, List.cons_append, List.nil_append, Array.append_empty]
 refine CallR.mono (c_cone _ g 0 A c xs hc (hS.owns (by repeat (first | exact Spl.nil | (apply Spl.cons (by repeat (first | exact Del.head | apply Del.tail))))))) ?_
 rintro _ w2 ⟨rfl, A2, c2, hcp2, hR2, hC2⟩
 have hY2 := RdIn.trans hM hS (by repeat (first | exact Spl.nil | (apply Spl.cons (by repeat (first | exact Del.head | apply Del.tail))))) hR2 (by intro s hs q hb; simp only [List.mem_cons, List.not_mem_nil, or_false] at hs; rcases hs with rfl | rfl <;> first | (simp [Res.reads] at hb; done) | exact .inr ⟨_, List.mem_cons_of_mem _ (List.mem_cons_self ..), .inr hb⟩)
 replace hS := hS.frame (by repeat (first | exact Spl.nil | (apply Spl.cons (by repeat (first | exact Del.head | apply Del.tail))))) hC2 (by intro r hr b hb; simp only [List.mem_cons, List.not_mem_nil, or_false] at hr; rcases hr with rfl | rfl <;> first | (simp [Res.reads] at hb; done) | exact hR2 b hb)
 replace hR2 := hY2
 simp only [List.cons_append, List.nil_append] at hS
 try simp only [opv, nZ, Value.cells]
 have hob : 0 ≤ oneV xs ∧ oneV xs ≤ 255 := by unfold oneV; split; exact hw.get 0; decide
 obtain ⟨k, hk⟩ := Int.eq_ofNat_of_zero_le hob.1
 rw [hk] at hob ⊢
 refine s_go (s_conv Tryz.underlying5 Tryz.underlying3 (hc := by exact wr_i64 (by omega) (by omega))) ?_
 try simp only [opv, nZ, Value.cells]
 refine s_go (s_assign) ?_
 try simp only [opv, nZ, Value.cells]
 refine x_nil ?_
 refine hK2 _ _ ?_
 refine x_seq fun K3 hK3 => ?_
 refine x_seq fun K4 hK4 => ?_
 refine x_region ?_
 refine s_go (s_move) ?_
 try simp only [opv, nZ, Value.cells]
 refine s_call en104 ?_
 try simp only [opv, nZ, Value.cells, List.map_toArray, List.map_cons, List.map_nil, List.append_toArray, List.cons_append, List.nil_append, Array.append_empty]
 refine CallR.mono (c_cwell _ g (takeE 0 xs 1) A2 c2 (takeX 0 xs 1) hcp2 (hS.owns (by repeat (first | exact Spl.nil | (apply Spl.cons (by repeat (exact Del.head))))))) ?_
 rintro _ w3 ⟨rfl, hC3⟩
 replace hS := hS.frame (by repeat (first | exact Spl.nil | (apply Spl.cons (by repeat (exact Del.head))))) hC3 (by intro r hr g hg; simp only [List.mem_cons, List.not_mem_nil, or_false] at hr; rcases hr with rfl | rfl | rfl <;> first | (simp [Res.reads] at hg; done) | exact .inr ⟨_, by simp, .inr hg⟩)
 simp only [List.cons_append, List.nil_append] at hS
 try simp only [opv, nZ, Value.cells]
 refine s_go (s_not) ?_
 try simp only [opv, nZ, Value.cells]
 refine x_nil ?_
 refine hK4 _ _ ?_
 refine x_cond (ht := fun hc1 => ?_) (hf := fun hc1 => ?_)
 ·
  try simp only [decide_eq_true_eq, decide_eq_false_iff_not, Bool.not_eq_true', Bool.not_eq_false', Int.not_lt, Int.not_le, ne_eq, Decidable.not_not, bne_iff_ne, beq_iff_eq, not_true_eq_false, not_false_eq_true] at hc1
  have h1 : ¬ 1 ≤ xs.length := fun h => by rw [(take_in h 0).1] at hc1; exact absurd hc1 (by decide)
  have hN := namS_short h1
  simp only [(take_out h1).1, (take_out h1).2.1] at hS hcp2 hR2
  refine x_seq fun K5 hK5 => ?_
  refine x_region ?_
  refine s_go (s_build_arr (cells := #[.int .u8 0, .int .u8 0, .int .u8 0, .int .u8 0, .int .u8 0, .int .u8 0, .int .u8 0, .int .u8 0]) Tryz.underlying24 ti24 ti5 (hc := by simp only [List.map_toArray, List.map_cons, List.map_nil, opv, nZ, Value.cells, List.toList_toArray]; (repeat (refine fill_cons rfl rfl (Nat.le_of_ble_eq_true rfl) ?_)); rfl)) ?_
  try simp only [opv, nZ, Value.cells]
  refine m_store_obj ti24 (hS := hS) (h := fun w4 hS => ?_)
  try simp only [opv, nZ, Value.cells, Array.toArray_toList] at hS ⊢
  refine x_nil ?_
  refine hK5 _ _ ?_
  refine x_ret ?_
  refine r_cell_agg rfl Tryz.underlying24 ti24 (hS := hS) (hR := ?_)
  exact ⟨by rw [hN] <;> rfl, _, _, by rw [hN]; assumption, by rw [hN]; assumption, by rw [hN]; exact hS.sel (by repeat (first | exact Sel.nil | (refine Sel.cons (by repeat (exact Del.head)) ?_)))⟩
 ·
  try simp only [decide_eq_true_eq, decide_eq_false_iff_not, Bool.not_eq_true', Bool.not_eq_false', Int.not_lt, Int.not_le, ne_eq, Decidable.not_not, bne_iff_ne, beq_iff_eq, not_true_eq_false, not_false_eq_true] at hc1
  have h1 : 1 ≤ xs.length := Decidable.byContradiction fun h => by rw [(take_out h).1] at hc1; exact absurd hc1 (by decide)
  have hk1 : xs.getD 0 0 = (k : Int) := by rw [← hk, oneV, if_pos h1]
  have hdl : (xs.drop 1).length = xs.length - 1 := by simp
  simp only [(take_in h1 0).1, (take_in h1 0).2.1] at hS hcp2 hR2
  refine x_skip ?_
  refine hK3 _ _ ?_
  refine x_seq fun K6 hK6 => ?_
  refine x_seq fun K7 hK7 => ?_
  refine x_region ?_
  refine s_go (s_move) ?_
  try simp only [opv, nZ, Value.cells]
  refine s_go (s_gtr) ?_
  try simp only [opv, nZ, Value.cells]
  refine x_nil ?_
  refine hK7 _ _ ?_
  refine x_cond (ht := fun hc2 => ?_) (hf := fun hc2 => ?_)
  ·
   try simp only [decide_eq_true_eq, decide_eq_false_iff_not, Bool.not_eq_true', Bool.not_eq_false', Int.not_lt, Int.not_le, ne_eq, Decidable.not_not, bne_iff_ne, beq_iff_eq, not_true_eq_false, not_false_eq_true] at hc2
   have hN := namS_long h1 (by omega)
   refine x_seq fun K8 hK8 => ?_
   refine x_region ?_
   refine s_go (s_move) ?_
   try simp only [opv, nZ, Value.cells]
   refine s_call en86 ?_
   try simp only [opv, nZ, Value.cells, List.map_toArray, List.map_cons, List.map_nil, List.append_toArray, List.cons_append, List.nil_append, Array.append_empty]
   refine CallR.mono (c_cerr _ g 0 A2 c2 (xs.drop 1) hcp2 3 (hS.owns (by repeat (first | exact Spl.nil | (apply Spl.cons (by repeat (exact Del.head))))))) ?_
   rintro _ w5 ⟨rfl, A5, c5, hcp5, hR5, hC5⟩
   have hY5 := RdIn.trans hM hS (by repeat (first | exact Spl.nil | (apply Spl.cons (by repeat (exact Del.head))))) hR5 (by intro s hs q hb; simp only [List.mem_cons, List.not_mem_nil, or_false] at hs; rcases hs with rfl | rfl <;> first | (simp [Res.reads] at hb; done) | exact hR2 q hb)
   replace hS := hS.frame (by repeat (first | exact Spl.nil | (apply Spl.cons (by repeat (exact Del.head))))) hC5 (by intro r hr b hb; simp only [List.mem_cons, List.not_mem_nil, or_false] at hr; rcases hr with rfl | rfl <;> first | (simp [Res.reads] at hb; done) | exact hR5 b hb)
   replace hR5 := hY5
   simp only [List.cons_append, List.nil_append] at hS
   simp only [errE0, errX0 (show ¬ (3 : Int) = 0 by decide)] at hS hcp5 hR5
   try simp only [opv, nZ, Value.cells]
   refine x_nil ?_
   refine hK8 _ _ ?_
   refine x_seq fun K9 hK9 => ?_
   refine x_region ?_
   refine s_go (s_build_arr (cells := #[.int .u8 0, .int .u8 0, .int .u8 0, .int .u8 0, .int .u8 0, .int .u8 0, .int .u8 0, .int .u8 0]) Tryz.underlying24 ti24 ti5 (hc := by simp only [List.map_toArray, List.map_cons, List.map_nil, opv, nZ, Value.cells, List.toList_toArray]; (repeat (refine fill_cons rfl rfl (Nat.le_of_ble_eq_true rfl) ?_)); rfl)) ?_
   try simp only [opv, nZ, Value.cells]
   refine m_store_obj ti24 (hS := hS) (h := fun w6 hS => ?_)
   try simp only [opv, nZ, Value.cells, Array.toArray_toList] at hS ⊢
   refine x_nil ?_
   refine hK9 _ _ ?_
   refine x_ret ?_
   refine r_cell_agg rfl Tryz.underlying24 ti24 (hS := hS) (hR := ?_)
   exact ⟨by rw [hN] <;> rfl, _, _, by rw [hN]; assumption, by rw [hN]; assumption, by rw [hN]; exact hS.sel (by repeat (first | exact Sel.nil | (refine Sel.cons (by repeat (exact Del.head)) ?_)))⟩
  ·
   try simp only [decide_eq_true_eq, decide_eq_false_iff_not, Bool.not_eq_true', Bool.not_eq_false', Int.not_lt, Int.not_le, ne_eq, Decidable.not_not, bne_iff_ne, beq_iff_eq, not_true_eq_false, not_false_eq_true] at hc2
   refine x_skip ?_
   refine hK6 _ _ ?_
   refine x_seq fun K10 hK10 => ?_
   refine x_region ?_
   refine s_go (s_move) ?_
   try simp only [opv, nZ, Value.cells]
   refine s_go (s_move) ?_
   try simp only [opv, nZ, Value.cells]
   refine s_call en87 ?_
   try simp only [opv, nZ, Value.cells, List.map_toArray, List.map_cons, List.map_nil, List.append_toArray, List.cons_append, List.nil_append, Array.append_empty]
   refine CallR.mono (c_ctake _ g 0 A2 c2 (xs.drop 1) hcp2 k (by omega) (hS.owns (by repeat (first | exact Spl.nil | (apply Spl.cons (by repeat (exact Del.head))))))) ?_
   rintro _ w7 ⟨Ab, cb, Bb, rfl, hcpb, hRb, hQb, hCb⟩
   have hYb := RdIn.trans hM hS (by repeat (first | exact Spl.nil | (apply Spl.cons (by repeat (exact Del.head))))) hRb (by intro s hs q hb; simp only [List.mem_cons, List.not_mem_nil, or_false] at hs; rcases hs with rfl | rfl <;> first | (simp [Res.reads] at hb; done) | exact hR2 q hb)
   replace hS := hS.frame (by repeat (first | exact Spl.nil | (apply Spl.cons (by repeat (exact Del.head))))) hCb (by intro r hr b hb; simp only [List.mem_cons, List.not_mem_nil, or_false] at hr; rcases hr with rfl | rfl | rfl <;> first | (simp [Res.reads] at hb; done) | exact hRb b hb | exact hQb b hb)
   simp only [List.cons_append, List.nil_append] at hS
   replace hRb := hYb
   try simp only [opv, nZ, Value.cells]
   refine s_go (s_assign) ?_
   try simp only [opv, nZ, Value.cells]
   refine x_nil ?_
   refine hK10 _ _ ?_
   refine x_seq fun K11 hK11 => ?_
   refine x_seq fun K12 hK12 => ?_
   refine x_region ?_
   refine s_go (s_move) ?_
   try simp only [opv, nZ, Value.cells]
   refine s_call en104 ?_
   try simp only [opv, nZ, Value.cells, List.map_toArray, List.map_cons, List.map_nil, List.append_toArray, List.cons_append, List.nil_append, Array.append_empty]
   refine CallR.mono (c_cwell _ g (takeE 0 (xs.drop 1) k) Ab cb (takeX 0 (xs.drop 1) k) hcpb (hS.owns (by repeat (first | exact Spl.nil | (apply Spl.cons (by repeat (exact Del.head))))))) ?_
   rintro _ w8 ⟨rfl, hC8⟩
   replace hS := hS.frame (by repeat (first | exact Spl.nil | (apply Spl.cons (by repeat (exact Del.head))))) hC8 (by intro r hr g hg; simp only [List.mem_cons, List.not_mem_nil, or_false] at hr; rcases hr with rfl | rfl | rfl <;> first | (simp [Res.reads] at hg; done) | exact .inr ⟨_, by simp, .inr hg⟩)
   simp only [List.cons_append, List.nil_append] at hS
   try simp only [opv, nZ, Value.cells]
   refine s_go (s_not) ?_
   try simp only [opv, nZ, Value.cells]
   refine s_go (s_move) ?_
   try simp only [opv, nZ, Value.cells]
   refine s_part 25 rfl (fun hp1 => ?_) (fun hp1 => ?_)
   ·
    try simp only [n3, n4]
    try simp only [decide_eq_true_eq, decide_eq_false_iff_not, Bool.not_eq_true', Bool.not_eq_false', Int.not_lt, Int.not_le, ne_eq, Decidable.not_not] at hp1
    have h3 : ¬ k ≤ (xs.drop 1).length := fun h => by rw [(take_in h 0).1] at hp1; exact absurd hp1 (by decide)
    have hN := namS_cut h1 hk1 (by omega) h3
    simp only [(take_out h3).1, (take_out h3).2.1] at hS hcpb hRb
    refine g_off (yi (t := 25) rfl rfl) ?_
    try simp only [opv, nZ, Value.cells]
    refine g_off (yi (t := 25) rfl rfl) ?_
    try simp only [opv, nZ, Value.cells]
    refine s_go (s_pick_t) ?_
    try simp only [opv, nZ, Value.cells]
    refine x_nil ?_
    refine hK12 _ _ ?_
    refine x_cond_t (h := ?_)
    skip
    refine x_seq fun K13 hK13 => ?_
    refine x_region ?_
    refine s_go (s_build_arr (cells := #[.int .u8 0, .int .u8 0, .int .u8 0, .int .u8 0, .int .u8 0, .int .u8 0, .int .u8 0, .int .u8 0]) Tryz.underlying24 ti24 ti5 (hc := by simp only [List.map_toArray, List.map_cons, List.map_nil, opv, nZ, Value.cells, List.toList_toArray]; (repeat (refine fill_cons rfl rfl (Nat.le_of_ble_eq_true rfl) ?_)); rfl)) ?_
    try simp only [opv, nZ, Value.cells]
    refine m_store_obj ti24 (hS := hS) (h := fun w9 hS => ?_)
    try simp only [opv, nZ, Value.cells, Array.toArray_toList] at hS ⊢
    refine x_nil ?_
    refine hK13 _ _ ?_
    refine x_ret ?_
    refine r_cell_agg rfl Tryz.underlying24 ti24 (hS := hS) (hR := ?_)
    exact ⟨by rw [hN] <;> rfl, _, _, by rw [hN]; assumption, by rw [hN]; assumption, by rw [hN]; exact hS.sel (by repeat (first | exact Sel.nil | (refine Sel.cons (by repeat (exact Del.head)) ?_)))⟩
   ·
    try simp only [n3, n4]
    try simp only [decide_eq_true_eq, decide_eq_false_iff_not, Bool.not_eq_true', Bool.not_eq_false', Int.not_lt, Int.not_le, ne_eq, Decidable.not_not] at hp1
    have h3 : k ≤ (xs.drop 1).length := Decidable.byContradiction fun h => by rw [(take_out h).1] at hp1; exact absurd hp1 (by decide)
    simp only [(take_in h3 0).1, (take_in h3 0).2.1, (take_in h3 0).2.2] at hS hcpb hRb ⊢
    have htb : Byt ((xs.drop 1).take k) := (hw.drop 1).take k
    have htl : ((xs.drop 1).take k).length = k := by simp; omega
    have hol := ofN_len ((xs.drop 1).take k)
    obtain ⟨ns, hns⟩ : ∃ ns, (xs.drop 1).take k = ns := ⟨_, rfl⟩
    rw [hns] at htb htl hol hS ⊢
    refine g_on (yi (t := 25) rfl rfl) ?_
    refine s_go (s_move) ?_
    try simp only [opv, nZ, Value.cells]
    refine g_on (yi (t := 25) rfl rfl) ?_
    refine s_go (s_eql) ?_
    try simp only [opv, nZ, Value.cells]
    refine s_go (s_pick_f) ?_
    try simp only [opv, nZ, Value.cells]
    refine x_nil ?_
    refine hK12 _ _ ?_
    refine x_cond (ht := fun hc4 => ?_) (hf := fun hc4 => ?_)
    ·
     try simp only [decide_eq_true_eq, decide_eq_false_iff_not, Bool.not_eq_true', Bool.not_eq_false', Int.not_lt, Int.not_le, ne_eq, Decidable.not_not, bne_iff_ne, beq_iff_eq, not_true_eq_false, not_false_eq_true] at hc4
     have hN := namS_yes h1 hk1 (by omega) h3 (.inl (by omega))
     refine x_seq fun K14 hK14 => ?_
     refine x_region ?_
     refine s_go (s_build_arr (cells := #[.int .u8 0, .int .u8 0, .int .u8 0, .int .u8 0, .int .u8 0, .int .u8 0, .int .u8 0, .int .u8 0]) Tryz.underlying24 ti24 ti5 (hc := by simp only [List.map_toArray, List.map_cons, List.map_nil, opv, nZ, Value.cells, List.toList_toArray]; (repeat (refine fill_cons rfl rfl (Nat.le_of_ble_eq_true rfl) ?_)); rfl)) ?_
     try simp only [opv, nZ, Value.cells]
     refine m_store_obj ti24 (hS := hS) (h := fun w10 hS => ?_)
     try simp only [opv, nZ, Value.cells, Array.toArray_toList] at hS ⊢
     refine x_nil ?_
     refine hK14 _ _ ?_
     refine x_ret ?_
     refine r_cell_agg rfl Tryz.underlying24 ti24 (hS := hS) (hR := ?_)
     exact ⟨by rw [hN]; rw [show k = 0 by omega]; rfl, _, _, by rw [hN]; assumption, by rw [hN]; assumption, by rw [hN]; exact hS.sel (by repeat (first | exact Sel.nil | (refine Sel.cons (by repeat (exact Del.head)) ?_)))⟩
    ·
     try simp only [decide_eq_true_eq, decide_eq_false_iff_not, Bool.not_eq_true', Bool.not_eq_false', Int.not_lt, Int.not_le, ne_eq, Decidable.not_not, bne_iff_ne, beq_iff_eq, not_true_eq_false, not_false_eq_true] at hc4
     refine x_skip ?_
     refine hK11 _ _ ?_
     refine x_seq fun K15 hK15 => ?_
     refine x_region ?_
     refine s_go (s_move) ?_
     try simp only [opv, nZ, Value.cells]
     refine s_go (m_bytes_str Tryz.underlying33 Tryz.underlying9 Tryz.underlying5 (hS := hS)) ?_
     try simp only [opv, nZ, Value.cells]
     refine s_call en106 ?_
     try simp only [opv, nZ, Value.cells, List.map_toArray, List.map_cons, List.map_nil, List.append_toArray, List.cons_append, List.nil_append, Array.append_empty]
     refine CallR.mono (c_nameOf _ (by assumption) (by omega) _) ?_
     rintro _ w11 ⟨rfl, hE11⟩
     replace hS := hS.ext hE11
     try simp only [opv, nZ, Value.cells]
     refine s_go (s_move) ?_
     try simp only [opv, nZ, Value.cells]
     refine s_go (s_extract (hv := rfl)) ?_
     try simp only [List.getElem_toArray, List.getElem_cons_zero, List.getElem_cons_succ]
     try simp only [opv, nZ, Value.cells]
     refine s_go (s_extract (hv := rfl)) ?_
     try simp only [List.getElem_toArray, List.getElem_cons_zero, List.getElem_cons_succ]
     try simp only [opv, nZ, Value.cells]
     refine m_alloc ti24 hS (fun w12 g12 hS => ?_)
     try simp only [opv, nZ, Value.cells, Array.toArray_toList] at hS ⊢
     replace hS : St (OwnB [.obj g (.cells #[.int .i64 0, .slice A xs.length c] 63 (0, 0)), .rd A 1 xs.length (xs.map (Value.int .u8))]) w0 w12 (.obj _ (.cells (ic .u8 nm0) 24 (0, 0)) :: _) := hS
     refine m_store_obj ti24 (hS := hS) (h := fun w13 hS => ?_)
     try simp only [opv, nZ, Value.cells, Array.toArray_toList] at hS ⊢
     refine s_go (s_assign) ?_
     try simp only [opv, nZ, Value.cells]
     refine x_nil ?_
     refine hK15 _ _ ?_
     refine x_seq fun K16 hK16 => ?_
     refine x_seq fun K17 hK17 => ?_
     refine x_region ?_
     refine s_go (s_move) ?_
     try simp only [opv, nZ, Value.cells]
     refine s_go (s_neq) ?_
     try simp only [opv, nZ, Value.cells]
     refine x_nil ?_
     refine hK17 _ _ ?_
     refine x_cond (ht := fun hc5 => ?_) (hf := fun hc5 => ?_)
     ·
      try simp only [decide_eq_true_eq, decide_eq_false_iff_not, Bool.not_eq_true', Bool.not_eq_false', Int.not_lt, Int.not_le, ne_eq, Decidable.not_not, bne_iff_ne, beq_iff_eq, not_true_eq_false, not_false_eq_true] at hc5
      obtain ⟨hI, hof⟩ := ofN_no (ns := ns) hc5
      have hN := namS_no h1 hk1 (by omega) h3 (by omega) (by rw [hns, hI]; decide)
      rw [hof] at hS hol ⊢
      refine x_region ?_
      refine s_go (s_move) ?_
      try simp only [opv, nZ, Value.cells]
      refine s_go (s_move) ?_
      try simp only [opv, nZ, Value.cells]
      refine s_call en86 ?_
      try simp only [opv, nZ, Value.cells, List.map_toArray, List.map_cons, List.map_nil, List.append_toArray, List.cons_append, List.nil_append, Array.append_empty]
      refine CallR.mono (c_cerr _ g 0 Ab cb ((xs.drop 1).drop k) hcpb 3 (hS.owns (by repeat (first | exact Spl.nil | (apply Spl.cons (by repeat (first | exact Del.head | apply Del.tail))))))) ?_
      rintro _ w14 ⟨rfl, A14, c14, hcp14, hR14, hC14⟩
      have hY14 := RdIn.trans hM hS (by repeat (first | exact Spl.nil | (apply Spl.cons (by repeat (first | exact Del.head | apply Del.tail))))) hR14 (by intro s hs q hb; simp only [List.mem_cons, List.not_mem_nil, or_false] at hs; rcases hs with rfl | rfl <;> first | (simp [Res.reads] at hb; done) | exact hRb q hb)
      replace hS := hS.frame (by repeat (first | exact Spl.nil | (apply Spl.cons (by repeat (first | exact Del.head | apply Del.tail))))) hC14 (by intro r hr b hb; simp only [List.mem_cons, List.not_mem_nil, or_false] at hr; rcases hr with rfl | rfl <;> first | (simp [Res.reads] at hb; done) | exact hR14 b hb)
      replace hR14 := hY14
      simp only [List.cons_append, List.nil_append] at hS
      simp only [errE0, errX0 (show ¬ (3 : Int) = 0 by decide)] at hS hcp14 hR14
      try simp only [opv, nZ, Value.cells]
      refine x_nil ?_
      refine hK16 _ _ ?_
      refine x_seq fun K18 hK18 => ?_
      refine x_region ?_
      refine s_go (m_load_row Tryz.underlying24 (hi := ti24) (hS := hS)) ?_
      try simp only [opv, nZ, Value.cells, List.getElem_toArray, List.getElem_cons_zero, List.getElem_cons_succ]
      refine m_store_obj ti24 (hS := hS) (h := fun w15 hS => ?_)
      try simp only [opv, nZ, Value.cells, Array.toArray_toList] at hS ⊢
      refine x_nil ?_
      refine hK18 _ _ ?_
      refine x_ret ?_
      refine r_cell_agg rfl Tryz.underlying24 ti24 (hS := hS) (hR := ?_)
      exact ⟨by rw [hN] <;> rfl, _, _, by rw [hN]; assumption, by rw [hN]; assumption, by rw [hN]; exact hS.sel (by repeat (first | exact Sel.nil | (refine Sel.cons (by repeat (exact Del.head)) ?_)))⟩
     ·
      try simp only [decide_eq_true_eq, decide_eq_false_iff_not, Bool.not_eq_true', Bool.not_eq_false', Int.not_lt, Int.not_le, ne_eq, Decidable.not_not, bne_iff_ne, beq_iff_eq, not_true_eq_false, not_false_eq_true] at hc5
      obtain ⟨hI, hof⟩ := ofN_yes (ns := ns) hc5
      have hN := namS_yes h1 hk1 (by omega) h3 (.inr (by rw [hns]; exact hI))
      rw [hof] at hS hol ⊢
      refine x_skip ?_
      refine hK16 _ _ ?_
      refine x_seq fun K19 hK19 => ?_
      refine x_region ?_
      refine s_go (m_load_row Tryz.underlying24 (hi := ti24) (hS := hS)) ?_
      try simp only [opv, nZ, Value.cells, List.getElem_toArray, List.getElem_cons_zero, List.getElem_cons_succ]
      refine m_store_obj ti24 (hS := hS) (h := fun w16 hS => ?_)
      try simp only [opv, nZ, Value.cells, Array.toArray_toList] at hS ⊢
      refine x_nil ?_
      refine hK19 _ _ ?_
      refine x_ret ?_
      refine r_cell_agg rfl Tryz.underlying24 ti24 (hS := hS) (hR := ?_)
      exact ⟨by rw [hN, hns], _, _, by rw [hN]; assumption, by rw [hN]; assumption, by rw [hN]; exact hS.selA⟩
theorem c_onceNm (w0 : World) (g : Nat) (e : Int) (A : Option Addr) (c : Nat) (xs : List Int) (hc : xs.length ≤ c) (hw : Byt xs) (hn : xs.length ≤ 1000000000) (hM : St (OwnB [.obj g (.cells #[.int .i64 e, .slice A xs.length c] 63 (0, 0)), .rd A 1 xs.length (xs.map (Value.int .u8))]) w0 w0 [.obj g (.cells #[.int .i64 e, .slice A xs.length c] 63 (0, 0)), .rd A 1 xs.length (xs.map (Value.int .u8))]) :
    CallR Tryz.prog 88 #[.pointer (some ⟨g, 0, none⟩), .func (.func 89) #[] #[]] w0 fun v w' => v = .agg (ic .u8 (namS e xs).1) ∧ CuSt w0 w' [.obj g (.cells #[.int .i64 e, .slice A xs.length c] 63 (0, 0)), .rd A 1 xs.length (xs.map (Value.int .u8))] g (namS e xs).2.1 (namS e xs).2.2 [] := by
 have hS := hM
 have h0l : nm0.length = 8 := rfl
 have hnl := namS_len 0 xs
 refine c_enter (l := [.pointer (some ⟨g, 0, none⟩), .func (.func 89) #[] #[], undef, undef, undef, undef, undef, undef, undef, undef, undef, undef, undef, undef, undef, undef, undef, undef]) Tryz.func88 rfl (by simp only [Tryz.ntmps88, List.size_toArray, List.length_cons, List.length_nil, Nat.reduceAdd, Nat.reduceSub, Array.replicate_succ, Array.replicate_zero, List.push_toArray, List.append_toArray, List.nil_append, List.cons_append]) ?_
 refine x_seq fun K1 hK1 => ?_
 refine x_region ?_
 refine m_alloc ti24 hS (fun w1 g1 hS => ?_)
 try simp only [opv, nZ, Value.cells, Array.toArray_toList] at hS ⊢
 replace hS : St (OwnB [.obj g (.cells #[.int .i64 e, .slice A xs.length c] 63 (0, 0)), .rd A 1 xs.length (xs.map (Value.int .u8))]) w0 w1 (.obj _ (.cells (ic .u8 nm0) 24 (0, 0)) :: [.obj g (.cells #[.int .i64 e, .slice A xs.length c] 63 (0, 0)), .rd A 1 xs.length (xs.map (Value.int .u8))]) := hS
 refine x_nil ?_
 refine hK1 _ _ ?_
 refine x_seq fun K2 hK2 => ?_
 refine x_region ?_
 refine m_alloc ti24 hS (fun w2 g2 hS => ?_)
 try simp only [opv, nZ, Value.cells, Array.toArray_toList] at hS ⊢
 replace hS : St (OwnB [.obj g (.cells #[.int .i64 e, .slice A xs.length c] 63 (0, 0)), .rd A 1 xs.length (xs.map (Value.int .u8))]) w0 w2 (.obj _ (.cells (ic .u8 nm0) 24 (0, 0)) :: .obj _ (.cells (ic .u8 nm0) 24 (0, 0)) :: [.obj g (.cells #[.int .i64 e, .slice A xs.length c] 63 (0, 0)), .rd A 1 xs.length (xs.map (Value.int .u8))]) := hS
 refine x_nil ?_
 refine hK2 _ _ ?_
 refine x_seq fun K3 hK3 => ?_
 refine x_seq fun K4 hK4 => ?_
 refine x_region ?_
 refine s_go (s_move) ?_
 try simp only [opv, nZ, Value.cells]
 refine s_call en104 ?_
 try simp only [opv, nZ, Value.cells, List.map_toArray, List.map_cons, List.map_nil, List.append_toArray, List.cons_append, List.nil_append, Array.append_empty]
 refine CallR.mono (c_cwell _ g (e) A c (xs) hc (hS.owns (by repeat (first | exact Spl.nil | (apply Spl.cons (by repeat (first | exact Del.head | apply Del.tail))))))) ?_
 rintro _ w3 ⟨rfl, hC3⟩
 replace hS := hS.frame (by repeat (first | exact Spl.nil | (apply Spl.cons (by repeat (first | exact Del.head | apply Del.tail))))) hC3 (by intro r hr g hg; simp only [List.mem_cons, List.not_mem_nil, or_false] at hr; rcases hr with rfl | rfl | rfl <;> first | (simp [Res.reads] at hg; done) | exact .inr ⟨_, by simp, .inr hg⟩)
 simp only [List.cons_append, List.nil_append] at hS
 try simp only [opv, nZ, Value.cells]
 refine s_go (s_not) ?_
 try simp only [opv, nZ, Value.cells]
 refine x_nil ?_
 refine hK4 _ _ ?_
 refine x_cond (ht := fun hc1 => ?_) (hf := fun hc1 => ?_)
 ·
  try simp only [decide_eq_true_eq, decide_eq_false_iff_not, Bool.not_eq_true', Bool.not_eq_false', Int.not_lt, Int.not_le, ne_eq, Decidable.not_not, bne_iff_ne, beq_iff_eq, not_true_eq_false, not_false_eq_true] at hc1
  have hN := namS_err (xs := xs) (by simpa using hc1)
  refine x_seq fun K5 hK5 => ?_
  refine x_region ?_
  refine s_go (m_load_row Tryz.underlying24 (hi := ti24) (hS := hS)) ?_
  try simp only [opv, nZ, Value.cells, List.getElem_toArray, List.getElem_cons_zero, List.getElem_cons_succ]
  refine m_store_obj ti24 (hS := hS) (h := fun w4 hS => ?_)
  try simp only [opv, nZ, Value.cells, Array.toArray_toList] at hS ⊢
  refine x_nil ?_
  refine hK5 _ _ ?_
  refine x_ret ?_
  refine r_cell_agg rfl Tryz.underlying24 ti24 (hS := hS) (hR := ?_)
  exact ⟨by rw [hN], A, c, by rw [hN]; exact hc, by rw [hN]; exact RdIn.self (List.mem_cons_of_mem _ (List.mem_cons_self ..)), by rw [hN]; exact hS.sel (by repeat (first | exact Sel.nil | (refine Sel.cons (by repeat (exact Del.head)) ?_)))⟩
 ·
  try simp only [decide_eq_true_eq, decide_eq_false_iff_not, Bool.not_eq_true', Bool.not_eq_false', Int.not_lt, Int.not_le, ne_eq, Decidable.not_not, bne_iff_ne, beq_iff_eq, not_true_eq_false, not_false_eq_true] at hc1
  have he0 : e = 0 := by simpa using hc1
  subst he0
  refine x_skip ?_
  refine hK3 _ _ ?_
  refine x_seq fun K6 hK6 => ?_
  refine x_seq fun K7 hK7 => ?_
  refine x_region ?_
  refine s_go (s_move) ?_
  try simp only [opv, nZ, Value.cells]
  refine s_go (s_move) ?_
  try simp only [opv, nZ, Value.cells]
  refine s_callv (hv := rfl) en89 ?_
  try simp only [opv, nZ, Value.cells, List.map_toArray, List.map_cons, List.map_nil, List.append_toArray, List.cons_append, List.nil_append, Array.append_empty]
  refine CallR.mono (c_cnamed _ g A c xs hc hw hn (hS.owns (by repeat (first | exact Spl.nil | (apply Spl.cons (by repeat (exact Del.head))))))) ?_
  rintro _ w5 ⟨rfl, Aa, ca, hcpa, hRa, hCa⟩
  have hYa := RdIn.trans hM hS (by repeat (first | exact Spl.nil | (apply Spl.cons (by repeat (exact Del.head))))) hRa (by intro s hs q hb; simp only [List.mem_cons, List.not_mem_nil, or_false] at hs; rcases hs with rfl | rfl <;> first | (simp [Res.reads] at hb; done) | exact .inr ⟨_, List.mem_cons_of_mem _ (List.mem_cons_self ..), .inr hb⟩)
  replace hS := hS.frame (by repeat (first | exact Spl.nil | (apply Spl.cons (by repeat (exact Del.head))))) hCa (by intro r hr b hb; simp only [List.mem_cons, List.not_mem_nil, or_false] at hr; rcases hr with rfl | rfl <;> first | (simp [Res.reads] at hb; done) | exact hRa b hb)
  replace hRa := hYa
  simp only [List.cons_append, List.nil_append] at hS
  try simp only [opv, nZ, Value.cells]
  refine m_alloc ti24 hS (fun w6 g6 hS => ?_)
  try simp only [opv, nZ, Value.cells, Array.toArray_toList] at hS ⊢
  replace hS : St (OwnB [.obj g (.cells #[.int .i64 0, .slice A xs.length c] 63 (0, 0)), .rd A 1 xs.length (xs.map (Value.int .u8))]) w0 w6 (.obj _ (.cells (ic .u8 nm0) 24 (0, 0)) :: _) := hS
  refine m_store_obj ti24 (hS := hS) (h := fun w7 hS => ?_)
  try simp only [opv, nZ, Value.cells, Array.toArray_toList] at hS ⊢
  refine x_nil ?_
  refine hK7 _ _ ?_
  refine x_seq fun K8 hK8 => ?_
  refine x_region ?_
  refine s_go (s_move) ?_
  try simp only [opv, nZ, Value.cells]
  refine s_call en104 ?_
  try simp only [opv, nZ, Value.cells, List.map_toArray, List.map_cons, List.map_nil, List.append_toArray, List.cons_append, List.nil_append, Array.append_empty]
  refine CallR.mono (c_cwell _ g ((namS 0 xs).2.1) Aa ca ((namS 0 xs).2.2) hcpa (hS.owns (by repeat (first | exact Spl.nil | (apply Spl.cons (by repeat (first | exact Del.head | apply Del.tail))))))) ?_
  rintro _ w8 ⟨rfl, hC8⟩
  replace hS := hS.frame (by repeat (first | exact Spl.nil | (apply Spl.cons (by repeat (first | exact Del.head | apply Del.tail))))) hC8 (by intro r hr g hg; simp only [List.mem_cons, List.not_mem_nil, or_false] at hr; rcases hr with rfl | rfl | rfl <;> first | (simp [Res.reads] at hg; done) | exact .inr ⟨_, by simp, .inr hg⟩)
  simp only [List.cons_append, List.nil_append] at hS
  try simp only [opv, nZ, Value.cells]
  refine x_nil ?_
  refine hK8 _ _ ?_
  refine x_cond (ht := fun hc2 => ?_) (hf := fun hc2 => ?_)
  ·
   try simp only [decide_eq_true_eq, decide_eq_false_iff_not, Bool.not_eq_true', Bool.not_eq_false', Int.not_lt, Int.not_le, ne_eq, Decidable.not_not, bne_iff_ne, beq_iff_eq, not_true_eq_false, not_false_eq_true] at hc2
   refine x_seq fun K9 hK9 => ?_
   refine x_region ?_
   refine s_go (m_load_row Tryz.underlying24 (hi := ti24) (hS := hS)) ?_
   try simp only [opv, nZ, Value.cells, List.getElem_toArray, List.getElem_cons_zero, List.getElem_cons_succ]
   refine m_store_obj ti24 (hS := hS) (h := fun w9 hS => ?_)
   try simp only [opv, nZ, Value.cells, Array.toArray_toList] at hS ⊢
   refine x_nil ?_
   refine hK9 _ _ ?_
   refine x_ret ?_
   refine r_cell_agg rfl Tryz.underlying24 ti24 (hS := hS) (hR := ?_)
   exact ⟨rfl, _, _, by assumption, by assumption, hS.sel (by repeat (first | exact Sel.nil | (refine Sel.cons (by repeat (exact Del.head)) ?_)))⟩
  ·
   try simp only [decide_eq_true_eq, decide_eq_false_iff_not, Bool.not_eq_true', Bool.not_eq_false', Int.not_lt, Int.not_le, ne_eq, Decidable.not_not, bne_iff_ne, beq_iff_eq, not_true_eq_false, not_false_eq_true] at hc2
   have hx0 := namS_bad (by simpa using hc2)
   refine x_skip ?_
   refine hK6 _ _ ?_
   refine x_seq fun K10 hK10 => ?_
   refine x_region ?_
   refine s_go (m_load_row Tryz.underlying24 (hi := ti24) (hS := hS)) ?_
   try simp only [opv, nZ, Value.cells, List.getElem_toArray, List.getElem_cons_zero, List.getElem_cons_succ]
   refine m_store_obj ti24 (hS := hS) (h := fun w10 hS => ?_)
   try simp only [opv, nZ, Value.cells, Array.toArray_toList] at hS ⊢
   refine x_nil ?_
   refine hK10 _ _ ?_
   refine x_ret ?_
   refine r_cell_agg rfl Tryz.underlying24 ti24 (hS := hS) (hR := ?_)
   exact ⟨by rw [hx0], _, _, by assumption, by assumption, hS.sel (by repeat (first | exact Sel.nil | (refine Sel.cons (by repeat (exact Del.head)) ?_)))⟩
theorem c_cName (w0 : World) (g : Nat) (e : Int) (A : Option Addr) (c : Nat) (xs : List Int) (hc : xs.length ≤ c) (hw : Byt xs) (hn : xs.length ≤ 1000000000) (hM : St (OwnB [.obj g (.cells #[.int .i64 e, .slice A xs.length c] 63 (0, 0)), .rd A 1 xs.length (xs.map (Value.int .u8))]) w0 w0 [.obj g (.cells #[.int .i64 e, .slice A xs.length c] 63 (0, 0)), .rd A 1 xs.length (xs.map (Value.int .u8))]) :
    CallR Tryz.prog 51 #[.pointer (some ⟨g, 0, none⟩)] w0 fun v w' => v = .agg (ic .u8 (namS e xs).1) ∧ CuSt w0 w' [.obj g (.cells #[.int .i64 e, .slice A xs.length c] 63 (0, 0)), .rd A 1 xs.length (xs.map (Value.int .u8))] g (namS e xs).2.1 (namS e xs).2.2 [] := by
 have hS := hM
 have h0l : nm0.length = 8 := rfl
 have hnl := namS_len e xs
 refine c_enter (l := [.pointer (some ⟨g, 0, none⟩), undef, undef, undef, undef]) Tryz.func51 rfl (by simp only [Tryz.ntmps51, List.size_toArray, List.length_cons, List.length_nil, Nat.reduceAdd, Nat.reduceSub, Array.replicate_succ, Array.replicate_zero, List.push_toArray, List.append_toArray, List.nil_append, List.cons_append]) ?_
 refine x_seq fun K1 hK1 => ?_
 refine x_region ?_
 refine m_alloc ti24 hS (fun w1 g1 hS => ?_)
 try simp only [opv, nZ, Value.cells, Array.toArray_toList] at hS ⊢
 replace hS : St (OwnB [.obj g (.cells #[.int .i64 e, .slice A xs.length c] 63 (0, 0)), .rd A 1 xs.length (xs.map (Value.int .u8))]) w0 w1 (.obj _ (.cells (ic .u8 nm0) 24 (0, 0)) :: [.obj g (.cells #[.int .i64 e, .slice A xs.length c] 63 (0, 0)), .rd A 1 xs.length (xs.map (Value.int .u8))]) := hS
 refine x_nil ?_
 refine hK1 _ _ ?_
 refine x_seq fun K2 hK2 => ?_
 refine x_region ?_
 refine s_go (s_move) ?_
 try simp only [opv, nZ, Value.cells]
 refine s_call en88 ?_
 try simp only [opv, nZ, Value.cells, List.map_toArray, List.map_cons, List.map_nil, List.append_toArray, List.cons_append, List.nil_append, Array.append_empty]
 refine CallR.mono (c_onceNm _ g e A c xs hc hw hn (hS.owns (by repeat (first | exact Spl.nil | (apply Spl.cons (by repeat (first | exact Del.head | apply Del.tail))))))) ?_
 rintro _ w2 ⟨rfl, A2, c2, hcp2, hR2, hC2⟩
 have hY2 := RdIn.trans hM hS (by repeat (first | exact Spl.nil | (apply Spl.cons (by repeat (first | exact Del.head | apply Del.tail))))) hR2 (by intro s hs q hb; simp only [List.mem_cons, List.not_mem_nil, or_false] at hs; rcases hs with rfl | rfl <;> first | (simp [Res.reads] at hb; done) | exact .inr ⟨_, List.mem_cons_of_mem _ (List.mem_cons_self ..), .inr hb⟩)
 replace hS := hS.frame (by repeat (first | exact Spl.nil | (apply Spl.cons (by repeat (first | exact Del.head | apply Del.tail))))) hC2 (by intro r hr b hb; simp only [List.mem_cons, List.not_mem_nil, or_false] at hr; rcases hr with rfl | rfl <;> first | (simp [Res.reads] at hb; done) | exact hR2 b hb)
 replace hR2 := hY2
 simp only [List.cons_append, List.nil_append] at hS
 try simp only [opv, nZ, Value.cells]
 refine m_store_obj ti24 (hS := hS) (h := fun w3 hS => ?_)
 try simp only [opv, nZ, Value.cells, Array.toArray_toList] at hS ⊢
 refine x_nil ?_
 refine hK2 _ _ ?_
 refine x_ret ?_
 refine r_cell_agg rfl Tryz.underlying24 ti24 (hS := hS) (hR := ?_)
 exact ⟨rfl, _, _, by assumption, by assumption, hS.sel (by repeat (first | exact Sel.nil | (refine Sel.cons (by repeat (exact Del.head)) ?_)))⟩
theorem c_cFail (w0 : World) (g : Nat) (e : Int) (A : Option Addr) (c : Nat) (xs : List Int) (hc : xs.length ≤ c) (e' : Int) (hM : St (OwnB [.obj g (.cells #[.int .i64 e, .slice A xs.length c] 63 (0, 0)), .rd A 1 xs.length (xs.map (Value.int .u8))]) w0 w0 [.obj g (.cells #[.int .i64 e, .slice A xs.length c] 63 (0, 0)), .rd A 1 xs.length (xs.map (Value.int .u8))]) :
    CallR Tryz.prog 58 #[.pointer (some ⟨g, 0, none⟩), .int .i64 e'] w0 fun v w' => v = .tuple #[] ∧ CuSt w0 w' [.obj g (.cells #[.int .i64 e, .slice A xs.length c] 63 (0, 0)), .rd A 1 xs.length (xs.map (Value.int .u8))] g (errE e e') (errX e e' xs) [] := by
 have hS := hM
 refine c_enter (l := [.pointer (some ⟨g, 0, none⟩), .int .i64 e', undef, undef, undef, undef, undef, undef, undef]) Tryz.func58 rfl (by simp only [Tryz.ntmps58, List.size_toArray, List.length_cons, List.length_nil, Nat.reduceAdd, Nat.reduceSub, Array.replicate_succ, Array.replicate_zero, List.push_toArray, List.append_toArray, List.nil_append, List.cons_append]) ?_
 refine x_seq fun K1 hK1 => ?_
 refine x_region ?_
 refine s_go (s_move) ?_
 try simp only [opv, nZ, Value.cells]
 refine s_go (s_neq_pointer Tryz.underlying39) ?_
 try simp only [opv, nZ, Value.cells]
 refine x_nil ?_
 refine hK1 _ _ ?_
 refine x_cond_t (h := ?_)
 refine x_region ?_
 refine s_go (s_move) ?_
 try simp only [opv, nZ, Value.cells]
 refine s_go (s_move) ?_
 try simp only [opv, nZ, Value.cells]
 refine s_call en86 ?_
 try simp only [opv, nZ, Value.cells, List.map_toArray, List.map_cons, List.map_nil, List.append_toArray, List.cons_append, List.nil_append, Array.append_empty]
 refine CallR.mono (c_cerr _ g e A c xs hc e' (hS.owns (by repeat (first | exact Spl.nil | (apply Spl.cons (by repeat (exact Del.head))))))) ?_
 rintro _ w1 ⟨rfl, A1, c1, hcp1, hR1, hC1⟩
 have hY1 := RdIn.trans hM hS (by repeat (first | exact Spl.nil | (apply Spl.cons (by repeat (exact Del.head))))) hR1 (by intro s hs q hb; simp only [List.mem_cons, List.not_mem_nil, or_false] at hs; rcases hs with rfl | rfl <;> first | (simp [Res.reads] at hb; done) | exact .inr ⟨_, List.mem_cons_of_mem _ (List.mem_cons_self ..), .inr hb⟩)
 replace hS := hS.frame (by repeat (first | exact Spl.nil | (apply Spl.cons (by repeat (exact Del.head))))) hC1 (by intro r hr b hb; simp only [List.mem_cons, List.not_mem_nil, or_false] at hr; rcases hr with rfl | rfl <;> first | (simp [Res.reads] at hb; done) | exact hR1 b hb)
 replace hR1 := hY1
 simp only [List.cons_append, List.nil_append] at hS
 try simp only [opv, nZ, Value.cells]
 refine x_nil ?_
 refine r_none rfl ?_
 exact ⟨rfl, _, _, by assumption, by assumption, hS.sel (by repeat (first | exact Sel.nil | (refine Sel.cons (by repeat (exact Del.head)) ?_)))⟩
end Go.Proofs.YtpjpaipkkcengaaGreat
namespace Go.Proofs.YtpjpaipkkcengaaGreat
open Go.ChangeShapes Go.WideShapes Go.ChangeAt Go.RowKit
section
variable {H : Type} {enc : TypeId × Value → H} {P : Program}
theorem trodAll_stays {W W' : World} {sp : Nat → Bool} (hl : laidOutB P = true) (hsame : ∀ p : MemPlace, p.block < W.heap.size → W.sameAt W' p) :
    ∀ (ts : List TypeId) (vs : List Value) (ds : List (DataW H)) (ps : List MemPlace), (ts.all fun t => P.readableRec t && decide (t < P.types.size)) = true → (∀ p ∈ ps, p.block < W.heap.size) → (∀ p ∈ ps, sp p.block = true) →
      DataW.TrodAll enc P W 0 (fun _ => true) true ts vs ds ps → DataW.TrodAll enc P W' 0 sp true ts vs ds ps
  | [], [], [], _, _, _, _, h => h
  | t :: ts, v :: vs, d :: ds, ps, hr, hlt, hsp, h => by
    obtain ⟨p, q, h1, h2, rfl⟩ := h
    simp only [List.all_cons, Bool.and_eq_true, decide_eq_true_eq] at hr
    exact ⟨p, q, WideElems.Trod_stays hl hr.1.1 hr.1.2 h1 (fun x hx => hsame x (hlt x (by simp [hx]))) (fun x hx => hsp x (by simp [hx])), trodAll_stays hl hsame ts vs ds q hr.2 (fun x hx => hlt x (by simp [hx])) (fun x hx => hsp x (by simp [hx])) h2, rfl⟩
  | [], _ :: _, _, _, _, _, _, h => by simp [DataW.TrodAll] at h
  | [], [], _ :: _, _, _, _, _, h => by simp [DataW.TrodAll] at h
  | _ :: _, [], _, _, _, _, _, h => by simp [DataW.TrodAll] at h
  | _ :: _, _ :: _, [], _, _, _, _, h => by simp [DataW.TrodAll] at h
theorem trodAll_len {W : World} {b : Nat} {sp : Nat → Bool} {hd : Bool} : ∀ (ts : List TypeId) (vs : List Value) (ds : List (DataW H)) (ps : List MemPlace), DataW.TrodAll enc P W b sp hd ts vs ds ps → ds.length = ts.length
  | [], [], [], _, _ => rfl
  | t :: ts, v :: vs, d :: ds, ps, h => by
    obtain ⟨p, q, h1, h2, rfl⟩ := h
    simp [trodAll_len ts vs ds q h2]
  | [], _ :: _, _, _, h => by simp [DataW.TrodAll] at h
  | [], [], _ :: _, _, h => by simp [DataW.TrodAll] at h
  | _ :: _, [], _, _, h => by simp [DataW.TrodAll] at h
  | _ :: _, _ :: _, [], _, h => by simp [DataW.TrodAll] at h
theorem post_of_below {f : Func} {s : ChangeSpec} {apart fresh handsOn again : Bool} {W W' : World} {args : Array Value} {v : Value} {ds gs : List (DataW H)} {before pa pv : List MemPlace}
    (hW : DataW.Whole enc P f.params.toList s.vars apart W args.toList ds gs before)
    (hres : ∀ (b : Nat) (sp : Nat → Bool) (hd : Bool), DataW.TrodAll enc P W' b sp hd f.resultTypes.toList (v.resultList f.resultTypes.size) (s.fn H (ds ++ gs)).results [])
    (hargs : ∀ sp : Nat → Bool, (∀ p ∈ before, sp p.block = true) → DataW.TrodAll enc P W' 0 sp true f.params.toList args.toList (s.fn H (ds ++ gs)).args pa)
    (hvars : ∀ sp : Nat → Bool, (∀ p ∈ before, sp p.block = true) → DataW.TrodVars enc P W' sp s.vars (s.fn H (ds ++ gs)).vars pv)
    (hps : before = pa ++ pv) (hb : Below W.heap.size W W')
    (hok : ∀ (j : Nat) (t : TypeId) (r : Value), f.resultTypes[j]? = some t → (v.resultList f.resultTypes.size)[j]? = some r → Value.okWide P W' .any 0 t r) :
    s.post enc P f apart fresh handsOn again W args v W' := by
  have hlt : ∀ p ∈ before, p.block < W.heap.size := fun p hp => hW.lt p hp
  have hold : ∀ p ∈ before, (fun b => decide (b < W.heap.size)) p.block = true := fun p hp => by simpa using hlt p hp
  refine ⟨ds, gs, before, [], pa, pv, hW, hres _ _ _, hargs _ hold, hvars _ hold, World.keptBut_mono (fun p hp => ⟨hp, ?_⟩) (hb.frame (· ∈ before)), fun _ => ?_⟩
  · rw [hps, List.mem_append] at hp
    exact Or.inr hp
  · obtain ⟨_, _, _, _, _, hz, hn⟩ := hW
    refine ⟨hok, _, _, ([] ++ pa) ++ pv, ⟨[] ++ pa, pv, trodAll_append (hargs _ (fun _ _ => rfl)) (hres _ _ _), hvars _ (fun _ _ => rfl), rfl, ?_, ?_⟩, ?_⟩
    · intro b off hp
      have hin : MemPlace.cell b off ∈ before := by rw [hps]; simpa using hp
      rw [hb.frozen (hlt _ hin)]
      exact hz b off hin
    · intro ha
      have := hn ha
      rw [hps] at this
      simpa using this
    · intro p hp _
      rw [hps]
      simpa using hp
end
theorem law_lifted {H : Type} {enc : TypeId × Value → H} {C : Checked} {os : Os} {k : FuncId} {fn : Func} {s : ChangeSpec} {conds : List PathCond} {tb : TypeId}
    (own : ownKnob C.prog.godebug = none) (started : os.Started) (noInit : C.prog.inits.idxOf? k = none) (hfn : C.prog.funcs[k]? = some fn)
    (i : Input) (fuel : Nat)
    (hv : (World.plainHolding C.prog os i).variablesB C.prog = true)
    (hr : ((World.plainHolding C.prog os i).heap.toList.drop C.prog.globals.size).take ((begin C.prog (fun _ _ => 0) default).world.heap.size - C.prog.globals.size) =
      (begin C.prog (fun _ _ => 0) default).world.heap.toList.drop C.prog.globals.size)
    (hok : Input.okWideB C.prog (World.plainHolding C.prog os i) k ⟨#[], i.args, []⟩ = true)
    (hpre : s.preB enc C.prog fn conds false (World.plainHolding C.prog os i).memory i.args fuel = true)
    (hsz : s.sizedB enc C.prog fn false (World.plainHolding C.prog os i).memory i.args fuel = true)
    (hl : laidOutB C.prog = true) (hvars : s.vars = []) (hpar : (fn.params.toList.all fun t => C.prog.readableRec t && decide (t < C.prog.types.size)) = true)
    (hspec : ∀ ds : List (DataW H), ds.length = fn.params.size → s.fn H ds = { results := [.lit (.bool true)], args := ds })
    (hres : fn.resultTypes = #[tb]) (hb : C.prog.underlying tb = some .bool)
    (walk : ∀ (W : World) (base : Nat) (args : Array Value) (ds : List (DataW H)) (ps : List MemPlace),
      (∀ (j : Nat) t v, fn.params[j]? = some t → args[j]? = some v → Value.okWide C.prog W .any base t v) →
      DataW.TrodAll enc C.prog W 0 (fun _ => true) true fn.params.toList args.toList ds ps →
      (∀ x ∈ DataW.weightsEach C.prog fn.params.toList ds, x ≤ reachBytes) →
      CallR C.prog k args W fun v W' => v = .bool true ∧ Ext W W') :
    ReturnsInHanded {} C os k .any (s.pre6 enc C.prog fn conds false) (s.post enc C.prog fn false true false false) := by
  refine returnsInHanded_of_change_sized (C := C) own started noInit hfn (ChangeSpec.witness6 (enc := enc) (C := C) false i fuel hv hr hok hpre hsz) ?_
  intro W base args ds gs before hval hW _ hwt _
  have hW' := hW
  obtain ⟨p, q, hA, hV, hpq, hfz, hnd⟩ := hW
  rw [hvars] at hV
  obtain ⟨rfl, rfl⟩ := trodVars_none hV
  have hlen := trodAll_len _ _ _ _ hA
  have hwt' : ∀ x ∈ DataW.weightsEach C.prog fn.params.toList ds, x ≤ reachBytes := by
    have e : s.plain.varTypes C.prog = [] := by simp [ChangeSpec.plain, DataSpec.varTypes, hvars]
    rw [e, List.append_nil, List.append_nil] at hwt
    simpa using hwt
  refine Calls.mono (walk W base args ds p hval hA hwt') fun e W' ⟨v, he, hv, hE⟩ => ⟨v, he, ?_⟩
  subst hv
  have hB := hE.below
  have hs := hspec ds (by simpa using hlen)
  have hlt : ∀ x ∈ before, x.block < W.heap.size := fun x hx => hW'.lt x hx
  have hpb : before = p := by rw [hpq]; simp
  refine post_of_below (pa := p) (pv := []) hW' ?_ ?_ ?_ ?_ hB ?_
  · intro b sp hd
    rw [hres, List.append_nil, hs]
    exact trodAll_mk1 (shut_bool hb true)
  · intro sp hsp
    rw [List.append_nil, hs]
    exact trodAll_stays hl (fun x hx => hB.same hx) _ _ _ _ hpar (fun x hx => hlt x (hpb ▸ hx)) (fun x hx => hsp x (hpb ▸ hx)) hA
  · intro sp _
    rw [List.append_nil, hs, hvars]
    rfl
  · rw [hpb]; simp
  · exact ok_one hres rfl (okWide_bool_mk hb true)
end Go.Proofs.YtpjpaipkkcengaaGreat
namespace Go.Proofs.YtpjpaipkkcengaaGreat
open Go.ChangeShapes Go.WideShapes Go.ChangeAt Go.RowKit
theorem add_at0 (g o k : Nat) : (⟨g, o, none⟩ : Addr).add k = ⟨g, o + k, none⟩ := by unfold Addr.add; split <;> simp_all
/-- what a cell may hold, in a world -/
def LK := World → Value → Prop
def LK.int (k : IntKind) : LK := fun _ v => ∃ n, v = .int k n ∧ (Lit.int k n).wf = true
def LK.bool : LK := fun _ v => ∃ b, v = .bool b
def AllOk (w : World) : List LK → List Value → Prop
  | [], [] => True
  | k :: ks, v :: vs => k w v ∧ AllOk w ks vs
  | _, _ => False
theorem AllOk.len {w : World} : ∀ {ks : List LK} {vs : List Value}, AllOk w ks vs → vs.length = ks.length
  | [], [], _ => rfl
  | _ :: _, _ :: _, h => by simp [AllOk.len h.2]
  | [], _ :: _, h => h.elim
  | _ :: _, [], h => h.elim
theorem AllOk.app {w : World} : ∀ {ks js : List LK} {vs us : List Value}, AllOk w ks vs → AllOk w js us → AllOk w (ks ++ js) (vs ++ us)
  | [], _, [], _, _, h => h
  | _ :: _, _, _ :: _, _, h, h' => ⟨h.1, AllOk.app h.2 h'⟩
  | [], _, _ :: _, _, h, _ => h.elim
  | _ :: _, _, [], _, h, _ => h.elim
/-- the cells of a type that holds no pointer -/
def Flat (P : Program) (t : TypeId) (ks : List LK) : Prop := ∀ {H : Type} (enc : TypeId × Value → H) (w : World) (base : Nat) (sp : Nat → Bool) (held : Bool) (fuel : Nat) (cs : List Value) (x : DataW H × List MemPlace),
  DataW.trod enc P w base sp held fuel t cs = some x → AllOk w ks cs
section
variable {P : Program} {t e : TypeId} {ks : List LK}
theorem flat_int {k : IntKind} (h : P.underlying t = some (.int k)) : Flat P t [.int k] := fun _ _ _ _ _ _ _ _ hx => by
  obtain ⟨n, rfl, _, hw⟩ := DataW.trod_int h hx
  exact ⟨⟨n, rfl, hw⟩, trivial⟩
theorem allOk_rep {w : World} {c : Nat} (hc : ks.length = c) : ∀ (n : Nat) (cs : List Value), cs.length = n * c → (∀ i, i < n → AllOk w ks ((cs.drop (i * c)).take c)) → AllOk w (List.replicate n ks).flatten cs
  | 0, cs, hl, _ => by
    have : cs = [] := List.eq_nil_of_length_eq_zero (by simpa using hl)
    subst this; trivial
  | n + 1, cs, hl, h => by
    rw [List.replicate_succ, List.flatten_cons, ← List.take_append_drop c cs]
    refine AllOk.app (by simpa using h 0 (by omega)) (allOk_rep hc n _ (by simp [hl, Nat.succ_mul]) fun i hi => ?_)
    have := h (i + 1) (by omega)
    rwa [List.drop_drop, Nat.add_comm c, ← Nat.succ_mul]
theorem flat_arr {n c : Nat} (h : P.underlying t = some (.array n e)) (he : Flat P e ks) (hc : ks.length = c) (hce : P.cellsOf e = c) (hct : P.cellsOf t = n * c) : Flat P t (List.replicate n ks).flatten := fun enc w base sp held fuel cs x hx => by
  obtain ⟨xs, m, _, _, hl, hxl, hi⟩ := DataW.trod_array h hx
  refine allOk_rep hc n cs (hl.trans hct) fun i hin => ?_
  have := hi i hin
  rw [hce] at this
  have hlt : i < xs.length := by omega
  rw [List.getElem?_eq_getElem hlt] at this
  exact he enc w base sp held m _ _ this
inductive FlatFs (P : Program) : List Field → Nat → List LK → Prop
  | nil {o : Nat} : FlatFs P [] o []
  | cons {f : Field} {fs : List Field} {o c : Nat} {k1 k2 : List LK} : f.offset = o → Flat P f.type k1 → k1.length = c → P.cellsOf f.type = c → FlatFs P fs (o + c) k2 → FlatFs P (f :: fs) o (k1 ++ k2)
theorem flatFs_run {H : Type} {enc : TypeId × Value → H} {w : World} {base : Nat} {sp : Nat → Bool} {held : Bool} {m : Nat} {fs : List Field} {o : Nat} {ks : List LK} (hf : FlatFs P fs o ks) :
    ∀ (cs : List Value), cs.length = o + ks.length → (∀ f ∈ fs, ∃ y, DataW.trod enc P w base sp held m f.type ((cs.drop f.offset).take (P.cellsOf f.type)) = some y) → AllOk w ks (cs.drop o) := by
  induction hf with
  | nil => intro cs hl _; rw [List.drop_eq_nil_of_le (by simp at hl; omega)]; trivial
  | @cons f fs o c k1 k2 ho hfl hk hc _ ih =>
    intro cs hl h
    have hl' : cs.length = o + c + k2.length := by simp at hl; omega
    rw [← List.take_append_drop c (cs.drop o), List.drop_drop]
    obtain ⟨y, hy⟩ := h f (by simp)
    rw [ho, hc] at hy
    exact AllOk.app (hfl _ _ _ _ _ _ _ _ hy) (ih cs hl' (fun g hg => h g (by simp [hg])))
theorem flat_struct {fs : Array Field} (h : P.underlying t = some (.struct fs)) (hf : FlatFs P fs.toList 0 ks) (hct : P.cellsOf t = ks.length) : Flat P t ks := fun enc w base sp held fuel cs x hx => by
  obtain ⟨xs, m, _, _, hl, hxl, hi⟩ := DataW.trod_struct h hx
  have := flatFs_run (enc := enc) (w := w) (base := base) (sp := sp) (held := held) (m := m) hf cs (by rw [hl, hct]; simp) (fun f hf => by
    obtain ⟨i, hi', e⟩ := List.getElem_of_mem hf
    have h1 := hi i f (by rw [← e]; simp at hi' ⊢)
    have hlt : i < xs.length := by simp at hi'; omega
    rw [List.getElem?_eq_getElem hlt] at h1
    exact ⟨_, h1⟩)
  simpa using this
end
section
variable {H : Type} {enc : TypeId × Value → H} {P : Program} {w : World} {base : Nat} {sp : Nat → Bool} {held : Bool} {t e : TypeId} {r : Reach} {b0 : Nat} {v : Value} {d : DataW H} {ps : List MemPlace} {ks : List LK}
/-- a struct or an array -/
theorem open_flat {dsc : TypeDesc} (hu : P.underlying t = some dsc) (hd : isAggD dsc = true) (hf : Flat P t ks) (hval : Value.okWide P w r b0 t v) (h : DataW.Trod enc P w base sp held t v d ps) : ∃ cs : List Value, v = .agg cs.toArray ∧ AllOk w ks cs := by
  have : ∃ cs : Array Value, v = .agg cs := by
    cases dsc <;> first | (cases hd; done) | (simp only [Value.okWide, hu] at hval; obtain ⟨cs, h1, _⟩ := hval; exact ⟨cs, h1⟩)
  obtain ⟨cs, rfl⟩ := this
  obtain ⟨n, hn⟩ := h
  exact ⟨cs.toList, by simp, hf _ _ _ _ _ _ _ _ hn⟩
/-- a slice's elements, out of the look at its cells -/
theorem slice_trod {sz : Nat} (hu : P.underlying t = some (.slice e)) (hf : Flat P e ks) (hk : ks.length = sz) (hce : P.cellsOf e = sz) (h0 : 0 < sz) {m : Nat} {cs : List Value} (hm : DataW.trod enc P w base sp held m t cs = some (d, ps)) :
    ∃ A n c xs, cs = [.slice A n c] ∧ n ≤ c ∧ c ≤ maxLen ∧ Rd w A sz n xs ∧ (∀ i, i < n → AllOk w ks ((xs.drop (i * sz)).take sz)) ∧ (n = 0 ∨ ∃ es rs, d = .slice es rs ∧ es.length = n) := by
  rcases DataW.trod_slice hu hm with ⟨e1, _⟩ | ⟨a, len, cap, elems, rest, n, _, e1, hx, hb, hlc, hcm, hel, hcells, _, _⟩
  · exact ⟨none, 0, 0, [], e1, Nat.le_refl _, Nat.zero_le _, ⟨by simp, fun h => absurd h (by omega)⟩, fun i hi => absurd hi (by omega), .inl rfl⟩
  · subst e1
    simp only [Prod.mk.injEq] at hx
    -- the elements' cells, one by one
    have hone : ∀ i, i < len → ∃ cs : List Value, cs.length = sz ∧ AllOk w ks cs ∧ ∀ j, j < sz → w.cell? ((a.add (i * sz)).add j) = cs[j]? := fun i hi => by
      have h1 := hcells i hi
      rw [hce] at h1
      have hlt : i < elems.length := by omega
      rw [List.getElem?_eq_getElem hlt] at h1
      cases hc : w.cells? base (a.add (i * sz)) sz with
      | none => rw [hc] at h1; cases h1
      | some cs =>
        rw [hc] at h1
        obtain ⟨_, hl, hj⟩ := World.cells?_some hc
        exact ⟨cs, hl, hf _ _ _ _ _ _ _ _ h1, hj⟩
    have hrow : ∀ n, n ≤ len → ∃ xs : List Value, xs.length = n * sz ∧ (∀ i, i < n → AllOk w ks ((xs.drop (i * sz)).take sz)) ∧ ∀ i j, i < n → j < sz → w.cell? ((a.add (i * sz)).add j) = xs[i * sz + j]? := by
      intro n
      induction n with
      | zero => exact fun _ => ⟨[], by simp, fun i hi => absurd hi (by omega), fun i j hi => absurd hi (by omega)⟩
      | succ n ih =>
        intro hn
        obtain ⟨xs, hl, hok, hc⟩ := ih (by omega)
        obtain ⟨cs, hcl, hcok, hcc⟩ := hone n (by omega)
        refine ⟨xs ++ cs, by simp [hl, hcl, Nat.succ_mul], fun i hi => ?_, fun i j hi hj => ?_⟩
        · rcases Nat.lt_or_ge i n with h | h
          · have h2 : i * sz + sz ≤ n * sz := by rw [← Nat.succ_mul]; exact Nat.mul_le_mul_right _ h
            rw [List.drop_append_of_le_length (by omega), List.take_append_of_le_length (by simp; omega)]
            exact hok i h
          · obtain rfl : i = n := by omega
            rw [List.drop_append, hl, List.drop_eq_nil_of_le (by omega)]
            simp only [Nat.sub_self, List.drop_zero, List.nil_append]
            rwa [List.take_of_length_le (by omega)]
        · rcases Nat.lt_or_ge i n with h | h
          · have h2 : i * sz + sz ≤ n * sz := by rw [← Nat.succ_mul]; exact Nat.mul_le_mul_right _ h
            rw [List.getElem?_append_left (by omega)]
            exact hc i j h hj
          · obtain rfl : i = n := by omega
            rw [List.getElem?_append_right (by omega), hl, Nat.add_sub_cancel_left]
            exact hcc j hj
    obtain ⟨xs, hl, hok, hc⟩ := hrow len (Nat.le_refl _)
    refine ⟨some a, len, cap, xs, rfl, hlc, hcm, ⟨hl, fun hn => ?_⟩, hok, .inr ⟨_, _, hx.1, by simpa using hel⟩⟩
    -- the address is a plain one
    have h0' := hc 0 0 hn h0
    have hlt : 0 < xs.length := by rw [hl]; exact Nat.mul_pos hn h0
    obtain ⟨b, o, spot⟩ := a
    simp only [Nat.zero_mul, Nat.add_zero, Addr.add, if_true] at h0'
    rw [List.getElem?_eq_getElem hlt] at h0'
    have hsp : spot = none := by
      unfold World.cell? at h0'
      split at h0'
      · split at h0'
        · cases h0'
        · rename_i hs; simpa using hs
      · cases h0'
    subst hsp
    refine ⟨b, o, rfl, World.block_lt_of_cell? _ _ h0', fun j u hu => ?_⟩
    have hj := (List.getElem?_eq_some_iff.1 hu).1
    have hdm := Nat.div_add_mod j sz
    have h3 := hc (j / sz) (j % sz) (by rw [hl] at hj; exact Nat.div_lt_of_lt_mul (by rw [Nat.mul_comm]; exact hj)) (Nat.mod_lt _ h0)
    have hdm' : j / sz * sz + j % sz = j := by rw [Nat.mul_comm]; exact hdm
    rw [add_at0, add_at0, Nat.add_assoc, hdm'] at h3
    rw [← hu, ← h3]
theorem open_slice {sz : Nat} (hu : P.underlying t = some (.slice e)) (hf : Flat P e ks) (hk : ks.length = sz) (hce : P.cellsOf e = sz) (h0 : 0 < sz) (hval : Value.okWide P w r b0 t v) (h : DataW.Trod enc P w base sp held t v d ps) :
    ∃ A n c xs, v = .slice A n c ∧ n ≤ c ∧ c ≤ maxLen ∧ Rd w A sz n xs ∧ (∀ i, i < n → AllOk w ks ((xs.drop (i * sz)).take sz)) ∧ (n = 0 ∨ ∃ es rs, d = .slice es rs ∧ es.length = n) := by
  obtain ⟨A, len, cap, rfl⟩ := okWide_slice hu hval
  obtain ⟨m, hm⟩ := h
  obtain ⟨A', n, c, xs, e1, h⟩ := slice_trod hu hf hk hce h0 hm
  simp [Value.cells] at e1
  obtain ⟨rfl, rfl, rfl⟩ := e1
  exact ⟨_, _, _, xs, rfl, h⟩
/-- a slice of integers -/
theorem allOk_int1 {w : World} {k : IntKind} : ∀ {vs : List Value}, (∀ i, i < vs.length → AllOk w [LK.int k] ((vs.drop (i * 1)).take 1)) → ∃ l : List Int, vs = l.map (Value.int k) ∧ l.length = vs.length ∧ ∀ x ∈ l, (Lit.int k x).wf = true
  | [], _ => ⟨[], rfl, rfl, by simp⟩
  | v :: vs, h => by
    have h0 := h 0 (by simp)
    simp only [Nat.zero_mul, List.drop_zero, List.take_succ_cons, List.take_zero] at h0
    obtain ⟨⟨x, rfl, hx⟩, _⟩ := h0
    obtain ⟨l, rfl, hl, hw⟩ := allOk_int1 (vs := vs) (fun i hi => by have := h (i + 1) (by simpa using hi); simpa using this)
    exact ⟨x :: l, rfl, by simp, by intro y hy; rcases List.mem_cons.1 hy with rfl | hy; exact hx; exact hw y hy⟩
theorem open_ints {k : IntKind} (hu : P.underlying t = some (.slice e)) (he : P.underlying e = some (.int k)) (hce : P.cellsOf e = 1) (hval : Value.okWide P w r b0 t v) (h : DataW.Trod enc P w base sp held t v d ps) :
    ∃ (A : Option Addr) (n c : Nat) (l : List Int), v = .slice A n c ∧ n ≤ c ∧ Rd w A 1 n (l.map (Value.int k)) ∧ l.length = n ∧ (∀ x ∈ l, (Lit.int k x).wf = true) ∧ (n = 0 ∨ ∃ es rs, d = .slice es rs ∧ es.length = n) := by
  obtain ⟨A, n, c, xs, rfl, hnc, _, hr, hok, hd⟩ := open_slice hu (flat_int he) rfl hce Nat.one_pos hval h
  have hl : xs.length = n := by simpa using hr.1
  obtain ⟨l, rfl, hll, hw⟩ := allOk_int1 (vs := xs) (fun i hi => hok i (by omega))
  exact ⟨A, n, c, l, rfl, hnc, hr, by omega, hw, hd⟩
/-- the weight of a slice -/
theorem slice_weight {t e : TypeId} {ts : List TypeId} {d : DataW H} {ds : List (DataW H)} {n by' : Nat} (hu : P.underlying t = some (.slice e)) (hby : P.bytesOf e = by') (h : ∀ x ∈ DataW.weightsEach P (t :: ts) (d :: ds), x ≤ reachBytes) (hd : n = 0 ∨ ∃ es rs, d = .slice es rs ∧ es.length = n) : n * by' ≤ reachBytes := by
  rcases hd with rfl | ⟨es, rs, rfl, rfl⟩
  · simp
  · have := h ((es.length + rs.length) * P.bytesOf e) (by simp [DataW.weightsEach, DataW.weights, hu])
    rw [hby] at this
    exact Nat.le_trans (Nat.mul_le_mul_right _ (by omega)) this
theorem rest_weight {t : TypeId} {ts : List TypeId} {d : DataW H} {ds : List (DataW H)} (h : ∀ x ∈ DataW.weightsEach P (t :: ts) (d :: ds), x ≤ reachBytes) : ∀ x ∈ DataW.weightsEach P ts ds, x ≤ reachBytes := fun x hx => h x (by simp [DataW.weightsEach, hx])
end
end Go.Proofs.YtpjpaipkkcengaaGreat
namespace Go.Proofs.YtpjpaipkkcengaaGreat
theorem allOk_zi {w : World} : ∀ {ks : List IntKind} {cs : List Value}, AllOk w (ks.map LK.int) cs → ∃ xs : List Int, cs = zi ks xs ∧ xs.length = ks.length ∧ ∀ i k, ks[i]? = some k → (Lit.int k (xs.getD i 0)).wf = true
  | [], [], _ => ⟨[], rfl, rfl, fun i k h => by simp at h⟩
  | [], _ :: _, h => h.elim
  | k :: ks, [], h => h.elim
  | k :: ks, v :: vs, ⟨⟨n, hn, hw⟩, h⟩ => by
    obtain ⟨xs, rfl, hl, hx⟩ := allOk_zi h
    refine ⟨n :: xs, by rw [hn]; rfl, by simp [hl], fun i k' hi => ?_⟩
    rcases i with _ | i
    · simp at hi; subst hi; simpa using hw
    · simpa using hx i k' (by simpa using hi)
theorem allOk_of {w : World} : ∀ {ks : List IntKind} {xs : List Int}, xs.length = ks.length → (∀ i k, ks[i]? = some k → (Lit.int k (xs.getD i 0)).wf = true) → AllOk w (ks.map LK.int) (zi ks xs)
  | [], [], _, _ => trivial
  | [], _ :: _, h, _ => by simp at h
  | _ :: _, [], h, _ => by simp at h
  | k :: ks, x :: xs, h, hx => ⟨⟨x, rfl, by simpa using hx 0 k rfl⟩, allOk_of (by simpa using h) fun i k' hi => by simpa using hx (i + 1) k' (by simpa using hi)⟩
theorem zi_inj : ∀ {ks : List IntKind} {xs ys : List Int}, xs.length = ks.length → ys.length = ks.length → zi ks xs = zi ks ys → xs = ys
  | [], [], [], _, _, _ => rfl
  | [], _ :: _, _, h, _, _ => by simp at h
  | [], [], _ :: _, _, h, _ => by simp at h
  | _ :: _, [], _, h, _, _ => by simp at h
  | _ :: _, _ :: _, [], _, h, _ => by simp at h
  | k :: ks, x :: xs, y :: ys, h1, h2, h => by
    simp only [zi, List.zipWith_cons_cons, List.cons.injEq, Value.int.injEq, true_and] at h
    rw [h.1, zi_inj (by simpa using h1) (by simpa using h2) h.2]
theorem wf_u8 {x : Int} (h : (Lit.int .u8 x).wf = true) : x = (x.toNat : Int) ∧ x.toNat < 256 := by have := bounds_u8 h; omega
theorem wf_u16 {x : Int} (h : (Lit.int .u16 x).wf = true) : x = (x.toNat : Int) ∧ x.toNat < 65536 := by have := bounds_u16 h; omega
theorem wf_u32 {x : Int} (h : (Lit.int .u32 x).wf = true) : x = (x.toNat : Int) ∧ x.toNat < 4294967296 := by have := bounds_u32 h; omega
theorem wf_u64 {x : Int} (h : (Lit.int .u64 x).wf = true) : x = (x.toNat : Int) ∧ x.toNat < 18446744073709551616 := by have := bounds_u64 h; omega
theorem key_open {w : World} {cs : List Value} (h : AllOk w (keyKs.map LK.int) cs) : ∃ x, cs = zi keyKs x ∧ KeyOk x := by
  obtain ⟨x, rfl, hl, hx⟩ := allOk_zi h
  refine ⟨x, rfl, hl, (wf_u8 (hx 0 _ rfl)).1, (wf_u8 (hx 0 _ rfl)).2, (wf_u16 (hx 1 _ rfl)).1, (wf_u16 (hx 1 _ rfl)).2, ?_, (wf_u8 (hx 10 _ rfl)).1, (wf_u8 (hx 10 _ rfl)).2, (wf_u32 (hx 11 _ rfl)).1, (wf_u32 (hx 11 _ rfl)).2⟩
  have hl : x.length = 12 := hl
  have hb : ∀ i, 2 ≤ i → i < 10 → 0 ≤ x.getD i 0 ∧ x.getD i 0 ≤ 255 := fun i h1 h2 => by
    have : keyKs[i]? = some .u8 := by
      have : i = 2 ∨ i = 3 ∨ i = 4 ∨ i = 5 ∨ i = 6 ∨ i = 7 ∨ i = 8 ∨ i = 9 := by omega
      rcases this with rfl | rfl | rfl | rfl | rfl | rfl | rfl | rfl <;> rfl
    exact bounds_u8 (hx i _ this)
  intro y hy
  obtain ⟨j, hj, rfl⟩ := List.getElem_of_mem hy
  have hj8 : j < 8 := by rw [kitem_len hl] at hj; exact hj
  have := hb (2 + j) (by omega) (by omega)
  rw [List.getD_eq_getElem?_getD, List.getElem?_eq_getElem (by omega)] at this
  simpa [kitem] using this
end Go.Proofs.YtpjpaipkkcengaaGreat
namespace Go.Proofs.YtpjpaipkkcengaaGreat
theorem val_open {w : World} {cs : List Value} (h : AllOk w (valKs.map LK.int) cs) : ∃ v, cs = zi valKs v ∧ ValOk v := by
  obtain ⟨x, rfl, hl, hx⟩ := allOk_zi h
  have hl : x.length = 9 := hl
  refine ⟨x, rfl, hl, (wf_u64 (hx 0 _ rfl)).1, (wf_u64 (hx 0 _ rfl)).2, ?_⟩
  have hb : ∀ i, 1 ≤ i → i < 9 → 0 ≤ x.getD i 0 ∧ x.getD i 0 ≤ 255 := fun i h1 h2 => by
    have : valKs[i]? = some .u8 := by
      have : i = 1 ∨ i = 2 ∨ i = 3 ∨ i = 4 ∨ i = 5 ∨ i = 6 ∨ i = 7 ∨ i = 8 := by omega
      rcases this with rfl | rfl | rfl | rfl | rfl | rfl | rfl | rfl <;> rfl
    exact bounds_u8 (hx i _ this)
  intro y hy
  obtain ⟨j, hj, rfl⟩ := List.getElem_of_mem hy
  have hj8 : j < 8 := by rw [vtext_len hl] at hj; exact hj
  have := hb (1 + j) (by omega) (by omega)
  rw [List.getD_eq_getElem?_getD, List.getElem?_eq_getElem (by omega)] at this
  simpa [vtext, Nat.add_comm] using this
theorem atom_open {w : World} {cs : List Value} (h : AllOk w (atomKs.map LK.int) cs) : ∃ a, cs = zi atomKs a ∧ AtomOk a := by
  obtain ⟨x, rfl, hl, hx⟩ := allOk_zi h
  have hl : x.length = 21 := hl
  have hk : AllOk w (keyKs.map LK.int) (zi keyKs (akey x)) := allOk_of (by simp [akey, hl]) fun i k hi => by
    have h12 : i < 12 := (List.getElem?_eq_some_iff.1 hi).1
    have e : (akey x).getD i 0 = x.getD i 0 := by simp [akey, List.getD_eq_getElem?_getD, List.getElem?_take_of_lt h12]
    rw [e]
    refine hx i k ?_
    have : atomKs = keyKs ++ valKs := rfl
    rw [this, List.getElem?_append_left h12]; exact hi
  have hv : AllOk w (valKs.map LK.int) (zi valKs (aval x)) := allOk_of (by simp [aval, hl]) fun i k hi => by
    have h9 : i < 9 := (List.getElem?_eq_some_iff.1 hi).1
    have e : (aval x).getD i 0 = x.getD (12 + i) 0 := by simp [aval, List.getD_eq_getElem?_getD]
    rw [e]
    refine hx (12 + i) k ?_
    have : atomKs = keyKs ++ valKs := rfl
    rw [this, List.getElem?_append_right (by simp)]; simpa using hi
  obtain ⟨k, ek, hk'⟩ := key_open hk
  obtain ⟨v, ev, hv'⟩ := val_open hv
  have ek' : akey x = k := zi_inj (ks := keyKs) (by simp [akey, hl]) hk'.len ek
  have ev' : aval x = v := zi_inj (ks := valKs) (by simp [aval, hl]) hv'.len ev
  exact ⟨x, rfl, hl, by rw [ek']; exact hk', by rw [ev']; exact hv'⟩
end Go.Proofs.YtpjpaipkkcengaaGreat
namespace Go.Proofs.YtpjpaipkkcengaaGreat
section
variable {α : Type} {cells : α → List Value} {sz : Nat}
end
structure Pc where
  d : Int
  x : Nat
  c : Int
  nm : List Int
  A : Option Addr
  cap : Nat
  b : List Int
  n : Int
theorem ic8 {l : List Int} (h : l.length = 8) : (#[.int .u8 (l.getD 0 0), .int .u8 (l.getD 1 0), .int .u8 (l.getD 2 0), .int .u8 (l.getD 3 0), .int .u8 (l.getD 4 0), .int .u8 (l.getD 5 0), .int .u8 (l.getD 6 0), .int .u8 (l.getD 7 0)] : Array Value) = ic .u8 l := by
  match l, h with
  | [_, _, _, _, _, _, _, _], _ => rfl
structure PcOk (w : World) (p : Pc) : Prop where
  d : -9223372036854775808 ≤ p.d ∧ p.d ≤ 9223372036854775807
  x : p.x < 18446744073709551616
  c : 0 ≤ p.c ∧ p.c ≤ 255
  nl : p.nm.length = 8
  nb : Byt p.nm
  rd : Rd w p.A 1 p.b.length (p.b.map (Value.int .u8))
  bb : Byt p.b
  bc : p.b.length ≤ p.cap
  bm : p.cap ≤ maxLen
  n : -9223372036854775808 ≤ p.n ∧ p.n ≤ 9223372036854775807
end Go.Proofs.YtpjpaipkkcengaaGreat
namespace Go.Proofs.YtpjpaipkkcengaaGreat
def pcOut (p : Pc) : List Int := if p.d = 0 then vari p.x else if p.d = 1 then [p.c] else if p.d = 2 then nmOut p.nm else vari p.b.length ++ p.b
/-- the cells of a piece -/
abbrev pA (d : Int) (x : Nat) (c : Int) (nm : List Int) (B : Option Addr) (m k : Nat) (n : Int) : Array Value := #[.int .i64 d, .int .u64 (x : Int), .int .u8 c, .int .u8 (nm.getD 0 0), .int .u8 (nm.getD 1 0), .int .u8 (nm.getD 2 0), .int .u8 (nm.getD 3 0), .int .u8 (nm.getD 4 0), .int .u8 (nm.getD 5 0), .int .u8 (nm.getD 6 0), .int .u8 (nm.getD 7 0), .slice B m k, .int .i64 n]
abbrev pP (p : Pc) : Array Value := pA p.d p.x p.c p.nm p.A p.b.length p.cap p.n
end Go.Proofs.YtpjpaipkkcengaaGreat
set_option linter.unusedSimpArgs false
set_option linter.unusedVariables false
set_option maxHeartbeats 800000
set_option maxRecDepth 100000
namespace Go.Proofs.YtpjpaipkkcengaaGreat
open Go.RowKit

theorem pc_nm (d : Int) (x : Nat) (c : Int) {nm : List Int} (h : nm.length = 8) (B : Option Addr) (m k : Nat) (n : Int) : (((pA d x c nm B m k n).toList.drop 3).take 8).toArray = ic .u8 nm := (show _ = (#[_, _, _, _, _, _, _, _] : Array Value) from rfl).trans (ic8 h)
theorem c_ref07Out (w0 : World) (p : Pc) (hp : PcOk w0 p) (hp6 : p.b.length ≤ 60)  :
    CallR Tryz.prog 23 #[.agg (pP p)] w0 fun v w' => ∃ A c, v = .slice A ((pcOut p)).length c ∧ St NoB w0 w' [.vec A c 5 1 ((pcOut p)).length (((pcOut p)).map (Value.int .u8))] := by
 have hS := (St.start (S := NoB) w0).rd_old hp.rd
 have hx := hp.x
 have hnl := hp.nl
 have hnb := hp.nb
 have hs := nsz_le p.nm
 have htl := nmTxt_len p.nm
 have htb := nmTxt_byt hp.nb
 refine c_enter (l := [.agg (pP p), undef, undef, undef, undef, undef, undef, undef, undef, undef, undef, undef, undef, undef, undef, undef, undef, undef, undef, undef, undef, undef, undef, undef, undef, undef, undef, undef, undef, undef, undef, undef, undef, undef, undef]) Tryz.func23 rfl (by simp only [Tryz.ntmps23, List.size_toArray, List.length_cons, List.length_nil, Nat.reduceAdd, Nat.reduceSub, Array.replicate_succ, Array.replicate_zero, List.push_toArray, List.append_toArray, List.nil_append, List.cons_append]) ?_
 refine x_seq fun K1 hK1 => ?_
 refine x_region ?_
 refine m_box hS (fun w1 g1 hS => ?_)
 try simp only [opv, nZ, Value.cells, Array.toArray_toList] at hS ⊢
 refine s_go (s_assign) ?_
 try simp only [opv, nZ, Value.cells]
 refine x_nil ?_
 refine hK1 _ _ ?_
 refine x_seq fun K2 hK2 => ?_
 refine x_seq fun K3 hK3 => ?_
 refine x_region ?_
 refine s_go (m_fieldAddr Tryz.underlying58 (hi := ti3)) ?_
 try simp only [opv, nZ, Value.cells, Nat.zero_add, Nat.add_zero, List.getElem_toArray, List.getElem_cons_zero, List.getElem_cons_succ]
 refine s_go (m_load_obj Tryz.underlying3 (hS := hS)) ?_
 try simp only [opv, nZ, Value.cells, List.getElem_toArray, List.getElem_cons_zero, List.getElem_cons_succ]
 refine x_nil ?_
 refine hK3 _ _ ?_
 refine x_block ?_
 refine x_seq fun K4 hK4 => ?_
 refine x_region ?_
 refine s_go (s_eql) ?_
 try simp only [opv, nZ, Value.cells]
 refine s_go (s_assign) ?_
 try simp only [opv, nZ, Value.cells]
 refine x_nil ?_
 refine hK4 _ _ ?_
 refine x_cond (ht := fun hc1 => ?_) (hf := fun hc1 => ?_)
 ·
  try simp only [decide_eq_true_eq, decide_eq_false_iff_not, Bool.not_eq_true', Bool.not_eq_false', Int.not_lt, Int.not_le, ne_eq, Decidable.not_not, bne_iff_ne, beq_iff_eq, not_true_eq_false, not_false_eq_true] at hc1
  have hO : pcOut p = vari p.x := if_pos hc1
  refine x_seq fun K5 hK5 => ?_
  refine x_region ?_
  refine s_go (m_fieldAddr Tryz.underlying58 (hi := ti28)) ?_
  try simp only [opv, nZ, Value.cells, Nat.zero_add, Nat.add_zero, List.getElem_toArray, List.getElem_cons_zero, List.getElem_cons_succ]
  refine s_go (m_load_obj Tryz.underlying28 (hS := hS)) ?_
  try simp only [opv, nZ, Value.cells, List.getElem_toArray, List.getElem_cons_zero, List.getElem_cons_succ]
  refine s_call en22 ?_
  try simp only [opv, nZ, Value.cells, List.map_toArray, List.map_cons, List.map_nil, List.append_toArray, List.cons_append, List.nil_append, Array.append_empty]
  refine CallR.mono (c_ref03Var _ (by assumption) _) ?_
  rintro _ w2 ⟨A2, c2, rfl, hC2⟩
  replace hS := hS.call hC2
  simp only [List.cons_append, List.nil_append] at hS
  try simp only [opv, nZ, Value.cells]
  refine s_go (s_assign) ?_
  try simp only [opv, nZ, Value.cells]
  refine x_nil ?_
  refine hK5 _ _ ?_
  refine x_ret ?_
  refine r_tmp rfl ?_
  rw [hO]
  exact ⟨_, _, rfl, hS.sel (by repeat (first | exact Sel.nil | (refine Sel.cons (by repeat (exact Del.head)) ?_)))⟩
 ·
  try simp only [decide_eq_true_eq, decide_eq_false_iff_not, Bool.not_eq_true', Bool.not_eq_false', Int.not_lt, Int.not_le, ne_eq, Decidable.not_not, bne_iff_ne, beq_iff_eq, not_true_eq_false, not_false_eq_true] at hc1
  have h0 : ¬ p.d = 0 := hc1
  refine x_seq fun K6 hK6 => ?_
  refine x_region ?_
  refine s_go (s_eql) ?_
  try simp only [opv, nZ, Value.cells]
  refine s_go (s_assign) ?_
  try simp only [opv, nZ, Value.cells]
  refine x_nil ?_
  refine hK6 _ _ ?_
  refine x_cond (ht := fun hc2 => ?_) (hf := fun hc2 => ?_)
  ·
   try simp only [decide_eq_true_eq, decide_eq_false_iff_not, Bool.not_eq_true', Bool.not_eq_false', Int.not_lt, Int.not_le, ne_eq, Decidable.not_not, bne_iff_ne, beq_iff_eq, not_true_eq_false, not_false_eq_true] at hc2
   have hO : pcOut p = [p.c] := by rw [pcOut, if_neg h0, if_pos hc2]
   refine x_seq fun K7 hK7 => ?_
   refine x_region ?_
   refine s_go (m_fieldAddr Tryz.underlying58 (hi := ti5)) ?_
   try simp only [opv, nZ, Value.cells, Nat.zero_add, Nat.add_zero, List.getElem_toArray, List.getElem_cons_zero, List.getElem_cons_succ]
   refine s_go (m_load_obj Tryz.underlying5 (hS := hS)) ?_
   try simp only [opv, nZ, Value.cells, List.getElem_toArray, List.getElem_cons_zero, List.getElem_cons_succ]
   refine m_buildRow (cells := #[_]) Tryz.underlying33 ti5 (hc := by simp only [List.map_toArray, List.map_cons, List.map_nil, opv, nZ, Value.cells, List.toList_toArray]; (repeat (refine fill_cons rfl rfl (Nat.le_of_ble_eq_true rfl) ?_)); rfl) (hS := hS) (h := fun w3 g3 hS => ?_)
   try simp only [opv, nZ, Value.cells, Array.toArray_toList] at hS ⊢
   replace hS := hS.obj_vec (sz := 1) (n := 1) rfl (by decide) .head
   refine s_go (s_assign) ?_
   try simp only [opv, nZ, Value.cells]
   refine x_nil ?_
   refine hK7 _ _ ?_
   refine x_ret ?_
   refine r_tmp rfl ?_
   rw [hO]
   exact ⟨_, _, rfl, hS.sel (by repeat (first | exact Sel.nil | (refine Sel.cons (by repeat (exact Del.head)) ?_)))⟩
  ·
   try simp only [decide_eq_true_eq, decide_eq_false_iff_not, Bool.not_eq_true', Bool.not_eq_false', Int.not_lt, Int.not_le, ne_eq, Decidable.not_not, bne_iff_ne, beq_iff_eq, not_true_eq_false, not_false_eq_true] at hc2
   have h1 : ¬ p.d = 1 := hc2
   refine x_seq fun K8 hK8 => ?_
   refine x_region ?_
   refine s_go (s_eql) ?_
   try simp only [opv, nZ, Value.cells]
   refine s_go (s_assign) ?_
   try simp only [opv, nZ, Value.cells]
   refine x_nil ?_
   refine hK8 _ _ ?_
   refine x_cond (ht := fun hc3 => ?_) (hf := fun hc3 => ?_)
   ·
    try simp only [decide_eq_true_eq, decide_eq_false_iff_not, Bool.not_eq_true', Bool.not_eq_false', Int.not_lt, Int.not_le, ne_eq, Decidable.not_not, bne_iff_ne, beq_iff_eq, not_true_eq_false, not_false_eq_true] at hc3
    have hO : pcOut p = nmOut p.nm := by rw [pcOut, if_neg h0, if_neg h1, if_pos hc3]
    refine x_seq fun K9 hK9 => ?_
    refine x_region ?_
    refine s_go (m_fieldAddr Tryz.underlying58 (hi := ti24)) ?_
    try simp only [opv, nZ, Value.cells, Nat.zero_add, Nat.add_zero, List.getElem_toArray, List.getElem_cons_zero, List.getElem_cons_succ]
    refine s_go (m_loada_obj Tryz.underlying24 (hi := ti24) (hS := hS)) ?_
    try simp only [opv, nZ, Value.cells, List.getElem_toArray, List.getElem_cons_zero, List.getElem_cons_succ]
    rw [pc_nm _ _ _ hp.nl]
    refine s_call en39 ?_
    try simp only [opv, nZ, Value.cells, List.map_toArray, List.map_cons, List.map_nil, List.append_toArray, List.cons_append, List.nil_append, Array.append_empty]
    refine CallR.mono (c_ref06Text _ (by assumption) (by assumption) _) ?_
    rintro _ w4 ⟨rfl, hE4⟩
    replace hS := hS.ext hE4
    try simp only [opv, nZ, Value.cells]
    refine s_go (s_assign) ?_
    try simp only [opv, nZ, Value.cells]
    refine x_nil ?_
    refine hK9 _ _ ?_
    refine x_seq fun K10 hK10 => ?_
    refine x_region ?_
    refine s_go (s_move) ?_
    try simp only [opv, nZ, Value.cells]
    refine s_go (s_len_str Tryz.underlying9) ?_
    try simp only [opv, nZ, Value.cells]
    rw [strOf_size, htl]
    refine s_go (s_conv Tryz.underlying3 Tryz.underlying5 (hc := by exact wr_u8 (by omega) (by omega))) ?_
    try simp only [opv, nZ, Value.cells]
    refine m_buildRow (cells := #[_]) Tryz.underlying33 ti5 (hc := by simp only [List.map_toArray, List.map_cons, List.map_nil, opv, nZ, Value.cells, List.toList_toArray]; (repeat (refine fill_cons rfl rfl (Nat.le_of_ble_eq_true rfl) ?_)); rfl) (hS := hS) (h := fun w5 g5 hS => ?_)
    try simp only [opv, nZ, Value.cells, Array.toArray_toList] at hS ⊢
    replace hS := hS.obj_vec (sz := 1) (n := 1) rfl (by decide) .head
    refine s_go (s_move) ?_
    try simp only [opv, nZ, Value.cells]
    refine m_append_str Tryz.underlying33 Tryz.underlying9 ti5 (hS := hS) (ns := nmTxt p.nm) (hw := htb) (h := fun w6 A6 C6 hS => ?_)
    try simp only [← List.map_append, ← List.map_drop, ← List.map_take, Nat.mul_one, Nat.zero_mul, Nat.sub_zero, List.drop_zero, List.nil_append, Nat.zero_add] at hS ⊢
    try simp only [opv, nZ, Value.cells, Array.toArray_toList] at hS ⊢
    refine s_go (s_assign) ?_
    try simp only [opv, nZ, Value.cells]
    refine x_nil ?_
    refine hK10 _ _ ?_
    refine x_ret ?_
    refine r_tmp rfl ?_
    rw [hO, show nmOut p.nm = [(nsz p.nm : Int)] ++ nmTxt p.nm from rfl]
    rw [← htl] at hS ⊢
    exact ⟨_, _, by rw [List.length_append]; rfl, by rw [List.length_append]; exact hS.sel (by repeat (first | exact Sel.nil | (refine Sel.cons (by repeat (exact Del.head)) ?_)))⟩
   ·
    try simp only [decide_eq_true_eq, decide_eq_false_iff_not, Bool.not_eq_true', Bool.not_eq_false', Int.not_lt, Int.not_le, ne_eq, Decidable.not_not, bne_iff_ne, beq_iff_eq, not_true_eq_false, not_false_eq_true] at hc3
    have hO : pcOut p = vari p.b.length ++ p.b := by rw [pcOut, if_neg h0, if_neg h1, if_neg hc3]
    refine x_skip ?_
    refine hK2 _ _ ?_
    refine x_seq fun K11 hK11 => ?_
    refine x_mixed_f [] 0 [2, 27, 28, 29, 30, 31, 32, 33, 34] (fun f w => ∃ (B : Option Addr) (k : Nat), f 2 = .slice B (vari p.b.length ++ p.b).length k ∧ St NoB w0 w [.vec B k 5 1 (vari p.b.length ++ p.b).length ((vari p.b.length ++ p.b).map (Value.int .u8))]) (by kernel_rfl) (by kernel_rfl) (by kernel_rfl) (by decide) hS (fun w7 hS => ?mixpre901) ?mixrest901
    case mixpre901 =>
     refine p_nil ?_
     simp only [List.length_cons, List.length_nil, Nat.reduceAdd, Nat.reduceSub]
     refine any_go (i := 0) (by rfl) (by decide +kernel) (by decide +kernel) noLate_nil (go_yields w_none (fun w hS => m_fieldAddr Tryz.underlying58 (hi := ti33))) ?_
     try simp only [opv, nZ, Value.cells, Nat.zero_add, Nat.add_zero, List.getElem_toArray, List.getElem_cons_zero, List.getElem_cons_succ]
     refine any_go (i := 1) (by rfl) (by decide +kernel) (by decide +kernel) noLate_nil (go_yields w_none (fun w hS => m_load_obj Tryz.underlying33 (hS := hS))) ?_
     try simp only [opv, nZ, Value.cells, List.getElem_toArray, List.getElem_cons_zero, List.getElem_cons_succ]
     refine any_go (i := 2) (by rfl) (by decide +kernel) (by decide +kernel) noLate_nil (go_yields w_none (fun w hS => s_len_sl Tryz.underlying33)) ?_
     try simp only [opv, nZ, Value.cells]
     refine any_go (i := 3) (by rfl) (by decide +kernel) (by decide +kernel) noLate_nil (go_yields w_none (fun w hS => s_conv Tryz.underlying3 Tryz.underlying28 (hc := by exact wr_u64 (by omega) (by omega)))) ?_
     try simp only [opv, nZ, Value.cells]
     refine any_go (i := 5) (by rfl) (by decide +kernel) (by decide +kernel) noLate_nil (go_yields w_none (fun w hS => m_fieldAddr Tryz.underlying58 (hi := ti33))) ?_
     try simp only [opv, nZ, Value.cells, Nat.zero_add, Nat.add_zero, List.getElem_toArray, List.getElem_cons_zero, List.getElem_cons_succ]
     refine any_go (i := 6) (by rfl) (by decide +kernel) (by decide +kernel) noLate_nil (go_yields w_none (fun w hS => m_load_obj Tryz.underlying33 (hS := hS))) ?_
     try simp only [opv, nZ, Value.cells, List.getElem_toArray, List.getElem_cons_zero, List.getElem_cons_succ]
     refine any_step [4] (by kernel_rfl) (by decide) (fun w8 hE => ⟨fun _ => (hS.ext hE).sel (by repeat (first | exact Sel.nil | (refine Sel.cons (by repeat (exact Del.head)) ?_))), ?_⟩)
     replace hS := hS.ext hE
     intro i hi
     simp only [List.mem_cons, List.not_mem_nil, or_false] at hi
     subst hi
     ·
      refine any_op (by rfl) ?_
      have hvl := vari_len10 (x := p.b.length) (by omega)
      refine s_call en22 ?_
      try simp only [opv, nZ, Value.cells, List.map_toArray, List.map_cons, List.map_nil, List.append_toArray, List.cons_append, List.nil_append, Array.append_empty]
      refine CallR.mono (c_ref03Var _ (by omega) _) ?_
      rintro _ w9 ⟨A9, c9, rfl, hC9⟩
      replace hS := hS.call hC9
      simp only [List.cons_append, List.nil_append] at hS
      try simp only [opv, nZ, Value.cells]
      refine x_nil ?_
      refine any_step [7] (by kernel_rfl) (by decide) (fun w10 hE => ⟨fun _ => (hS.ext hE).sel (by repeat (first | exact Sel.nil | (refine Sel.cons (by repeat (first | exact Del.head | apply Del.tail)) ?_))), ?_⟩)
      replace hS := hS.ext hE
      intro i hi
      simp only [List.mem_cons, List.not_mem_nil, or_false] at hi
      subst hi
      ·
       refine any_op (by rfl) ?_
       refine m_append Tryz.underlying33 ti5 (hS := hS) (h := fun w11 A11 C11 hS => ?_)
       try simp only [← List.map_append, ← List.map_drop, ← List.map_take, Nat.mul_one, Nat.zero_mul, Nat.sub_zero, List.drop_zero, List.nil_append, Nat.zero_add] at hS ⊢
       try simp only [opv, nZ, Value.cells, Array.toArray_toList] at hS ⊢
       refine x_nil ?_
       refine any_go (i := 8) (by rfl) (by decide +kernel) (by decide +kernel) noLate_nil (go_yields w_none (fun w hS => s_assign)) ?_
       try simp only [opv, nZ, Value.cells]
       refine any_nil (by kernel_rfl) (fun w12 hE => ?_)
       replace hS := hS.ext hE
       refine ⟨fun _ => hS.selA, ?_⟩
       refine mix_leaf (by simp only [clob, List.foldl, nZ]) ?_
       try simp only [n1, n2]
       rw [← List.length_append] at hS ⊢
       exact ⟨_, _, rfl, hS.sel (by repeat (first | exact Sel.nil | (refine Sel.cons (by repeat (exact Del.head)) ?_)))⟩
    intro fm1 w13 hM
    obtain ⟨B, kb, h2, hS⟩ := hM
    simp only [clob, List.foldl, n3, n4, h2]
    refine hK11 _ _ ?_
    refine x_ret ?_
    refine r_tmp rfl ?_
    rw [hO]
    exact ⟨_, _, rfl, hS⟩

theorem rd_zero (w : World) (A : Option Addr) (sz : Nat) : Rd w A sz 0 [] := ⟨by simp, fun h => absurd h (by omega)⟩
theorem PcOk.ext {w w' : World} {p : Pc} (h : PcOk w p) (hE : Ext w w') : PcOk w' p := ⟨h.d, h.x, h.c, h.nl, h.nb, Res.holds_ext (r := .rd p.A 1 p.b.length (p.b.map (Value.int .u8))) h.rd hE, h.bb, h.bc, h.bm, h.n⟩
end Go.Proofs.YtpjpaipkkcengaaGreat
