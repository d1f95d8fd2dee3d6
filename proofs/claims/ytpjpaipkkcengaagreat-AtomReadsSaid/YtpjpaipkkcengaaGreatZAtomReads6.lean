/- Rules, plain words and walks that the claim leans on: Da, Db, Dc, Dd, Pval, Dza, Fe. -/
import Derived.Test.YtpjpaipkkcengaaGreatZAtomReads5
set_option linter.unusedSimpArgs false
set_option linter.unusedVariables false
set_option linter.unusedSimpArgs false
set_option linter.unusedVariables false
set_option maxHeartbeats 800000
set_option maxRecDepth 100000
namespace Go.Proofs.YtpjpaipkkcengaaGreat
open Go.RowKit
theorem c_atomRules  (w0 : World) :
    CallR Tryz.prog 32 #[] w0 fun v w' => ∃ q, v = .agg #[.func (.func 67) #[] #[], .func (.func 68) #[] #[.pointer (some ⟨q, 0, none⟩)], .func (.func 66) #[] #[.pointer (some ⟨q, 0, none⟩)], .func (.func 66) #[] #[.pointer (some ⟨q, 0, none⟩)], .func (.func 69) #[] #[.pointer (some ⟨q, 0, none⟩)]] ∧ St NoB w0 w' [.obj q (.cells #[.func (.func 65) #[] #[]] 70 (0, 0))] := by
 have hS : St NoB w0 w0 [] := St.start w0
 refine c_enter (l := [undef, undef, undef, undef, undef, undef, undef, undef, undef]) Tryz.func32 rfl (by simp only [Tryz.ntmps32, List.size_toArray, List.length_cons, List.length_nil, Nat.reduceAdd, Nat.reduceSub, Array.replicate_succ, Array.replicate_zero, List.push_toArray, List.append_toArray, List.nil_append, List.cons_append]) ?_
 refine x_seq fun K1 hK1 => ?_
 refine x_region ?_
 refine m_alloc ti71 hS (fun w1 g1 hS => ?_)
 try simp only [opv, nZ, Value.cells, Array.toArray_toList] at hS ⊢
 refine x_nil ?_
 refine hK1 _ _ ?_
 refine x_seq fun K2 hK2 => ?_
 refine x_region ?_
 refine m_alloc ti70 hS (fun w2 g2 hS => ?_)
 try simp only [opv, nZ, Value.cells, Array.toArray_toList] at hS ⊢
 refine m_store_obj ti70 (hS := hS) (h := fun w3 hS => ?_)
 try simp only [opv, nZ, Value.cells, Array.toArray_toList] at hS ⊢
 refine x_nil ?_
 refine hK2 _ _ ?_
 refine x_seq fun K3 hK3 => ?_
 refine x_region ?_
 refine s_go (s_makeFunc) ?_
 try simp only [opv, nZ, Value.cells, List.map_toArray, List.map_cons, List.map_nil]
 refine s_go (s_assign) ?_
 try simp only [opv, nZ, Value.cells]
 refine x_nil ?_
 refine hK3 _ _ ?_
 refine x_seq fun K4 hK4 => ?_
 refine x_region ?_
 refine s_go (s_makeFunc) ?_
 try simp only [opv, nZ, Value.cells, List.map_toArray, List.map_cons, List.map_nil]
 refine s_go (s_move) ?_
 try simp only [opv, nZ, Value.cells]
 refine s_go (s_move) ?_
 try simp only [opv, nZ, Value.cells]
 refine s_go (s_makeFunc) ?_
 try simp only [opv, nZ, Value.cells, List.map_toArray, List.map_cons, List.map_nil]
 refine s_go (s_build_arr (cells := #[_, _, _, _, _]) Tryz.underlying71 ti71 ti70 (hc := by simp only [List.map_toArray, List.map_cons, List.map_nil, opv, nZ, Value.cells, List.toList_toArray]; (repeat (refine fill_cons rfl rfl (Nat.le_of_ble_eq_true rfl) ?_)); rfl)) ?_
 try simp only [opv, nZ, Value.cells]
 refine m_store_obj ti71 (hS := hS) (h := fun w4 hS => ?_)
 try simp only [opv, nZ, Value.cells, Array.toArray_toList] at hS ⊢
 refine x_nil ?_
 refine hK4 _ _ ?_
 refine x_ret ?_
 refine r_cell_agg rfl Tryz.underlying71 ti71 (hS := hS) (hR := ?_)
 exact ⟨_, rfl, hS.sel (by repeat (first | exact Sel.nil | (refine Sel.cons (by repeat (exact Del.head)) ?_)))⟩

def ruleN (s : Nat) : FuncId := if s = 1 then 68 else if s = 4 then 69 else 66
theorem rule_en {s : Nat} (h : 1 ≤ s ∧ s ≤ 4) : Enters Tryz.prog (ruleN s) := by
  have : s = 1 ∨ s = 2 ∨ s = 3 ∨ s = 4 := by omega
  rcases this with rfl | rfl | rfl | rfl
  · exact en68
  · exact en66
  · exact en66
  · exact en69
theorem rule_at {s q : Nat} (h : 1 ≤ s ∧ s ≤ 4) : (#[.func (.func 67) #[] #[], .func (.func 68) #[] #[.pointer (some ⟨q, 0, none⟩)], .func (.func 66) #[] #[.pointer (some ⟨q, 0, none⟩)], .func (.func 66) #[] #[.pointer (some ⟨q, 0, none⟩)], .func (.func 69) #[] #[.pointer (some ⟨q, 0, none⟩)]] : Array Value)[s * 1]? = some (.func (.func (ruleN s)) #[] #[.pointer (some ⟨q, 0, none⟩)]) := by
  have : s = 1 ∨ s = 2 ∨ s = 3 ∨ s = 4 := by omega
  rcases this with rfl | rfl | rfl | rfl <;> rfl
theorem c_rule (w0 : World) (s : Nat) (h : 1 ≤ s ∧ s ≤ 4) (v : List Int) (hv : ValOk v) (q : Nat) (hq : Rd w0 (some ⟨q, 0, none⟩) 1 1 [.func (.func 65) #[] #[]]) : CallR Tryz.prog (ruleN s) #[.agg (VA v), .pointer (some ⟨q, 0, none⟩)] w0 fun u w' => u = .bool (valR s v) ∧ Ext w0 w' := by
  have : s = 1 ∨ s = 2 ∨ s = 3 ∨ s = 4 := by omega
  rcases this with rfl | rfl | rfl | rfl
  · exact c_rule4 w0 v hv q hq
  · exact c_rule2 w0 v hv q hq
  · exact c_rule2 w0 v hv q hq
  · exact c_rule5 w0 v hv q hq
theorem keyR_sort {x : List Int} (h : keyR x = true) : 1 ≤ kn x 0 ∧ kn x 0 ≤ 4 := by
  unfold keyR at h
  split at h
  · omega
  split at h
  · omega
  split at h
  · omega
  · cases h
theorem akey_0 {a : List Int} (h : a.length = 21) : a.getD 0 0 = (akey a).getD 0 0 ∧ kn a 0 = kn (akey a) 0 := by
  match a, h with
  | _ :: _, _ => exact ⟨rfl, rfl⟩

theorem c_atomRight (a : List Int) (ha : AtomOk a)  (w0 : World) :
    CallR Tryz.prog 16 #[.agg (AA a)] w0 fun v w' => v = .bool (atomR a) ∧ Ext w0 w' := by
 have hS : St NoB w0 w0 [] := St.start w0
 refine c_enter (l := [.agg (AA a), undef, undef, undef, undef, undef, undef, undef, undef, undef, undef, undef, undef, undef, undef, undef]) Tryz.func16 rfl (by simp only [Tryz.ntmps16, List.size_toArray, List.length_cons, List.length_nil, Nat.reduceAdd, Nat.reduceSub, Array.replicate_succ, Array.replicate_zero, List.push_toArray, List.append_toArray, List.nil_append, List.cons_append]) ?_
 refine x_seq fun K1 hK1 => ?_
 refine x_region ?_
 have hal := ha.len
 have hk := ha.key
 have hv := ha.val
 have hvl := hv.len
 have hkl := hk.len
 have h00 := akey_0 hal
 have htl := vtext_len hvl
 have htb := hv.text
 have hvb := hv.b0
 refine m_box hS (fun w1 g1 hS => ?_)
 try simp only [opv, nZ, Value.cells, Array.toArray_toList] at hS ⊢
 refine s_go (s_assign) ?_
 try simp only [opv, nZ, Value.cells]
 refine x_nil ?_
 refine hK1 _ _ ?_
 refine x_seq fun K2 hK2 => ?_
 refine x_mixed_f [] 0 [2, 3, 4, 5, 6, 7, 8, 9, 10, 11, 12, 13, 14, 15] (fun f w => f 2 = .bool (atomR a) ∧ Ext w0 w) (by kernel_rfl) (by kernel_rfl) (by kernel_rfl) (by decide) hS (fun w2 hS => ?mixpre101) ?mixrest101
 case mixpre101 =>
  refine p_nil ?_
  simp only [List.length_cons, List.length_nil, Nat.reduceAdd, Nat.reduceSub]
  refine any_go (i := 0) (by rfl) (by decide +kernel) (by decide +kernel) noLate_nil (go_yields w_none (fun w hS => m_fieldAddr Tryz.underlying32 (hi := ti27))) ?_
  try simp only [opv, nZ, Value.cells, Nat.zero_add, Nat.add_zero, List.getElem_toArray, List.getElem_cons_zero, List.getElem_cons_succ]
  refine any_go (i := 1) (by rfl) (by decide +kernel) (by decide +kernel) noLate_nil (go_yields w_none (fun w hS => m_loada_obj Tryz.underlying27 (hi := ti27) (hS := hS) (hfit := by (rw [zi_size (by omega)]; decide)))) ?_
  try simp only [opv, nZ, Value.cells, List.getElem_toArray, List.getElem_cons_zero, List.getElem_cons_succ]
  rw [atom_key hal]
  apply any_go (i := 2) (by rfl) (by decide +kernel) (by decide +kernel) noLate_nil (call_yields w_none en31 ?H1) ?K1
  case H1 =>
    intro w hS
    try simp only [opv, nZ, List.map_toArray, List.map_cons, List.map_nil, List.append_toArray, List.cons_append, List.nil_append, Array.append_empty]
    refine CallR.mono (c_keyRight _ hk _) ?_
    rintro _ w1 ⟨rfl, hE⟩; exact ⟨rfl, hE⟩
  try simp only [opv, nZ, Value.cells]
  refine any_go (i := 3) (by rfl) (by decide +kernel) (by decide +kernel) noLate_nil (go_yields w_none (fun w hS => s_move)) ?_
  try simp only [opv, nZ, Value.cells]
  refine any_part 6 rfl (fun hp1 => ?_) (fun hp1 => ?_)
  ·
   try simp only [n3, n4]
   try simp only [decide_eq_true_eq, decide_eq_false_iff_not, Bool.not_eq_true', Bool.not_eq_false', Int.not_lt, Int.not_le, ne_eq, Decidable.not_not] at hp1
   have hs := keyR_sort hp1
   rw [← h00.2] at hs
   refine any_go (i := 5) (by rfl) (by decide +kernel) (by decide +kernel) noLate_nil (go_yields (w_on (yi (t := 6) rfl rfl)) (fun w hS => m_fieldAddr Tryz.underlying32 (hi := ti27))) ?_
   try simp only [opv, nZ, Value.cells, Nat.zero_add, Nat.add_zero, List.getElem_toArray, List.getElem_cons_zero, List.getElem_cons_succ]
   refine any_go (i := 6) (by rfl) (by decide +kernel) (by decide +kernel) noLate_nil (go_yields (w_on (yi (t := 6) rfl rfl)) (fun w hS => m_fieldAddr Tryz.underlying27 (hi := ti5))) ?_
   try simp only [opv, nZ, Value.cells, Nat.zero_add, Nat.add_zero, List.getElem_toArray, List.getElem_cons_zero, List.getElem_cons_succ]
   refine any_go (i := 7) (by rfl) (by decide +kernel) (by decide +kernel) noLate_nil (go_yields (w_on (yi (t := 6) rfl rfl)) (fun w hS => m_load_obj Tryz.underlying5 (hS := hS) (hv := by exact zi_get rfl (by omega)))) ?_
   try simp only [opv, nZ, Value.cells, List.getElem_toArray, List.getElem_cons_zero, List.getElem_cons_succ]
   rw [h00.1, hk.e0, ← h00.2]
   refine any_go (i := 9) (by rfl) (by decide +kernel) (by decide +kernel) noLate_nil (go_yields (w_on (yi (t := 6) rfl rfl)) (fun w hS => m_fieldAddr Tryz.underlying32 (hi := ti30))) ?_
   try simp only [opv, nZ, Value.cells, Nat.zero_add, Nat.add_zero, List.getElem_toArray, List.getElem_cons_zero, List.getElem_cons_succ]
   refine any_go (i := 10) (by rfl) (by decide +kernel) (by decide +kernel) noLate_nil (go_yields (w_on (yi (t := 6) rfl rfl)) (fun w hS => m_loada_obj Tryz.underlying30 (hi := ti30) (hS := hS) (hfit := by (rw [zi_size (by omega)]; decide)))) ?_
   try simp only [opv, nZ, Value.cells, List.getElem_toArray, List.getElem_cons_zero, List.getElem_cons_succ]
   rw [atom_val hal]
   refine any_step [4] (by kernel_rfl) (by decide) (fun w3 hE => ⟨fun _ => (hS.ext hE).sel (by repeat (first | exact Sel.nil | (refine Sel.cons (by repeat (exact Del.head)) ?_))), ?_⟩)
   replace hS := hS.ext hE
   intro i hi
   simp only [List.mem_cons, List.not_mem_nil, or_false] at hi
   subst hi
   ·
    refine any_op (by rfl) ?_
    refine g_on (yi (t := 6) rfl rfl) ?_
    refine s_call en32 ?_
    try simp only [opv, nZ, Value.cells, List.map_toArray, List.map_cons, List.map_nil, List.append_toArray, List.cons_append, List.nil_append, Array.append_empty]
    refine CallR.mono (c_atomRules _) ?_
    rintro _ w4 ⟨q, rfl, hC4⟩
    replace hS := hS.call hC4
    simp only [List.cons_append, List.nil_append] at hS
    try simp only [opv, nZ, Value.cells]
    refine x_nil ?_
    refine any_step [8] (by kernel_rfl) (by decide) (fun w5 hE => ⟨fun _ => (hS.ext hE).sel (by repeat (first | exact Sel.nil | (refine Sel.cons (by repeat (first | exact Del.head | apply Del.tail)) ?_))), ?_⟩)
    replace hS := hS.ext hE
    intro i hi
    simp only [List.mem_cons, List.not_mem_nil, or_false] at hi
    subst hi
    ·
     refine any_op (by rfl) ?_
     refine g_on (yi (t := 6) rfl rfl) ?_
     refine s_go (s_index_one Tryz.underlying71 ti70 Tryz.underlying70 (hv := by rw [Int.toNat_natCast]; exact rule_at hs)) ?_
     try simp only [opv, nZ, Value.cells]
     refine x_nil ?_
     refine any_step [11] (by kernel_rfl) (by decide) (fun w6 hE => ⟨fun _ => (hS.ext hE).sel (by repeat (first | exact Sel.nil | (refine Sel.cons (by repeat (first | exact Del.head | apply Del.tail)) ?_))), ?_⟩)
     replace hS := hS.ext hE
     intro i hi
     simp only [List.mem_cons, List.not_mem_nil, or_false] at hi
     subst hi
     ·
      refine any_op (by rfl) ?_
      refine g_on (yi (t := 6) rfl rfl) ?_
      refine s_callv (hv := rfl) (rule_en hs) ?_
      try simp only [opv, nZ, Value.cells, List.map_toArray, List.map_cons, List.map_nil, List.append_toArray, List.cons_append, List.nil_append, Array.append_empty]
      refine CallR.mono (c_rule _ _ hs _ hv q (by exact hS.objRd (g := q) (cs := #[.func (.func 65) #[] #[]]) (by repeat (exact Has.head)))) ?_
      rintro _ w7 ⟨rfl, hE7⟩
      replace hS := hS.ext hE7
      try simp only [opv, nZ, Value.cells]
      refine x_nil ?_
      refine any_go (i := 12) (by rfl) (by decide +kernel) (by decide +kernel) noLate_nil (go_yields w_none (fun w hS => s_pick_t)) ?_
      try simp only [opv, nZ, Value.cells]
      refine any_go (i := 13) (by rfl) (by decide +kernel) (by decide +kernel) noLate_nil (go_yields w_none (fun w hS => s_assign)) ?_
      try simp only [opv, nZ, Value.cells]
      refine any_nil (by kernel_rfl) (fun w8 hE => ?_)
      replace hS := hS.ext hE
      refine ⟨fun _ => hS.selA, ?_⟩
      refine mix_leaf (by simp only [clob, List.foldl, nZ]) ?_
      try simp only [n1, n2]
      exact ⟨congrArg Value.bool (by simp only [atomR, *, Bool.false_and, Bool.true_and]), hS.ext_of⟩
  ·
   try simp only [n3, n4]
   try simp only [decide_eq_true_eq, decide_eq_false_iff_not, Bool.not_eq_true', Bool.not_eq_false', Int.not_lt, Int.not_le, ne_eq, Decidable.not_not] at hp1
   refine any_go (i := 4) (by rfl) (by decide +kernel) (by decide +kernel) noLate_nil (off_yields (yi (t := 6) rfl rfl)) ?_
   try simp only [opv, nZ, Value.cells]
   refine any_go (i := 5) (by rfl) (by decide +kernel) (by decide +kernel) noLate_nil (off_yields (yi (t := 6) rfl rfl)) ?_
   try simp only [opv, nZ, Value.cells]
   refine any_go (i := 6) (by rfl) (by decide +kernel) (by decide +kernel) noLate_nil (off_yields (yi (t := 6) rfl rfl)) ?_
   try simp only [opv, nZ, Value.cells]
   refine any_go (i := 7) (by rfl) (by decide +kernel) (by decide +kernel) noLate_nil (off_yields (yi (t := 6) rfl rfl)) ?_
   try simp only [opv, nZ, Value.cells]
   refine any_go (i := 8) (by rfl) (by decide +kernel) (by decide +kernel) noLate_nil (off_yields (yi (t := 6) rfl rfl)) ?_
   try simp only [opv, nZ, Value.cells]
   refine any_go (i := 9) (by rfl) (by decide +kernel) (by decide +kernel) noLate_nil (off_yields (yi (t := 6) rfl rfl)) ?_
   try simp only [opv, nZ, Value.cells]
   refine any_go (i := 10) (by rfl) (by decide +kernel) (by decide +kernel) noLate_nil (off_yields (yi (t := 6) rfl rfl)) ?_
   try simp only [opv, nZ, Value.cells]
   refine any_go (i := 11) (by rfl) (by decide +kernel) (by decide +kernel) noLate_nil (off_yields (yi (t := 6) rfl rfl)) ?_
   try simp only [opv, nZ, Value.cells]
   refine any_go (i := 12) (by rfl) (by decide +kernel) (by decide +kernel) noLate_nil (go_yields w_none (fun w hS => s_pick_f)) ?_
   try simp only [opv, nZ, Value.cells]
   refine any_go (i := 13) (by rfl) (by decide +kernel) (by decide +kernel) noLate_nil (go_yields w_none (fun w hS => s_assign)) ?_
   try simp only [opv, nZ, Value.cells]
   refine any_nil (by kernel_rfl) (fun w9 hE => ?_)
   replace hS := hS.ext hE
   refine ⟨fun _ => hS.sel (by repeat (first | exact Sel.nil | (refine Sel.cons (by repeat (exact Del.head)) ?_))), ?_⟩
   refine mix_leaf (by simp only [clob, List.foldl, nZ]) ?_
   try simp only [n1, n2]
   exact ⟨congrArg Value.bool (by simp only [atomR, *, Bool.false_and, Bool.true_and]), hS.ext_of⟩
 intro fm1 w10 hM
 obtain ⟨h2, hEE⟩ := hM
 simp only [clob, List.foldl, n3, n4, h2]
 refine hK2 _ _ ?_
 refine x_ret ?_
 refine r_tmp rfl ?_
 exact ⟨rfl, hEE⟩
end Go.Proofs.YtpjpaipkkcengaaGreat
set_option linter.unusedSimpArgs false
set_option linter.unusedVariables false
set_option maxHeartbeats 800000
set_option maxRecDepth 100000
namespace Go.Proofs.YtpjpaipkkcengaaGreat
open Go.RowKit

def atomW (a : List Int) : List Int := keyOut (akey a) ++ valOut (kn a 0) (aval a)

theorem c_atomWrite (w0 : World) (g : Nat) (A : Option Addr) (c : Nat) (xs : List Int) (hx : xs.length ≤ 1000000) (a : List Int) (ha : AtomOk a) (hM : St (OwnB [.obj g (.cells #[.slice A xs.length c] 74 (0, 0)), .vec A c 5 1 xs.length (xs.map (Value.int .u8))]) w0 w0 [.obj g (.cells #[.slice A xs.length c] 74 (0, 0)), .vec A c 5 1 xs.length (xs.map (Value.int .u8))]) :
    CallR Tryz.prog 18 #[.pointer (some ⟨g, 0, none⟩), .agg (AA a)] w0 fun v w' => v = .tuple #[] ∧ WrSt w0 w' [.obj g (.cells #[.slice A xs.length c] 74 (0, 0)), .vec A c 5 1 xs.length (xs.map (Value.int .u8))] g (xs ++ atomW a) [] := by
 have hS := hM
 refine c_enter (l := [.pointer (some ⟨g, 0, none⟩), .agg (AA a), undef, undef, undef, undef, undef, undef, undef, undef, undef, undef, undef, undef, undef, undef, undef, undef, undef, undef, undef, undef, undef, undef, undef, undef, undef, undef, undef, undef, undef, undef, undef, undef, undef, undef, undef, undef, undef]) Tryz.func18 rfl (by simp only [Tryz.ntmps18, List.size_toArray, List.length_cons, List.length_nil, Nat.reduceAdd, Nat.reduceSub, Array.replicate_succ, Array.replicate_zero, List.push_toArray, List.append_toArray, List.nil_append, List.cons_append]) ?_
 refine x_seq fun K1 hK1 => ?_
 refine x_region ?_
 have hal := ha.len
 have hk := ha.key
 have hv := ha.val
 have hvl := hv.len
 have hkl := hk.len
 have h00 := akey_0 hal
 have htl := vtext_len hvl
 have htb := hv.text
 have hvb := hv.b0
 have hko := keyOut_len hk
 have hva := vari_len10 hvb
 refine m_box hS (fun w1 g1 hS => ?_)
 try simp only [opv, nZ, Value.cells, Array.toArray_toList] at hS ⊢
 refine x_nil ?_
 refine hK1 _ _ ?_
 refine x_seq fun K2 hK2 => ?_
 refine x_region ?_
 refine s_go (s_move) ?_
 try simp only [opv, nZ, Value.cells]
 refine s_go (m_fieldAddr Tryz.underlying32 (hi := ti27)) ?_
 try simp only [opv, nZ, Value.cells, Nat.zero_add, Nat.add_zero, List.getElem_toArray, List.getElem_cons_zero, List.getElem_cons_succ]
 refine s_go (m_loada_obj Tryz.underlying27 (hi := ti27) (hS := hS) (hfit := by (rw [zi_size (by omega)]; decide))) ?_
 try simp only [opv, nZ, Value.cells, List.getElem_toArray, List.getElem_cons_zero, List.getElem_cons_succ]
 rw [atom_key hal]
 refine s_call en33 ?_
 try simp only [opv, nZ, Value.cells, List.map_toArray, List.map_cons, List.map_nil, List.append_toArray, List.cons_append, List.nil_append, Array.append_empty]
 refine CallR.mono (c_keyWrite _ g A c xs (by omega) _ hk (hS.owns (by repeat (first | exact Spl.nil | (apply Spl.cons (by repeat (first | exact Del.head | apply Del.tail))))))) ?_
 rintro _ w2 ⟨rfl, A2, c2, hC2⟩
 replace hS := hS.frame (by repeat (first | exact Spl.nil | (apply Spl.cons (by repeat (first | exact Del.head | apply Del.tail))))) hC2 (by intro r hr g hg; simp only [List.mem_cons, List.not_mem_nil, or_false] at hr; rcases hr with rfl | rfl | rfl <;> (simp [Res.reads] at hg; done))
 simp only [List.cons_append, List.nil_append] at hS
 try simp only [opv, nZ, Value.cells]
 refine x_nil ?_
 refine hK2 _ _ ?_
 refine x_seq fun K3 hK3 => ?_
 refine x_region ?_
 refine s_go (s_move) ?_
 try simp only [opv, nZ, Value.cells]
 refine s_go (s_makeFunc) ?_
 try simp only [opv, nZ, Value.cells, List.map_toArray, List.map_cons, List.map_nil]
 refine s_go (s_assign) ?_
 try simp only [opv, nZ, Value.cells]
 refine x_nil ?_
 refine hK3 _ _ ?_
 refine x_seq fun K4 hK4 => ?_
 refine x_region ?_
 refine s_go (m_fieldAddr Tryz.underlying32 (hi := ti27)) ?_
 try simp only [opv, nZ, Value.cells, Nat.zero_add, Nat.add_zero, List.getElem_toArray, List.getElem_cons_zero, List.getElem_cons_succ]
 refine s_go (m_fieldAddr Tryz.underlying27 (hi := ti5)) ?_
 try simp only [opv, nZ, Value.cells, Nat.zero_add, Nat.add_zero, List.getElem_toArray, List.getElem_cons_zero, List.getElem_cons_succ]
 refine s_go (m_load_obj Tryz.underlying5 (hS := hS) (hv := by exact zi_get rfl (by omega))) ?_
 try simp only [opv, nZ, Value.cells, List.getElem_toArray, List.getElem_cons_zero, List.getElem_cons_succ]
 rw [h00.1, hk.e0, ← h00.2]
 refine x_nil ?_
 refine hK4 _ _ ?_
 refine x_block ?_
 refine x_seq fun K5 hK5 => ?_
 refine x_region ?_
 refine s_go (s_eql) ?_
 try simp only [opv, nZ, Value.cells]
 refine s_go (s_assign) ?_
 try simp only [opv, nZ, Value.cells]
 refine x_nil ?_
 refine hK5 _ _ ?_
 refine x_cond (ht := fun hc1 => ?_) (hf := fun hc1 => ?_)
 ·
  try simp only [decide_eq_true_eq, decide_eq_false_iff_not, Bool.not_eq_true', Bool.not_eq_false', Int.not_lt, Int.not_le, ne_eq, Decidable.not_not, bne_iff_ne, beq_iff_eq, not_true_eq_false, not_false_eq_true] at hc1
  have hO : xs ++ atomW a = xs ++ keyOut (akey a) ++ [((kn (aval a) 0 % 256 : Nat) : Int)] := by simp [atomW, valOut, show kn a 0 = 1 by omega]
  refine x_region ?_
  refine s_go (s_move) ?_
  try simp only [opv, nZ, Value.cells]
  refine s_go (m_fieldAddr Tryz.underlying32 (hi := ti30)) ?_
  try simp only [opv, nZ, Value.cells, Nat.zero_add, Nat.add_zero, List.getElem_toArray, List.getElem_cons_zero, List.getElem_cons_succ]
  refine s_go (m_fieldAddr Tryz.underlying30 (hi := ti28)) ?_
  try simp only [opv, nZ, Value.cells, Nat.zero_add, Nat.add_zero, List.getElem_toArray, List.getElem_cons_zero, List.getElem_cons_succ]
  refine s_go (m_load_obj Tryz.underlying28 (hS := hS) (hv := by exact zi_get rfl (by omega))) ?_
  try simp only [opv, nZ, Value.cells, List.getElem_toArray, List.getElem_cons_zero, List.getElem_cons_succ]
  rw [aval_0 hal, hv.e0]
  refine s_go (s_conv Tryz.underlying28 Tryz.underlying5 (hc := cv_u8 rfl)) ?_
  try simp only [opv, nZ, Value.cells]
  refine s_call en35 ?_
  try simp only [opv, nZ, Value.cells, List.map_toArray, List.map_cons, List.map_nil, List.append_toArray, List.cons_append, List.nil_append, Array.append_empty]
  refine CallR.mono (c_wbyte _ g _ _ (xs ++ keyOut (akey a)) (by simp only [List.length_append, List.length_cons, List.length_nil]; omega) _ (hS.owns (by repeat (first | exact Spl.nil | (apply Spl.cons (by repeat (exact Del.head))))))) ?_
  rintro _ w3 ⟨rfl, A3, c3, hC3⟩
  replace hS := hS.frame (by repeat (first | exact Spl.nil | (apply Spl.cons (by repeat (exact Del.head))))) hC3 (by intro r hr g hg; simp only [List.mem_cons, List.not_mem_nil, or_false] at hr; rcases hr with rfl | rfl | rfl <;> (simp [Res.reads] at hg; done))
  simp only [List.cons_append, List.nil_append] at hS
  try simp only [opv, nZ, Value.cells]
  refine x_nil ?_
  refine r_none rfl ?_
  rw [← hO] at hS
  exact ⟨rfl, _, _, hS.sel (by repeat (first | exact Sel.nil | (refine Sel.cons (by repeat (exact Del.head)) ?_)))⟩
 ·
  try simp only [decide_eq_true_eq, decide_eq_false_iff_not, Bool.not_eq_true', Bool.not_eq_false', Int.not_lt, Int.not_le, ne_eq, Decidable.not_not, bne_iff_ne, beq_iff_eq, not_true_eq_false, not_false_eq_true] at hc1
  refine x_seq fun K6 hK6 => ?_
  refine x_region ?_
  refine s_go (s_eql) ?_
  try simp only [opv, nZ, Value.cells]
  refine s_go (s_assign) ?_
  try simp only [opv, nZ, Value.cells]
  refine x_nil ?_
  refine hK6 _ _ ?_
  refine x_cond (ht := fun hc2 => ?_) (hf := fun hc2 => ?_)
  ·
   try simp only [decide_eq_true_eq, decide_eq_false_iff_not, Bool.not_eq_true', Bool.not_eq_false', Int.not_lt, Int.not_le, ne_eq, Decidable.not_not, bne_iff_ne, beq_iff_eq, not_true_eq_false, not_false_eq_true] at hc2
   have hO : xs ++ atomW a = xs ++ keyOut (akey a) ++ vari (kn (aval a) 0) ++ nmOut (vtext (aval a)) := by simp [atomW, valOut, show kn a 0 = 4 by omega]
   refine x_seq fun K7 hK7 => ?_
   refine x_region ?_
   refine s_go (s_move) ?_
   try simp only [opv, nZ, Value.cells]
   refine s_go (m_fieldAddr Tryz.underlying32 (hi := ti30)) ?_
   try simp only [opv, nZ, Value.cells, Nat.zero_add, Nat.add_zero, List.getElem_toArray, List.getElem_cons_zero, List.getElem_cons_succ]
   refine s_go (m_fieldAddr Tryz.underlying30 (hi := ti28)) ?_
   try simp only [opv, nZ, Value.cells, Nat.zero_add, Nat.add_zero, List.getElem_toArray, List.getElem_cons_zero, List.getElem_cons_succ]
   refine s_go (m_load_obj Tryz.underlying28 (hS := hS) (hv := by exact zi_get rfl (by omega))) ?_
   try simp only [opv, nZ, Value.cells, List.getElem_toArray, List.getElem_cons_zero, List.getElem_cons_succ]
   rw [aval_0 hal, hv.e0]
   refine s_callm (hv := rfl) en34 ?_
   try simp only [opv, nZ, Value.cells, List.map_toArray, List.map_cons, List.map_nil, List.append_toArray, List.cons_append, List.nil_append, Array.append_empty]
   refine CallR.mono (c_wnum _ g _ _ (xs ++ keyOut (akey a)) (by simp only [List.length_append, List.length_cons, List.length_nil]; omega) (kn (aval a) 0) hvb (hS.owns (by repeat (first | exact Spl.nil | (apply Spl.cons (by repeat (exact Del.head))))))) ?_
   rintro _ w4 ⟨rfl, A4, c4, hC4⟩
   replace hS := hS.frame (by repeat (first | exact Spl.nil | (apply Spl.cons (by repeat (exact Del.head))))) hC4 (by intro r hr g hg; simp only [List.mem_cons, List.not_mem_nil, or_false] at hr; rcases hr with rfl | rfl | rfl <;> (simp [Res.reads] at hg; done))
   simp only [List.cons_append, List.nil_append] at hS
   try simp only [opv, nZ, Value.cells]
   refine x_nil ?_
   refine hK7 _ _ ?_
   refine x_region ?_
   refine s_go (s_move) ?_
   try simp only [opv, nZ, Value.cells]
   refine s_go (m_fieldAddr Tryz.underlying32 (hi := ti30)) ?_
   try simp only [opv, nZ, Value.cells, Nat.zero_add, Nat.add_zero, List.getElem_toArray, List.getElem_cons_zero, List.getElem_cons_succ]
   refine s_go (m_fieldAddr Tryz.underlying30 (hi := ti24)) ?_
   try simp only [opv, nZ, Value.cells, Nat.zero_add, Nat.add_zero, List.getElem_toArray, List.getElem_cons_zero, List.getElem_cons_succ]
   refine s_go (m_loada_obj Tryz.underlying24 (hi := ti24) (hS := hS) (hfit := by (rw [zi_size (by omega)]; decide))) ?_
   try simp only [opv, nZ, Value.cells, List.getElem_toArray, List.getElem_cons_zero, List.getElem_cons_succ]
   rw [atom_text hal]
   refine s_call en36 ?_
   try simp only [opv, nZ, Value.cells, List.map_toArray, List.map_cons, List.map_nil, List.append_toArray, List.cons_append, List.nil_append, Array.append_empty]
   refine CallR.mono (c_wname _ g _ _ (xs ++ keyOut (akey a) ++ vari (kn (aval a) 0)) (by simp only [List.length_append, List.length_cons, List.length_nil]; omega) (vtext (aval a)) htl htb (hS.owns (by repeat (first | exact Spl.nil | (apply Spl.cons (by repeat (exact Del.head))))))) ?_
   rintro _ w5 ⟨rfl, A5, c5, hC5⟩
   replace hS := hS.frame (by repeat (first | exact Spl.nil | (apply Spl.cons (by repeat (exact Del.head))))) hC5 (by intro r hr g hg; simp only [List.mem_cons, List.not_mem_nil, or_false] at hr; rcases hr with rfl | rfl | rfl <;> (simp [Res.reads] at hg; done))
   simp only [List.cons_append, List.nil_append] at hS
   try simp only [opv, nZ, Value.cells]
   refine x_nil ?_
   refine r_none rfl ?_
   rw [← hO] at hS
   exact ⟨rfl, _, _, hS.sel (by repeat (first | exact Sel.nil | (refine Sel.cons (by repeat (exact Del.head)) ?_)))⟩
  ·
   try simp only [decide_eq_true_eq, decide_eq_false_iff_not, Bool.not_eq_true', Bool.not_eq_false', Int.not_lt, Int.not_le, ne_eq, Decidable.not_not, bne_iff_ne, beq_iff_eq, not_true_eq_false, not_false_eq_true] at hc2
   have hO : xs ++ atomW a = xs ++ keyOut (akey a) ++ vari (kn (aval a) 0) := by simp [atomW, valOut, show ¬ kn a 0 = 1 by omega, show ¬ kn a 0 = 4 by omega]
   refine x_region ?_
   refine s_go (s_move) ?_
   try simp only [opv, nZ, Value.cells]
   refine s_go (m_fieldAddr Tryz.underlying32 (hi := ti30)) ?_
   try simp only [opv, nZ, Value.cells, Nat.zero_add, Nat.add_zero, List.getElem_toArray, List.getElem_cons_zero, List.getElem_cons_succ]
   refine s_go (m_fieldAddr Tryz.underlying30 (hi := ti28)) ?_
   try simp only [opv, nZ, Value.cells, Nat.zero_add, Nat.add_zero, List.getElem_toArray, List.getElem_cons_zero, List.getElem_cons_succ]
   refine s_go (m_load_obj Tryz.underlying28 (hS := hS) (hv := by exact zi_get rfl (by omega))) ?_
   try simp only [opv, nZ, Value.cells, List.getElem_toArray, List.getElem_cons_zero, List.getElem_cons_succ]
   rw [aval_0 hal, hv.e0]
   refine s_callm (hv := rfl) en34 ?_
   try simp only [opv, nZ, Value.cells, List.map_toArray, List.map_cons, List.map_nil, List.append_toArray, List.cons_append, List.nil_append, Array.append_empty]
   refine CallR.mono (c_wnum _ g _ _ (xs ++ keyOut (akey a)) (by simp only [List.length_append, List.length_cons, List.length_nil]; omega) (kn (aval a) 0) hvb (hS.owns (by repeat (first | exact Spl.nil | (apply Spl.cons (by repeat (exact Del.head))))))) ?_
   rintro _ w6 ⟨rfl, A6, c6, hC6⟩
   replace hS := hS.frame (by repeat (first | exact Spl.nil | (apply Spl.cons (by repeat (exact Del.head))))) hC6 (by intro r hr g hg; simp only [List.mem_cons, List.not_mem_nil, or_false] at hr; rcases hr with rfl | rfl | rfl <;> (simp [Res.reads] at hg; done))
   simp only [List.cons_append, List.nil_append] at hS
   try simp only [opv, nZ, Value.cells]
   refine x_nil ?_
   refine r_none rfl ?_
   rw [← hO] at hS
   exact ⟨rfl, _, _, hS.sel (by repeat (first | exact Sel.nil | (refine Sel.cons (by repeat (exact Del.head)) ?_)))⟩
end Go.Proofs.YtpjpaipkkcengaaGreat
set_option linter.unusedSimpArgs false
set_option linter.unusedVariables false
set_option maxHeartbeats 800000
set_option maxRecDepth 100000
namespace Go.Proofs.YtpjpaipkkcengaaGreat
open Go.RowKit

def a9 : List Int := [1, 1, 97, 0, 0, 0, 0, 0, 0, 0, 2, 3, 1, 0, 0, 0, 0, 0, 0, 0, 0]
theorem a9_ok : AtomOk a9 := ⟨rfl, ⟨rfl, rfl, by decide, rfl, by decide, by unfold Byt; decide, rfl, by decide, rfl, by decide⟩, ⟨rfl, rfl, by decide, by unfold Byt; decide⟩⟩
theorem a9_right : atomR a9 = true := by decide
theorem a9_out : atomOut a9 = [1, 1, 1, 97, 2, 3, 1] := by
  have h1 := vari_lt (x := 1) (by omega)
  have h3 := vari_lt (x := 3) (by omega)
  rw [atomOut, if_pos a9_right]
  show [1] ++ vari 1 ++ (nmOut [97, 0, 0, 0, 0, 0, 0, 0] ++ [2] ++ vari 3) ++ [1] = _
  rw [h1, h3]; rfl
theorem atomOut_yes {a : List Int} (h : atomR a = true) : atomOut a = atomW a := by rw [atomOut, if_pos h]; rfl
theorem atomOut_no {a : List Int} (h : atomR a = false) : atomOut a = [] := by rw [atomOut, if_neg (by simp [h])]
theorem atomW_len {a : List Int} (h : AtomOk a) : (atomW a).length ≤ 70 := by
  have h1 := keyOut_len h.key
  have h2 := vari_len10 h.val.b0
  have h3 := nmOut_len (vtext (aval a))
  have h4 := nsz_le (vtext (aval a))
  have h5 := vtext_len h.val.len
  unfold atomW valOut
  split
  · simp; omega
  · split <;> simp <;> omega
theorem atomOut_len {a : List Int} (h : AtomOk a) : (atomOut a).length ≤ 70 := by
  have := atomW_len h
  cases hr : atomR a
  · rw [atomOut_no hr]; simp
  · rw [atomOut_yes hr]; exact this

theorem c_atomBytes (a : List Int) (ha : AtomOk a)  (w0 : World) :
    CallR Tryz.prog 6 #[.agg (AA a)] w0 fun v w' => ∃ A c, v = .slice A (atomOut a).length c ∧ St NoB w0 w' [.vec A c 5 1 (atomOut a).length ((atomOut a).map (Value.int .u8))] := by
 have hS : St NoB w0 w0 [] := St.start w0
 refine c_enter (l := [.agg (AA a), undef, undef, undef, undef, undef, undef, undef, undef, undef, undef, undef, undef]) Tryz.func6 rfl (by simp only [Tryz.ntmps6, List.size_toArray, List.length_cons, List.length_nil, Nat.reduceAdd, Nat.reduceSub, Array.replicate_succ, Array.replicate_zero, List.push_toArray, List.append_toArray, List.nil_append, List.cons_append]) ?_
 refine x_seq fun K1 hK1 => ?_
 refine x_region ?_
 have hal := ha.len
 have hk := ha.key
 have hv := ha.val
 have hvl := hv.len
 have hkl := hk.len
 have h00 := akey_0 hal
 have htl := vtext_len hvl
 have htb := hv.text
 have hvb := hv.b0
 have hwl := atomW_len ha
 refine m_box hS (fun w1 g1 hS => ?_)
 try simp only [opv, nZ, Value.cells, Array.toArray_toList] at hS ⊢
 refine s_go (s_assign) ?_
 try simp only [opv, nZ, Value.cells]
 refine x_nil ?_
 refine hK1 _ _ ?_
 refine x_seq fun K2 hK2 => ?_
 refine x_seq fun K3 hK3 => ?_
 refine x_region ?_
 refine s_go (m_load_row Tryz.underlying32 (hi := ti32) (hS := hS) (hfit := by (rw [zi_size (by omega)]; rfl))) ?_
 try simp only [opv, nZ, Value.cells, List.getElem_toArray, List.getElem_cons_zero, List.getElem_cons_succ]
 refine s_call en16 ?_
 try simp only [opv, nZ, Value.cells, List.map_toArray, List.map_cons, List.map_nil, List.append_toArray, List.cons_append, List.nil_append, Array.append_empty]
 refine CallR.mono (c_atomRight a ha _) ?_
 rintro _ w2 ⟨rfl, hE2⟩
 replace hS := hS.ext hE2
 try simp only [opv, nZ, Value.cells]
 refine s_go (s_not) ?_
 try simp only [opv, nZ, Value.cells]
 refine x_nil ?_
 refine hK3 _ _ ?_
 refine x_cond (ht := fun hc1 => ?_) (hf := fun hc1 => ?_)
 ·
  try simp only [decide_eq_true_eq, decide_eq_false_iff_not, Bool.not_eq_true', Bool.not_eq_false', Int.not_lt, Int.not_le, ne_eq, Decidable.not_not, bne_iff_ne, beq_iff_eq, not_true_eq_false, not_false_eq_true] at hc1
  have hO := atomOut_no hc1
  replace hS := hS.nil_vec 5 1
  refine x_seq fun K4 hK4 => ?_
  refine x_region ?_
  refine s_go (s_assign) ?_
  try simp only [opv, nZ, Value.cells]
  refine x_nil ?_
  refine hK4 _ _ ?_
  refine x_ret ?_
  refine r_tmp rfl ?_
  exact ⟨none, 0, by rw [hO]; rfl, by rw [hO]; exact hS.sel (by repeat (first | exact Sel.nil | (refine Sel.cons (by repeat (exact Del.head)) ?_)))⟩
 ·
  try simp only [decide_eq_true_eq, decide_eq_false_iff_not, Bool.not_eq_true', Bool.not_eq_false', Int.not_lt, Int.not_le, ne_eq, Decidable.not_not, bne_iff_ne, beq_iff_eq, not_true_eq_false, not_false_eq_true] at hc1
  have hO := atomOut_yes hc1
  refine x_skip ?_
  refine hK2 _ _ ?_
  refine x_seq fun K5 hK5 => ?_
  refine x_region ?_
  refine s_call en17 ?_
  try simp only [opv, nZ, Value.cells, List.map_toArray, List.map_cons, List.map_nil, List.append_toArray, List.cons_append, List.nil_append, Array.append_empty]
  refine CallR.mono (c_wnew _) ?_
  rintro _ w3 ⟨p, rfl, hC3⟩
  replace hS := hS.call hC3
  simp only [List.cons_append, List.nil_append] at hS
  try simp only [opv, nZ, Value.cells]
  refine s_go (s_assign) ?_
  try simp only [opv, nZ, Value.cells]
  refine x_nil ?_
  refine hK5 _ _ ?_
  refine x_seq fun K6 hK6 => ?_
  refine x_region ?_
  refine s_go (s_move) ?_
  try simp only [opv, nZ, Value.cells]
  refine s_go (m_load_row Tryz.underlying32 (hi := ti32) (hS := hS) (hfit := by (rw [zi_size (by omega)]; rfl))) ?_
  try simp only [opv, nZ, Value.cells, List.getElem_toArray, List.getElem_cons_zero, List.getElem_cons_succ]
  refine s_call en18 ?_
  try simp only [opv, nZ, Value.cells, List.map_toArray, List.map_cons, List.map_nil, List.append_toArray, List.cons_append, List.nil_append, Array.append_empty]
  refine CallR.mono (c_atomWrite _ p none 0 [] (by simp) a ha (hS.owns (by repeat (first | exact Spl.nil | (apply Spl.cons (by repeat (exact Del.head))))))) ?_
  rintro _ w4 ⟨rfl, A4, c4, hC4⟩
  replace hS := hS.frame (by repeat (first | exact Spl.nil | (apply Spl.cons (by repeat (exact Del.head))))) hC4 (by intro r hr g hg; simp only [List.mem_cons, List.not_mem_nil, or_false] at hr; rcases hr with rfl | rfl | rfl <;> (simp [Res.reads] at hg; done))
  simp only [List.cons_append, List.nil_append] at hS
  try simp only [opv, nZ, Value.cells]
  refine x_nil ?_
  refine hK6 _ _ ?_
  refine x_seq fun K7 hK7 => ?_
  refine x_region ?_
  refine s_go (s_move) ?_
  try simp only [opv, nZ, Value.cells]
  refine s_call en19 ?_
  try simp only [opv, nZ, Value.cells, List.map_toArray, List.map_cons, List.map_nil, List.append_toArray, List.cons_append, List.nil_append, Array.append_empty]
  refine CallR.mono (c_wout _ p _ _ ([] ++ atomW a) (by simp; omega) (hS.owns (by repeat (first | exact Spl.nil | (apply Spl.cons (by repeat (exact Del.head))))))) ?_
  rintro _ w5 ⟨A5, c5, rfl, hC5⟩
  replace hS := hS.frame (by repeat (first | exact Spl.nil | (apply Spl.cons (by repeat (exact Del.head))))) hC5 (by intro r hr g hg; simp only [List.mem_cons, List.not_mem_nil, or_false] at hr; rcases hr with rfl | rfl | rfl <;> (simp [Res.reads] at hg; done))
  simp only [List.cons_append, List.nil_append] at hS
  try simp only [opv, nZ, Value.cells]
  refine s_go (s_assign) ?_
  try simp only [opv, nZ, Value.cells]
  refine x_nil ?_
  refine hK7 _ _ ?_
  refine x_ret ?_
  refine r_tmp rfl ?_
  exact ⟨_, _, by rw [hO]; rfl, by rw [hO]; exact hS.sel (by repeat (first | exact Sel.nil | (refine Sel.cons (by repeat (exact Del.head)) ?_)))⟩
theorem c_atomSize (a : List Int) (ha : AtomOk a)  (w0 : World) :
    CallR Tryz.prog 8 #[.agg (AA a)] w0 fun v w' => v = .int .i64 ((atomOut a).length : Int) ∧ Ext w0 w' := by
 have hS : St NoB w0 w0 [] := St.start w0
 refine c_enter (l := [.agg (AA a), undef, undef, undef, undef, undef]) Tryz.func8 rfl (by simp only [Tryz.ntmps8, List.size_toArray, List.length_cons, List.length_nil, Nat.reduceAdd, Nat.reduceSub, Array.replicate_succ, Array.replicate_zero, List.push_toArray, List.append_toArray, List.nil_append, List.cons_append]) ?_
 refine x_seq fun K1 hK1 => ?_
 refine x_region ?_
 have hal := ha.len
 have hk := ha.key
 have hv := ha.val
 have hvl := hv.len
 have hkl := hk.len
 have h00 := akey_0 hal
 have htl := vtext_len hvl
 have htb := hv.text
 have hvb := hv.b0
 refine m_box hS (fun w1 g1 hS => ?_)
 try simp only [opv, nZ, Value.cells, Array.toArray_toList] at hS ⊢
 refine s_go (s_assign) ?_
 try simp only [opv, nZ, Value.cells]
 refine x_nil ?_
 refine hK1 _ _ ?_
 refine x_seq fun K2 hK2 => ?_
 refine x_region ?_
 refine s_go (m_load_row Tryz.underlying32 (hi := ti32) (hS := hS) (hfit := by (rw [zi_size (by omega)]; rfl))) ?_
 try simp only [opv, nZ, Value.cells, List.getElem_toArray, List.getElem_cons_zero, List.getElem_cons_succ]
 refine s_call en6 ?_
 try simp only [opv, nZ, Value.cells, List.map_toArray, List.map_cons, List.map_nil, List.append_toArray, List.cons_append, List.nil_append, Array.append_empty]
 refine CallR.mono (c_atomBytes a ha _) ?_
 rintro _ w2 ⟨A2, c2, rfl, hC2⟩
 replace hS := hS.call hC2
 simp only [List.cons_append, List.nil_append] at hS
 try simp only [opv, nZ, Value.cells]
 refine s_go (s_len_sl Tryz.underlying33) ?_
 try simp only [opv, nZ, Value.cells]
 refine s_go (s_assign) ?_
 try simp only [opv, nZ, Value.cells]
 refine x_nil ?_
 refine hK2 _ _ ?_
 refine x_ret ?_
 refine r_tmp rfl ?_
 exact ⟨rfl, hS.ext_of⟩
theorem c_law09alive  (w0 : World) :
    CallR Tryz.prog 4 #[] w0 fun v w' => v = .bool true ∧ Ext w0 w' := by
 have hS : St NoB w0 w0 [] := St.start w0
 refine c_enter (l := [undef, undef, undef, undef, undef, undef, undef, undef, undef, undef, undef, undef, undef, undef, undef, undef, undef, undef, undef]) Tryz.func4 rfl (by simp only [Tryz.ntmps4, List.size_toArray, List.length_cons, List.length_nil, Nat.reduceAdd, Nat.reduceSub, Array.replicate_succ, Array.replicate_zero, List.push_toArray, List.append_toArray, List.nil_append, List.cons_append]) ?_
 refine x_seq fun K1 hK1 => ?_
 refine x_region ?_
 refine s_go (s_assign) ?_
 try simp only [opv, nZ, Value.cells]
 refine x_nil ?_
 refine hK1 _ _ ?_
 refine x_seq fun K2 hK2 => ?_
 refine x_region ?_
 refine s_go (s_build_arr (cells := #[_, .int .u8 0, .int .u8 0, .int .u8 0, .int .u8 0, .int .u8 0, .int .u8 0, .int .u8 0]) Tryz.underlying24 ti24 ti5 (hc := by simp only [List.map_toArray, List.map_cons, List.map_nil, opv, nZ, Value.cells, List.toList_toArray]; (repeat (refine fill_cons rfl rfl (Nat.le_of_ble_eq_true rfl) ?_)); rfl)) ?_
 try simp only [opv, nZ, Value.cells]
 refine s_go (s_build_struct (cells := #[_, _, _, _, _, _, _, _, _, _, _, _]) Tryz.underlying27 ti27 bp27 (hc := by simp only [List.map_toArray, List.map_cons, List.map_nil, opv, nZ, Value.cells, List.toList_toArray]; (repeat (refine fill_cons rfl rfl (Nat.le_of_ble_eq_true rfl) ?_)); rfl)) ?_
 try simp only [opv, nZ, Value.cells]
 refine s_go (s_build_struct (cells := #[_, .int .u8 0, .int .u8 0, .int .u8 0, .int .u8 0, .int .u8 0, .int .u8 0, .int .u8 0, .int .u8 0]) Tryz.underlying30 ti30 bp30 (hc := by simp only [List.map_toArray, List.map_cons, List.map_nil, opv, nZ, Value.cells, List.toList_toArray]; (repeat (refine fill_cons rfl rfl (Nat.le_of_ble_eq_true rfl) ?_)); rfl)) ?_
 try simp only [opv, nZ, Value.cells]
 refine s_go (s_build_struct (cells := #[_, _, _, _, _, _, _, _, _, _, _, _, _, _, _, _, _, _, _, _, _]) Tryz.underlying32 ti32 bp32 (hc := by simp only [List.map_toArray, List.map_cons, List.map_nil, opv, nZ, Value.cells, List.toList_toArray]; (repeat (refine fill_cons rfl rfl (Nat.le_of_ble_eq_true rfl) ?_)); rfl)) ?_
 try simp only [opv, nZ, Value.cells]
 rw [show (#[.int .u8 1, .int .u16 1, .int .u8 97, .int .u8 0, .int .u8 0, .int .u8 0, .int .u8 0, .int .u8 0, .int .u8 0, .int .u8 0, .int .u8 2, .int .u32 3, .int .u64 1, .int .u8 0, .int .u8 0, .int .u8 0, .int .u8 0, .int .u8 0, .int .u8 0, .int .u8 0, .int .u8 0] : Array Value) = AA a9 from rfl]
 have hal : a9.length = 21 := rfl
 have ha := a9_ok
 refine m_alloc ti32 hS (fun w1 g1 hS => ?_)
 try simp only [opv, nZ, Value.cells, Array.toArray_toList] at hS ⊢
 have hS : St NoB w0 w1 [.obj g1 (.cells (AA (List.replicate 21 0)) 32 (0, 0))] := hS
 have h0l : (List.replicate 21 (0 : Int)).length = 21 := rfl
 refine m_store_obj ti32 (hS := hS) (hc := by exact zi_whole (by omega) (by omega)) (hv := by rfl) (hfit := by (rw [zi_size (by omega)]; decide)) (h1 := by exact zi_one _ _) (h := fun w2 hS => ?_)
 try simp only [opv, nZ, Value.cells, Array.toArray_toList] at hS ⊢
 refine x_nil ?_
 refine hK2 _ _ ?_
 refine x_seq fun K3 hK3 => ?_
 refine x_region ?_
 refine s_go (m_load_row Tryz.underlying32 (hi := ti32) (hS := hS) (hfit := by (rw [zi_size (by omega)]; rfl))) ?_
 try simp only [opv, nZ, Value.cells, List.getElem_toArray, List.getElem_cons_zero, List.getElem_cons_succ]
 refine s_call en6 ?_
 try simp only [opv, nZ, Value.cells, List.map_toArray, List.map_cons, List.map_nil, List.append_toArray, List.cons_append, List.nil_append, Array.append_empty]
 refine CallR.mono (c_atomBytes a9 ha _) ?_
 rintro _ w3 ⟨A3, c3, rfl, hC3⟩
 replace hS := hS.call hC3
 simp only [List.cons_append, List.nil_append] at hS
 rw [a9_out] at hS ⊢
 try simp only [opv, nZ, Value.cells]
 refine m_buildRow (cells := #[_, _, _, _, _, _, _]) Tryz.underlying33 ti5 (hc := by simp only [List.map_toArray, List.map_cons, List.map_nil, opv, nZ, Value.cells, List.toList_toArray]; (repeat (refine fill_cons rfl rfl (Nat.le_of_ble_eq_true rfl) ?_)); rfl) (hS := hS) (h := fun w4 g4 hS => ?_)
 try simp only [opv, nZ, Value.cells, Array.toArray_toList] at hS ⊢
 replace hS := hS.obj_rd (sz := 1) (n := 7) rfl .head
 refine s_call en5 ?_
 try simp only [opv, nZ, Value.cells, List.map_toArray, List.map_cons, List.map_nil, List.append_toArray, List.cons_append, List.nil_append, Array.append_empty]
 refine CallR.mono (c_ref03Same _ _ _ _ _ _ _ [1, 1, 1, 97, 2, 3, 1] [1, 1, 1, 97, 2, 3, 1] (hS.vecRd (by repeat (first | exact Has.head | apply Has.tail))) (hS.hasRd (by repeat (exact Has.head))) rfl rfl (by simp)) ?_
 rintro _ w5 ⟨rfl, hE5⟩
 replace hS := hS.ext hE5
 try simp only [opv, nZ, Value.cells]
 try simp only [eq_self, decide_true, beq_self_eq_true, Bool.and_self]
 refine s_go (s_move) ?_
 try simp only [opv, nZ, Value.cells]
 refine g_on (yi (t := 10) rfl rfl) ?_
 refine s_go (m_load_row Tryz.underlying32 (hi := ti32) (hS := hS) (hfit := by (rw [zi_size (by omega)]; rfl))) ?_
 try simp only [opv, nZ, Value.cells, List.getElem_toArray, List.getElem_cons_zero, List.getElem_cons_succ]
 refine g_on (yi (t := 10) rfl rfl) ?_
 refine s_call en8 ?_
 try simp only [opv, nZ, Value.cells, List.map_toArray, List.map_cons, List.map_nil, List.append_toArray, List.cons_append, List.nil_append, Array.append_empty]
 refine CallR.mono (c_atomSize a9 ha _) ?_
 rintro _ w6 ⟨rfl, hE6⟩
 replace hS := hS.ext hE6
 try simp only [opv, nZ, Value.cells]
 rw [a9_out]
 refine g_on (yi (t := 10) rfl rfl) ?_
 refine s_go (s_eql) ?_
 try simp only [opv, nZ, Value.cells]
 rw [show decide (((([1, 1, 1, 97, 2, 3, 1] : List Int).length : Nat) : Int) = 7) = true from rfl]
 refine s_go (s_pick_t) ?_
 try simp only [opv, nZ, Value.cells]
 refine s_go (s_move) ?_
 try simp only [opv, nZ, Value.cells]
 refine g_on (yi (t := 15) rfl rfl) ?_
 refine s_go (m_load_row Tryz.underlying32 (hi := ti32) (hS := hS) (hfit := by (rw [zi_size (by omega)]; rfl))) ?_
 try simp only [opv, nZ, Value.cells, List.getElem_toArray, List.getElem_cons_zero, List.getElem_cons_succ]
 refine g_on (yi (t := 15) rfl rfl) ?_
 refine s_call en16 ?_
 try simp only [opv, nZ, Value.cells, List.map_toArray, List.map_cons, List.map_nil, List.append_toArray, List.cons_append, List.nil_append, Array.append_empty]
 refine CallR.mono (c_atomRight a9 ha _) ?_
 rintro _ w7 ⟨rfl, hE7⟩
 replace hS := hS.ext hE7
 try simp only [opv, nZ, Value.cells]
 rw [a9_right]
 refine s_go (s_pick_t) ?_
 try simp only [opv, nZ, Value.cells]
 refine s_go (s_assign) ?_
 try simp only [opv, nZ, Value.cells]
 refine x_nil ?_
 refine hK3 _ _ ?_
 refine x_ret ?_
 refine r_tmp rfl ?_
 exact ⟨rfl, hS.ext_of⟩
end Go.Proofs.YtpjpaipkkcengaaGreat
set_option linter.unusedSimpArgs false
set_option linter.unusedVariables false
set_option maxHeartbeats 800000
set_option maxRecDepth 100000
namespace Go.Proofs.YtpjpaipkkcengaaGreat
open Go.RowKit
theorem c_ref09Right (a : List Int) (ha : AtomOk a)  (w0 : World) :
    CallR Tryz.prog 20 #[.agg (AA a)] w0 fun v w' => v = .bool (atomR a) ∧ Ext w0 w' := by
 have hS : St NoB w0 w0 [] := St.start w0
 refine c_enter (l := [.agg (AA a), undef, undef, undef, undef, undef, undef, undef, undef, undef, undef, undef, undef, undef, undef, undef, undef, undef, undef, undef, undef, undef, undef, undef, undef, undef, undef, undef, undef, undef, undef, undef, undef, undef, undef, undef, undef, undef, undef, undef, undef, undef, undef, undef, undef, undef, undef, undef, undef, undef, undef, undef, undef, undef, undef, undef, undef, undef, undef, undef, undef, undef, undef, undef, undef, undef, undef, undef, undef, undef, undef, undef, undef, undef, undef]) Tryz.func20 rfl (by simp only [Tryz.ntmps20, List.size_toArray, List.length_cons, List.length_nil, Nat.reduceAdd, Nat.reduceSub, Array.replicate_succ, Array.replicate_zero, List.push_toArray, List.append_toArray, List.nil_append, List.cons_append]) ?_
 refine x_seq fun K1 hK1 => ?_
 refine x_region ?_
 have hal := ha.len
 have hk := ha.key
 have hv := ha.val
 have hvl := hv.len
 have hkl := hk.len
 have h00 := akey_0 hal
 have htl := vtext_len hvl
 have htb := hv.text
 have hvb := hv.b0
 refine m_box hS (fun w1 g1 hS => ?_)
 try simp only [opv, nZ, Value.cells, Array.toArray_toList] at hS ⊢
 refine s_go (s_assign) ?_
 try simp only [opv, nZ, Value.cells]
 refine x_nil ?_
 refine hK1 _ _ ?_
 refine x_seq fun K2 hK2 => ?_
 refine x_seq fun K3 hK3 => ?_
 refine x_region ?_
 refine s_go (m_fieldAddr Tryz.underlying32 (hi := ti27)) ?_
 try simp only [opv, nZ, Value.cells, Nat.zero_add, Nat.add_zero, List.getElem_toArray, List.getElem_cons_zero, List.getElem_cons_succ]
 refine s_go (m_loada_obj Tryz.underlying27 (hi := ti27) (hS := hS) (hfit := by (rw [zi_size (by omega)]; decide))) ?_
 try simp only [opv, nZ, Value.cells, List.getElem_toArray, List.getElem_cons_zero, List.getElem_cons_succ]
 rw [atom_key hal]
 refine s_call en37 ?_
 try simp only [opv, nZ, Value.cells, List.map_toArray, List.map_cons, List.map_nil, List.append_toArray, List.cons_append, List.nil_append, Array.append_empty]
 refine CallR.mono (c_ref08Right _ hk _) ?_
 rintro _ w2 ⟨rfl, hE2⟩
 replace hS := hS.ext hE2
 try simp only [opv, nZ, Value.cells]
 refine s_go (s_not) ?_
 try simp only [opv, nZ, Value.cells]
 refine x_nil ?_
 refine hK3 _ _ ?_
 refine x_cond (ht := fun hc1 => ?_) (hf := fun hc1 => ?_)
 ·
  try simp only [decide_eq_true_eq, decide_eq_false_iff_not, Bool.not_eq_true', Bool.not_eq_false', Int.not_lt, Int.not_le, ne_eq, Decidable.not_not, bne_iff_ne, beq_iff_eq, not_true_eq_false, not_false_eq_true] at hc1
  have hV : atomR a = false := by simp only [atomR, hc1, Bool.false_and]
  refine x_seq fun K4 hK4 => ?_
  refine x_region ?_
  refine s_go (s_assign) ?_
  try simp only [opv, nZ, Value.cells]
  refine x_nil ?_
  refine hK4 _ _ ?_
  refine x_ret ?_
  refine r_tmp rfl ?_
  exact ⟨by rw [hV]; rfl, hS.ext_of⟩
 ·
  try simp only [decide_eq_true_eq, decide_eq_false_iff_not, Bool.not_eq_true', Bool.not_eq_false', Int.not_lt, Int.not_le, ne_eq, Decidable.not_not, bne_iff_ne, beq_iff_eq, not_true_eq_false, not_false_eq_true] at hc1
  have hV : atomR a = valR (kn a 0) (aval a) := by simp only [atomR, hc1, Bool.true_and]
  have hs := keyR_sort hc1
  rw [← h00.2] at hs
  refine x_skip ?_
  refine hK2 _ _ ?_
  refine x_seq fun K5 hK5 => ?_
  refine x_region ?_
  refine s_go (m_fieldAddr Tryz.underlying32 (hi := ti30)) ?_
  try simp only [opv, nZ, Value.cells, Nat.zero_add, Nat.add_zero, List.getElem_toArray, List.getElem_cons_zero, List.getElem_cons_succ]
  refine s_go (m_fieldAddr Tryz.underlying30 (hi := ti24)) ?_
  try simp only [opv, nZ, Value.cells, Nat.zero_add, Nat.add_zero, List.getElem_toArray, List.getElem_cons_zero, List.getElem_cons_succ]
  refine s_go (m_loada_obj Tryz.underlying24 (hi := ti24) (hS := hS) (hfit := by (rw [zi_size (by omega)]; decide))) ?_
  try simp only [opv, nZ, Value.cells, List.getElem_toArray, List.getElem_cons_zero, List.getElem_cons_succ]
  rw [atom_text hal]
  refine s_go (s_build_arr (cells := #[.int .u8 0, .int .u8 0, .int .u8 0, .int .u8 0, .int .u8 0, .int .u8 0, .int .u8 0, .int .u8 0]) Tryz.underlying24 ti24 ti5 (hc := by simp only [List.map_toArray, List.map_cons, List.map_nil, opv, nZ, Value.cells, List.toList_toArray]; (repeat (refine fill_cons rfl rfl (Nat.le_of_ble_eq_true rfl) ?_)); rfl)) ?_
  try simp only [opv, nZ, Value.cells]
  rw [show (#[.int .u8 0, .int .u8 0, .int .u8 0, .int .u8 0, .int .u8 0, .int .u8 0, .int .u8 0, .int .u8 0] : Array Value) = ic .u8 nm0 from rfl]
  refine s_go (s_eql_agg eqv24 (hg := eg24) (hX := zi_ic (by assumption)) (hY := zi_ic (by rfl)) (h1 := by assumption) (h2 := by rfl)) ?_
  try simp only [opv, nZ, Value.cells]
  rw [show decide (vtext (aval a) = nm0) = bareV (aval a) from rfl]
  refine s_go (s_assign) ?_
  try simp only [opv, nZ, Value.cells]
  refine x_nil ?_
  refine hK5 _ _ ?_
  refine x_seq fun K6 hK6 => ?_
  refine x_seq fun K7 hK7 => ?_
  refine x_region ?_
  refine s_go (m_fieldAddr Tryz.underlying32 (hi := ti27)) ?_
  try simp only [opv, nZ, Value.cells, Nat.zero_add, Nat.add_zero, List.getElem_toArray, List.getElem_cons_zero, List.getElem_cons_succ]
  refine s_go (m_fieldAddr Tryz.underlying27 (hi := ti5)) ?_
  try simp only [opv, nZ, Value.cells, Nat.zero_add, Nat.add_zero, List.getElem_toArray, List.getElem_cons_zero, List.getElem_cons_succ]
  refine s_go (m_load_obj Tryz.underlying5 (hS := hS) (hv := by exact zi_get rfl (by omega))) ?_
  try simp only [opv, nZ, Value.cells, List.getElem_toArray, List.getElem_cons_zero, List.getElem_cons_succ]
  rw [h00.1, hk.e0, ← h00.2]
  refine x_nil ?_
  refine hK7 _ _ ?_
  refine x_block ?_
  refine x_seq fun K8 hK8 => ?_
  refine x_region ?_
  refine s_go (s_eql) ?_
  try simp only [opv, nZ, Value.cells]
  refine s_go (s_assign) ?_
  try simp only [opv, nZ, Value.cells]
  refine x_nil ?_
  refine hK8 _ _ ?_
  refine x_cond (ht := fun hc2 => ?_) (hf := fun hc2 => ?_)
  ·
   try simp only [decide_eq_true_eq, decide_eq_false_iff_not, Bool.not_eq_true', Bool.not_eq_false', Int.not_lt, Int.not_le, ne_eq, Decidable.not_not, bne_iff_ne, beq_iff_eq, not_true_eq_false, not_false_eq_true] at hc2
   have hV1 : valR (kn a 0) (aval a) = (bareV (aval a) && decide (kn (aval a) 0 = 1 ∨ kn (aval a) 0 = 2)) := by rw [valR, if_pos (by omega)]
   refine x_seq fun K9 hK9 => ?_
   refine x_region ?_
   refine s_go (s_move) ?_
   try simp only [opv, nZ, Value.cells]
   refine s_go (s_move) ?_
   try simp only [opv, nZ, Value.cells]
   refine s_part 19 rfl (fun hp1 => ?_) (fun hp1 => ?_)
   ·
    try simp only [n3, n4]
    try simp only [decide_eq_true_eq, decide_eq_false_iff_not, Bool.not_eq_true', Bool.not_eq_false', Int.not_lt, Int.not_le, ne_eq, Decidable.not_not] at hp1
    have hba := hp1
    refine g_on (yi (t := 19) rfl rfl) ?_
    refine s_go (m_fieldAddr Tryz.underlying32 (hi := ti30)) ?_
    try simp only [opv, nZ, Value.cells, Nat.zero_add, Nat.add_zero, List.getElem_toArray, List.getElem_cons_zero, List.getElem_cons_succ]
    refine g_on (yi (t := 19) rfl rfl) ?_
    refine s_go (m_fieldAddr Tryz.underlying30 (hi := ti28)) ?_
    try simp only [opv, nZ, Value.cells, Nat.zero_add, Nat.add_zero, List.getElem_toArray, List.getElem_cons_zero, List.getElem_cons_succ]
    refine g_on (yi (t := 19) rfl rfl) ?_
    refine s_go (m_load_obj Tryz.underlying28 (hS := hS) (hv := by exact zi_get rfl (by omega))) ?_
    try simp only [opv, nZ, Value.cells, List.getElem_toArray, List.getElem_cons_zero, List.getElem_cons_succ]
    rw [aval_0 hal, hv.e0]
    refine g_on (yi (t := 19) rfl rfl) ?_
    refine s_go (s_eql) ?_
    try simp only [opv, nZ, Value.cells]
    refine g_on (yi (t := 19) rfl rfl) ?_
    refine s_go (s_move) ?_
    try simp only [opv, nZ, Value.cells]
    refine s_part 24 rfl (fun hp2 => ?_) (fun hp2 => ?_)
    ·
     try simp only [n3, n4]
     try simp only [decide_eq_true_eq, decide_eq_false_iff_not, Bool.not_eq_true', Bool.not_eq_false', Int.not_lt, Int.not_le, ne_eq, Decidable.not_not] at hp2
     refine g_off (yi (t := 24) rfl rfl) ?_
     try simp only [opv, nZ, Value.cells]
     refine g_off (yi (t := 24) rfl rfl) ?_
     try simp only [opv, nZ, Value.cells]
     refine g_off (yi (t := 24) rfl rfl) ?_
     try simp only [opv, nZ, Value.cells]
     refine g_off (yi (t := 24) rfl rfl) ?_
     try simp only [opv, nZ, Value.cells]
     refine g_on (yi (t := 19) rfl rfl) ?_
     refine s_go (s_pick_t) ?_
     try simp only [opv, nZ, Value.cells]
     refine s_go (s_pick_t) ?_
     try simp only [opv, nZ, Value.cells]
     refine s_go (s_assign) ?_
     try simp only [opv, nZ, Value.cells]
     refine x_nil ?_
     refine hK9 _ _ ?_
     refine x_ret ?_
     refine r_tmp rfl ?_
     exact ⟨congrArg Value.bool (by rw [hV, hV1, hba, Bool.true_and]; exact (decide_eq_true (by omega)).symm), hS.ext_of⟩
    ·
     try simp only [n3, n4]
     try simp only [decide_eq_true_eq, decide_eq_false_iff_not, Bool.not_eq_true', Bool.not_eq_false', Int.not_lt, Int.not_le, ne_eq, Decidable.not_not] at hp2
     refine g_on (yi (t := 24) rfl rfl) ?_
     refine s_go (m_fieldAddr Tryz.underlying32 (hi := ti30)) ?_
     try simp only [opv, nZ, Value.cells, Nat.zero_add, Nat.add_zero, List.getElem_toArray, List.getElem_cons_zero, List.getElem_cons_succ]
     refine g_on (yi (t := 24) rfl rfl) ?_
     refine s_go (m_fieldAddr Tryz.underlying30 (hi := ti28)) ?_
     try simp only [opv, nZ, Value.cells, Nat.zero_add, Nat.add_zero, List.getElem_toArray, List.getElem_cons_zero, List.getElem_cons_succ]
     refine g_on (yi (t := 24) rfl rfl) ?_
     refine s_go (m_load_obj Tryz.underlying28 (hS := hS) (hv := by exact zi_get rfl (by omega))) ?_
     try simp only [opv, nZ, Value.cells, List.getElem_toArray, List.getElem_cons_zero, List.getElem_cons_succ]
     rw [aval_0 hal, hv.e0]
     refine g_on (yi (t := 24) rfl rfl) ?_
     refine s_go (s_eql) ?_
     try simp only [opv, nZ, Value.cells]
     refine g_on (yi (t := 19) rfl rfl) ?_
     refine s_go (s_pick_f) ?_
     try simp only [opv, nZ, Value.cells]
     refine s_go (s_pick_t) ?_
     try simp only [opv, nZ, Value.cells]
     refine s_go (s_assign) ?_
     try simp only [opv, nZ, Value.cells]
     refine x_nil ?_
     refine hK9 _ _ ?_
     refine x_ret ?_
     refine r_tmp rfl ?_
     exact ⟨congrArg Value.bool (by rw [hV, hV1, hba, Bool.true_and]; exact decide_eq_decide.2 (by omega)), hS.ext_of⟩
   ·
    try simp only [n3, n4]
    try simp only [decide_eq_true_eq, decide_eq_false_iff_not, Bool.not_eq_true', Bool.not_eq_false', Int.not_lt, Int.not_le, ne_eq, Decidable.not_not] at hp1
    have hba := hp1
    refine g_off (yi (t := 19) rfl rfl) ?_
    try simp only [opv, nZ, Value.cells]
    refine g_off (yi (t := 19) rfl rfl) ?_
    try simp only [opv, nZ, Value.cells]
    refine g_off (yi (t := 19) rfl rfl) ?_
    try simp only [opv, nZ, Value.cells]
    refine g_off (yi (t := 19) rfl rfl) ?_
    try simp only [opv, nZ, Value.cells]
    refine g_off (yi (t := 19) rfl rfl) ?_
    try simp only [opv, nZ, Value.cells]
    refine g_un (yn (t := 24) rfl rfl) ?_
    try simp only [opv, nZ, Value.cells]
    refine g_un (yn (t := 24) rfl rfl) ?_
    try simp only [opv, nZ, Value.cells]
    refine g_un (yn (t := 24) rfl rfl) ?_
    try simp only [opv, nZ, Value.cells]
    refine g_un (yn (t := 24) rfl rfl) ?_
    try simp only [opv, nZ, Value.cells]
    refine g_off (yi (t := 19) rfl rfl) ?_
    try simp only [opv, nZ, Value.cells]
    refine s_go (s_pick_f) ?_
    try simp only [opv, nZ, Value.cells]
    refine s_go (s_assign) ?_
    try simp only [opv, nZ, Value.cells]
    refine x_nil ?_
    refine hK9 _ _ ?_
    refine x_ret ?_
    refine r_tmp rfl ?_
    exact ⟨congrArg Value.bool (by rw [hV, hV1, hba, Bool.false_and]), hS.ext_of⟩
  ·
   try simp only [decide_eq_true_eq, decide_eq_false_iff_not, Bool.not_eq_true', Bool.not_eq_false', Int.not_lt, Int.not_le, ne_eq, Decidable.not_not, bne_iff_ne, beq_iff_eq, not_true_eq_false, not_false_eq_true] at hc2
   refine x_seq fun K10 hK10 => ?_
   refine x_seq fun K11 hK11 => ?_
   refine x_region ?_
   refine s_go (s_eql) ?_
   try simp only [opv, nZ, Value.cells]
   refine s_go (s_assign) ?_
   try simp only [opv, nZ, Value.cells]
   refine x_nil ?_
   refine hK11 _ _ ?_
   refine x_cond (ht := fun hc3 => ?_) (hf := fun hc3 => ?_)
   ·
    try simp only [decide_eq_true_eq, decide_eq_false_iff_not, Bool.not_eq_true', Bool.not_eq_false', Int.not_lt, Int.not_le, ne_eq, Decidable.not_not, bne_iff_ne, beq_iff_eq, not_true_eq_false, not_false_eq_true] at hc3
    try have hV1 : valR (kn a 0) (aval a) = (bareV (aval a) && decide (1 ≤ kn (aval a) 0 ∧ kn (aval a) 0 ≤ 4294967295)) := by rw [valR, if_neg (by omega), if_pos (by omega)]
    refine x_skip ?_
    refine hK10 _ _ ?_
    refine x_cond (ht := fun hc4 => ?_) (hf := fun hc4 => ?_)
    ·
     try simp only [decide_eq_true_eq, decide_eq_false_iff_not, Bool.not_eq_true', Bool.not_eq_false', Int.not_lt, Int.not_le, ne_eq, Decidable.not_not, bne_iff_ne, beq_iff_eq, not_true_eq_false, not_false_eq_true] at hc4
     try have hV1 : valR (kn a 0) (aval a) = (bareV (aval a) && decide (1 ≤ kn (aval a) 0 ∧ kn (aval a) 0 ≤ 4294967295)) := by rw [valR, if_neg (by omega), if_pos (by omega)]
     refine x_seq fun K12 hK12 => ?_
     refine x_region ?_
     refine s_go (s_move) ?_
     try simp only [opv, nZ, Value.cells]
     refine s_go (s_move) ?_
     try simp only [opv, nZ, Value.cells]
     refine s_part 35 rfl (fun hp3 => ?_) (fun hp3 => ?_)
     ·
      try simp only [n3, n4]
      try simp only [decide_eq_true_eq, decide_eq_false_iff_not, Bool.not_eq_true', Bool.not_eq_false', Int.not_lt, Int.not_le, ne_eq, Decidable.not_not] at hp3
      have hba := hp3
      refine g_on (yi (t := 35) rfl rfl) ?_
      refine s_go (m_fieldAddr Tryz.underlying32 (hi := ti30)) ?_
      try simp only [opv, nZ, Value.cells, Nat.zero_add, Nat.add_zero, List.getElem_toArray, List.getElem_cons_zero, List.getElem_cons_succ]
      refine g_on (yi (t := 35) rfl rfl) ?_
      refine s_go (m_fieldAddr Tryz.underlying30 (hi := ti28)) ?_
      try simp only [opv, nZ, Value.cells, Nat.zero_add, Nat.add_zero, List.getElem_toArray, List.getElem_cons_zero, List.getElem_cons_succ]
      refine g_on (yi (t := 35) rfl rfl) ?_
      refine s_go (m_load_obj Tryz.underlying28 (hS := hS) (hv := by exact zi_get rfl (by omega))) ?_
      try simp only [opv, nZ, Value.cells, List.getElem_toArray, List.getElem_cons_zero, List.getElem_cons_succ]
      rw [aval_0 hal, hv.e0]
      refine g_on (yi (t := 35) rfl rfl) ?_
      refine s_go (s_geq) ?_
      try simp only [opv, nZ, Value.cells]
      refine s_go (s_pick_t) ?_
      try simp only [opv, nZ, Value.cells]
      refine s_go (s_move) ?_
      try simp only [opv, nZ, Value.cells]
      refine s_part 41 rfl (fun hp4 => ?_) (fun hp4 => ?_)
      ·
       try simp only [n3, n4]
       try simp only [decide_eq_true_eq, decide_eq_false_iff_not, Bool.not_eq_true', Bool.not_eq_false', Int.not_lt, Int.not_le, ne_eq, Decidable.not_not] at hp4
       refine g_on (yi (t := 41) rfl rfl) ?_
       refine s_go (m_fieldAddr Tryz.underlying32 (hi := ti30)) ?_
       try simp only [opv, nZ, Value.cells, Nat.zero_add, Nat.add_zero, List.getElem_toArray, List.getElem_cons_zero, List.getElem_cons_succ]
       refine g_on (yi (t := 41) rfl rfl) ?_
       refine s_go (m_fieldAddr Tryz.underlying30 (hi := ti28)) ?_
       try simp only [opv, nZ, Value.cells, Nat.zero_add, Nat.add_zero, List.getElem_toArray, List.getElem_cons_zero, List.getElem_cons_succ]
       refine g_on (yi (t := 41) rfl rfl) ?_
       refine s_go (m_load_obj Tryz.underlying28 (hS := hS) (hv := by exact zi_get rfl (by omega))) ?_
       try simp only [opv, nZ, Value.cells, List.getElem_toArray, List.getElem_cons_zero, List.getElem_cons_succ]
       rw [aval_0 hal, hv.e0]
       refine g_on (yi (t := 41) rfl rfl) ?_
       refine s_go (s_leq) ?_
       try simp only [opv, nZ, Value.cells]
       refine s_go (s_pick_t) ?_
       try simp only [opv, nZ, Value.cells]
       refine s_go (s_assign) ?_
       try simp only [opv, nZ, Value.cells]
       refine x_nil ?_
       refine hK12 _ _ ?_
       refine x_ret ?_
       refine r_tmp rfl ?_
       exact ⟨congrArg Value.bool (by rw [hV, hV1, hba, Bool.true_and]; exact decide_eq_decide.2 (by omega)), hS.ext_of⟩
      ·
       try simp only [n3, n4]
       try simp only [decide_eq_true_eq, decide_eq_false_iff_not, Bool.not_eq_true', Bool.not_eq_false', Int.not_lt, Int.not_le, ne_eq, Decidable.not_not] at hp4
       refine g_off (yi (t := 41) rfl rfl) ?_
       try simp only [opv, nZ, Value.cells]
       refine g_off (yi (t := 41) rfl rfl) ?_
       try simp only [opv, nZ, Value.cells]
       refine g_off (yi (t := 41) rfl rfl) ?_
       try simp only [opv, nZ, Value.cells]
       refine g_off (yi (t := 41) rfl rfl) ?_
       try simp only [opv, nZ, Value.cells]
       refine s_go (s_pick_f) ?_
       try simp only [opv, nZ, Value.cells]
       refine s_go (s_assign) ?_
       try simp only [opv, nZ, Value.cells]
       refine x_nil ?_
       refine hK12 _ _ ?_
       refine x_ret ?_
       refine r_tmp rfl ?_
       exact ⟨congrArg Value.bool (by rw [hV, hV1, hba, Bool.true_and]; exact (decide_eq_false (by omega)).symm), hS.ext_of⟩
     ·
      try simp only [n3, n4]
      try simp only [decide_eq_true_eq, decide_eq_false_iff_not, Bool.not_eq_true', Bool.not_eq_false', Int.not_lt, Int.not_le, ne_eq, Decidable.not_not] at hp3
      have hba := hp3
      refine g_off (yi (t := 35) rfl rfl) ?_
      try simp only [opv, nZ, Value.cells]
      refine g_off (yi (t := 35) rfl rfl) ?_
      try simp only [opv, nZ, Value.cells]
      refine g_off (yi (t := 35) rfl rfl) ?_
      try simp only [opv, nZ, Value.cells]
      refine g_off (yi (t := 35) rfl rfl) ?_
      try simp only [opv, nZ, Value.cells]
      refine s_go (s_pick_f) ?_
      try simp only [opv, nZ, Value.cells]
      refine s_go (s_move) ?_
      try simp only [opv, nZ, Value.cells]
      refine g_off (yi (t := 41) rfl rfl) ?_
      try simp only [opv, nZ, Value.cells]
      refine g_off (yi (t := 41) rfl rfl) ?_
      try simp only [opv, nZ, Value.cells]
      refine g_off (yi (t := 41) rfl rfl) ?_
      try simp only [opv, nZ, Value.cells]
      refine g_off (yi (t := 41) rfl rfl) ?_
      try simp only [opv, nZ, Value.cells]
      refine s_go (s_pick_f) ?_
      try simp only [opv, nZ, Value.cells]
      refine s_go (s_assign) ?_
      try simp only [opv, nZ, Value.cells]
      refine x_nil ?_
      refine hK12 _ _ ?_
      refine x_ret ?_
      refine r_tmp rfl ?_
      exact ⟨congrArg Value.bool (by rw [hV, hV1, hba, Bool.false_and]), hS.ext_of⟩
    ·
     try simp only [decide_eq_true_eq, decide_eq_false_iff_not, Bool.not_eq_true', Bool.not_eq_false', Int.not_lt, Int.not_le, ne_eq, Decidable.not_not, bne_iff_ne, beq_iff_eq, not_true_eq_false, not_false_eq_true] at hc4
     (exfalso; omega)
   ·
    try simp only [decide_eq_true_eq, decide_eq_false_iff_not, Bool.not_eq_true', Bool.not_eq_false', Int.not_lt, Int.not_le, ne_eq, Decidable.not_not, bne_iff_ne, beq_iff_eq, not_true_eq_false, not_false_eq_true] at hc3
    try have hV1 : valR (kn a 0) (aval a) = (decide (stampE (kn (aval a) 0) = 0) && (bareV (aval a) || nright (vtext (aval a)))) := by rw [valR, if_neg (by omega), if_neg (by omega), if_pos (by omega)]
    refine x_region ?_
    refine s_go (s_eql) ?_
    try simp only [opv, nZ, Value.cells]
    refine s_go (s_assign) ?_
    try simp only [opv, nZ, Value.cells]
    refine x_nil ?_
    refine hK10 _ _ ?_
    refine x_cond (ht := fun hc5 => ?_) (hf := fun hc5 => ?_)
    ·
     try simp only [decide_eq_true_eq, decide_eq_false_iff_not, Bool.not_eq_true', Bool.not_eq_false', Int.not_lt, Int.not_le, ne_eq, Decidable.not_not, bne_iff_ne, beq_iff_eq, not_true_eq_false, not_false_eq_true] at hc5
     try have hV1 : valR (kn a 0) (aval a) = (bareV (aval a) && decide (1 ≤ kn (aval a) 0 ∧ kn (aval a) 0 ≤ 4294967295)) := by rw [valR, if_neg (by omega), if_pos (by omega)]
     refine x_seq fun K14 hK14 => ?_
     refine x_region ?_
     refine s_go (s_move) ?_
     try simp only [opv, nZ, Value.cells]
     refine s_go (s_move) ?_
     try simp only [opv, nZ, Value.cells]
     refine s_part 35 rfl (fun hp9 => ?_) (fun hp9 => ?_)
     ·
      try simp only [n3, n4]
      try simp only [decide_eq_true_eq, decide_eq_false_iff_not, Bool.not_eq_true', Bool.not_eq_false', Int.not_lt, Int.not_le, ne_eq, Decidable.not_not] at hp9
      have hba := hp9
      refine g_on (yi (t := 35) rfl rfl) ?_
      refine s_go (m_fieldAddr Tryz.underlying32 (hi := ti30)) ?_
      try simp only [opv, nZ, Value.cells, Nat.zero_add, Nat.add_zero, List.getElem_toArray, List.getElem_cons_zero, List.getElem_cons_succ]
      refine g_on (yi (t := 35) rfl rfl) ?_
      refine s_go (m_fieldAddr Tryz.underlying30 (hi := ti28)) ?_
      try simp only [opv, nZ, Value.cells, Nat.zero_add, Nat.add_zero, List.getElem_toArray, List.getElem_cons_zero, List.getElem_cons_succ]
      refine g_on (yi (t := 35) rfl rfl) ?_
      refine s_go (m_load_obj Tryz.underlying28 (hS := hS) (hv := by exact zi_get rfl (by omega))) ?_
      try simp only [opv, nZ, Value.cells, List.getElem_toArray, List.getElem_cons_zero, List.getElem_cons_succ]
      rw [aval_0 hal, hv.e0]
      refine g_on (yi (t := 35) rfl rfl) ?_
      refine s_go (s_geq) ?_
      try simp only [opv, nZ, Value.cells]
      refine s_go (s_pick_t) ?_
      try simp only [opv, nZ, Value.cells]
      refine s_go (s_move) ?_
      try simp only [opv, nZ, Value.cells]
      refine s_part 41 rfl (fun hp10 => ?_) (fun hp10 => ?_)
      ·
       try simp only [n3, n4]
       try simp only [decide_eq_true_eq, decide_eq_false_iff_not, Bool.not_eq_true', Bool.not_eq_false', Int.not_lt, Int.not_le, ne_eq, Decidable.not_not] at hp10
       refine g_on (yi (t := 41) rfl rfl) ?_
       refine s_go (m_fieldAddr Tryz.underlying32 (hi := ti30)) ?_
       try simp only [opv, nZ, Value.cells, Nat.zero_add, Nat.add_zero, List.getElem_toArray, List.getElem_cons_zero, List.getElem_cons_succ]
       refine g_on (yi (t := 41) rfl rfl) ?_
       refine s_go (m_fieldAddr Tryz.underlying30 (hi := ti28)) ?_
       try simp only [opv, nZ, Value.cells, Nat.zero_add, Nat.add_zero, List.getElem_toArray, List.getElem_cons_zero, List.getElem_cons_succ]
       refine g_on (yi (t := 41) rfl rfl) ?_
       refine s_go (m_load_obj Tryz.underlying28 (hS := hS) (hv := by exact zi_get rfl (by omega))) ?_
       try simp only [opv, nZ, Value.cells, List.getElem_toArray, List.getElem_cons_zero, List.getElem_cons_succ]
       rw [aval_0 hal, hv.e0]
       refine g_on (yi (t := 41) rfl rfl) ?_
       refine s_go (s_leq) ?_
       try simp only [opv, nZ, Value.cells]
       refine s_go (s_pick_t) ?_
       try simp only [opv, nZ, Value.cells]
       refine s_go (s_assign) ?_
       try simp only [opv, nZ, Value.cells]
       refine x_nil ?_
       refine hK14 _ _ ?_
       refine x_ret ?_
       refine r_tmp rfl ?_
       exact ⟨congrArg Value.bool (by rw [hV, hV1, hba, Bool.true_and]; exact decide_eq_decide.2 (by omega)), hS.ext_of⟩
      ·
       try simp only [n3, n4]
       try simp only [decide_eq_true_eq, decide_eq_false_iff_not, Bool.not_eq_true', Bool.not_eq_false', Int.not_lt, Int.not_le, ne_eq, Decidable.not_not] at hp10
       refine g_off (yi (t := 41) rfl rfl) ?_
       try simp only [opv, nZ, Value.cells]
       refine g_off (yi (t := 41) rfl rfl) ?_
       try simp only [opv, nZ, Value.cells]
       refine g_off (yi (t := 41) rfl rfl) ?_
       try simp only [opv, nZ, Value.cells]
       refine g_off (yi (t := 41) rfl rfl) ?_
       try simp only [opv, nZ, Value.cells]
       refine s_go (s_pick_f) ?_
       try simp only [opv, nZ, Value.cells]
       refine s_go (s_assign) ?_
       try simp only [opv, nZ, Value.cells]
       refine x_nil ?_
       refine hK14 _ _ ?_
       refine x_ret ?_
       refine r_tmp rfl ?_
       exact ⟨congrArg Value.bool (by rw [hV, hV1, hba, Bool.true_and]; exact (decide_eq_false (by omega)).symm), hS.ext_of⟩
     ·
      try simp only [n3, n4]
      try simp only [decide_eq_true_eq, decide_eq_false_iff_not, Bool.not_eq_true', Bool.not_eq_false', Int.not_lt, Int.not_le, ne_eq, Decidable.not_not] at hp9
      have hba := hp9
      refine g_off (yi (t := 35) rfl rfl) ?_
      try simp only [opv, nZ, Value.cells]
      refine g_off (yi (t := 35) rfl rfl) ?_
      try simp only [opv, nZ, Value.cells]
      refine g_off (yi (t := 35) rfl rfl) ?_
      try simp only [opv, nZ, Value.cells]
      refine g_off (yi (t := 35) rfl rfl) ?_
      try simp only [opv, nZ, Value.cells]
      refine s_go (s_pick_f) ?_
      try simp only [opv, nZ, Value.cells]
      refine s_go (s_move) ?_
      try simp only [opv, nZ, Value.cells]
      refine g_off (yi (t := 41) rfl rfl) ?_
      try simp only [opv, nZ, Value.cells]
      refine g_off (yi (t := 41) rfl rfl) ?_
      try simp only [opv, nZ, Value.cells]
      refine g_off (yi (t := 41) rfl rfl) ?_
      try simp only [opv, nZ, Value.cells]
      refine g_off (yi (t := 41) rfl rfl) ?_
      try simp only [opv, nZ, Value.cells]
      refine s_go (s_pick_f) ?_
      try simp only [opv, nZ, Value.cells]
      refine s_go (s_assign) ?_
      try simp only [opv, nZ, Value.cells]
      refine x_nil ?_
      refine hK14 _ _ ?_
      refine x_ret ?_
      refine r_tmp rfl ?_
      exact ⟨congrArg Value.bool (by rw [hV, hV1, hba, Bool.false_and]), hS.ext_of⟩
    ·
     try simp only [decide_eq_true_eq, decide_eq_false_iff_not, Bool.not_eq_true', Bool.not_eq_false', Int.not_lt, Int.not_le, ne_eq, Decidable.not_not, bne_iff_ne, beq_iff_eq, not_true_eq_false, not_false_eq_true] at hc5
     try have hV1 : valR (kn a 0) (aval a) = (decide (stampE (kn (aval a) 0) = 0) && (bareV (aval a) || nright (vtext (aval a)))) := by rw [valR, if_neg (by omega), if_neg (by omega), if_pos (by omega)]
     refine x_skip ?_
     refine hK6 _ _ ?_
     refine x_seq fun K15 hK15 => ?_
     refine x_region ?_
     refine s_go (m_fieldAddr Tryz.underlying32 (hi := ti30)) ?_
     try simp only [opv, nZ, Value.cells, Nat.zero_add, Nat.add_zero, List.getElem_toArray, List.getElem_cons_zero, List.getElem_cons_succ]
     refine s_go (m_fieldAddr Tryz.underlying30 (hi := ti28)) ?_
     try simp only [opv, nZ, Value.cells, Nat.zero_add, Nat.add_zero, List.getElem_toArray, List.getElem_cons_zero, List.getElem_cons_succ]
     refine s_go (m_load_obj Tryz.underlying28 (hS := hS) (hv := by exact zi_get rfl (by omega))) ?_
     try simp only [opv, nZ, Value.cells, List.getElem_toArray, List.getElem_cons_zero, List.getElem_cons_succ]
     rw [aval_0 hal, hv.e0]
     refine s_go (s_rem (hc := rem_nat)) ?_
     try simp only [opv, nZ, Value.cells]
     refine s_go (s_lss) ?_
     try simp only [opv, nZ, Value.cells]
     refine s_go (s_move) ?_
     try simp only [opv, nZ, Value.cells]
     refine s_part 52 rfl (fun hp11 => ?_) (fun hp11 => ?_)
     ·
      try simp only [n3, n4]
      try simp only [decide_eq_true_eq, decide_eq_false_iff_not, Bool.not_eq_true', Bool.not_eq_false', Int.not_lt, Int.not_le, ne_eq, Decidable.not_not] at hp11
      refine g_on (yi (t := 52) rfl rfl) ?_
      refine s_go (m_fieldAddr Tryz.underlying32 (hi := ti30)) ?_
      try simp only [opv, nZ, Value.cells, Nat.zero_add, Nat.add_zero, List.getElem_toArray, List.getElem_cons_zero, List.getElem_cons_succ]
      refine g_on (yi (t := 52) rfl rfl) ?_
      refine s_go (m_fieldAddr Tryz.underlying30 (hi := ti28)) ?_
      try simp only [opv, nZ, Value.cells, Nat.zero_add, Nat.add_zero, List.getElem_toArray, List.getElem_cons_zero, List.getElem_cons_succ]
      refine g_on (yi (t := 52) rfl rfl) ?_
      refine s_go (m_load_obj Tryz.underlying28 (hS := hS) (hv := by exact zi_get rfl (by omega))) ?_
      try simp only [opv, nZ, Value.cells, List.getElem_toArray, List.getElem_cons_zero, List.getElem_cons_succ]
      rw [aval_0 hal, hv.e0]
      refine g_on (yi (t := 52) rfl rfl) ?_
      refine s_go (s_quo (hc := quo_u64 (r := kn (aval a) 0) (p := 256) hvb)) ?_
      try simp only [opv, nZ, Value.cells]
      refine g_on (yi (t := 52) rfl rfl) ?_
      refine s_go (s_geq) ?_
      try simp only [opv, nZ, Value.cells]
      refine s_go (s_pick_t) ?_
      try simp only [opv, nZ, Value.cells]
      refine s_go (s_move) ?_
      try simp only [opv, nZ, Value.cells]
      refine s_part 59 rfl (fun hp12 => ?_) (fun hp12 => ?_)
      ·
       try simp only [n3, n4]
       try simp only [decide_eq_true_eq, decide_eq_false_iff_not, Bool.not_eq_true', Bool.not_eq_false', Int.not_lt, Int.not_le, ne_eq, Decidable.not_not] at hp12
       refine g_on (yi (t := 59) rfl rfl) ?_
       refine s_go (m_fieldAddr Tryz.underlying32 (hi := ti30)) ?_
       try simp only [opv, nZ, Value.cells, Nat.zero_add, Nat.add_zero, List.getElem_toArray, List.getElem_cons_zero, List.getElem_cons_succ]
       refine g_on (yi (t := 59) rfl rfl) ?_
       refine s_go (m_fieldAddr Tryz.underlying30 (hi := ti28)) ?_
       try simp only [opv, nZ, Value.cells, Nat.zero_add, Nat.add_zero, List.getElem_toArray, List.getElem_cons_zero, List.getElem_cons_succ]
       refine g_on (yi (t := 59) rfl rfl) ?_
       refine s_go (m_load_obj Tryz.underlying28 (hS := hS) (hv := by exact zi_get rfl (by omega))) ?_
       try simp only [opv, nZ, Value.cells, List.getElem_toArray, List.getElem_cons_zero, List.getElem_cons_succ]
       rw [aval_0 hal, hv.e0]
       refine g_on (yi (t := 59) rfl rfl) ?_
       refine s_go (s_quo (hc := quo_u64 (r := kn (aval a) 0) (p := 256) hvb)) ?_
       try simp only [opv, nZ, Value.cells]
       refine g_on (yi (t := 59) rfl rfl) ?_
       refine s_go (s_leq) ?_
       try simp only [opv, nZ, Value.cells]
       refine s_go (s_pick_t) ?_
       try simp only [opv, nZ, Value.cells]
       refine s_go (s_move) ?_
       try simp only [opv, nZ, Value.cells]
       refine s_part 66 rfl (fun hp13 => ?_) (fun hp13 => ?_)
       ·
        try simp only [n3, n4]
        try simp only [decide_eq_true_eq, decide_eq_false_iff_not, Bool.not_eq_true', Bool.not_eq_false', Int.not_lt, Int.not_le, ne_eq, Decidable.not_not] at hp13
        refine g_on (yi (t := 66) rfl rfl) ?_
        refine s_go (s_move) ?_
        try simp only [opv, nZ, Value.cells]
        refine g_on (yi (t := 66) rfl rfl) ?_
        refine s_go (s_move) ?_
        try simp only [opv, nZ, Value.cells]
        refine s_part 68 rfl (fun hp14 => ?_) (fun hp14 => ?_)
        ·
         try simp only [n3, n4]
         try simp only [decide_eq_true_eq, decide_eq_false_iff_not, Bool.not_eq_true', Bool.not_eq_false', Int.not_lt, Int.not_le, ne_eq, Decidable.not_not] at hp14
         have hba := hp14
         refine g_off (yi (t := 68) rfl rfl) ?_
         try simp only [opv, nZ, Value.cells]
         refine g_off (yi (t := 68) rfl rfl) ?_
         try simp only [opv, nZ, Value.cells]
         refine g_off (yi (t := 68) rfl rfl) ?_
         try simp only [opv, nZ, Value.cells]
         refine g_off (yi (t := 68) rfl rfl) ?_
         try simp only [opv, nZ, Value.cells]
         refine g_on (yi (t := 66) rfl rfl) ?_
         refine s_go (s_pick_t) ?_
         try simp only [opv, nZ, Value.cells]
         refine s_go (s_pick_t) ?_
         try simp only [opv, nZ, Value.cells]
         refine s_go (s_assign) ?_
         try simp only [opv, nZ, Value.cells]
         refine x_nil ?_
         refine hK15 _ _ ?_
         refine x_ret ?_
         refine r_tmp rfl ?_
         exact ⟨congrArg Value.bool (by rw [hV, hV1, decide_eq_true (stampE_0.2 (by omega)), Bool.true_and, hba]; simp), hS.ext_of⟩
        ·
         try simp only [n3, n4]
         try simp only [decide_eq_true_eq, decide_eq_false_iff_not, Bool.not_eq_true', Bool.not_eq_false', Int.not_lt, Int.not_le, ne_eq, Decidable.not_not] at hp14
         have hba := hp14
         refine g_on (yi (t := 68) rfl rfl) ?_
         refine s_go (m_fieldAddr Tryz.underlying32 (hi := ti30)) ?_
         try simp only [opv, nZ, Value.cells, Nat.zero_add, Nat.add_zero, List.getElem_toArray, List.getElem_cons_zero, List.getElem_cons_succ]
         refine g_on (yi (t := 68) rfl rfl) ?_
         refine s_go (m_fieldAddr Tryz.underlying30 (hi := ti24)) ?_
         try simp only [opv, nZ, Value.cells, Nat.zero_add, Nat.add_zero, List.getElem_toArray, List.getElem_cons_zero, List.getElem_cons_succ]
         refine g_on (yi (t := 68) rfl rfl) ?_
         refine s_go (m_loada_obj Tryz.underlying24 (hi := ti24) (hS := hS) (hfit := by (rw [zi_size (by omega)]; decide))) ?_
         try simp only [opv, nZ, Value.cells, List.getElem_toArray, List.getElem_cons_zero, List.getElem_cons_succ]
         rw [atom_text hal]
         refine g_on (yi (t := 68) rfl rfl) ?_
         refine s_call en38 ?_
         try simp only [opv, nZ, Value.cells, List.map_toArray, List.map_cons, List.map_nil, List.append_toArray, List.cons_append, List.nil_append, Array.append_empty]
         refine CallR.mono (c_ref06Right _ htl htb _) ?_
         rintro _ w4 ⟨rfl, hE4⟩
         replace hS := hS.ext hE4
         try simp only [opv, nZ, Value.cells]
         refine g_on (yi (t := 66) rfl rfl) ?_
         refine s_go (s_pick_f) ?_
         try simp only [opv, nZ, Value.cells]
         refine s_go (s_pick_t) ?_
         try simp only [opv, nZ, Value.cells]
         refine s_go (s_assign) ?_
         try simp only [opv, nZ, Value.cells]
         refine x_nil ?_
         refine hK15 _ _ ?_
         refine x_ret ?_
         refine r_tmp rfl ?_
         exact ⟨congrArg Value.bool (by rw [hV, hV1, decide_eq_true (stampE_0.2 (by omega)), Bool.true_and, hba]; simp), hS.ext_of⟩
       ·
        try simp only [n3, n4]
        try simp only [decide_eq_true_eq, decide_eq_false_iff_not, Bool.not_eq_true', Bool.not_eq_false', Int.not_lt, Int.not_le, ne_eq, Decidable.not_not] at hp13
        refine g_off (yi (t := 66) rfl rfl) ?_
        try simp only [opv, nZ, Value.cells]
        refine g_off (yi (t := 66) rfl rfl) ?_
        try simp only [opv, nZ, Value.cells]
        refine g_un (yn (t := 68) rfl rfl) ?_
        try simp only [opv, nZ, Value.cells]
        refine g_un (yn (t := 68) rfl rfl) ?_
        try simp only [opv, nZ, Value.cells]
        refine g_un (yn (t := 68) rfl rfl) ?_
        try simp only [opv, nZ, Value.cells]
        refine g_un (yn (t := 68) rfl rfl) ?_
        try simp only [opv, nZ, Value.cells]
        refine g_off (yi (t := 66) rfl rfl) ?_
        try simp only [opv, nZ, Value.cells]
        refine s_go (s_pick_f) ?_
        try simp only [opv, nZ, Value.cells]
        refine s_go (s_assign) ?_
        try simp only [opv, nZ, Value.cells]
        refine x_nil ?_
        refine hK15 _ _ ?_
        refine x_ret ?_
        refine r_tmp rfl ?_
        exact ⟨congrArg Value.bool (by rw [hV, hV1, decide_eq_false (fun h => by have := stampE_0.1 h; omega), Bool.false_and]), hS.ext_of⟩
      ·
       try simp only [n3, n4]
       try simp only [decide_eq_true_eq, decide_eq_false_iff_not, Bool.not_eq_true', Bool.not_eq_false', Int.not_lt, Int.not_le, ne_eq, Decidable.not_not] at hp12
       refine g_off (yi (t := 59) rfl rfl) ?_
       try simp only [opv, nZ, Value.cells]
       refine g_off (yi (t := 59) rfl rfl) ?_
       try simp only [opv, nZ, Value.cells]
       refine g_off (yi (t := 59) rfl rfl) ?_
       try simp only [opv, nZ, Value.cells]
       refine g_off (yi (t := 59) rfl rfl) ?_
       try simp only [opv, nZ, Value.cells]
       refine g_off (yi (t := 59) rfl rfl) ?_
       try simp only [opv, nZ, Value.cells]
       refine s_go (s_pick_f) ?_
       try simp only [opv, nZ, Value.cells]
       refine s_go (s_move) ?_
       try simp only [opv, nZ, Value.cells]
       refine g_off (yi (t := 66) rfl rfl) ?_
       try simp only [opv, nZ, Value.cells]
       refine g_off (yi (t := 66) rfl rfl) ?_
       try simp only [opv, nZ, Value.cells]
       refine g_un (yn (t := 68) rfl rfl) ?_
       try simp only [opv, nZ, Value.cells]
       refine g_un (yn (t := 68) rfl rfl) ?_
       try simp only [opv, nZ, Value.cells]
       refine g_un (yn (t := 68) rfl rfl) ?_
       try simp only [opv, nZ, Value.cells]
       refine g_un (yn (t := 68) rfl rfl) ?_
       try simp only [opv, nZ, Value.cells]
       refine g_off (yi (t := 66) rfl rfl) ?_
       try simp only [opv, nZ, Value.cells]
       refine s_go (s_pick_f) ?_
       try simp only [opv, nZ, Value.cells]
       refine s_go (s_assign) ?_
       try simp only [opv, nZ, Value.cells]
       refine x_nil ?_
       refine hK15 _ _ ?_
       refine x_ret ?_
       refine r_tmp rfl ?_
       exact ⟨congrArg Value.bool (by rw [hV, hV1, decide_eq_false (fun h => by have := stampE_0.1 h; omega), Bool.false_and]), hS.ext_of⟩
     ·
      try simp only [n3, n4]
      try simp only [decide_eq_true_eq, decide_eq_false_iff_not, Bool.not_eq_true', Bool.not_eq_false', Int.not_lt, Int.not_le, ne_eq, Decidable.not_not] at hp11
      refine g_off (yi (t := 52) rfl rfl) ?_
      try simp only [opv, nZ, Value.cells]
      refine g_off (yi (t := 52) rfl rfl) ?_
      try simp only [opv, nZ, Value.cells]
      refine g_off (yi (t := 52) rfl rfl) ?_
      try simp only [opv, nZ, Value.cells]
      refine g_off (yi (t := 52) rfl rfl) ?_
      try simp only [opv, nZ, Value.cells]
      refine g_off (yi (t := 52) rfl rfl) ?_
      try simp only [opv, nZ, Value.cells]
      refine s_go (s_pick_f) ?_
      try simp only [opv, nZ, Value.cells]
      refine s_go (s_move) ?_
      try simp only [opv, nZ, Value.cells]
      refine g_off (yi (t := 59) rfl rfl) ?_
      try simp only [opv, nZ, Value.cells]
      refine g_off (yi (t := 59) rfl rfl) ?_
      try simp only [opv, nZ, Value.cells]
      refine g_off (yi (t := 59) rfl rfl) ?_
      try simp only [opv, nZ, Value.cells]
      refine g_off (yi (t := 59) rfl rfl) ?_
      try simp only [opv, nZ, Value.cells]
      refine g_off (yi (t := 59) rfl rfl) ?_
      try simp only [opv, nZ, Value.cells]
      refine s_go (s_pick_f) ?_
      try simp only [opv, nZ, Value.cells]
      refine s_go (s_move) ?_
      try simp only [opv, nZ, Value.cells]
      refine g_off (yi (t := 66) rfl rfl) ?_
      try simp only [opv, nZ, Value.cells]
      refine g_off (yi (t := 66) rfl rfl) ?_
      try simp only [opv, nZ, Value.cells]
      refine g_un (yn (t := 68) rfl rfl) ?_
      try simp only [opv, nZ, Value.cells]
      refine g_un (yn (t := 68) rfl rfl) ?_
      try simp only [opv, nZ, Value.cells]
      refine g_un (yn (t := 68) rfl rfl) ?_
      try simp only [opv, nZ, Value.cells]
      refine g_un (yn (t := 68) rfl rfl) ?_
      try simp only [opv, nZ, Value.cells]
      refine g_off (yi (t := 66) rfl rfl) ?_
      try simp only [opv, nZ, Value.cells]
      refine s_go (s_pick_f) ?_
      try simp only [opv, nZ, Value.cells]
      refine s_go (s_assign) ?_
      try simp only [opv, nZ, Value.cells]
      refine x_nil ?_
      refine hK15 _ _ ?_
      refine x_ret ?_
      refine r_tmp rfl ?_
      exact ⟨congrArg Value.bool (by rw [hV, hV1, decide_eq_false (fun h => by have := stampE_0.1 h; omega), Bool.false_and]), hS.ext_of⟩
end Go.Proofs.YtpjpaipkkcengaaGreat
namespace Go.Proofs.YtpjpaipkkcengaaGreat
def mkV (n : Nat) (t : List Int) : List Int := (n : Int) :: t
def failS (b : Bool) (e2 : Int) (s : Int × List Int) : Int × List Int := if b then (if s.1 = 0 then e2 else s.1, if (if s.1 = 0 then e2 else s.1) = 0 then s.2 else []) else s
/-- a value of a sort, and where reading stands behind it -/
def valP (s : Nat) (e : Int) (xs : List Int) : List Int × Int × List Int :=
  if s = 1 then (mkV (oneS e xs).1.toNat nm0, failS (decide (¬ (oneS e xs).1 = 1) && decide (¬ (oneS e xs).1 = 2)) 3 (oneS e xs).2) else
  if s = 2 ∨ s = 3 then (mkV (numS 4294967295 e xs).1 nm0, failS (decide ((numS 4294967295 e xs).1 = 0)) 3 (numS 4294967295 e xs).2) else
  if s = 4 then
    let r := numS 1099511627775 e xs
    let f := failS (decide (¬ stampE r.1 = 0)) (stampE r.1) r.2
    (mkV r.1 (namS f.1 f.2).1, (namS f.1 f.2).2)
  else (mkV 0 nm0, e, xs)
def atom0 : List Int := List.replicate 21 0
/-- an atom, and where reading stands behind it -/
def atmS (e : Int) (xs : List Int) : List Int × Int × List Int :=
  let k := keyS e xs
  if k.2.1 = 0 then
    let v := valP (kn k.1 0) k.2.1 k.2.2
    (if v.2.1 = 0 then k.1 ++ v.1 else atom0, v.2)
  else (atom0, k.2)
theorem mkV_len {n : Nat} {t : List Int} (h : t.length = 8) : (mkV n t).length = 9 := by simp [mkV, h]
theorem failS_byt {b : Bool} {e2 : Int} {s : Int × List Int} (h : Byt s.2) : Byt (failS b e2 s).2 := by
  have n : Byt [] := fun y hy => by cases hy
  unfold failS
  split
  · dsimp only
    split <;> first | exact h | exact n | (split <;> first | exact h | exact n)
  · exact h
theorem failS_len {b : Bool} {e2 : Int} {s : Int × List Int} : (failS b e2 s).2.length ≤ s.2.length := by
  unfold failS
  split
  · dsimp only
    split <;> first | exact Nat.le_refl _ | exact Nat.zero_le _ | (split <;> first | exact Nat.le_refl _ | exact Nat.zero_le _)
  · exact Nat.le_refl _
theorem failS_no (e2 : Int) (s : Int × List Int) : failS false e2 s = s := by unfold failS; rfl
section
variable {s : Nat} {e : Int} {xs : List Int}
theorem valP_1 (h : s = 1) : valP s e xs = (mkV (oneS e xs).1.toNat nm0, failS (decide (¬ (oneS e xs).1 = 1) && decide (¬ (oneS e xs).1 = 2)) 3 (oneS e xs).2) := by rw [valP, if_pos h]
theorem valP_2 (h : s = 2 ∨ s = 3) : valP s e xs = (mkV (numS 4294967295 e xs).1 nm0, failS (decide ((numS 4294967295 e xs).1 = 0)) 3 (numS 4294967295 e xs).2) := by rw [valP, if_neg (by omega), if_pos h]
theorem valP_4 (h : s = 4) : valP s e xs = (mkV (numS 1099511627775 e xs).1 (namS (failS (decide (¬ stampE (numS 1099511627775 e xs).1 = 0)) (stampE (numS 1099511627775 e xs).1) (numS 1099511627775 e xs).2).1 (failS (decide (¬ stampE (numS 1099511627775 e xs).1 = 0)) (stampE (numS 1099511627775 e xs).1) (numS 1099511627775 e xs).2).2).1, (namS (failS (decide (¬ stampE (numS 1099511627775 e xs).1 = 0)) (stampE (numS 1099511627775 e xs).1) (numS 1099511627775 e xs).2).1 (failS (decide (¬ stampE (numS 1099511627775 e xs).1 = 0)) (stampE (numS 1099511627775 e xs).1) (numS 1099511627775 e xs).2).2).2) := by rw [valP, if_neg (by omega), if_neg (by omega), if_pos h]
theorem valP_0 (h : ¬ s = 1) (h2 : ¬ s = 2) (h3 : ¬ s = 3) (h4 : ¬ s = 4) : valP s e xs = (mkV 0 nm0, e, xs) := by rw [valP, if_neg h, if_neg (by omega), if_neg h4]
theorem valP_len : (valP s e xs).1.length = 9 := by
  unfold valP
  repeat' split
  all_goals first | exact mkV_len (namS_len _ _) | exact mkV_len rfl
end
section
variable {x y z : List Int}
end
theorem failS_true (e2 : Int) (s : Int × List Int) : failS true e2 s = (if s.1 = 0 then e2 else s.1, if (if s.1 = 0 then e2 else s.1) = 0 then s.2 else []) := rfl
theorem atmS_yes {e : Int} {xs : List Int} (h1 : (keyS e xs).2.1 = 0) (h2 : (valP (kn (keyS e xs).1 0) (keyS e xs).2.1 (keyS e xs).2.2).2.1 = 0) : atmS e xs = ((keyS e xs).1 ++ (valP (kn (keyS e xs).1 0) (keyS e xs).2.1 (keyS e xs).2.2).1, (valP (kn (keyS e xs).1 0) (keyS e xs).2.1 (keyS e xs).2.2).2) := by
  unfold atmS; dsimp only; rw [if_pos h1, if_pos h2]
theorem atmS_no {e : Int} {xs : List Int} (h1 : (keyS e xs).2.1 = 0) (h2 : ¬ (valP (kn (keyS e xs).1 0) (keyS e xs).2.1 (keyS e xs).2.2).2.1 = 0) : atmS e xs = (atom0, (valP (kn (keyS e xs).1 0) (keyS e xs).2.1 (keyS e xs).2.2).2) := by
  unfold atmS; dsimp only; rw [if_pos h1, if_neg h2]
theorem atmS_key {e : Int} {xs : List Int} (h1 : ¬ (keyS e xs).2.1 = 0) : atmS e xs = (atom0, (keyS e xs).2) := by
  unfold atmS; dsimp only; rw [if_neg h1]
theorem failS_err {b : Bool} {e2 : Int} {s : Int × List Int} (h : ¬ s.1 = 0) (h2 : s.2 = []) : failS b e2 s = s := by
  cases b
  · rfl
  · rw [failS_true, if_neg h, if_neg h, ← h2]
theorem failS_new {e2 : Int} {s : Int × List Int} (h : s.1 = 0) (h2 : ¬ e2 = 0) : failS true e2 s = (e2, []) := by
  rw [failS_true, if_pos h, if_neg h2]
end Go.Proofs.YtpjpaipkkcengaaGreat
set_option linter.unusedSimpArgs false
set_option linter.unusedVariables false
set_option maxHeartbeats 1500000
set_option maxRecDepth 100000
namespace Go.Proofs.YtpjpaipkkcengaaGreat
open Go.RowKit

theorem keyS_l12 (e : Int) {xs : List Int} (hb : Byt xs) : (keyS e xs).1.length = 12 := (keyS_key hb).len
theorem getD_app0 {a b : List Int} (h : 0 < a.length) : (a ++ b).getD 0 0 = a.getD 0 0 := by
  simp only [List.getD_eq_getElem?_getD]; rw [List.getElem?_append_left h]
theorem mkV_set0 {n : Nat} {t : List Int} {a : Nat} : (mkV n t).set 0 (a : Int) = mkV a t := rfl
theorem mkV_0 {n : Nat} {t : List Int} : (mkV n t).getD 0 0 = (n : Int) := rfl
theorem mkV_text {n : Nat} {t t' : List Int} (h : t.length = 8) (h' : t'.length = 8) : splice (VA (mkV n t)).toList 1 (ic .u8 t').toList = zi valKs (mkV n t') := by
  match t, t', h, h' with
  | [_, _, _, _, _, _, _, _], [_, _, _, _, _, _, _, _], _, _ => rfl
theorem atom_put {k v v' : List Int} (hk : k.length = 12) (hv : v.length = 9) (hv' : v'.length = 9) : splice (AA (k ++ v)).toList 12 (VA v').toList = zi atomKs (k ++ v') := by
  have e : ∀ u : List Int, zi atomKs (k ++ u) = zi keyKs k ++ zi valKs u := fun u => zi_app (k1 := keyKs) (k2 := valKs) (by simpa using hk)
  have l1 : (zi keyKs k).length = 12 := zi_len (by simpa using hk)
  have l2 : (zi valKs v).length = 9 := zi_len (by simpa using hv)
  have l3 : (zi valKs v').length = 9 := zi_len (by simpa using hv')
  show splice (zi atomKs (k ++ v)) 12 (zi valKs v') = _
  rw [e, e, splice, List.take_left' l1, l3, List.drop_eq_nil_of_le (by simp [l1, l2]), List.append_nil]
theorem fill_key {pl : Nat → Option (Nat × Nat)} {base : Array Value} {k : List Int} (hp : pl 0 = some (0, 12)) (hk : k.length = 12) (hb : base = AA atom0) : Instr.fill pl base [(0, .agg (KA k))] = some (AA (k ++ mkV 0 nm0)) := by
  subst hb
  have l1 : (zi keyKs k).length = 12 := zi_len (by simpa using hk)
  refine fill_cons hp (by show (zi keyKs k).toArray.size = 12; simpa using l1) (by decide) ?_
  have e : zi atomKs (k ++ mkV 0 nm0) = zi keyKs k ++ zi valKs (mkV 0 nm0) := zi_app (k1 := keyKs) (k2 := valKs) (by simpa using hk)
  have e2 : (splice (AA atom0).toList 0 (Value.cells (.agg (KA k))).toList).toArray = AA (k ++ mkV 0 nm0) := by
    show (splice (zi atomKs atom0) 0 (zi keyKs k)).toArray = (zi atomKs (k ++ mkV 0 nm0)).toArray
    rw [e, splice, List.take_zero, List.nil_append, Nat.zero_add, l1]; rfl
  rw [e2]; rfl

theorem c_atomVal1 (w0 : World) (g : Nat) (e : Int) (A : Option Addr) (c : Nat) (xs : List Int) (hc : xs.length ≤ c) (b : Nat) (wr : Bool) (e2 : Int) (hM : St (OwnB [.obj g (.cells #[.int .i64 e, .slice A xs.length c] 63 (0, 0)), .rd A 1 xs.length (xs.map (Value.int .u8)), .obj b (.cells #[.pointer (some ⟨g, 0, none⟩)] 39 (0, 0))]) w0 w0 [.obj g (.cells #[.int .i64 e, .slice A xs.length c] 63 (0, 0)), .rd A 1 xs.length (xs.map (Value.int .u8)), .obj b (.cells #[.pointer (some ⟨g, 0, none⟩)] 39 (0, 0))]) :
    CallR Tryz.prog 57 #[.bool wr, .int .i64 e2, .pointer (some ⟨b, 0, none⟩)] w0 fun v w' => v = .tuple #[] ∧ CuSt w0 w' [.obj g (.cells #[.int .i64 e, .slice A xs.length c] 63 (0, 0)), .rd A 1 xs.length (xs.map (Value.int .u8)), .obj b (.cells #[.pointer (some ⟨g, 0, none⟩)] 39 (0, 0))] g (failS wr e2 (e, xs)).1 (failS wr e2 (e, xs)).2 [.obj b (.cells #[.pointer (some ⟨g, 0, none⟩)] 39 (0, 0))] := by
 have hS := hM
 refine c_enter (l := [.bool wr, .int .i64 e2, .pointer (some ⟨b, 0, none⟩), undef, undef, undef, undef, undef, undef]) Tryz.func57 rfl (by simp only [Tryz.ntmps57, List.size_toArray, List.length_cons, List.length_nil, Nat.reduceAdd, Nat.reduceSub, Array.replicate_succ, Array.replicate_zero, List.push_toArray, List.append_toArray, List.nil_append, List.cons_append]) ?_
 refine x_seq fun K1 hK1 => ?_
 refine x_region ?_
 refine s_go (s_move) ?_
 try simp only [opv, nZ, Value.cells]
 refine x_nil ?_
 refine hK1 _ _ ?_
 refine x_cond (ht := fun hc1 => ?_) (hf := fun hc1 => ?_)
 ·
  try simp only [decide_eq_true_eq, decide_eq_false_iff_not, Bool.not_eq_true', Bool.not_eq_false', Int.not_lt, Int.not_le, ne_eq, Decidable.not_not, bne_iff_ne, beq_iff_eq, not_true_eq_false, not_false_eq_true] at hc1
  have hwr : wr = true := hc1
  subst hwr
  refine x_region ?_
  refine s_go (m_load_obj Tryz.underlying39 (hS := hS)) ?_
  try simp only [opv, nZ, Value.cells, List.getElem_toArray, List.getElem_cons_zero, List.getElem_cons_succ]
  refine s_go (s_move) ?_
  try simp only [opv, nZ, Value.cells]
  refine s_call en58 ?_
  try simp only [opv, nZ, Value.cells, List.map_toArray, List.map_cons, List.map_nil, List.append_toArray, List.cons_append, List.nil_append, Array.append_empty]
  refine CallR.mono (c_cFail _ g e A c xs hc e2 (hS.owns (by repeat (first | exact Spl.nil | (apply Spl.cons (by repeat (exact Del.head))))))) ?_
  rintro _ w1 ⟨rfl, Aa, ca, hcpa, hRa, hCa⟩
  have hYa := RdIn.trans hM hS (by repeat (first | exact Spl.nil | (apply Spl.cons (by repeat (exact Del.head))))) hRa (by intro s hs q hb; simp only [List.mem_cons, List.not_mem_nil, or_false] at hs; rcases hs with rfl | rfl <;> first | (simp [Res.reads] at hb; done) | exact .inr ⟨_, List.mem_cons_of_mem _ (List.mem_cons_self ..), .inr hb⟩)
  replace hS := hS.frame (by repeat (first | exact Spl.nil | (apply Spl.cons (by repeat (exact Del.head))))) hCa (by intro r hr b hb; simp only [List.mem_cons, List.not_mem_nil, or_false] at hr; rcases hr with rfl | rfl <;> first | (simp [Res.reads] at hb; done) | exact hRa b hb)
  replace hRa := hYa
  simp only [List.cons_append, List.nil_append] at hS
  try simp only [opv, nZ, Value.cells]
  refine x_nil ?_
  refine r_none rfl ?_
  exact ⟨rfl, _, _, by assumption, by assumption, hS.sel (by repeat (first | exact Sel.nil | (refine Sel.cons (by repeat (exact Del.head)) ?_)))⟩
 ·
  try simp only [decide_eq_true_eq, decide_eq_false_iff_not, Bool.not_eq_true', Bool.not_eq_false', Int.not_lt, Int.not_le, ne_eq, Decidable.not_not, bne_iff_ne, beq_iff_eq, not_true_eq_false, not_false_eq_true] at hc1
  have hwr : wr = false := by simpa using hc1
  subst hwr
  refine x_skip ?_
  refine r_none rfl ?_
  exact ⟨rfl, A, c, hc, RdIn.self (List.mem_cons_of_mem _ (List.mem_cons_self ..)), hS.sel (by repeat (first | exact Sel.nil | (refine Sel.cons (by repeat (exact Del.head)) ?_)))⟩
theorem c_atomValue (w0 : World) (g : Nat) (e : Int) (A : Option Addr) (c : Nat) (xs : List Int) (hc : xs.length ≤ c) (hw : Byt xs) (hn : xs.length ≤ 1000000000) (s : Nat) (hM : St (OwnB [.obj g (.cells #[.int .i64 e, .slice A xs.length c] 63 (0, 0)), .rd A 1 xs.length (xs.map (Value.int .u8))]) w0 w0 [.obj g (.cells #[.int .i64 e, .slice A xs.length c] 63 (0, 0)), .rd A 1 xs.length (xs.map (Value.int .u8))]) :
    CallR Tryz.prog 27 #[.pointer (some ⟨g, 0, none⟩), .int .u8 (s : Int)] w0 fun v w' => v = .agg (VA (valP s e xs).1) ∧ CuSt w0 w' [.obj g (.cells #[.int .i64 e, .slice A xs.length c] 63 (0, 0)), .rd A 1 xs.length (xs.map (Value.int .u8))] g (valP s e xs).2.1 (valP s e xs).2.2 [] := by
 have hS := hM
 have hav := oneS_val (e := e) hw
 obtain ⟨u1, hu1⟩ := Int.eq_ofNat_of_zero_le hav.1
 have hl2 := numS_le 4294967295 e xs
 have hl4 := numS_le 1099511627775 e xs
 have hv0l : (mkV 0 nm0).length = 9 := rfl
 refine c_enter (l := [.pointer (some ⟨g, 0, none⟩), .int .u8 (s : Int), undef, undef, undef, undef, undef, undef, undef, undef, undef, undef, undef, undef, undef, undef, undef, undef, undef, undef, undef, undef, undef, undef, undef, undef, undef, undef, undef, undef, undef, undef, undef, undef, undef, undef, undef, undef, undef, undef, undef, undef, undef, undef, undef, undef, undef, undef, undef, undef, undef, undef, undef, undef]) Tryz.func27 rfl (by simp only [Tryz.ntmps27, List.size_toArray, List.length_cons, List.length_nil, Nat.reduceAdd, Nat.reduceSub, Array.replicate_succ, Array.replicate_zero, List.push_toArray, List.append_toArray, List.nil_append, List.cons_append]) ?_
 refine x_seq fun K1 hK1 => ?_
 refine x_region ?_
 refine m_box hS (fun w1 g1 hS => ?_)
 try simp only [opv, nZ, Value.cells, Array.toArray_toList] at hS ⊢
 obtain ⟨gb, hgb⟩ : ∃ z, z = g1 := ⟨_, rfl⟩
 rw [← hgb] at hS ⊢
 refine m_alloc ti30 hS (fun w2 g2 hS => ?_)
 try simp only [opv, nZ, Value.cells, Array.toArray_toList] at hS ⊢
 replace hS : St (OwnB [.obj g (.cells #[.int .i64 e, .slice A xs.length c] 63 (0, 0)), .rd A 1 xs.length (xs.map (Value.int .u8))]) w0 w2 (.obj g2 (.cells (VA (mkV 0 nm0)) 30 (0, 0)) :: _) := hS
 obtain ⟨g4, hg4⟩ : ∃ z, z = g2 := ⟨_, rfl⟩
 rw [← hg4] at hS ⊢
 refine x_nil ?_
 refine hK1 _ _ ?_
 refine x_seq fun K2 hK2 => ?_
 refine x_region ?_
 refine s_go (s_makeFunc) ?_
 try simp only [opv, nZ, Value.cells, List.map_toArray, List.map_cons, List.map_nil]
 refine s_go (s_assign) ?_
 try simp only [opv, nZ, Value.cells]
 refine x_nil ?_
 refine hK2 _ _ ?_
 refine x_seq fun K3 hK3 => ?_
 refine x_seq fun K4 hK4 => ?_
 refine x_region ?_
 refine s_go (s_move) ?_
 try simp only [opv, nZ, Value.cells]
 refine x_nil ?_
 refine hK4 _ _ ?_
 refine x_block ?_
 refine x_seq fun K5 hK5 => ?_
 refine x_block ?_
 refine x_seq fun K6 hK6 => ?_
 refine x_block ?_
 refine x_block ?_
 refine x_seq fun K7 hK7 => ?_
 refine x_block ?_
 refine x_seq fun K8 hK8 => ?_
 refine x_seq fun K9 hK9 => ?_
 refine x_seq fun K10 hK10 => ?_
 refine x_region ?_
 refine s_go (s_eql) ?_
 try simp only [opv, nZ, Value.cells]
 refine s_go (s_assign) ?_
 try simp only [opv, nZ, Value.cells]
 refine x_nil ?_
 refine hK10 _ _ ?_
 refine x_cond (ht := fun hc1 => ?_) (hf := fun hc1 => ?_)
 ·
  try simp only [decide_eq_true_eq, decide_eq_false_iff_not, Bool.not_eq_true', Bool.not_eq_false', Int.not_lt, Int.not_le, ne_eq, Decidable.not_not, bne_iff_ne, beq_iff_eq, not_true_eq_false, not_false_eq_true] at hc1
  refine x_exit (look_here ?_)
  refine hK7 _ _ ?_
  refine x_seq fun K11 hK11 => ?_
  refine x_seq fun K12 hK12 => ?_
  refine x_region ?_
  refine s_go (m_load_obj Tryz.underlying39 (hS := hS) (hv := by rfl)) ?_
  try simp only [opv, nZ, Value.cells, List.getElem_toArray, List.getElem_cons_zero, List.getElem_cons_succ]
  refine s_call en47 ?_
  try simp only [opv, nZ, Value.cells, List.map_toArray, List.map_cons, List.map_nil, List.append_toArray, List.cons_append, List.nil_append, Array.append_empty]
  refine CallR.mono (c_cByte _ g e A c xs hc hw hn (hS.owns (by repeat (first | exact Spl.nil | (apply Spl.cons (by repeat (first | exact Del.head | apply Del.tail))))))) ?_
  rintro _ w3 ⟨rfl, Aa, ca, hcpa, hRa, hCa⟩
  have hYa := RdIn.trans hM hS (by repeat (first | exact Spl.nil | (apply Spl.cons (by repeat (first | exact Del.head | apply Del.tail))))) hRa (by intro s hs q hb; simp only [List.mem_cons, List.not_mem_nil, or_false] at hs; rcases hs with rfl | rfl <;> first | (simp [Res.reads] at hb; done) | exact .inr ⟨_, List.mem_cons_of_mem _ (List.mem_cons_self ..), .inr hb⟩)
  replace hS := hS.frame (by repeat (first | exact Spl.nil | (apply Spl.cons (by repeat (first | exact Del.head | apply Del.tail))))) hCa (by intro r hr b hb; simp only [List.mem_cons, List.not_mem_nil, or_false] at hr; rcases hr with rfl | rfl <;> first | (simp [Res.reads] at hb; done) | exact hRa b hb)
  replace hRa := hYa
  simp only [List.cons_append, List.nil_append] at hS
  try simp only [opv, nZ, Value.cells]
  rw [hu1]
  have hv1l : (mkV u1 nm0).length = 9 := rfl
  rw [hu1] at hav
  refine s_go (s_conv Tryz.underlying5 Tryz.underlying28 (hc := by exact wr_u64 (by omega) (by omega))) ?_
  try simp only [opv, nZ, Value.cells]
  refine s_go (m_fieldAddr Tryz.underlying30 (hi := ti28)) ?_
  try simp only [opv, nZ, Value.cells, Nat.zero_add, Nat.add_zero, List.getElem_toArray, List.getElem_cons_zero, List.getElem_cons_succ]
  refine m_store_obj ti28 (hS := hS) (hc := by exact zi_set rfl (by omega)) (hv := by rfl) (hfit := by (rw [zi_size (by omega)]; decide)) (h1 := by simp [opv, Value.cells, Value.oneCell']) (h := fun w4 hS => ?_)
  try simp only [opv, nZ, Value.cells, Array.toArray_toList] at hS ⊢
  rw [mkV_set0] at hS
  refine x_nil ?_
  refine hK12 _ _ ?_
  refine x_region ?_
  refine s_go (s_move) ?_
  try simp only [opv, nZ, Value.cells]
  refine s_go (m_fieldAddr Tryz.underlying30 (hi := ti28)) ?_
  try simp only [opv, nZ, Value.cells, Nat.zero_add, Nat.add_zero, List.getElem_toArray, List.getElem_cons_zero, List.getElem_cons_succ]
  refine s_go (m_load_obj Tryz.underlying28 (hS := hS) (hv := by rfl)) ?_
  try simp only [opv, nZ, Value.cells, List.getElem_toArray, List.getElem_cons_zero, List.getElem_cons_succ]
  try rw [mkV_0]
  refine s_go (s_neq) ?_
  try simp only [opv, nZ, Value.cells]
  refine s_go (s_move) ?_
  try simp only [opv, nZ, Value.cells]
  refine s_part 25 rfl (fun hp1 => ?_) (fun hp1 => ?_)
  ·
   try simp only [n3, n4]
   try simp only [decide_eq_true_eq, decide_eq_false_iff_not, Bool.not_eq_true', Bool.not_eq_false', Int.not_lt, Int.not_le, ne_eq, Decidable.not_not] at hp1
   have hz : valP s e xs = (mkV u1 nm0, failS (decide (¬ ((u1 : Nat) : Int) = 2)) 3 (oneS e xs).2) := by rw [valP_1 (show s = 1 by omega), hu1, Int.toNat_natCast, decide_eq_true (show ¬ ((u1 : Nat) : Int) = 1 by omega), Bool.true_and]
   refine g_on (yi (t := 25) rfl rfl) ?_
   refine s_go (m_fieldAddr Tryz.underlying30 (hi := ti28)) ?_
   try simp only [opv, nZ, Value.cells, Nat.zero_add, Nat.add_zero, List.getElem_toArray, List.getElem_cons_zero, List.getElem_cons_succ]
   refine g_on (yi (t := 25) rfl rfl) ?_
   refine s_go (m_load_obj Tryz.underlying28 (hS := hS) (hv := by rfl)) ?_
   try simp only [opv, nZ, Value.cells, List.getElem_toArray, List.getElem_cons_zero, List.getElem_cons_succ]
   try rw [mkV_0]
   refine g_on (yi (t := 25) rfl rfl) ?_
   refine s_go (s_neq) ?_
   try simp only [opv, nZ, Value.cells]
   refine s_go (s_pick_t) ?_
   try simp only [opv, nZ, Value.cells]
   refine s_callv (hv := rfl) en57 ?_
   try simp only [opv, nZ, Value.cells, List.map_toArray, List.map_cons, List.map_nil, List.append_toArray, List.cons_append, List.nil_append, Array.append_empty]
   refine CallR.mono (c_atomVal1 _ g ((oneS e xs).2).1 Aa ca ((oneS e xs).2).2 hcpa gb _ 3 (hS.owns (by repeat (first | exact Spl.nil | (apply Spl.cons (by repeat (first | exact Del.head | apply Del.tail))))))) ?_
   rintro _ w5 ⟨rfl, Ab, cb, hcpb, hRb, hCb⟩
   have hYb := RdIn.trans hM hS (by repeat (first | exact Spl.nil | (apply Spl.cons (by repeat (first | exact Del.head | apply Del.tail))))) hRb (by intro s hs q hb; simp only [List.mem_cons, List.not_mem_nil, or_false] at hs; rcases hs with rfl | rfl | rfl <;> first | (simp [Res.reads] at hb; done) | exact hRa q hb)
   replace hS := hS.frame (by repeat (first | exact Spl.nil | (apply Spl.cons (by repeat (first | exact Del.head | apply Del.tail))))) hCb (by intro r hr b hb; simp only [List.mem_cons, List.not_mem_nil, or_false] at hr; rcases hr with rfl | rfl | rfl <;> first | (simp [Res.reads] at hb; done) | exact hRb b hb)
   replace hRb := hYb
   simp only [List.cons_append, List.nil_append] at hS
   try simp only [opv, nZ, Value.cells]
   refine x_nil ?_
   refine hK11 _ _ ?_
   refine x_exit (look_on (by decide) (look_on (by decide) (look_on (by decide) (look_here ?_))))
   refine hK3 _ _ ?_
   refine x_seq fun K13 hK13 => ?_
   refine x_region ?_
   refine s_go (m_load_row Tryz.underlying30 (hi := ti30) (hS := hS) (hfit := by (rw [zi_size (by omega)]; rfl))) ?_
   try simp only [opv, nZ, Value.cells, List.getElem_toArray, List.getElem_cons_zero, List.getElem_cons_succ]
   refine m_store_obj ti30 (hS := hS) (hc := by exact zi_whole (by omega) (by omega)) (hv := by rfl) (hfit := by (rw [zi_size (by omega)]; decide)) (h1 := by exact zi_one _ _) (h := fun w6 hS => ?_)
   try simp only [opv, nZ, Value.cells, Array.toArray_toList] at hS ⊢
   refine x_nil ?_
   refine hK13 _ _ ?_
   refine x_ret ?_
   refine r_cell_agg rfl Tryz.underlying30 ti30 (hS := hS) (hfit := by (rw [zi_size (by omega)]; rfl)) (hR := ?_)
   rw [hz]
   exact ⟨rfl, _, _, by assumption, by assumption, hS.sel (by repeat (first | exact Sel.nil | (refine Sel.cons (by repeat (exact Del.head)) ?_)))⟩
  ·
   try simp only [n3, n4]
   try simp only [decide_eq_true_eq, decide_eq_false_iff_not, Bool.not_eq_true', Bool.not_eq_false', Int.not_lt, Int.not_le, ne_eq, Decidable.not_not] at hp1
   have hz : valP s e xs = (mkV u1 nm0, failS false 3 (oneS e xs).2) := by rw [valP_1 (show s = 1 by omega), hu1, Int.toNat_natCast, decide_eq_false (show ¬ ¬ ((u1 : Nat) : Int) = 1 by omega), Bool.false_and]
   refine g_off (yi (t := 25) rfl rfl) ?_
   try simp only [opv, nZ, Value.cells]
   refine g_off (yi (t := 25) rfl rfl) ?_
   try simp only [opv, nZ, Value.cells]
   refine g_off (yi (t := 25) rfl rfl) ?_
   try simp only [opv, nZ, Value.cells]
   refine s_go (s_pick_f) ?_
   try simp only [opv, nZ, Value.cells]
   refine s_callv (hv := rfl) en57 ?_
   try simp only [opv, nZ, Value.cells, List.map_toArray, List.map_cons, List.map_nil, List.append_toArray, List.cons_append, List.nil_append, Array.append_empty]
   refine CallR.mono (c_atomVal1 _ g ((oneS e xs).2).1 Aa ca ((oneS e xs).2).2 hcpa gb _ 3 (hS.owns (by repeat (first | exact Spl.nil | (apply Spl.cons (by repeat (first | exact Del.head | apply Del.tail))))))) ?_
   rintro _ w7 ⟨rfl, Ab, cb, hcpb, hRb, hCb⟩
   have hYb := RdIn.trans hM hS (by repeat (first | exact Spl.nil | (apply Spl.cons (by repeat (first | exact Del.head | apply Del.tail))))) hRb (by intro s hs q hb; simp only [List.mem_cons, List.not_mem_nil, or_false] at hs; rcases hs with rfl | rfl | rfl <;> first | (simp [Res.reads] at hb; done) | exact hRa q hb)
   replace hS := hS.frame (by repeat (first | exact Spl.nil | (apply Spl.cons (by repeat (first | exact Del.head | apply Del.tail))))) hCb (by intro r hr b hb; simp only [List.mem_cons, List.not_mem_nil, or_false] at hr; rcases hr with rfl | rfl | rfl <;> first | (simp [Res.reads] at hb; done) | exact hRb b hb)
   replace hRb := hYb
   simp only [List.cons_append, List.nil_append] at hS
   try simp only [opv, nZ, Value.cells]
   refine x_nil ?_
   refine hK11 _ _ ?_
   refine x_exit (look_on (by decide) (look_on (by decide) (look_on (by decide) (look_here ?_))))
   refine hK3 _ _ ?_
   refine x_seq fun K14 hK14 => ?_
   refine x_region ?_
   refine s_go (m_load_row Tryz.underlying30 (hi := ti30) (hS := hS) (hfit := by (rw [zi_size (by omega)]; rfl))) ?_
   try simp only [opv, nZ, Value.cells, List.getElem_toArray, List.getElem_cons_zero, List.getElem_cons_succ]
   refine m_store_obj ti30 (hS := hS) (hc := by exact zi_whole (by omega) (by omega)) (hv := by rfl) (hfit := by (rw [zi_size (by omega)]; decide)) (h1 := by exact zi_one _ _) (h := fun w8 hS => ?_)
   try simp only [opv, nZ, Value.cells, Array.toArray_toList] at hS ⊢
   refine x_nil ?_
   refine hK14 _ _ ?_
   refine x_ret ?_
   refine r_cell_agg rfl Tryz.underlying30 ti30 (hS := hS) (hfit := by (rw [zi_size (by omega)]; rfl)) (hR := ?_)
   rw [hz]
   exact ⟨rfl, _, _, by assumption, by assumption, hS.sel (by repeat (first | exact Sel.nil | (refine Sel.cons (by repeat (exact Del.head)) ?_)))⟩
 ·
  try simp only [decide_eq_true_eq, decide_eq_false_iff_not, Bool.not_eq_true', Bool.not_eq_false', Int.not_lt, Int.not_le, ne_eq, Decidable.not_not, bne_iff_ne, beq_iff_eq, not_true_eq_false, not_false_eq_true] at hc1
  refine x_skip ?_
  refine hK9 _ _ ?_
  refine x_seq fun K15 hK15 => ?_
  refine x_seq fun K16 hK16 => ?_
  refine x_region ?_
  refine s_go (s_eql) ?_
  try simp only [opv, nZ, Value.cells]
  refine s_go (s_assign) ?_
  try simp only [opv, nZ, Value.cells]
  refine x_nil ?_
  refine hK16 _ _ ?_
  refine x_cond (ht := fun hc2 => ?_) (hf := fun hc2 => ?_)
  ·
   try simp only [decide_eq_true_eq, decide_eq_false_iff_not, Bool.not_eq_true', Bool.not_eq_false', Int.not_lt, Int.not_le, ne_eq, Decidable.not_not, bne_iff_ne, beq_iff_eq, not_true_eq_false, not_false_eq_true] at hc2
   refine x_exit (look_on (by decide) (look_here ?_))
   refine hK6 _ _ ?_
   refine x_seq fun K17 hK17 => ?_
   refine x_seq fun K18 hK18 => ?_
   refine x_region ?_
   have hz : valP s e xs = (mkV (numS 4294967295 e xs).1 nm0, failS (decide (((numS 4294967295 e xs).1 : Int) = 0)) 3 (numS 4294967295 e xs).2) := by rw [valP_2 (show s = 2 ∨ s = 3 by omega)]; congr 2; exact decide_eq_decide.2 (by omega)
   have hv2l : (mkV (numS 4294967295 e xs).1 nm0).length = 9 := rfl
   refine s_go (m_load_obj Tryz.underlying39 (hS := hS) (hv := by rfl)) ?_
   try simp only [opv, nZ, Value.cells, List.getElem_toArray, List.getElem_cons_zero, List.getElem_cons_succ]
   refine s_call en49 ?_
   try simp only [opv, nZ, Value.cells, List.map_toArray, List.map_cons, List.map_nil, List.append_toArray, List.cons_append, List.nil_append, Array.append_empty]
   refine CallR.mono (c_cNum _ g e A c xs hc hw hn 4294967295 (by omega) (hS.owns (by repeat (first | exact Spl.nil | (apply Spl.cons (by repeat (first | exact Del.head | apply Del.tail))))))) ?_
   rintro _ w9 ⟨rfl, Aa, ca, hcpa, hRa, hCa⟩
   have hYa := RdIn.trans hM hS (by repeat (first | exact Spl.nil | (apply Spl.cons (by repeat (first | exact Del.head | apply Del.tail))))) hRa (by intro s hs q hb; simp only [List.mem_cons, List.not_mem_nil, or_false] at hs; rcases hs with rfl | rfl <;> first | (simp [Res.reads] at hb; done) | exact .inr ⟨_, List.mem_cons_of_mem _ (List.mem_cons_self ..), .inr hb⟩)
   replace hS := hS.frame (by repeat (first | exact Spl.nil | (apply Spl.cons (by repeat (first | exact Del.head | apply Del.tail))))) hCa (by intro r hr b hb; simp only [List.mem_cons, List.not_mem_nil, or_false] at hr; rcases hr with rfl | rfl <;> first | (simp [Res.reads] at hb; done) | exact hRa b hb)
   replace hRa := hYa
   simp only [List.cons_append, List.nil_append] at hS
   try simp only [opv, nZ, Value.cells]
   refine s_go (m_fieldAddr Tryz.underlying30 (hi := ti28)) ?_
   try simp only [opv, nZ, Value.cells, Nat.zero_add, Nat.add_zero, List.getElem_toArray, List.getElem_cons_zero, List.getElem_cons_succ]
   refine m_store_obj ti28 (hS := hS) (hc := by exact zi_set rfl (by omega)) (hv := by rfl) (hfit := by (rw [zi_size (by omega)]; decide)) (h1 := by simp [opv, Value.cells, Value.oneCell']) (h := fun w10 hS => ?_)
   try simp only [opv, nZ, Value.cells, Array.toArray_toList] at hS ⊢
   rw [mkV_set0] at hS
   refine x_nil ?_
   refine hK18 _ _ ?_
   refine x_region ?_
   refine s_go (s_move) ?_
   try simp only [opv, nZ, Value.cells]
   refine s_go (m_fieldAddr Tryz.underlying30 (hi := ti28)) ?_
   try simp only [opv, nZ, Value.cells, Nat.zero_add, Nat.add_zero, List.getElem_toArray, List.getElem_cons_zero, List.getElem_cons_succ]
   refine s_go (m_load_obj Tryz.underlying28 (hS := hS) (hv := by rfl)) ?_
   try simp only [opv, nZ, Value.cells, List.getElem_toArray, List.getElem_cons_zero, List.getElem_cons_succ]
   try rw [mkV_0]
   refine s_go (s_eql) ?_
   try simp only [opv, nZ, Value.cells]
   refine s_callv (hv := rfl) en57 ?_
   try simp only [opv, nZ, Value.cells, List.map_toArray, List.map_cons, List.map_nil, List.append_toArray, List.cons_append, List.nil_append, Array.append_empty]
   refine CallR.mono (c_atomVal1 _ g ((numS 4294967295 e xs).2).1 Aa ca ((numS 4294967295 e xs).2).2 hcpa gb _ 3 (hS.owns (by repeat (first | exact Spl.nil | (apply Spl.cons (by repeat (first | exact Del.head | apply Del.tail))))))) ?_
   rintro _ w11 ⟨rfl, Ab, cb, hcpb, hRb, hCb⟩
   have hYb := RdIn.trans hM hS (by repeat (first | exact Spl.nil | (apply Spl.cons (by repeat (first | exact Del.head | apply Del.tail))))) hRb (by intro s hs q hb; simp only [List.mem_cons, List.not_mem_nil, or_false] at hs; rcases hs with rfl | rfl | rfl <;> first | (simp [Res.reads] at hb; done) | exact hRa q hb)
   replace hS := hS.frame (by repeat (first | exact Spl.nil | (apply Spl.cons (by repeat (first | exact Del.head | apply Del.tail))))) hCb (by intro r hr b hb; simp only [List.mem_cons, List.not_mem_nil, or_false] at hr; rcases hr with rfl | rfl | rfl <;> first | (simp [Res.reads] at hb; done) | exact hRb b hb)
   replace hRb := hYb
   simp only [List.cons_append, List.nil_append] at hS
   try simp only [opv, nZ, Value.cells]
   refine x_nil ?_
   refine hK17 _ _ ?_
   refine x_exit (look_on (by decide) (look_here ?_))
   refine hK3 _ _ ?_
   refine x_seq fun K19 hK19 => ?_
   refine x_region ?_
   refine s_go (m_load_row Tryz.underlying30 (hi := ti30) (hS := hS) (hfit := by (rw [zi_size (by omega)]; rfl))) ?_
   try simp only [opv, nZ, Value.cells, List.getElem_toArray, List.getElem_cons_zero, List.getElem_cons_succ]
   refine m_store_obj ti30 (hS := hS) (hc := by exact zi_whole (by omega) (by omega)) (hv := by rfl) (hfit := by (rw [zi_size (by omega)]; decide)) (h1 := by exact zi_one _ _) (h := fun w12 hS => ?_)
   try simp only [opv, nZ, Value.cells, Array.toArray_toList] at hS ⊢
   refine x_nil ?_
   refine hK19 _ _ ?_
   refine x_ret ?_
   refine r_cell_agg rfl Tryz.underlying30 ti30 (hS := hS) (hfit := by (rw [zi_size (by omega)]; rfl)) (hR := ?_)
   rw [hz]
   exact ⟨rfl, _, _, by assumption, by assumption, hS.sel (by repeat (first | exact Sel.nil | (refine Sel.cons (by repeat (exact Del.head)) ?_)))⟩
  ·
   try simp only [decide_eq_true_eq, decide_eq_false_iff_not, Bool.not_eq_true', Bool.not_eq_false', Int.not_lt, Int.not_le, ne_eq, Decidable.not_not, bne_iff_ne, beq_iff_eq, not_true_eq_false, not_false_eq_true] at hc2
   refine x_skip ?_
   refine hK15 _ _ ?_
   refine x_seq fun K20 hK20 => ?_
   refine x_seq fun K21 hK21 => ?_
   refine x_region ?_
   refine s_go (s_eql) ?_
   try simp only [opv, nZ, Value.cells]
   refine s_go (s_assign) ?_
   try simp only [opv, nZ, Value.cells]
   refine x_nil ?_
   refine hK21 _ _ ?_
   refine x_cond (ht := fun hc3 => ?_) (hf := fun hc3 => ?_)
   ·
    try simp only [decide_eq_true_eq, decide_eq_false_iff_not, Bool.not_eq_true', Bool.not_eq_false', Int.not_lt, Int.not_le, ne_eq, Decidable.not_not, bne_iff_ne, beq_iff_eq, not_true_eq_false, not_false_eq_true] at hc3
    refine x_exit (look_on (by decide) (look_on (by decide) (look_here ?_)))
    refine hK6 _ _ ?_
    refine x_seq fun K22 hK22 => ?_
    refine x_seq fun K23 hK23 => ?_
    refine x_region ?_
    have hz : valP s e xs = (mkV (numS 4294967295 e xs).1 nm0, failS (decide (((numS 4294967295 e xs).1 : Int) = 0)) 3 (numS 4294967295 e xs).2) := by rw [valP_2 (show s = 2 ∨ s = 3 by omega)]; congr 2; exact decide_eq_decide.2 (by omega)
    have hv2l : (mkV (numS 4294967295 e xs).1 nm0).length = 9 := rfl
    refine s_go (m_load_obj Tryz.underlying39 (hS := hS) (hv := by rfl)) ?_
    try simp only [opv, nZ, Value.cells, List.getElem_toArray, List.getElem_cons_zero, List.getElem_cons_succ]
    refine s_call en49 ?_
    try simp only [opv, nZ, Value.cells, List.map_toArray, List.map_cons, List.map_nil, List.append_toArray, List.cons_append, List.nil_append, Array.append_empty]
    refine CallR.mono (c_cNum _ g e A c xs hc hw hn 4294967295 (by omega) (hS.owns (by repeat (first | exact Spl.nil | (apply Spl.cons (by repeat (first | exact Del.head | apply Del.tail))))))) ?_
    rintro _ w13 ⟨rfl, Aa, ca, hcpa, hRa, hCa⟩
    have hYa := RdIn.trans hM hS (by repeat (first | exact Spl.nil | (apply Spl.cons (by repeat (first | exact Del.head | apply Del.tail))))) hRa (by intro s hs q hb; simp only [List.mem_cons, List.not_mem_nil, or_false] at hs; rcases hs with rfl | rfl <;> first | (simp [Res.reads] at hb; done) | exact .inr ⟨_, List.mem_cons_of_mem _ (List.mem_cons_self ..), .inr hb⟩)
    replace hS := hS.frame (by repeat (first | exact Spl.nil | (apply Spl.cons (by repeat (first | exact Del.head | apply Del.tail))))) hCa (by intro r hr b hb; simp only [List.mem_cons, List.not_mem_nil, or_false] at hr; rcases hr with rfl | rfl <;> first | (simp [Res.reads] at hb; done) | exact hRa b hb)
    replace hRa := hYa
    simp only [List.cons_append, List.nil_append] at hS
    try simp only [opv, nZ, Value.cells]
    refine s_go (m_fieldAddr Tryz.underlying30 (hi := ti28)) ?_
    try simp only [opv, nZ, Value.cells, Nat.zero_add, Nat.add_zero, List.getElem_toArray, List.getElem_cons_zero, List.getElem_cons_succ]
    refine m_store_obj ti28 (hS := hS) (hc := by exact zi_set rfl (by omega)) (hv := by rfl) (hfit := by (rw [zi_size (by omega)]; decide)) (h1 := by simp [opv, Value.cells, Value.oneCell']) (h := fun w14 hS => ?_)
    try simp only [opv, nZ, Value.cells, Array.toArray_toList] at hS ⊢
    rw [mkV_set0] at hS
    refine x_nil ?_
    refine hK23 _ _ ?_
    refine x_region ?_
    refine s_go (s_move) ?_
    try simp only [opv, nZ, Value.cells]
    refine s_go (m_fieldAddr Tryz.underlying30 (hi := ti28)) ?_
    try simp only [opv, nZ, Value.cells, Nat.zero_add, Nat.add_zero, List.getElem_toArray, List.getElem_cons_zero, List.getElem_cons_succ]
    refine s_go (m_load_obj Tryz.underlying28 (hS := hS) (hv := by rfl)) ?_
    try simp only [opv, nZ, Value.cells, List.getElem_toArray, List.getElem_cons_zero, List.getElem_cons_succ]
    try rw [mkV_0]
    refine s_go (s_eql) ?_
    try simp only [opv, nZ, Value.cells]
    refine s_callv (hv := rfl) en57 ?_
    try simp only [opv, nZ, Value.cells, List.map_toArray, List.map_cons, List.map_nil, List.append_toArray, List.cons_append, List.nil_append, Array.append_empty]
    refine CallR.mono (c_atomVal1 _ g ((numS 4294967295 e xs).2).1 Aa ca ((numS 4294967295 e xs).2).2 hcpa gb _ 3 (hS.owns (by repeat (first | exact Spl.nil | (apply Spl.cons (by repeat (first | exact Del.head | apply Del.tail))))))) ?_
    rintro _ w15 ⟨rfl, Ab, cb, hcpb, hRb, hCb⟩
    have hYb := RdIn.trans hM hS (by repeat (first | exact Spl.nil | (apply Spl.cons (by repeat (first | exact Del.head | apply Del.tail))))) hRb (by intro s hs q hb; simp only [List.mem_cons, List.not_mem_nil, or_false] at hs; rcases hs with rfl | rfl | rfl <;> first | (simp [Res.reads] at hb; done) | exact hRa q hb)
    replace hS := hS.frame (by repeat (first | exact Spl.nil | (apply Spl.cons (by repeat (first | exact Del.head | apply Del.tail))))) hCb (by intro r hr b hb; simp only [List.mem_cons, List.not_mem_nil, or_false] at hr; rcases hr with rfl | rfl | rfl <;> first | (simp [Res.reads] at hb; done) | exact hRb b hb)
    replace hRb := hYb
    simp only [List.cons_append, List.nil_append] at hS
    try simp only [opv, nZ, Value.cells]
    refine x_nil ?_
    refine hK22 _ _ ?_
    refine x_exit (look_on (by decide) (look_here ?_))
    refine hK3 _ _ ?_
    refine x_seq fun K24 hK24 => ?_
    refine x_region ?_
    refine s_go (m_load_row Tryz.underlying30 (hi := ti30) (hS := hS) (hfit := by (rw [zi_size (by omega)]; rfl))) ?_
    try simp only [opv, nZ, Value.cells, List.getElem_toArray, List.getElem_cons_zero, List.getElem_cons_succ]
    refine m_store_obj ti30 (hS := hS) (hc := by exact zi_whole (by omega) (by omega)) (hv := by rfl) (hfit := by (rw [zi_size (by omega)]; decide)) (h1 := by exact zi_one _ _) (h := fun w16 hS => ?_)
    try simp only [opv, nZ, Value.cells, Array.toArray_toList] at hS ⊢
    refine x_nil ?_
    refine hK24 _ _ ?_
    refine x_ret ?_
    refine r_cell_agg rfl Tryz.underlying30 ti30 (hS := hS) (hfit := by (rw [zi_size (by omega)]; rfl)) (hR := ?_)
    rw [hz]
    exact ⟨rfl, _, _, by assumption, by assumption, hS.sel (by repeat (first | exact Sel.nil | (refine Sel.cons (by repeat (exact Del.head)) ?_)))⟩
   ·
    try simp only [decide_eq_true_eq, decide_eq_false_iff_not, Bool.not_eq_true', Bool.not_eq_false', Int.not_lt, Int.not_le, ne_eq, Decidable.not_not, bne_iff_ne, beq_iff_eq, not_true_eq_false, not_false_eq_true] at hc3
    refine x_skip ?_
    refine hK20 _ _ ?_
    refine x_seq fun K25 hK25 => ?_
    refine x_region ?_
    refine s_go (s_eql) ?_
    try simp only [opv, nZ, Value.cells]
    refine s_go (s_assign) ?_
    try simp only [opv, nZ, Value.cells]
    refine x_nil ?_
    refine hK25 _ _ ?_
    refine x_cond (ht := fun hc4 => ?_) (hf := fun hc4 => ?_)
    ·
     try simp only [decide_eq_true_eq, decide_eq_false_iff_not, Bool.not_eq_true', Bool.not_eq_false', Int.not_lt, Int.not_le, ne_eq, Decidable.not_not, bne_iff_ne, beq_iff_eq, not_true_eq_false, not_false_eq_true] at hc4
     refine x_exit (look_on (by decide) (look_on (by decide) (look_on (by decide) (look_here ?_))))
     refine hK5 _ _ ?_
     refine x_seq fun K26 hK26 => ?_
     refine x_seq fun K27 hK27 => ?_
     refine x_region ?_
     have hz := valP_4 (e := e) (xs := xs) (show s = 4 by omega)
     obtain ⟨F, hF⟩ : ∃ F, (failS (decide (¬ stampE (numS 1099511627775 e xs).1 = 0)) (stampE (numS 1099511627775 e xs).1) (numS 1099511627775 e xs).2) = F := ⟨_, rfl⟩
     rw [hF] at hz
     have hFb : Byt F.2 := by rw [← hF]; exact failS_byt (numS_byt hw)
     have hFl : F.2.length ≤ xs.length := by rw [← hF]; exact Nat.le_trans failS_len (numS_len _ _ _)
     have hnl := namS_len F.1 F.2
     have hv4l : (mkV (numS 1099511627775 e xs).1 nm0).length = 9 := rfl
     refine s_go (m_load_obj Tryz.underlying39 (hS := hS) (hv := by rfl)) ?_
     try simp only [opv, nZ, Value.cells, List.getElem_toArray, List.getElem_cons_zero, List.getElem_cons_succ]
     refine s_call en49 ?_
     try simp only [opv, nZ, Value.cells, List.map_toArray, List.map_cons, List.map_nil, List.append_toArray, List.cons_append, List.nil_append, Array.append_empty]
     refine CallR.mono (c_cNum _ g e A c xs hc hw hn 1099511627775 (by omega) (hS.owns (by repeat (first | exact Spl.nil | (apply Spl.cons (by repeat (first | exact Del.head | apply Del.tail))))))) ?_
     rintro _ w17 ⟨rfl, Aa, ca, hcpa, hRa, hCa⟩
     have hYa := RdIn.trans hM hS (by repeat (first | exact Spl.nil | (apply Spl.cons (by repeat (first | exact Del.head | apply Del.tail))))) hRa (by intro s hs q hb; simp only [List.mem_cons, List.not_mem_nil, or_false] at hs; rcases hs with rfl | rfl <;> first | (simp [Res.reads] at hb; done) | exact .inr ⟨_, List.mem_cons_of_mem _ (List.mem_cons_self ..), .inr hb⟩)
     replace hS := hS.frame (by repeat (first | exact Spl.nil | (apply Spl.cons (by repeat (first | exact Del.head | apply Del.tail))))) hCa (by intro r hr b hb; simp only [List.mem_cons, List.not_mem_nil, or_false] at hr; rcases hr with rfl | rfl <;> first | (simp [Res.reads] at hb; done) | exact hRa b hb)
     replace hRa := hYa
     simp only [List.cons_append, List.nil_append] at hS
     try simp only [opv, nZ, Value.cells]
     refine s_go (m_fieldAddr Tryz.underlying30 (hi := ti28)) ?_
     try simp only [opv, nZ, Value.cells, Nat.zero_add, Nat.add_zero, List.getElem_toArray, List.getElem_cons_zero, List.getElem_cons_succ]
     refine m_store_obj ti28 (hS := hS) (hc := by exact zi_set rfl (by omega)) (hv := by rfl) (hfit := by (rw [zi_size (by omega)]; decide)) (h1 := by simp [opv, Value.cells, Value.oneCell']) (h := fun w18 hS => ?_)
     try simp only [opv, nZ, Value.cells, Array.toArray_toList] at hS ⊢
     rw [mkV_set0] at hS
     refine x_nil ?_
     refine hK27 _ _ ?_
     refine x_seq fun K28 hK28 => ?_
     refine x_region ?_
     refine s_go (m_fieldAddr Tryz.underlying30 (hi := ti28)) ?_
     try simp only [opv, nZ, Value.cells, Nat.zero_add, Nat.add_zero, List.getElem_toArray, List.getElem_cons_zero, List.getElem_cons_succ]
     refine s_go (m_load_obj Tryz.underlying28 (hS := hS) (hv := by rfl)) ?_
     try simp only [opv, nZ, Value.cells, List.getElem_toArray, List.getElem_cons_zero, List.getElem_cons_succ]
     try rw [mkV_0]
     refine s_call en59 ?_
     try simp only [opv, nZ, Value.cells, List.map_toArray, List.map_cons, List.map_nil, List.append_toArray, List.cons_append, List.nil_append, Array.append_empty]
     refine CallR.mono (c_atomStamped (numS 1099511627775 e xs).1 (by omega) _) ?_
     rintro _ w19 ⟨rfl, hE19⟩
     replace hS := hS.ext hE19
     try simp only [opv, nZ, Value.cells]
     refine s_go (s_assign) ?_
     try simp only [opv, nZ, Value.cells]
     refine x_nil ?_
     refine hK28 _ _ ?_
     refine x_seq fun K29 hK29 => ?_
     refine x_region ?_
     refine s_go (s_move) ?_
     try simp only [opv, nZ, Value.cells]
     refine s_go (s_move) ?_
     try simp only [opv, nZ, Value.cells]
     refine s_go (s_neq) ?_
     try simp only [opv, nZ, Value.cells]
     simp only [ne_eq]
     refine s_go (s_move) ?_
     try simp only [opv, nZ, Value.cells]
     refine s_callv (hv := rfl) en57 ?_
     try simp only [opv, nZ, Value.cells, List.map_toArray, List.map_cons, List.map_nil, List.append_toArray, List.cons_append, List.nil_append, Array.append_empty]
     refine CallR.mono (c_atomVal1 _ g ((numS 1099511627775 e xs).2).1 Aa ca ((numS 1099511627775 e xs).2).2 hcpa gb _ _ (hS.owns (by repeat (first | exact Spl.nil | (apply Spl.cons (by repeat (first | exact Del.head | apply Del.tail))))))) ?_
     rintro _ w20 ⟨rfl, Ab, cb, hcpb, hRb, hCb⟩
     have hYb := RdIn.trans hM hS (by repeat (first | exact Spl.nil | (apply Spl.cons (by repeat (first | exact Del.head | apply Del.tail))))) hRb (by intro s hs q hb; simp only [List.mem_cons, List.not_mem_nil, or_false] at hs; rcases hs with rfl | rfl | rfl <;> first | (simp [Res.reads] at hb; done) | exact hRa q hb)
     replace hS := hS.frame (by repeat (first | exact Spl.nil | (apply Spl.cons (by repeat (first | exact Del.head | apply Del.tail))))) hCb (by intro r hr b hb; simp only [List.mem_cons, List.not_mem_nil, or_false] at hr; rcases hr with rfl | rfl | rfl <;> first | (simp [Res.reads] at hb; done) | exact hRb b hb)
     replace hRb := hYb
     simp only [List.cons_append, List.nil_append] at hS
     simp only [show (((numS 1099511627775 e xs).2.1, (numS 1099511627775 e xs).2.2) : Int × List Int) = (numS 1099511627775 e xs).2 from rfl, hF] at hS hcpb hRb
     try simp only [opv, nZ, Value.cells]
     refine x_nil ?_
     refine hK29 _ _ ?_
     refine x_region ?_
     refine s_go (m_load_obj Tryz.underlying39 (hS := hS) (hv := by rfl)) ?_
     try simp only [opv, nZ, Value.cells, List.getElem_toArray, List.getElem_cons_zero, List.getElem_cons_succ]
     refine s_call en51 ?_
     try simp only [opv, nZ, Value.cells, List.map_toArray, List.map_cons, List.map_nil, List.append_toArray, List.cons_append, List.nil_append, Array.append_empty]
     refine CallR.mono (c_cName _ g F.1 Ab cb F.2 hcpb hFb (by omega) (hS.owns (by repeat (first | exact Spl.nil | (apply Spl.cons (by repeat (exact Del.head))))))) ?_
     rintro _ w21 ⟨rfl, Ac, cc, hcpc, hRc, hCc⟩
     have hYc := RdIn.trans hM hS (by repeat (first | exact Spl.nil | (apply Spl.cons (by repeat (exact Del.head))))) hRc (by intro s hs q hb; simp only [List.mem_cons, List.not_mem_nil, or_false] at hs; rcases hs with rfl | rfl <;> first | (simp [Res.reads] at hb; done) | exact hRb q hb)
     replace hS := hS.frame (by repeat (first | exact Spl.nil | (apply Spl.cons (by repeat (exact Del.head))))) hCc (by intro r hr b hb; simp only [List.mem_cons, List.not_mem_nil, or_false] at hr; rcases hr with rfl | rfl <;> first | (simp [Res.reads] at hb; done) | exact hRc b hb)
     replace hRc := hYc
     simp only [List.cons_append, List.nil_append] at hS
     try simp only [opv, nZ, Value.cells]
     refine s_go (m_fieldAddr Tryz.underlying30 (hi := ti24)) ?_
     try simp only [opv, nZ, Value.cells, Nat.zero_add, Nat.add_zero, List.getElem_toArray, List.getElem_cons_zero, List.getElem_cons_succ]
     refine m_store_obj ti24 (hS := hS) (hc := mkV_text rfl hnl) (hv := by (show (ic .u8 _).size = 8; rw [ic_size]; exact hnl)) (hfit := by (rw [zi_size (by omega)]; decide)) (h1 := by exact ic_one _ _) (h := fun w22 hS => ?_)
     try simp only [opv, nZ, Value.cells, Array.toArray_toList] at hS ⊢
     have hv5l : (mkV (numS 1099511627775 e xs).1 (namS F.1 F.2).1).length = 9 := mkV_len hnl
     refine x_nil ?_
     refine hK26 _ _ ?_
     refine x_exit (look_here ?_)
     refine hK3 _ _ ?_
     refine x_seq fun K30 hK30 => ?_
     refine x_region ?_
     refine s_go (m_load_row Tryz.underlying30 (hi := ti30) (hS := hS) (hfit := by (rw [zi_size (by omega)]; rfl))) ?_
     try simp only [opv, nZ, Value.cells, List.getElem_toArray, List.getElem_cons_zero, List.getElem_cons_succ]
     refine m_store_obj ti30 (hS := hS) (hc := by exact zi_whole (by omega) (by omega)) (hv := by (show (zi _ _).toArray.size = _; rw [zi_size (by omega)]; rfl)) (hfit := by (rw [zi_size (by omega)]; decide)) (h1 := by exact zi_one _ _) (h := fun w23 hS => ?_)
     try simp only [opv, nZ, Value.cells, Array.toArray_toList] at hS ⊢
     refine x_nil ?_
     refine hK30 _ _ ?_
     refine x_ret ?_
     refine r_cell_agg rfl Tryz.underlying30 ti30 (hS := hS) (hfit := by (rw [zi_size (by omega)]; rfl)) (hR := ?_)
     rw [hz]
     exact ⟨rfl, _, _, by assumption, by assumption, hS.sel (by repeat (first | exact Sel.nil | (refine Sel.cons (by repeat (exact Del.head)) ?_)))⟩
    ·
     try simp only [decide_eq_true_eq, decide_eq_false_iff_not, Bool.not_eq_true', Bool.not_eq_false', Int.not_lt, Int.not_le, ne_eq, Decidable.not_not, bne_iff_ne, beq_iff_eq, not_true_eq_false, not_false_eq_true] at hc4
     have hz := valP_0 (s := s) (e := e) (xs := xs) (by omega) (by omega) (by omega) (by omega)
     refine x_skip ?_
     refine hK8 _ _ ?_
     refine x_exit (look_on (by decide) (look_on (by decide) (look_on (by decide) (look_on (by decide) (look_here ?_)))))
     refine hK3 _ _ ?_
     refine x_seq fun K31 hK31 => ?_
     refine x_region ?_
     refine s_go (m_load_row Tryz.underlying30 (hi := ti30) (hS := hS) (hfit := by (rw [zi_size (by omega)]; rfl))) ?_
     try simp only [opv, nZ, Value.cells, List.getElem_toArray, List.getElem_cons_zero, List.getElem_cons_succ]
     refine m_store_obj ti30 (hS := hS) (hc := by exact zi_whole (by omega) (by omega)) (hv := by rfl) (hfit := by (rw [zi_size (by omega)]; decide)) (h1 := by exact zi_one _ _) (h := fun w24 hS => ?_)
     try simp only [opv, nZ, Value.cells, Array.toArray_toList] at hS ⊢
     refine x_nil ?_
     refine hK31 _ _ ?_
     refine x_ret ?_
     refine r_cell_agg rfl Tryz.underlying30 ti30 (hS := hS) (hfit := by (rw [zi_size (by omega)]; rfl)) (hR := ?_)
     rw [hz]
     exact ⟨rfl, A, c, hc, RdIn.self (List.mem_cons_of_mem _ (List.mem_cons_self ..)), hS.selA⟩
theorem c_atomRead (w0 : World) (g : Nat) (e : Int) (A : Option Addr) (c : Nat) (xs : List Int) (hc : xs.length ≤ c) (hw : Byt xs) (hn : xs.length ≤ 1000000000) (hM : St (OwnB [.obj g (.cells #[.int .i64 e, .slice A xs.length c] 63 (0, 0)), .rd A 1 xs.length (xs.map (Value.int .u8))]) w0 w0 [.obj g (.cells #[.int .i64 e, .slice A xs.length c] 63 (0, 0)), .rd A 1 xs.length (xs.map (Value.int .u8))]) :
    CallR Tryz.prog 12 #[.pointer (some ⟨g, 0, none⟩)] w0 fun v w' => v = .agg (AA (atmS e xs).1) ∧ CuSt w0 w' [.obj g (.cells #[.int .i64 e, .slice A xs.length c] 63 (0, 0)), .rd A 1 xs.length (xs.map (Value.int .u8))] g (atmS e xs).2.1 (atmS e xs).2.2 [] := by
 have hS := hM
 have hk12 := keyS_l12 e hw
 have hkb := keyS_byt (e := e) hw
 have hkl := keyS_len (e := e) (xs := xs)
 have hke := (keyS_key (e := e) hw).e0
 have hvl := valP_len (s := kn (keyS e xs).1 0) (e := (keyS e xs).2.1) (xs := (keyS e xs).2.2)
 have h0l : atom0.length = 21 := rfl
 have hv0l : (mkV 0 nm0).length = 9 := rfl
 have hl1 : ((keyS e xs).1 ++ mkV 0 nm0).length = 21 := by rw [List.length_append]; omega
 have hl2 : ((keyS e xs).1 ++ (valP (kn (keyS e xs).1 0) (keyS e xs).2.1 (keyS e xs).2.2).1).length = 21 := by rw [List.length_append]; omega
 refine c_enter (l := [.pointer (some ⟨g, 0, none⟩), undef, undef, undef, undef, undef, undef, undef, undef, undef, undef, undef, undef, undef, undef, undef, undef, undef, undef, undef, undef]) Tryz.func12 rfl (by simp only [Tryz.ntmps12, List.size_toArray, List.length_cons, List.length_nil, Nat.reduceAdd, Nat.reduceSub, Array.replicate_succ, Array.replicate_zero, List.push_toArray, List.append_toArray, List.nil_append, List.cons_append]) ?_
 refine x_seq fun K1 hK1 => ?_
 refine x_region ?_
 refine m_alloc ti32 hS (fun w1 g1 hS => ?_)
 try simp only [opv, nZ, Value.cells, Array.toArray_toList] at hS ⊢
 replace hS : St (OwnB [.obj g (.cells #[.int .i64 e, .slice A xs.length c] 63 (0, 0)), .rd A 1 xs.length (xs.map (Value.int .u8))]) w0 w1 (.obj g1 (.cells (AA atom0) 32 (0, 0)) :: _) := hS
 refine x_nil ?_
 refine hK1 _ _ ?_
 refine x_seq fun K2 hK2 => ?_
 refine x_region ?_
 refine s_go (s_move) ?_
 try simp only [opv, nZ, Value.cells]
 refine s_call en26 ?_
 try simp only [opv, nZ, Value.cells, List.map_toArray, List.map_cons, List.map_nil, List.append_toArray, List.cons_append, List.nil_append, Array.append_empty]
 refine CallR.mono (c_keyRead _ g e A c xs hc hw hn (hS.owns (by repeat (first | exact Spl.nil | (apply Spl.cons (by repeat (first | exact Del.head | apply Del.tail))))))) ?_
 rintro _ w2 ⟨rfl, Aa, ca, hcpa, hRa, hCa⟩
 have hYa := RdIn.trans hM hS (by repeat (first | exact Spl.nil | (apply Spl.cons (by repeat (first | exact Del.head | apply Del.tail))))) hRa (by intro s hs q hb; simp only [List.mem_cons, List.not_mem_nil, or_false] at hs; rcases hs with rfl | rfl <;> first | (simp [Res.reads] at hb; done) | exact .inr ⟨_, List.mem_cons_of_mem _ (List.mem_cons_self ..), .inr hb⟩)
 replace hS := hS.frame (by repeat (first | exact Spl.nil | (apply Spl.cons (by repeat (first | exact Del.head | apply Del.tail))))) hCa (by intro r hr b hb; simp only [List.mem_cons, List.not_mem_nil, or_false] at hr; rcases hr with rfl | rfl <;> first | (simp [Res.reads] at hb; done) | exact hRa b hb)
 replace hRa := hYa
 simp only [List.cons_append, List.nil_append] at hS
 try simp only [opv, nZ, Value.cells]
 refine s_go (s_build_struct (cells := AA ((keyS e xs).1 ++ mkV 0 nm0)) Tryz.underlying32 ti32 bp32 (hc := by simp only [List.map_toArray, List.map_cons, List.map_nil, opv, nZ, Value.cells, List.toList_toArray]; exact fill_key rfl hk12 rfl)) ?_
 try simp only [opv, nZ, Value.cells]
 refine m_alloc ti32 hS (fun w3 g3 hS => ?_)
 try simp only [opv, nZ, Value.cells, Array.toArray_toList] at hS ⊢
 replace hS : St (OwnB [.obj g (.cells #[.int .i64 e, .slice A xs.length c] 63 (0, 0)), .rd A 1 xs.length (xs.map (Value.int .u8))]) w0 w3 (.obj g3 (.cells (AA atom0) 32 (0, 0)) :: _) := hS
 refine m_store_obj ti32 (hS := hS) (hc := by exact zi_whole (by omega) (by omega)) (hv := by (show (zi _ _).toArray.size = _; rw [zi_size (by omega)]; rfl)) (hfit := by (rw [zi_size (by omega)]; decide)) (h1 := by exact zi_one _ _) (h := fun w4 hS => ?_)
 try simp only [opv, nZ, Value.cells, Array.toArray_toList] at hS ⊢
 refine x_nil ?_
 refine hK2 _ _ ?_
 refine x_seq fun K3 hK3 => ?_
 refine x_seq fun K4 hK4 => ?_
 refine x_region ?_
 refine s_go (s_move) ?_
 try simp only [opv, nZ, Value.cells]
 refine s_call en14 ?_
 try simp only [opv, nZ, Value.cells, List.map_toArray, List.map_cons, List.map_nil, List.append_toArray, List.cons_append, List.nil_append, Array.append_empty]
 refine CallR.mono (c_cErr _ g ((keyS e xs).2.1) Aa ca ((keyS e xs).2.2) hcpa (hS.owns (by repeat (first | exact Spl.nil | (apply Spl.cons (by repeat (first | exact Del.head | apply Del.tail))))))) ?_
 rintro _ w5 ⟨rfl, hC5⟩
 replace hS := hS.frame (by repeat (first | exact Spl.nil | (apply Spl.cons (by repeat (first | exact Del.head | apply Del.tail))))) hC5 (by intro r hr g hg; simp only [List.mem_cons, List.not_mem_nil, or_false] at hr; rcases hr with rfl | rfl | rfl <;> first | (simp [Res.reads] at hg; done) | exact .inr ⟨_, by simp, .inr hg⟩)
 simp only [List.cons_append, List.nil_append] at hS
 try simp only [opv, nZ, Value.cells]
 refine s_go (s_eql) ?_
 try simp only [opv, nZ, Value.cells]
 refine x_nil ?_
 refine hK4 _ _ ?_
 refine x_cond (ht := fun hc1 => ?_) (hf := fun hc1 => ?_)
 ·
  try simp only [decide_eq_true_eq, decide_eq_false_iff_not, Bool.not_eq_true', Bool.not_eq_false', Int.not_lt, Int.not_le, ne_eq, Decidable.not_not, bne_iff_ne, beq_iff_eq, not_true_eq_false, not_false_eq_true] at hc1
  have hk0 : (keyS e xs).2.1 = 0 := hc1
  refine x_region ?_
  refine s_go (s_move) ?_
  try simp only [opv, nZ, Value.cells]
  refine s_go (m_fieldAddr Tryz.underlying32 (hi := ti27)) ?_
  try simp only [opv, nZ, Value.cells, Nat.zero_add, Nat.add_zero, List.getElem_toArray, List.getElem_cons_zero, List.getElem_cons_succ]
  refine s_go (m_fieldAddr Tryz.underlying27 (hi := ti5)) ?_
  try simp only [opv, nZ, Value.cells, Nat.zero_add, Nat.add_zero, List.getElem_toArray, List.getElem_cons_zero, List.getElem_cons_succ]
  refine s_go (m_load_obj Tryz.underlying5 (hS := hS) (hv := by exact zi_get rfl (by omega))) ?_
  try simp only [opv, nZ, Value.cells, List.getElem_toArray, List.getElem_cons_zero, List.getElem_cons_succ]
  rw [show ((keyS e xs).1 ++ mkV 0 nm0).getD 0 0 = ((kn (keyS e xs).1 0 : Nat) : Int) by rw [← hke]; exact getD_app0 (by omega)]
  refine s_call en27 ?_
  try simp only [opv, nZ, Value.cells, List.map_toArray, List.map_cons, List.map_nil, List.append_toArray, List.cons_append, List.nil_append, Array.append_empty]
  refine CallR.mono (c_atomValue _ g (keyS e xs).2.1 Aa ca (keyS e xs).2.2 hcpa hkb (by omega) _ (hS.owns (by repeat (first | exact Spl.nil | (apply Spl.cons (by repeat (exact Del.head))))))) ?_
  rintro _ w6 ⟨rfl, Ab, cb, hcpb, hRb, hCb⟩
  have hYb := RdIn.trans hM hS (by repeat (first | exact Spl.nil | (apply Spl.cons (by repeat (exact Del.head))))) hRb (by intro s hs q hb; simp only [List.mem_cons, List.not_mem_nil, or_false] at hs; rcases hs with rfl | rfl <;> first | (simp [Res.reads] at hb; done) | exact hRa q hb)
  replace hS := hS.frame (by repeat (first | exact Spl.nil | (apply Spl.cons (by repeat (exact Del.head))))) hCb (by intro r hr b hb; simp only [List.mem_cons, List.not_mem_nil, or_false] at hr; rcases hr with rfl | rfl <;> first | (simp [Res.reads] at hb; done) | exact hRb b hb)
  replace hRb := hYb
  simp only [List.cons_append, List.nil_append] at hS
  try simp only [opv, nZ, Value.cells]
  refine s_go (m_fieldAddr Tryz.underlying32 (hi := ti30)) ?_
  try simp only [opv, nZ, Value.cells, Nat.zero_add, Nat.add_zero, List.getElem_toArray, List.getElem_cons_zero, List.getElem_cons_succ]
  refine m_store_obj ti30 (hS := hS) (hc := atom_put hk12 rfl hvl) (hv := by (show (zi _ _).toArray.size = _; rw [zi_size (by omega)]; rfl)) (hfit := by (rw [zi_size (by omega)]; decide)) (h1 := by exact zi_one _ _) (h := fun w7 hS => ?_)
  try simp only [opv, nZ, Value.cells, Array.toArray_toList] at hS ⊢
  refine x_nil ?_
  refine hK3 _ _ ?_
  refine x_seq fun K5 hK5 => ?_
  refine x_seq fun K6 hK6 => ?_
  refine x_region ?_
  refine s_go (s_move) ?_
  try simp only [opv, nZ, Value.cells]
  refine s_call en14 ?_
  try simp only [opv, nZ, Value.cells, List.map_toArray, List.map_cons, List.map_nil, List.append_toArray, List.cons_append, List.nil_append, Array.append_empty]
  refine CallR.mono (c_cErr2 (hS.owns (by repeat (first | exact Spl.nil | (apply Spl.cons (by repeat (exact Del.head)))))) (by assumption)) ?_
  rintro _ w8 ⟨rfl, hC8⟩
  replace hS := hS.frame (by repeat (first | exact Spl.nil | (apply Spl.cons (by repeat (exact Del.head))))) hC8 (by intro r hr g hg; simp only [List.mem_cons, List.not_mem_nil, or_false] at hr; rcases hr with rfl | rfl | rfl <;> first | (simp [Res.reads] at hg; done) | exact .inr ⟨_, by simp, .inr hg⟩)
  simp only [List.cons_append, List.nil_append] at hS
  try simp only [opv, nZ, Value.cells]
  refine s_go (s_neq) ?_
  try simp only [opv, nZ, Value.cells]
  refine x_nil ?_
  refine hK6 _ _ ?_
  refine x_cond (ht := fun hc2 => ?_) (hf := fun hc2 => ?_)
  ·
   try simp only [decide_eq_true_eq, decide_eq_false_iff_not, Bool.not_eq_true', Bool.not_eq_false', Int.not_lt, Int.not_le, ne_eq, Decidable.not_not, bne_iff_ne, beq_iff_eq, not_true_eq_false, not_false_eq_true] at hc2
   have hz := atmS_no hk0 (by assumption)
   refine x_seq fun K7 hK7 => ?_
   refine x_region ?_
   refine s_go (s_build_struct (cells := #[.int .u8 0, .int .u16 0, .int .u8 0, .int .u8 0, .int .u8 0, .int .u8 0, .int .u8 0, .int .u8 0, .int .u8 0, .int .u8 0, .int .u8 0, .int .u32 0, .int .u64 0, .int .u8 0, .int .u8 0, .int .u8 0, .int .u8 0, .int .u8 0, .int .u8 0, .int .u8 0, .int .u8 0]) Tryz.underlying32 ti32 bp32 (hc := by simp only [List.map_toArray, List.map_cons, List.map_nil, opv, nZ, Value.cells, List.toList_toArray]; (repeat (refine fill_cons rfl rfl (Nat.le_of_ble_eq_true rfl) ?_)); rfl)) ?_
   try simp only [opv, nZ, Value.cells]
   rw [show (#[.int .u8 0, .int .u16 0, .int .u8 0, .int .u8 0, .int .u8 0, .int .u8 0, .int .u8 0, .int .u8 0, .int .u8 0, .int .u8 0, .int .u8 0, .int .u32 0, .int .u64 0, .int .u8 0, .int .u8 0, .int .u8 0, .int .u8 0, .int .u8 0, .int .u8 0, .int .u8 0, .int .u8 0] : Array Value) = AA atom0 from rfl]
   refine m_store_obj ti32 (hS := hS) (hc := by exact zi_whole (by omega) (by omega)) (hv := by rfl) (hfit := by (rw [zi_size (by omega)]; decide)) (h1 := by exact zi_one _ _) (h := fun w9 hS => ?_)
   try simp only [opv, nZ, Value.cells, Array.toArray_toList] at hS ⊢
   refine x_nil ?_
   refine hK7 _ _ ?_
   refine x_ret ?_
   refine r_cell_agg rfl Tryz.underlying32 ti32 (hS := hS) (hfit := by (rw [zi_size (by omega)]; rfl)) (hR := ?_)
   rw [hz]
   exact ⟨rfl, _, _, by assumption, by assumption, hS.sel (by repeat (first | exact Sel.nil | (refine Sel.cons (by repeat (exact Del.head)) ?_)))⟩
  ·
   try simp only [decide_eq_true_eq, decide_eq_false_iff_not, Bool.not_eq_true', Bool.not_eq_false', Int.not_lt, Int.not_le, ne_eq, Decidable.not_not, bne_iff_ne, beq_iff_eq, not_true_eq_false, not_false_eq_true] at hc2
   have hz := atmS_yes hk0 (by simpa using hc2)
   refine x_skip ?_
   refine hK5 _ _ ?_
   refine x_seq fun K8 hK8 => ?_
   refine x_region ?_
   refine s_go (m_load_row Tryz.underlying32 (hi := ti32) (hS := hS) (hfit := by (rw [zi_size (by omega)]; rfl))) ?_
   try simp only [opv, nZ, Value.cells, List.getElem_toArray, List.getElem_cons_zero, List.getElem_cons_succ]
   refine m_store_obj ti32 (hS := hS) (hc := by exact zi_whole (by omega) (by omega)) (hv := by (show (zi _ _).toArray.size = _; rw [zi_size (by omega)]; rfl)) (hfit := by (rw [zi_size (by omega)]; decide)) (h1 := by exact zi_one _ _) (h := fun w10 hS => ?_)
   try simp only [opv, nZ, Value.cells, Array.toArray_toList] at hS ⊢
   refine x_nil ?_
   refine hK8 _ _ ?_
   refine x_ret ?_
   refine r_cell_agg rfl Tryz.underlying32 ti32 (hS := hS) (hfit := by (rw [zi_size (by omega)]; rfl)) (hR := ?_)
   rw [hz]
   exact ⟨rfl, _, _, by assumption, by assumption, hS.sel (by repeat (first | exact Sel.nil | (refine Sel.cons (by repeat (exact Del.head)) ?_)))⟩
 ·
  try simp only [decide_eq_true_eq, decide_eq_false_iff_not, Bool.not_eq_true', Bool.not_eq_false', Int.not_lt, Int.not_le, ne_eq, Decidable.not_not, bne_iff_ne, beq_iff_eq, not_true_eq_false, not_false_eq_true] at hc1
  have hk0 : ¬ (keyS e xs).2.1 = 0 := hc1
  have hz := atmS_key hk0
  refine x_skip ?_
  refine hK3 _ _ ?_
  refine x_seq fun K9 hK9 => ?_
  refine x_seq fun K10 hK10 => ?_
  refine x_region ?_
  refine s_go (s_move) ?_
  try simp only [opv, nZ, Value.cells]
  refine s_call en14 ?_
  try simp only [opv, nZ, Value.cells, List.map_toArray, List.map_cons, List.map_nil, List.append_toArray, List.cons_append, List.nil_append, Array.append_empty]
  refine CallR.mono (c_cErr2 (hS.owns (by repeat (first | exact Spl.nil | (apply Spl.cons (by repeat (exact Del.head)))))) (by assumption)) ?_
  rintro _ w11 ⟨rfl, hC11⟩
  replace hS := hS.frame (by repeat (first | exact Spl.nil | (apply Spl.cons (by repeat (exact Del.head))))) hC11 (by intro r hr g hg; simp only [List.mem_cons, List.not_mem_nil, or_false] at hr; rcases hr with rfl | rfl | rfl <;> first | (simp [Res.reads] at hg; done) | exact .inr ⟨_, by simp, .inr hg⟩)
  simp only [List.cons_append, List.nil_append] at hS
  try simp only [opv, nZ, Value.cells]
  refine s_go (s_neq) ?_
  try simp only [opv, nZ, Value.cells]
  refine x_nil ?_
  refine hK10 _ _ ?_
  refine x_cond (ht := fun hc3 => ?_) (hf := fun hc3 => ?_)
  ·
   try simp only [decide_eq_true_eq, decide_eq_false_iff_not, Bool.not_eq_true', Bool.not_eq_false', Int.not_lt, Int.not_le, ne_eq, Decidable.not_not, bne_iff_ne, beq_iff_eq, not_true_eq_false, not_false_eq_true] at hc3
   skip
   refine x_seq fun K11 hK11 => ?_
   refine x_region ?_
   refine s_go (s_build_struct (cells := #[.int .u8 0, .int .u16 0, .int .u8 0, .int .u8 0, .int .u8 0, .int .u8 0, .int .u8 0, .int .u8 0, .int .u8 0, .int .u8 0, .int .u8 0, .int .u32 0, .int .u64 0, .int .u8 0, .int .u8 0, .int .u8 0, .int .u8 0, .int .u8 0, .int .u8 0, .int .u8 0, .int .u8 0]) Tryz.underlying32 ti32 bp32 (hc := by simp only [List.map_toArray, List.map_cons, List.map_nil, opv, nZ, Value.cells, List.toList_toArray]; (repeat (refine fill_cons rfl rfl (Nat.le_of_ble_eq_true rfl) ?_)); rfl)) ?_
   try simp only [opv, nZ, Value.cells]
   rw [show (#[.int .u8 0, .int .u16 0, .int .u8 0, .int .u8 0, .int .u8 0, .int .u8 0, .int .u8 0, .int .u8 0, .int .u8 0, .int .u8 0, .int .u8 0, .int .u32 0, .int .u64 0, .int .u8 0, .int .u8 0, .int .u8 0, .int .u8 0, .int .u8 0, .int .u8 0, .int .u8 0, .int .u8 0] : Array Value) = AA atom0 from rfl]
   refine m_store_obj ti32 (hS := hS) (hc := by exact zi_whole (by omega) (by omega)) (hv := by rfl) (hfit := by (rw [zi_size (by omega)]; decide)) (h1 := by exact zi_one _ _) (h := fun w12 hS => ?_)
   try simp only [opv, nZ, Value.cells, Array.toArray_toList] at hS ⊢
   refine x_nil ?_
   refine hK11 _ _ ?_
   refine x_ret ?_
   refine r_cell_agg rfl Tryz.underlying32 ti32 (hS := hS) (hfit := by (rw [zi_size (by omega)]; rfl)) (hR := ?_)
   rw [hz]
   exact ⟨rfl, _, _, by assumption, by assumption, hS.sel (by repeat (first | exact Sel.nil | (refine Sel.cons (by repeat (exact Del.head)) ?_)))⟩
  ·
   try simp only [decide_eq_true_eq, decide_eq_false_iff_not, Bool.not_eq_true', Bool.not_eq_false', Int.not_lt, Int.not_le, ne_eq, Decidable.not_not, bne_iff_ne, beq_iff_eq, not_true_eq_false, not_false_eq_true] at hc3
   (exfalso; omega)
end Go.Proofs.YtpjpaipkkcengaaGreat
set_option linter.unusedSimpArgs false
set_option linter.unusedVariables false
set_option maxHeartbeats 1500000
set_option maxRecDepth 100000
namespace Go.Proofs.YtpjpaipkkcengaaGreat
open Go.RowKit

theorem keyOut_byt9 {x : List Int} (h : KeyOk x) : Byt (keyOut x) := by
  have c : ∀ {x : Int} {l : List Int}, (0 ≤ x ∧ x ≤ 255) → Byt l → Byt (x :: l) := fun hx hl y hy => by
    rcases List.mem_cons.1 hy with rfl | hy
    · exact hx
    · exact hl y hy
  have n : Byt [] := fun y hy => by cases hy
  have h0 := h.b0
  have h10 := h.b10
  have hs := nsz_le (kitem x)
  have hil := kitem_len h.len
  unfold keyOut
  refine Byt.app (Byt.app (c (by omega) n) (vari_byt _)) ?_
  split
  · exact n
  · refine Byt.app (Byt.app (c (by omega) (nmTxt_byt h.item)) (c (by omega) n)) ?_
    split
    · exact vari_byt _
    · exact n
theorem atomOut_byt {a : List Int} (h : AtomOk a) : Byt (atomOut a) := by
  have c : ∀ {x : Int} {l : List Int}, (0 ≤ x ∧ x ≤ 255) → Byt l → Byt (x :: l) := fun hx hl y hy => by
    rcases List.mem_cons.1 hy with rfl | hy
    · exact hx
    · exact hl y hy
  have n : Byt [] := fun y hy => by cases hy
  have hs := nsz_le (vtext (aval a))
  have htl := vtext_len h.val.len
  unfold atomOut
  split
  · unfold valOut
    refine Byt.app (keyOut_byt9 h.key) ?_
    split
    · exact c (by omega) n
    · split
      · exact Byt.app (vari_byt _) (c (by omega) (nmTxt_byt h.val.text))
      · exact vari_byt _
  · exact n

theorem c_atomSum (s : Nat) (hs : s < 18446744073709551616) (a : List Int) (ha : AtomOk a)  (w0 : World) :
    CallR Tryz.prog 9 #[.int .u64 (s : Int), .agg (AA a)] w0 fun v w' => v = .int .u64 ((sumN s (atomOut a) : Nat) : Int) ∧ Ext w0 w' := by
 have hS : St NoB w0 w0 [] := St.start w0
 refine c_enter (l := [.int .u64 (s : Int), .agg (AA a), undef, undef, undef, undef, undef, undef, undef]) Tryz.func9 rfl (by simp only [Tryz.ntmps9, List.size_toArray, List.length_cons, List.length_nil, Nat.reduceAdd, Nat.reduceSub, Array.replicate_succ, Array.replicate_zero, List.push_toArray, List.append_toArray, List.nil_append, List.cons_append]) ?_
 refine x_seq fun K1 hK1 => ?_
 refine x_region ?_
 have hal := ha.len
 have hk := ha.key
 have hv := ha.val
 have hvl := hv.len
 have hkl := hk.len
 have h00 := akey_0 hal
 have htl := vtext_len hvl
 have htb := hv.text
 have hvb := hv.b0
 have hol := atomOut_len ha
 have hob := atomOut_byt ha
 refine m_box hS (fun w1 g1 hS => ?_)
 try simp only [opv, nZ, Value.cells, Array.toArray_toList] at hS ⊢
 refine s_go (s_assign) ?_
 try simp only [opv, nZ, Value.cells]
 refine x_nil ?_
 refine hK1 _ _ ?_
 refine x_seq fun K2 hK2 => ?_
 refine x_region ?_
 refine s_go (s_move) ?_
 try simp only [opv, nZ, Value.cells]
 refine s_go (m_load_row Tryz.underlying32 (hi := ti32) (hS := hS) (hfit := by (rw [zi_size (by omega)]; rfl))) ?_
 try simp only [opv, nZ, Value.cells, List.getElem_toArray, List.getElem_cons_zero, List.getElem_cons_succ]
 refine s_call en6 ?_
 try simp only [opv, nZ, Value.cells, List.map_toArray, List.map_cons, List.map_nil, List.append_toArray, List.cons_append, List.nil_append, Array.append_empty]
 refine CallR.mono (c_atomBytes a ha _) ?_
 rintro _ w2 ⟨A2, c2, rfl, hC2⟩
 replace hS := hS.call hC2
 simp only [List.cons_append, List.nil_append] at hS
 have hcap := hS.vec_cap (by exact Has.head)
 try simp only [opv, nZ, Value.cells]
 refine s_call en24 ?_
 try simp only [opv, nZ, Value.cells, List.map_toArray, List.map_cons, List.map_nil, List.append_toArray, List.cons_append, List.nil_append, Array.append_empty]
 refine CallR.mono (c_mixSum _ s hs _ _ _ (atomOut a) (hS.vecRd (by repeat (exact Has.head))) rfl hob (by omega) hcap) ?_
 rintro _ w3 ⟨rfl, hE3⟩
 replace hS := hS.ext hE3
 try simp only [opv, nZ, Value.cells]
 refine s_go (s_assign) ?_
 try simp only [opv, nZ, Value.cells]
 refine x_nil ?_
 refine hK2 _ _ ?_
 refine x_ret ?_
 refine r_tmp rfl ?_
 exact ⟨rfl, hS.ext_of⟩
theorem c_ref09Bytes (a : List Int) (ha : AtomOk a)  (w0 : World) :
    CallR Tryz.prog 7 #[.agg (AA a)] w0 fun v w' => ∃ A c, v = .slice A (atomOut a).length c ∧ St NoB w0 w' [.vec A c 5 1 (atomOut a).length ((atomOut a).map (Value.int .u8))] := by
 have hS : St NoB w0 w0 [] := St.start w0
 refine c_enter (l := [.agg (AA a), undef, undef, undef, undef, undef, undef, undef, undef, undef, undef, undef, undef, undef, undef, undef, undef, undef, undef, undef, undef, undef, undef, undef, undef, undef, undef, undef, undef, undef, undef, undef, undef, undef, undef, undef, undef, undef, undef]) Tryz.func7 rfl (by simp only [Tryz.ntmps7, List.size_toArray, List.length_cons, List.length_nil, Nat.reduceAdd, Nat.reduceSub, Array.replicate_succ, Array.replicate_zero, List.push_toArray, List.append_toArray, List.nil_append, List.cons_append]) ?_
 refine x_seq fun K1 hK1 => ?_
 refine x_region ?_
 have hal := ha.len
 have hk := ha.key
 have hv := ha.val
 have hvl := hv.len
 have hkl := hk.len
 have h00 := akey_0 hal
 have htl := vtext_len hvl
 have htb := hv.text
 have hvb := hv.b0
 have hvl10 := vari_len10 hvb
 have hns := nmOut_len (vtext (aval a))
 have hn8 := nsz_le (vtext (aval a))
 have hko := keyOut_len hk
 refine m_box hS (fun w1 g1 hS => ?_)
 try simp only [opv, nZ, Value.cells, Array.toArray_toList] at hS ⊢
 refine s_go (s_assign) ?_
 try simp only [opv, nZ, Value.cells]
 refine x_nil ?_
 refine hK1 _ _ ?_
 refine x_seq fun K2 hK2 => ?_
 refine x_seq fun K3 hK3 => ?_
 refine x_region ?_
 refine s_go (m_load_row Tryz.underlying32 (hi := ti32) (hS := hS) (hfit := by (rw [zi_size (by omega)]; rfl))) ?_
 try simp only [opv, nZ, Value.cells, List.getElem_toArray, List.getElem_cons_zero, List.getElem_cons_succ]
 refine s_call en20 ?_
 try simp only [opv, nZ, Value.cells, List.map_toArray, List.map_cons, List.map_nil, List.append_toArray, List.cons_append, List.nil_append, Array.append_empty]
 refine CallR.mono (c_ref09Right _ (by assumption) _) ?_
 rintro _ w2 ⟨rfl, hE2⟩
 replace hS := hS.ext hE2
 try simp only [opv, nZ, Value.cells]
 refine s_go (s_not) ?_
 try simp only [opv, nZ, Value.cells]
 refine x_nil ?_
 refine hK3 _ _ ?_
 refine x_cond (ht := fun hc1 => ?_) (hf := fun hc1 => ?_)
 ·
  try simp only [decide_eq_true_eq, decide_eq_false_iff_not, Bool.not_eq_true', Bool.not_eq_false', Int.not_lt, Int.not_le, ne_eq, Decidable.not_not, bne_iff_ne, beq_iff_eq, not_true_eq_false, not_false_eq_true] at hc1
  have hO := atomOut_no hc1
  replace hS := hS.nil_vec 5 1
  refine x_seq fun K4 hK4 => ?_
  refine x_region ?_
  refine s_go (s_assign) ?_
  try simp only [opv, nZ, Value.cells]
  refine x_nil ?_
  refine hK4 _ _ ?_
  refine x_ret ?_
  refine r_tmp rfl ?_
  exact ⟨none, 0, by rw [hO]; rfl, by rw [hO]; exact hS.sel (by repeat (first | exact Sel.nil | (refine Sel.cons (by repeat (exact Del.head)) ?_)))⟩
 ·
  try simp only [decide_eq_true_eq, decide_eq_false_iff_not, Bool.not_eq_true', Bool.not_eq_false', Int.not_lt, Int.not_le, ne_eq, Decidable.not_not, bne_iff_ne, beq_iff_eq, not_true_eq_false, not_false_eq_true] at hc1
  have hO := atomOut_yes hc1
  refine x_skip ?_
  refine hK2 _ _ ?_
  refine x_seq fun K5 hK5 => ?_
  refine x_region ?_
  refine s_go (m_fieldAddr Tryz.underlying32 (hi := ti27)) ?_
  try simp only [opv, nZ, Value.cells, Nat.zero_add, Nat.add_zero, List.getElem_toArray, List.getElem_cons_zero, List.getElem_cons_succ]
  refine s_go (m_loada_obj Tryz.underlying27 (hi := ti27) (hS := hS) (hfit := by (rw [zi_size (by omega)]; decide))) ?_
  try simp only [opv, nZ, Value.cells, List.getElem_toArray, List.getElem_cons_zero, List.getElem_cons_succ]
  rw [atom_key hal]
  refine s_call en21 ?_
  try simp only [opv, nZ, Value.cells, List.map_toArray, List.map_cons, List.map_nil, List.append_toArray, List.cons_append, List.nil_append, Array.append_empty]
  refine CallR.mono (c_ref08Out (akey a) hk _) ?_
  rintro _ w3 ⟨A3, c3, rfl, hC3⟩
  replace hS := hS.call hC3
  simp only [List.cons_append, List.nil_append] at hS
  try simp only [opv, nZ, Value.cells]
  refine s_go (s_assign) ?_
  try simp only [opv, nZ, Value.cells]
  refine x_nil ?_
  refine hK5 _ _ ?_
  refine x_seq fun K6 hK6 => ?_
  refine x_seq fun K7 hK7 => ?_
  refine x_region ?_
  refine s_go (m_fieldAddr Tryz.underlying32 (hi := ti27)) ?_
  try simp only [opv, nZ, Value.cells, Nat.zero_add, Nat.add_zero, List.getElem_toArray, List.getElem_cons_zero, List.getElem_cons_succ]
  refine s_go (m_fieldAddr Tryz.underlying27 (hi := ti5)) ?_
  try simp only [opv, nZ, Value.cells, Nat.zero_add, Nat.add_zero, List.getElem_toArray, List.getElem_cons_zero, List.getElem_cons_succ]
  refine s_go (m_load_obj Tryz.underlying5 (hS := hS) (hv := by exact zi_get rfl (by omega))) ?_
  try simp only [opv, nZ, Value.cells, List.getElem_toArray, List.getElem_cons_zero, List.getElem_cons_succ]
  rw [h00.1, hk.e0, ← h00.2]
  refine s_go (s_eql) ?_
  try simp only [opv, nZ, Value.cells]
  refine x_nil ?_
  refine hK7 _ _ ?_
  refine x_cond (ht := fun hc2 => ?_) (hf := fun hc2 => ?_)
  ·
   try simp only [decide_eq_true_eq, decide_eq_false_iff_not, Bool.not_eq_true', Bool.not_eq_false', Int.not_lt, Int.not_le, ne_eq, Decidable.not_not, bne_iff_ne, beq_iff_eq, not_true_eq_false, not_false_eq_true] at hc2
   have hX : atomOut a = (keyOut (akey a) ++ [((kn (aval a) 0 % 256 : Nat) : Int)]) := by rw [hO]; simp [atomW, valOut, show kn a 0 = 1 by omega]
   have hXl : (atomOut a).length = (keyOut (akey a)).length + 1 := by rw [hX]; simp
   refine x_seq fun K8 hK8 => ?_
   refine x_region ?_
   refine s_go (s_move) ?_
   try simp only [opv, nZ, Value.cells]
   refine s_go (m_fieldAddr Tryz.underlying32 (hi := ti30)) ?_
   try simp only [opv, nZ, Value.cells, Nat.zero_add, Nat.add_zero, List.getElem_toArray, List.getElem_cons_zero, List.getElem_cons_succ]
   refine s_go (m_fieldAddr Tryz.underlying30 (hi := ti28)) ?_
   try simp only [opv, nZ, Value.cells, Nat.zero_add, Nat.add_zero, List.getElem_toArray, List.getElem_cons_zero, List.getElem_cons_succ]
   refine s_go (m_load_obj Tryz.underlying28 (hS := hS) (hv := by exact zi_get rfl (by omega))) ?_
   try simp only [opv, nZ, Value.cells, List.getElem_toArray, List.getElem_cons_zero, List.getElem_cons_succ]
   rw [aval_0 hal, hv.e0]
   refine s_go (s_conv Tryz.underlying28 Tryz.underlying5 (hc := cv_u8 rfl)) ?_
   try simp only [opv, nZ, Value.cells]
   refine m_buildRow (cells := #[_]) Tryz.underlying33 ti5 (hc := by simp only [List.map_toArray, List.map_cons, List.map_nil, opv, nZ, Value.cells, List.toList_toArray]; (repeat (refine fill_cons rfl rfl (Nat.le_of_ble_eq_true rfl) ?_)); rfl) (hS := hS) (h := fun w4 g4 hS => ?_)
   try simp only [opv, nZ, Value.cells, Array.toArray_toList] at hS ⊢
   replace hS := hS.obj_rd (sz := 1) (n := 1) rfl .head
   refine m_append Tryz.underlying33 ti5 (hS := hS) (news := [((kn (aval a) 0 % 256 : Nat) : Int)].map (Value.int .u8)) (h := fun w5 A5 C5 hS => ?_)
   try simp only [← List.map_append, ← List.map_drop, ← List.map_take, Nat.mul_one, Nat.zero_mul, Nat.sub_zero, List.drop_zero, List.nil_append, Nat.zero_add] at hS ⊢
   try simp only [opv, nZ, Value.cells, Array.toArray_toList] at hS ⊢
   refine s_go (s_assign) ?_
   try simp only [opv, nZ, Value.cells]
   refine x_nil ?_
   refine hK8 _ _ ?_
   refine x_ret ?_
   refine r_tmp rfl ?_
   rw [hXl, hX]
   exact ⟨_, _, rfl, hS.sel (by repeat (first | exact Sel.nil | (refine Sel.cons (by repeat (exact Del.head)) ?_)))⟩
  ·
   try simp only [decide_eq_true_eq, decide_eq_false_iff_not, Bool.not_eq_true', Bool.not_eq_false', Int.not_lt, Int.not_le, ne_eq, Decidable.not_not, bne_iff_ne, beq_iff_eq, not_true_eq_false, not_false_eq_true] at hc2
   refine x_skip ?_
   refine hK6 _ _ ?_
   refine x_seq fun K9 hK9 => ?_
   refine x_region ?_
   refine s_go (s_move) ?_
   try simp only [opv, nZ, Value.cells]
   refine s_go (m_fieldAddr Tryz.underlying32 (hi := ti30)) ?_
   try simp only [opv, nZ, Value.cells, Nat.zero_add, Nat.add_zero, List.getElem_toArray, List.getElem_cons_zero, List.getElem_cons_succ]
   refine s_go (m_fieldAddr Tryz.underlying30 (hi := ti28)) ?_
   try simp only [opv, nZ, Value.cells, Nat.zero_add, Nat.add_zero, List.getElem_toArray, List.getElem_cons_zero, List.getElem_cons_succ]
   refine s_go (m_load_obj Tryz.underlying28 (hS := hS) (hv := by exact zi_get rfl (by omega))) ?_
   try simp only [opv, nZ, Value.cells, List.getElem_toArray, List.getElem_cons_zero, List.getElem_cons_succ]
   rw [aval_0 hal, hv.e0]
   refine s_call en22 ?_
   try simp only [opv, nZ, Value.cells, List.map_toArray, List.map_cons, List.map_nil, List.append_toArray, List.cons_append, List.nil_append, Array.append_empty]
   refine CallR.mono (c_ref03Var _ hvb _) ?_
   rintro _ w6 ⟨A6, c6, rfl, hC6⟩
   replace hS := hS.call hC6
   simp only [List.cons_append, List.nil_append] at hS
   try simp only [opv, nZ, Value.cells]
   refine m_append_vec Tryz.underlying33 ti5 (hS := hS) (h := fun w7 A7 C7 hS => ?_)
   try simp only [← List.map_append, ← List.map_drop, ← List.map_take, Nat.mul_one, Nat.zero_mul, Nat.sub_zero, List.drop_zero, List.nil_append, Nat.zero_add] at hS ⊢
   try simp only [opv, nZ, Value.cells, Array.toArray_toList] at hS ⊢
   refine s_go (s_assign) ?_
   try simp only [opv, nZ, Value.cells]
   refine x_nil ?_
   refine hK9 _ _ ?_
   refine x_seq fun K10 hK10 => ?_
   refine x_seq fun K11 hK11 => ?_
   refine x_region ?_
   refine s_go (m_fieldAddr Tryz.underlying32 (hi := ti27)) ?_
   try simp only [opv, nZ, Value.cells, Nat.zero_add, Nat.add_zero, List.getElem_toArray, List.getElem_cons_zero, List.getElem_cons_succ]
   refine s_go (m_fieldAddr Tryz.underlying27 (hi := ti5)) ?_
   try simp only [opv, nZ, Value.cells, Nat.zero_add, Nat.add_zero, List.getElem_toArray, List.getElem_cons_zero, List.getElem_cons_succ]
   refine s_go (m_load_obj Tryz.underlying5 (hS := hS) (hv := by exact zi_get rfl (by omega))) ?_
   try simp only [opv, nZ, Value.cells, List.getElem_toArray, List.getElem_cons_zero, List.getElem_cons_succ]
   rw [h00.1, hk.e0, ← h00.2]
   refine s_go (s_eql) ?_
   try simp only [opv, nZ, Value.cells]
   refine x_nil ?_
   refine hK11 _ _ ?_
   refine x_cond (ht := fun hc3 => ?_) (hf := fun hc3 => ?_)
   ·
    try simp only [decide_eq_true_eq, decide_eq_false_iff_not, Bool.not_eq_true', Bool.not_eq_false', Int.not_lt, Int.not_le, ne_eq, Decidable.not_not, bne_iff_ne, beq_iff_eq, not_true_eq_false, not_false_eq_true] at hc3
    have hX : atomOut a = (keyOut (akey a) ++ vari (kn (aval a) 0) ++ nmOut (vtext (aval a))) := by rw [hO]; simp [atomW, valOut, show kn a 0 = 4 by omega]
    have hXl : (atomOut a).length = (keyOut (akey a)).length + (vari (kn (aval a) 0)).length + (nmOut (vtext (aval a))).length := by rw [hX]; simp; omega
    refine x_region ?_
    refine s_go (s_move) ?_
    try simp only [opv, nZ, Value.cells]
    refine s_go (m_fieldAddr Tryz.underlying32 (hi := ti30)) ?_
    try simp only [opv, nZ, Value.cells, Nat.zero_add, Nat.add_zero, List.getElem_toArray, List.getElem_cons_zero, List.getElem_cons_succ]
    refine s_go (m_fieldAddr Tryz.underlying30 (hi := ti24)) ?_
    try simp only [opv, nZ, Value.cells, Nat.zero_add, Nat.add_zero, List.getElem_toArray, List.getElem_cons_zero, List.getElem_cons_succ]
    refine s_go (m_loada_obj Tryz.underlying24 (hi := ti24) (hS := hS) (hfit := by (rw [zi_size (by omega)]; decide))) ?_
    try simp only [opv, nZ, Value.cells, List.getElem_toArray, List.getElem_cons_zero, List.getElem_cons_succ]
    rw [atom_text hal]
    refine s_go (s_build_struct (cells := pA 2 0 0 (vtext (aval a)) none 0 0 0) Tryz.underlying58 ti58 bp58 (hc := by simp only [List.map_toArray, List.map_cons, List.map_nil, opv, nZ, Value.cells, List.toList_toArray]; refine fill_cons rfl rfl (Nat.le_of_ble_eq_true rfl) ?_; refine fill_cons rfl (by show (ic .u8 _).size = 8; rw [ic_size]; exact htl) (Nat.le_of_ble_eq_true rfl) ?_; exact congrArg some ((congrArg List.toArray (pA_nm (d := 2) (x := 0) (c := 0) (nm' := nm0) (B := none) (m := 0) (k := 0) (n := 0) htl)).trans rfl))) ?_
    try simp only [opv, nZ, Value.cells]
    refine s_call en23 ?_
    try simp only [opv, nZ, Value.cells, List.map_toArray, List.map_cons, List.map_nil, List.append_toArray, List.cons_append, List.nil_append, Array.append_empty]
    refine CallR.mono (c_ref07Out _ ⟨2, 0, 0, vtext (aval a), none, 0, [], 0⟩ (pc_nmOk htl htb) (Nat.zero_le 60)) ?_
    rintro _ w8 ⟨A8, c8, rfl, hC8⟩
    replace hS := hS.call hC8
    simp only [show pcOut ⟨2, 0, 0, vtext (aval a), none, 0, [], 0⟩ = nmOut (vtext (aval a)) from rfl, List.cons_append, List.nil_append] at hS ⊢
    try simp only [opv, nZ, Value.cells]
    refine m_append_vec Tryz.underlying33 ti5 (hS := hS) (h := fun w9 A9 C9 hS => ?_)
    try simp only [← List.map_append, ← List.map_drop, ← List.map_take, Nat.mul_one, Nat.zero_mul, Nat.sub_zero, List.drop_zero, List.nil_append, Nat.zero_add] at hS ⊢
    try simp only [opv, nZ, Value.cells, Array.toArray_toList] at hS ⊢
    refine s_go (s_assign) ?_
    try simp only [opv, nZ, Value.cells]
    refine x_nil ?_
    refine hK10 _ _ ?_
    refine x_seq fun K12 hK12 => ?_
    refine x_region ?_
    refine s_go (s_move) ?_
    try simp only [opv, nZ, Value.cells]
    refine s_go (s_assign) ?_
    try simp only [opv, nZ, Value.cells]
    refine x_nil ?_
    refine hK12 _ _ ?_
    refine x_ret ?_
    refine r_tmp rfl ?_
    rw [hXl, hX]
    exact ⟨_, _, rfl, hS.sel (by repeat (first | exact Sel.nil | (refine Sel.cons (by repeat (exact Del.head)) ?_)))⟩
   ·
    try simp only [decide_eq_true_eq, decide_eq_false_iff_not, Bool.not_eq_true', Bool.not_eq_false', Int.not_lt, Int.not_le, ne_eq, Decidable.not_not, bne_iff_ne, beq_iff_eq, not_true_eq_false, not_false_eq_true] at hc3
    have hX : atomOut a = (keyOut (akey a) ++ vari (kn (aval a) 0)) := by rw [hO]; simp [atomW, valOut, show ¬ kn a 0 = 1 by omega, show ¬ kn a 0 = 4 by omega]
    have hXl : (atomOut a).length = (keyOut (akey a)).length + (vari (kn (aval a) 0)).length := by rw [hX]; simp
    refine x_skip ?_
    refine hK10 _ _ ?_
    refine x_seq fun K13 hK13 => ?_
    refine x_region ?_
    refine s_go (s_move) ?_
    try simp only [opv, nZ, Value.cells]
    refine s_go (s_assign) ?_
    try simp only [opv, nZ, Value.cells]
    refine x_nil ?_
    refine hK13 _ _ ?_
    refine x_ret ?_
    refine r_tmp rfl ?_
    rw [hXl, hX]
    exact ⟨_, _, rfl, hS.sel (by repeat (first | exact Sel.nil | (refine Sel.cons (by repeat (exact Del.head)) ?_)))⟩
theorem c_ref09Sum (s : Nat) (hs : s < 18446744073709551616) (a : List Int) (ha : AtomOk a)  (w0 : World) :
    CallR Tryz.prog 10 #[.int .u64 (s : Int), .agg (AA a)] w0 fun v w' => v = .int .u64 ((sumN s (atomOut a) : Nat) : Int) ∧ Ext w0 w' := by
 have hS : St NoB w0 w0 [] := St.start w0
 refine c_enter (l := [.int .u64 (s : Int), .agg (AA a), undef, undef, undef, undef, undef, undef, undef]) Tryz.func10 rfl (by simp only [Tryz.ntmps10, List.size_toArray, List.length_cons, List.length_nil, Nat.reduceAdd, Nat.reduceSub, Array.replicate_succ, Array.replicate_zero, List.push_toArray, List.append_toArray, List.nil_append, List.cons_append]) ?_
 refine x_seq fun K1 hK1 => ?_
 refine x_region ?_
 have hal := ha.len
 have hk := ha.key
 have hv := ha.val
 have hvl := hv.len
 have hkl := hk.len
 have h00 := akey_0 hal
 have htl := vtext_len hvl
 have htb := hv.text
 have hvb := hv.b0
 have hol := atomOut_len ha
 have hob := atomOut_byt ha
 refine m_box hS (fun w1 g1 hS => ?_)
 try simp only [opv, nZ, Value.cells, Array.toArray_toList] at hS ⊢
 refine s_go (s_assign) ?_
 try simp only [opv, nZ, Value.cells]
 refine x_nil ?_
 refine hK1 _ _ ?_
 refine x_seq fun K2 hK2 => ?_
 refine x_region ?_
 refine s_go (s_move) ?_
 try simp only [opv, nZ, Value.cells]
 refine s_go (m_load_row Tryz.underlying32 (hi := ti32) (hS := hS) (hfit := by (rw [zi_size (by omega)]; rfl))) ?_
 try simp only [opv, nZ, Value.cells, List.getElem_toArray, List.getElem_cons_zero, List.getElem_cons_succ]
 refine s_call en7 ?_
 try simp only [opv, nZ, Value.cells, List.map_toArray, List.map_cons, List.map_nil, List.append_toArray, List.cons_append, List.nil_append, Array.append_empty]
 refine CallR.mono (c_ref09Bytes a ha _) ?_
 rintro _ w2 ⟨A2, c2, rfl, hC2⟩
 replace hS := hS.call hC2
 simp only [List.cons_append, List.nil_append] at hS
 have hcap := hS.vec_cap (by exact Has.head)
 try simp only [opv, nZ, Value.cells]
 refine s_call en25 ?_
 try simp only [opv, nZ, Value.cells, List.map_toArray, List.map_cons, List.map_nil, List.append_toArray, List.cons_append, List.nil_append, Array.append_empty]
 refine CallR.mono (c_ref04Sum _ s hs _ _ _ (atomOut a) (hS.vecRd (by repeat (exact Has.head))) rfl hob (by omega) hcap) ?_
 rintro _ w3 ⟨rfl, hE3⟩
 replace hS := hS.ext hE3
 try simp only [opv, nZ, Value.cells]
 refine s_go (s_assign) ?_
 try simp only [opv, nZ, Value.cells]
 refine x_nil ?_
 refine hK2 _ _ ?_
 refine x_ret ?_
 refine r_tmp rfl ?_
 exact ⟨rfl, hS.ext_of⟩
end Go.Proofs.YtpjpaipkkcengaaGreat
