/- Rules, plain words and walks that the claim leans on: Rg, Rh, Rj, Lzopen5, Tb, Vj, Tc. -/
import Derived.Test.YtffmanidnlbjjaaZDotsAlone2
set_option linter.unusedSimpArgs false
set_option linter.unusedVariables false
set_option linter.unusedSimpArgs false
set_option linter.unusedVariables false
set_option maxHeartbeats 3000000
set_option maxRecDepth 100000
namespace Go.Proofs.Ytffmanidnlbjjaa
open Go.RowKit
theorem c_from13 (x : List Int) (hx : x.length = 16) (A : Option Addr) (n c : Nat)  (w0 : World) :
    CallR Try.prog 33 #[.agg (SetC x (.slice A n c))] w0 fun v w' => v = .agg (SetC x (.slice A n c)) ∧ Ext w0 w' := by
 have hS : St NoB w0 w0 [] := St.start w0
 have h0l : (List.replicate 16 (0 : Int)).length = 16 := rfl
 refine c_enter (l := [.agg (SetC x (.slice A n c)), undef, undef, undef, undef, undef, undef, undef]) Try.func33 rfl (by simp only [Try.ntmps33, List.size_toArray, List.length_cons, List.length_nil, Nat.reduceAdd, Nat.reduceSub, Array.replicate_succ, Array.replicate_zero, List.push_toArray, List.append_toArray, List.nil_append, List.cons_append]) ?_
 refine x_seq fun K1 hK1 => ?_
 refine x_region ?_
 refine m_box hS (fun w1 g1 hS => ?_)
 try simp only [opv, n1, n2, n3, n4, Value.cells, Array.toArray_toList] at hS ⊢
 refine m_alloc ti67 hS (fun w2 g2 hS => ?_)
 try simp only [opv, n1, n2, n3, n4, Value.cells, Array.toArray_toList] at hS ⊢
 replace hS : St NoB w0 w2 (.obj g2 (.cells (SetC (List.replicate 16 0) (.slice none 0 0)) 67 (0, 0)) :: _) := hS
 refine x_nil ?_
 refine hK1 _ _ ?_
 refine x_seq fun K2 hK2 => ?_
 refine x_region ?_
 first | refine s_go (m_fieldAddr Try.underlying72 (hi := ti70)) ?_ | refine s_go (m_fieldAddr_rd Try.underlying72 (hi := ti70) (hS := hS)) ?_ | refine s_go (m_fieldAddr_vec Try.underlying72 (hi := ti70) (hS := hS)) ?_
 try simp only [opv, n1, n2, n3, n4, Value.cells, Nat.zero_add, Nat.add_zero, List.getElem_toArray, List.getElem_cons_zero, List.getElem_cons_succ]
 refine s_go (m_loada_obj Try.underlying70 (hi := ti70) (hS := hS) (hfit := by rw [setC_size (by assumption)]; decide)) ?_
 try simp only [opv, n1, n2, n3, n4, Value.cells, List.getElem_toArray, List.getElem_cons_zero, List.getElem_cons_succ]
 rw [set_flo (by assumption)]
 first | refine s_go (m_fieldAddr Try.underlying72 (hi := ti65)) ?_ | refine s_go (m_fieldAddr_rd Try.underlying72 (hi := ti65) (hS := hS)) ?_ | refine s_go (m_fieldAddr_vec Try.underlying72 (hi := ti65) (hS := hS)) ?_
 try simp only [opv, n1, n2, n3, n4, Value.cells, Nat.zero_add, Nat.add_zero, List.getElem_toArray, List.getElem_cons_zero, List.getElem_cons_succ]
 refine s_go (m_load_obj Try.underlying65 (hS := hS) (hv := set_sl (by assumption) _)) ?_
 try simp only [opv, n1, n2, n3, n4, Value.cells, List.getElem_toArray, List.getElem_cons_zero, List.getElem_cons_succ]
 refine s_go (s_build_struct (cells := (SetC x (.slice A n c))) Try.underlying67 ti67 bp67 (hc := by simp only [List.map_toArray, List.map_cons, List.map_nil, opv, n1, n2, n3, n4, Value.cells, List.toList_toArray]; exact fill_set2 (by rfl) (by rfl) hx)) ?_
 try simp only [opv, n1, n2, n3, n4, Value.cells]
 refine m_store_obj ti67 (hS := hS) (hv := setC_size (by assumption) _) (h1 := set_one _ _ _ _) (hfit := by rw [setC_size (by assumption)]; omega) (hc := set_whole (by assumption) (by assumption) _ _) (h := fun w3 hS => ?_)
 try simp only [opv, n1, n2, n3, n4, Value.cells, Array.toArray_toList] at hS ⊢
 refine x_nil ?_
 refine hK2 _ _ ?_
 refine x_ret ?_
 refine r_cell_agg rfl Try.underlying67 ti67 (hS := hS) (hfit := by rw [setC_size (by assumption)]) (hR := ?_)
 exact ⟨rfl, hS.ext_of⟩
theorem c_dotsOf (w0 : World) (B : Option Addr) (d : Nat) (l : List Int) (hr2 : Rd w0 B 1 l.length (List.map (Value.int .u64) l)) (hu2 : U64s l) (hn : l.length ≤ 4000000000)  :
    CallR Try.prog 34 #[.slice B l.length d] w0 fun v w' => ∃ (D : Option Addr) (e : Nat), v = .agg (SetC (addS (List.replicate 16 0) l).1 (.slice D (addS (List.replicate 16 0) l).2.length e)) ∧ St NoB w0 w' [.vec D e 48 1 (addS (List.replicate 16 0) l).2.length (List.map (Value.int .u64) (addS (List.replicate 16 0) l).2)] := by
 have hS := St.rd1 (S := NoB) hr2
 have h0l : (List.replicate 16 (0 : Int)).length = 16 := rfl
 have hps := addS_ok VOk.zero l
 have hpl := hps.1.len
 refine c_enter (l := [.slice B l.length d, undef, undef, undef, undef, undef]) Try.func34 rfl (by simp only [Try.ntmps34, List.size_toArray, List.length_cons, List.length_nil, Nat.reduceAdd, Nat.reduceSub, Array.replicate_succ, Array.replicate_zero, List.push_toArray, List.append_toArray, List.nil_append, List.cons_append]) ?_
 refine x_seq fun K1 hK1 => ?_
 refine x_region ?_
 refine m_alloc ti72 hS (fun w1 g1 hS => ?_)
 try simp only [opv, n1, n2, n3, n4, Value.cells, Array.toArray_toList] at hS ⊢
 replace hS : St NoB w0 w1 (.obj g1 (.cells (SetC (List.replicate 16 0) (.slice none 0 0)) 72 (0, 0)) :: _) := hS
 refine x_nil ?_
 refine hK1 _ _ ?_
 refine x_seq fun K2 hK2 => ?_
 refine x_region ?_
 refine s_go (s_build_struct (cells := #[.int .u32 0, .int .u32 0, .int .u32 0, .int .u32 0, .int .u32 0, .int .u32 0, .int .u32 0, .int .u32 0, .int .u32 0, .int .u32 0, .int .u32 0, .int .u32 0, .int .u32 0, .int .u32 0, .int .u32 0, .int .u32 0, .slice none 0 0]) Try.underlying72 ti72 bp72 (hc := by simp only [List.map_toArray, List.map_cons, List.map_nil, opv, n1, n2, n3, n4, Value.cells, List.toList_toArray]; (repeat (refine fill_cons rfl rfl (Nat.le_of_ble_eq_true rfl) ?_)); rfl)) ?_
 try simp only [opv, n1, n2, n3, n4, Value.cells]
 rw [show (#[.int .u32 0, .int .u32 0, .int .u32 0, .int .u32 0, .int .u32 0, .int .u32 0, .int .u32 0, .int .u32 0, .int .u32 0, .int .u32 0, .int .u32 0, .int .u32 0, .int .u32 0, .int .u32 0, .int .u32 0, .int .u32 0, .slice none 0 0] : Array Value) = SetC (List.replicate 16 0) (.slice none 0 0) from rfl]
 replace hS := hS.rd_none none 1
 refine s_go (s_move) ?_
 try simp only [opv, n1, n2, n3, n4, Value.cells]
 refine s_call en36 ?_
 try simp only [opv, n1, n2, n3, n4, Value.cells, List.map_toArray, List.map_cons, List.map_nil, List.append_toArray, List.cons_append, List.nil_append, Array.append_empty]
 refine CallR.mono (c_dotsAdd _ (List.replicate 16 0) VOk.zero none 0 [] (hS.hasRd (by repeat (first | exact Has.head | apply Has.tail))) U64s.nil B d l (hS.hasRd (by repeat (first | exact Has.head | apply Has.tail))) hu2 (by simpa using hn)) ?_
 rintro _ w2 ⟨D, e, rfl, hC2⟩
 replace hS := hS.call hC2
 simp only [List.cons_append, List.nil_append, List.append_nil] at hS ⊢
 try simp only [opv, n1, n2, n3, n4, Value.cells]
 refine m_store_obj ti72 (hS := hS) (hv := setC_size (by assumption) _) (h1 := set_one _ _ _ _) (hfit := by rw [setC_size (by assumption)]; omega) (hc := set_whole (by assumption) (by assumption) _ _) (h := fun w3 hS => ?_)
 try simp only [opv, n1, n2, n3, n4, Value.cells, Array.toArray_toList] at hS ⊢
 refine x_nil ?_
 refine hK2 _ _ ?_
 refine x_ret ?_
 refine r_cell_agg rfl Try.underlying72 ti72 (hS := hS) (hfit := by rw [setC_size (by assumption)]) (hR := ?_)
 exact ⟨_, _, rfl, hS.sel (by repeat (first | exact Sel.nil | (refine Sel.cons (by repeat (first | exact Del.head | apply Del.tail)) ?_)))⟩
theorem c_dotsRight (w0 : World) (x : List Int) (hx : VOk x) (A : Option Addr) (c : Nat) (cl : List Int) (hr : Rd w0 A 1 cl.length (List.map (Value.int .u64) cl)) (hu : U64s cl) (hn : cl.length ≤ 4000000000)  :
    CallR Try.prog 38 #[.agg (SetC x (.slice A cl.length c))] w0 fun v w' => v = .bool (decide ((x, cl) = addS x cl)) ∧ Ext w0 w' := by
 have hS := St.rd1 (S := NoB) hr
 have hxl := hx.len
 have hps := addS_ok hx cl
 obtain ⟨hpv, hpu, hpn⟩ := hps
 have hpl := hpv.len
 refine c_enter (l := [.agg (SetC x (.slice A cl.length c)), undef, undef, undef, undef, undef, undef]) Try.func38 rfl (by simp only [Try.ntmps38, List.size_toArray, List.length_cons, List.length_nil, Nat.reduceAdd, Nat.reduceSub, Array.replicate_succ, Array.replicate_zero, List.push_toArray, List.append_toArray, List.nil_append, List.cons_append]) ?_
 refine x_seq fun K1 hK1 => ?_
 refine x_region ?_
 refine m_box hS (fun w1 g1 hS => ?_)
 try simp only [opv, n1, n2, n3, n4, Value.cells, Array.toArray_toList] at hS ⊢
 obtain ⟨gba, hgba⟩ : ∃ z, z = g1 := ⟨_, rfl⟩
 rw [← hgba] at hS ⊢
 replace hS := hS.rd_none none 1
 refine s_go (s_assign) ?_
 try simp only [opv, n1, n2, n3, n4, Value.cells]
 refine x_nil ?_
 refine hK1 _ _ ?_
 refine x_seq fun K2 hK2 => ?_
 refine x_mixed_c (Lc := [.obj gba (.cells (SetC x (.slice A cl.length c)) 72 (0, 0)), .rd A 1 cl.length (List.map (Value.int .u64) cl)]) [] 0 [2, 3, 4, 5, 6] (fun f w => f 2 = .bool (decide ((x, cl) = addS x cl)) ∧ Ext w0 w) (by kernel_rfl) (by kernel_rfl) (by kernel_rfl) (by decide) hS (fun w2 hS => ?mixpre101) ?mixrest101
 case mixpre101 =>
  refine p_nil ?_
  simp only [List.length_cons, List.length_nil, Nat.reduceAdd, Nat.reduceSub]
  refine any_go (i := 0) (by rfl) (by decide +kernel) (by decide +kernel) noLate_nil (go_yields w_none (fun w hS => m_load_row Try.underlying72 (hi := ti72) (hS := hS) (hfit := by rw [setC_size (by assumption)]))) ?_
  try simp only [opv, n1, n2, n3, n4, Value.cells, List.getElem_toArray, List.getElem_cons_zero, List.getElem_cons_succ]
  refine any_go (i := 1) (by rfl) (by decide +kernel) (by decide +kernel) noLate_nil (go_yields w_none (fun w hS => m_load_row Try.underlying72 (hi := ti72) (hS := hS) (hfit := by rw [setC_size (by assumption)]))) ?_
  try simp only [opv, n1, n2, n3, n4, Value.cells, List.getElem_toArray, List.getElem_cons_zero, List.getElem_cons_succ]
  refine any_step [2] (by kernel_rfl) (by decide) (fun w3 hE => ⟨fun _ => (hS.ext hE).sel (by repeat (first | exact Sel.nil | (refine Sel.cons (by repeat (first | exact Del.head | apply Del.tail)) ?_))), ?_⟩)
  replace hS := hS.ext hE
  intro i hi
  simp only [List.mem_cons, List.not_mem_nil, or_false] at hi
  subst hi
  ·
   refine any_op (by rfl) ?_
   refine s_call en36 ?_
   try simp only [opv, n1, n2, n3, n4, Value.cells, List.map_toArray, List.map_cons, List.map_nil, List.append_toArray, List.cons_append, List.nil_append, Array.append_empty]
   refine CallR.mono (c_dotsAdd _ x hx A c cl (hS.hasRd (by repeat (first | exact Has.head | apply Has.tail))) hu none 0 [] (hS.hasRd (by repeat (first | exact Has.head | apply Has.tail))) U64s.nil (by rw [List.length_nil]; omega)) ?_
   rintro _ w4 ⟨D, e, rfl, hC4⟩
   replace hS := hS.call hC4
   simp only [List.cons_append, List.nil_append, List.append_nil] at hS ⊢
   try simp only [opv, n1, n2, n3, n4, Value.cells]
   refine x_nil ?_
   refine any_step [3] (by kernel_rfl) (by decide) (fun w5 hE => ⟨fun _ => (hS.ext hE).sel (by repeat (first | exact Sel.nil | (refine Sel.cons (by repeat (first | exact Del.head | apply Del.tail)) ?_))), ?_⟩)
   replace hS := hS.ext hE
   intro i hi
   simp only [List.mem_cons, List.not_mem_nil, or_false] at hi
   subst hi
   ·
    refine any_op (by rfl) ?_
    refine s_call en84 ?_
    try simp only [opv, n1, n2, n3, n4, Value.cells, List.map_toArray, List.map_cons, List.map_nil, List.append_toArray, List.cons_append, List.nil_append, Array.append_empty]
    refine CallR.mono (c_dotsAlike _ x _ hxl hpl A c cl (hS.hasRd (by repeat (first | exact Has.head | apply Has.tail))) hu D e _ (hS.vecRd (by repeat (first | exact Has.head | apply Has.tail))) hpu (by omega)) ?_
    rintro _ w6 ⟨rfl, hE6⟩
    replace hS := hS.ext hE6
    try simp only [opv, n1, n2, n3, n4, Value.cells]
    refine x_nil ?_
    refine any_go (i := 4) (by rfl) (by decide +kernel) (by decide +kernel) noLate_nil (go_yields w_none (fun w hS => s_assign)) ?_
    try simp only [opv, n1, n2, n3, n4, Value.cells]
    refine any_nil (by kernel_rfl) (fun w7 hE => ?_)
    replace hS := hS.ext hE
    refine ⟨fun _ => hS.sel (by repeat (first | exact Sel.nil | (refine Sel.cons (by repeat (first | exact Del.head | apply Del.tail)) ?_))), ?_⟩
    refine mix_leaf (by simp only [clob, List.foldl, n1, n2, n3, n4]) ?_
    try simp only [n1, n2]
    exact ⟨by first | trivial | rfl, hS.ext_of⟩
 intro fm1 w8 hM
 obtain ⟨h2, hEE⟩ := hM
 simp only [clob, List.foldl, n3, n4, h2]
 refine hK2 _ _ ?_
 refine x_ret ?_
 refine r_tmp rfl ?_
 exact ⟨rfl, hEE⟩
theorem c_dotsHas (w0 : World) (x : List Int) (hx : VOk x) (A : Option Addr) (c : Nat) (cl : List Int) (hr : Rd w0 A 1 cl.length (List.map (Value.int .u64) cl)) (hu : U64s cl) (hn : cl.length ≤ 4000000000) (q : Nat) (hq : q < 18446744073709551616)  :
    CallR Try.prog 40 #[.agg (SetC x (.slice A cl.length c)), .int .u64 (q : Int)] w0 fun v w' => v = .bool (decide (HasD x cl (q : Int))) ∧ Ext w0 w' := by
 have hS := St.rd1 (S := NoB) hr
 have hxl := hx.len
 obtain ⟨r, hr0⟩ : ∃ r, r = q / 4294967296 := ⟨_, rfl⟩
 obtain ⟨s, hs0⟩ : ∃ s, s = q % 4294967296 := ⟨_, rfl⟩
 have hqs : (q : Int) % 4294967296 = (s : Int) := by omega
 have hfq : flo x (q : Int) = x.getD r 0 := by rw [flo, dR_nat, hr0]
 have hsn : s < 4294967296 := by omega
 refine c_enter (l := [.agg (SetC x (.slice A cl.length c)), .int .u64 (q : Int), undef, undef, undef, undef, undef, undef, undef, undef, undef, undef, undef, undef, undef, undef, undef, undef, undef, undef, undef, undef, undef, undef, undef, undef, undef, undef]) Try.func40 rfl (by simp only [Try.ntmps40, List.size_toArray, List.length_cons, List.length_nil, Nat.reduceAdd, Nat.reduceSub, Array.replicate_succ, Array.replicate_zero, List.push_toArray, List.append_toArray, List.nil_append, List.cons_append]) ?_
 refine x_seq fun K1 hK1 => ?_
 refine x_region ?_
 refine m_box hS (fun w1 g1 hS => ?_)
 try simp only [opv, n1, n2, n3, n4, Value.cells, Array.toArray_toList] at hS ⊢
 obtain ⟨gba, hgba⟩ : ∃ z, z = g1 := ⟨_, rfl⟩
 rw [← hgba] at hS ⊢
 refine s_go (s_assign) ?_
 try simp only [opv, n1, n2, n3, n4, Value.cells]
 refine x_nil ?_
 refine hK1 _ _ ?_
 refine x_seq fun K2 hK2 => ?_
 refine x_region ?_
 refine s_go (s_move) ?_
 try simp only [opv, n1, n2, n3, n4, Value.cells]
 refine s_call en83 ?_
 try simp only [opv, n1, n2, n3, n4, Value.cells, List.map_toArray, List.map_cons, List.map_nil, List.append_toArray, List.cons_append, List.nil_append, Array.append_empty]
 refine CallR.mono (c_keyUndot q hq _) ?_
 rintro _ w2 ⟨rfl, hE2⟩
 replace hS := hS.ext hE2
 try simp only [opv, n1, n2, n3, n4, Value.cells]
 rw [← hs0]
 refine s_go (s_move) ?_
 try simp only [opv, n1, n2, n3, n4, Value.cells]
 refine s_go (s_extract (hv := rfl)) ?_
 try simp only [List.getElem_toArray, List.getElem_cons_zero, List.getElem_cons_succ]
 try simp only [opv, n1, n2, n3, n4, Value.cells]
 refine s_go (s_extract (hv := rfl)) ?_
 try simp only [List.getElem_toArray, List.getElem_cons_zero, List.getElem_cons_succ]
 try simp only [opv, n1, n2, n3, n4, Value.cells]
 refine s_go (s_assign) ?_
 try simp only [opv, n1, n2, n3, n4, Value.cells]
 refine s_go (s_assign) ?_
 try simp only [opv, n1, n2, n3, n4, Value.cells]
 refine x_nil ?_
 refine hK2 _ _ ?_
 refine x_seq fun K3 hK3 => ?_
 refine x_region ?_
 refine s_go (s_move) ?_
 try simp only [opv, n1, n2, n3, n4, Value.cells]
 refine s_call en79 ?_
 try simp only [opv, n1, n2, n3, n4, Value.cells, List.map_toArray, List.map_cons, List.map_nil, List.append_toArray, List.cons_append, List.nil_append, Array.append_empty]
 refine CallR.mono (c_dotsMay q hq _) ?_
 rintro _ w3 ⟨rfl, hE3⟩
 replace hS := hS.ext hE3
 try simp only [opv, n1, n2, n3, n4, Value.cells]
 refine s_go (s_move) ?_
 try simp only [opv, n1, n2, n3, n4, Value.cells]
 refine s_part 14 rfl (fun hp1 => ?_) (fun hp1 => ?_)
 ·
  try simp only [n3, n4]
  try simp only [decide_eq_true_eq, decide_eq_false_iff_not, Bool.not_eq_true', Bool.not_eq_false', Int.not_lt, Int.not_le, ne_eq, Decidable.not_not] at hp1
  have hM : MayD (q : Int) := by simpa using hp1
  have hdn := may_nat.1 hM
  rw [← hr0, ← hs0] at hdn
  have hxr := hx.nat r
  rw [show q / 4294967296 % 256 = r by omega]
  refine g_on (yi (t := 14) rfl rfl) ?_
  refine s_go (s_move) ?_
  try simp only [opv, n1, n2, n3, n4, Value.cells]
  refine g_on (yi (t := 14) rfl rfl) ?_
  refine s_go (s_move) ?_
  try simp only [opv, n1, n2, n3, n4, Value.cells]
  refine g_on (yi (t := 14) rfl rfl) ?_
  first | refine s_go (m_fieldAddr Try.underlying72 (hi := ti70)) ?_ | refine s_go (m_fieldAddr_rd Try.underlying72 (hi := ti70) (hS := hS)) ?_ | refine s_go (m_fieldAddr_vec Try.underlying72 (hi := ti70) (hS := hS)) ?_
  try simp only [opv, n1, n2, n3, n4, Value.cells, Nat.zero_add, Nat.add_zero, List.getElem_toArray, List.getElem_cons_zero, List.getElem_cons_succ]
  refine g_on (yi (t := 14) rfl rfl) ?_
  refine s_go (m_indexAddr_arr Try.underlying70 ti29) ?_
  try simp only [opv, n1, n2, n3, n4, Value.cells, Nat.mul_one, Nat.zero_add, Int.toNat_natCast, Int.reduceToNat]
  refine g_on (yi (t := 14) rfl rfl) ?_
  refine s_go (m_load_obj Try.underlying29 (hS := hS) (hv := set_at hxl _ (by omega))) ?_
  try simp only [opv, n1, n2, n3, n4, Value.cells, List.getElem_toArray, List.getElem_cons_zero, List.getElem_cons_succ]
  refine g_on (yi (t := 14) rfl rfl) ?_
  refine s_go (s_leq) ?_
  try simp only [opv, n1, n2, n3, n4, Value.cells]
  refine g_on (yi (t := 14) rfl rfl) ?_
  refine s_go (s_move) ?_
  try simp only [opv, n1, n2, n3, n4, Value.cells]
  refine s_part 21 rfl (fun hp2 => ?_) (fun hp2 => ?_)
  ·
   try simp only [n3, n4]
   try simp only [decide_eq_true_eq, decide_eq_false_iff_not, Bool.not_eq_true', Bool.not_eq_false', Int.not_lt, Int.not_le, ne_eq, Decidable.not_not] at hp2
   have hE : decide (HasD x cl (q : Int)) = true := decide_eq_true ⟨hM, .inl (by omega)⟩
   refine g_off (yi (t := 21) rfl rfl) ?_
   try simp only [opv, n1, n2, n3, n4, Value.cells]
   refine g_off (yi (t := 21) rfl rfl) ?_
   try simp only [opv, n1, n2, n3, n4, Value.cells]
   refine g_off (yi (t := 21) rfl rfl) ?_
   try simp only [opv, n1, n2, n3, n4, Value.cells]
   refine g_off (yi (t := 21) rfl rfl) ?_
   try simp only [opv, n1, n2, n3, n4, Value.cells]
   refine g_on (yi (t := 14) rfl rfl) ?_
   first | refine s_go (s_pick_t) ?_ | refine s_go (s_pick_f) ?_
   try simp only [opv, n1, n2, n3, n4, Value.cells]
   first | refine s_go (s_pick_t) ?_ | refine s_go (s_pick_f) ?_
   try simp only [opv, n1, n2, n3, n4, Value.cells]
   refine s_go (s_assign) ?_
   try simp only [opv, n1, n2, n3, n4, Value.cells]
   refine x_nil ?_
   refine hK3 _ _ ?_
   refine x_ret ?_
   refine r_tmp rfl ?_
   exact ⟨by rw [hE]; rfl, hS.ext_of⟩
  ·
   try simp only [n3, n4]
   try simp only [decide_eq_true_eq, decide_eq_false_iff_not, Bool.not_eq_true', Bool.not_eq_false', Int.not_lt, Int.not_le, ne_eq, Decidable.not_not] at hp2
   have hnf : ¬ (s : Int) ≤ x.getD r 0 := by simpa using hp2
   have hE : decide (HasD x cl (q : Int)) = decide ((q : Int) ∈ cl) := decide_eq_decide.2 ⟨fun h => h.2.elim (fun a => by omega) id, fun h => ⟨hM, .inr h⟩⟩
   refine g_on (yi (t := 21) rfl rfl) ?_
   first | refine s_go (m_fieldAddr Try.underlying72 (hi := ti65)) ?_ | refine s_go (m_fieldAddr_rd Try.underlying72 (hi := ti65) (hS := hS)) ?_ | refine s_go (m_fieldAddr_vec Try.underlying72 (hi := ti65) (hS := hS)) ?_
   try simp only [opv, n1, n2, n3, n4, Value.cells, Nat.zero_add, Nat.add_zero, List.getElem_toArray, List.getElem_cons_zero, List.getElem_cons_succ]
   refine g_on (yi (t := 21) rfl rfl) ?_
   refine s_go (m_load_obj Try.underlying65 (hS := hS) (hv := set_sl (by assumption) _)) ?_
   try simp only [opv, n1, n2, n3, n4, Value.cells, List.getElem_toArray, List.getElem_cons_zero, List.getElem_cons_succ]
   refine g_on (yi (t := 21) rfl rfl) ?_
   refine s_go (s_move) ?_
   try simp only [opv, n1, n2, n3, n4, Value.cells]
   refine g_on (yi (t := 21) rfl rfl) ?_
   refine s_call en85 ?_
   try simp only [opv, n1, n2, n3, n4, Value.cells, List.map_toArray, List.map_cons, List.map_nil, List.append_toArray, List.cons_append, List.nil_append, Array.append_empty]
   refine CallR.mono (c_slContains _ A c cl (hS.hasRd (by repeat (first | exact Has.head | apply Has.tail))) hu hn (q : Int)) ?_
   rintro _ w4 ⟨rfl, hE4⟩
   replace hS := hS.ext hE4
   try simp only [opv, n1, n2, n3, n4, Value.cells]
   refine g_on (yi (t := 14) rfl rfl) ?_
   first | refine s_go (s_pick_t) ?_ | refine s_go (s_pick_f) ?_
   try simp only [opv, n1, n2, n3, n4, Value.cells]
   first | refine s_go (s_pick_t) ?_ | refine s_go (s_pick_f) ?_
   try simp only [opv, n1, n2, n3, n4, Value.cells]
   refine s_go (s_assign) ?_
   try simp only [opv, n1, n2, n3, n4, Value.cells]
   refine x_nil ?_
   refine hK3 _ _ ?_
   refine x_ret ?_
   refine r_tmp rfl ?_
   exact ⟨by rw [hE]; rfl, hS.ext_of⟩
 ·
  try simp only [n3, n4]
  try simp only [decide_eq_true_eq, decide_eq_false_iff_not, Bool.not_eq_true', Bool.not_eq_false', Int.not_lt, Int.not_le, ne_eq, Decidable.not_not] at hp1
  have hE : decide (HasD x cl (q : Int)) = false := decide_eq_false (fun h => by have h1 := h.1; first | exact hp1 h1 | (simp at hp1; exact hp1 h1) | (rw [decide_eq_true h1] at hp1; cases hp1))
  refine g_off (yi (t := 14) rfl rfl) ?_
  try simp only [opv, n1, n2, n3, n4, Value.cells]
  refine g_off (yi (t := 14) rfl rfl) ?_
  try simp only [opv, n1, n2, n3, n4, Value.cells]
  refine g_off (yi (t := 14) rfl rfl) ?_
  try simp only [opv, n1, n2, n3, n4, Value.cells]
  refine g_off (yi (t := 14) rfl rfl) ?_
  try simp only [opv, n1, n2, n3, n4, Value.cells]
  refine g_off (yi (t := 14) rfl rfl) ?_
  try simp only [opv, n1, n2, n3, n4, Value.cells]
  refine g_off (yi (t := 14) rfl rfl) ?_
  try simp only [opv, n1, n2, n3, n4, Value.cells]
  refine g_off (yi (t := 14) rfl rfl) ?_
  try simp only [opv, n1, n2, n3, n4, Value.cells]
  refine g_un (yn (t := 21) rfl rfl) ?_
  try simp only [opv, n1, n2, n3, n4, Value.cells]
  refine g_un (yn (t := 21) rfl rfl) ?_
  try simp only [opv, n1, n2, n3, n4, Value.cells]
  refine g_un (yn (t := 21) rfl rfl) ?_
  try simp only [opv, n1, n2, n3, n4, Value.cells]
  refine g_un (yn (t := 21) rfl rfl) ?_
  try simp only [opv, n1, n2, n3, n4, Value.cells]
  refine g_off (yi (t := 14) rfl rfl) ?_
  try simp only [opv, n1, n2, n3, n4, Value.cells]
  first | refine s_go (s_pick_t) ?_ | refine s_go (s_pick_f) ?_
  try simp only [opv, n1, n2, n3, n4, Value.cells]
  refine s_go (s_assign) ?_
  try simp only [opv, n1, n2, n3, n4, Value.cells]
  refine x_nil ?_
  refine hK3 _ _ ?_
  refine x_ret ?_
  refine r_tmp rfl ?_
  exact ⟨by rw [hE]; rfl, hS.ext_of⟩
theorem c_dotsCount (w0 : World) (x : List Int) (hx : VOk x) (A : Option Addr) (c : Nat) (cl : List Int) (hr : Rd w0 A 1 cl.length (List.map (Value.int .u64) cl)) (hu : U64s cl) (hn : cl.length ≤ 4000000000)  :
    CallR Try.prog 42 #[.agg (SetC x (.slice A cl.length c))] w0 fun v w' => v = .int .u64 (cntS (addS x cl)) ∧ Ext w0 w' := by
 have hS := St.rd1 (S := NoB) hr
 have hxl := hx.len
 have hps := addS_ok hx cl
 obtain ⟨hpv, hpu, hpn⟩ := hps
 have hpl := hpv.len
 have hpnat := hpv.nat
 refine c_enter (l := [.agg (SetC x (.slice A cl.length c)), undef, undef, undef, undef, undef, undef, undef, undef, undef, undef, undef, undef, undef, undef, undef, undef, undef, undef, undef, undef, undef, undef]) Try.func42 rfl (by simp only [Try.ntmps42, List.size_toArray, List.length_cons, List.length_nil, Nat.reduceAdd, Nat.reduceSub, Array.replicate_succ, Array.replicate_zero, List.push_toArray, List.append_toArray, List.nil_append, List.cons_append]) ?_
 refine x_seq fun K1 hK1 => ?_
 refine x_region ?_
 refine m_box hS (fun w1 g1 hS => ?_)
 try simp only [opv, n1, n2, n3, n4, Value.cells, Array.toArray_toList] at hS ⊢
 obtain ⟨gba, hgba⟩ : ∃ z, z = g1 := ⟨_, rfl⟩
 rw [← hgba] at hS ⊢
 replace hS := hS.rd_none none 1
 refine s_go (s_assign) ?_
 try simp only [opv, n1, n2, n3, n4, Value.cells]
 refine x_nil ?_
 refine hK1 _ _ ?_
 refine x_seq fun K2 hK2 => ?_
 refine x_region ?_
 refine s_go (m_load_row Try.underlying72 (hi := ti72) (hS := hS) (hfit := by rw [setC_size (by assumption)])) ?_
 try simp only [opv, n1, n2, n3, n4, Value.cells, List.getElem_toArray, List.getElem_cons_zero, List.getElem_cons_succ]
 refine s_call en36 ?_
 try simp only [opv, n1, n2, n3, n4, Value.cells, List.map_toArray, List.map_cons, List.map_nil, List.append_toArray, List.cons_append, List.nil_append, Array.append_empty]
 refine CallR.mono (c_dotsAdd _ x hx A c cl (hS.hasRd (by repeat (first | exact Has.head | apply Has.tail))) hu none 0 [] (hS.hasRd (by repeat (first | exact Has.head | apply Has.tail))) U64s.nil (by rw [List.length_nil]; omega)) ?_
 rintro _ w2 ⟨D, e, rfl, hC2⟩
 replace hS := hS.call hC2
 simp only [List.cons_append, List.nil_append, List.append_nil] at hS ⊢
 try simp only [opv, n1, n2, n3, n4, Value.cells]
 refine m_store_obj ti72 (hS := hS) (hv := setC_size (by assumption) _) (h1 := set_one _ _ _ _) (hfit := by rw [setC_size (by assumption)]; omega) (hc := set_whole (by assumption) (by assumption) _ _) (h := fun w3 hS => ?_)
 try simp only [opv, n1, n2, n3, n4, Value.cells, Array.toArray_toList] at hS ⊢
 refine x_nil ?_
 refine hK2 _ _ ?_
 refine x_seq fun K3 hK3 => ?_
 refine x_region ?_
 first | refine s_go (m_fieldAddr Try.underlying72 (hi := ti65)) ?_ | refine s_go (m_fieldAddr_rd Try.underlying72 (hi := ti65) (hS := hS)) ?_ | refine s_go (m_fieldAddr_vec Try.underlying72 (hi := ti65) (hS := hS)) ?_
 try simp only [opv, n1, n2, n3, n4, Value.cells, Nat.zero_add, Nat.add_zero, List.getElem_toArray, List.getElem_cons_zero, List.getElem_cons_succ]
 refine s_go (m_load_obj Try.underlying65 (hS := hS) (hv := set_sl (by assumption) _)) ?_
 try simp only [opv, n1, n2, n3, n4, Value.cells, List.getElem_toArray, List.getElem_cons_zero, List.getElem_cons_succ]
 refine s_go (s_len_sl Try.underlying65) ?_
 try simp only [opv, n1, n2, n3, n4, Value.cells]
 refine s_go (s_conv Try.underlying3 Try.underlying48 (hc := wr_u64 (by omega) (by omega))) ?_
 try simp only [opv, n1, n2, n3, n4, Value.cells]
 refine s_go (s_assign) ?_
 try simp only [opv, n1, n2, n3, n4, Value.cells]
 refine x_nil ?_
 refine hK3 _ _ ?_
 refine x_seq fun K4 hK4 => ?_
 refine x_seq fun K5 hK5 => ?_
 refine x_region ?_
 first | refine s_go (m_fieldAddr Try.underlying72 (hi := ti70)) ?_ | refine s_go (m_fieldAddr_rd Try.underlying72 (hi := ti70) (hS := hS)) ?_ | refine s_go (m_fieldAddr_vec Try.underlying72 (hi := ti70) (hS := hS)) ?_
 try simp only [opv, n1, n2, n3, n4, Value.cells, Nat.zero_add, Nat.add_zero, List.getElem_toArray, List.getElem_cons_zero, List.getElem_cons_succ]
 refine s_go (m_loada_obj Try.underlying70 (hi := ti70) (hS := hS) (hfit := by rw [setC_size (by assumption)]; decide)) ?_
 try simp only [opv, n1, n2, n3, n4, Value.cells, List.getElem_toArray, List.getElem_cons_zero, List.getElem_cons_succ]
 rw [set_flo (by assumption)]
 refine s_go (s_move) ?_
 try simp only [opv, n1, n2, n3, n4, Value.cells]
 refine x_nil ?_
 refine hK5 _ _ ?_
 refine x_block ?_
 refine x_loop [3, 5, 14, 15, 16, 17, 18, 19, 20, 21] (fun m f w => ∃ k : Nat, k ≤ 16 ∧ m = 16 - k ∧ f 14 = .int .i64 (k : Int) ∧ f 3 = .int .u64 (((addS x cl).2.length : Int) + ((addS x cl).1.take k).sum) ∧ St NoB w0 w [.obj gba (.cells (SetC (addS x cl).1 (.slice D (addS x cl).2.length e)) 72 (0, 0)), .vec D e 48 1 (addS x cl).2.length (List.map (Value.int .u64) (addS x cl).2)]) (16) ?init1 (fun m1 f1 wl1 hI => ?_)
 case init1 =>
  try simp only [opv, n1, n2, n3, n4, Value.cells]
  exact ⟨0, by omega, rfl, rfl, by simp, hS.sel (by repeat (first | exact Sel.nil | (refine Sel.cons (by repeat (first | exact Del.head | apply Del.tail)) ?_)))⟩
 obtain ⟨k, hk, hmk, hfi, h3, hS⟩ := hI
 simp only [clob, List.foldl, n3, n4, hfi, h3]
 have hsb := sum_bd hpnat (k := k) (by omega)
 have hkn := hpnat k
 refine x_seq fun K6 hK6 => ?_
 refine x_region ?_
 refine s_go (s_lss) ?_
 try simp only [opv, n1, n2, n3, n4, Value.cells]
 refine x_nil ?_
 refine hK6 _ _ ?_
 refine x_seq fun K7 hK7 => ?_
 refine x_cond (ht := fun hc1 => ?_) (hf := fun hc1 => ?_)
 ·
  try simp only [decide_eq_true_eq, decide_eq_false_iff_not, Bool.not_eq_true', Bool.not_eq_false', Int.not_lt, Int.not_le, ne_eq, Decidable.not_not, bne_iff_ne, beq_iff_eq, not_true_eq_false, not_false_eq_true] at hc1
  refine x_skip ?_
  refine hK7 _ _ ?_
  refine x_seq fun K8 hK8 => ?_
  refine x_block ?_
  refine x_seq fun K9 hK9 => ?_
  refine x_region ?_
  refine s_go (s_index_one Try.underlying70 ti29 Try.underlying29 (hv := ic_get (by omega))) ?_
  try simp only [opv, n1, n2, n3, n4, Value.cells, Nat.mul_one, Nat.zero_add, Int.toNat_natCast, Int.reduceToNat]
  refine s_go (s_assign) ?_
  try simp only [opv, n1, n2, n3, n4, Value.cells]
  refine x_nil ?_
  refine hK9 _ _ ?_
  refine x_region ?_
  refine s_go (s_move) ?_
  try simp only [opv, n1, n2, n3, n4, Value.cells]
  refine s_go (s_move) ?_
  try simp only [opv, n1, n2, n3, n4, Value.cells]
  refine s_go (s_conv Try.underlying29 Try.underlying48 (hc := wr_u64 (by omega) (by omega))) ?_
  try simp only [opv, n1, n2, n3, n4, Value.cells]
  refine s_go (s_add (hc := wr_u64 (by omega) (by omega))) ?_
  try simp only [opv, n1, n2, n3, n4, Value.cells]
  refine s_go (s_assign) ?_
  try simp only [opv, n1, n2, n3, n4, Value.cells]
  refine x_nil ?_
  refine hK8 _ _ ?_
  refine x_region ?_
  refine s_go (s_add (hc := by first | exact wr_i64 (by omega) (by omega) | rfl)) ?_
  try simp only [opv, n1, n2, n3, n4, Value.cells]
  refine s_go (s_move) ?_
  try simp only [opv, n1, n2, n3, n4, Value.cells]
  refine x_nil ?_
  refine loop_back (m' := 16 - (k + 1)) (by simp only [clob, List.foldl, n1, n2, n3, n4]) ?_ ?_
  · try simp only [opv, n1, n2, n3, n4, Value.cells]
    exact ⟨k + 1, by omega, by omega, by rfl, by rw [sum_take (by omega), Int.add_assoc], hS⟩
  · omega
 ·
  try simp only [decide_eq_true_eq, decide_eq_false_iff_not, Bool.not_eq_true', Bool.not_eq_false', Int.not_lt, Int.not_le, ne_eq, Decidable.not_not, bne_iff_ne, beq_iff_eq, not_true_eq_false, not_false_eq_true] at hc1
  obtain rfl : k = 16 := by omega
  rw [List.take_of_length_le (by omega)]
  refine x_exit (look_here ?_)
  refine hK4 _ _ ?_
  refine x_seq fun K10 hK10 => ?_
  refine x_region ?_
  refine s_go (s_move) ?_
  try simp only [opv, n1, n2, n3, n4, Value.cells]
  refine s_go (s_assign) ?_
  try simp only [opv, n1, n2, n3, n4, Value.cells]
  refine x_nil ?_
  refine hK10 _ _ ?_
  refine x_ret ?_
  refine r_tmp rfl ?_
  exact ⟨rfl, hS.ext_of⟩
theorem c_dotsSame (w0 : World) (x y : List Int) (hx : VOk x) (hy : VOk y) (A : Option Addr) (c : Nat) (cl : List Int) (hr : Rd w0 A 1 cl.length (List.map (Value.int .u64) cl)) (hu : U64s cl) (B : Option Addr) (d : Nat) (cm : List Int) (hr2 : Rd w0 B 1 cm.length (List.map (Value.int .u64) cm)) (hu2 : U64s cm) (hn : cl.length + cm.length ≤ 4000000000)  :
    CallR Try.prog 46 #[.agg (SetC x (.slice A cl.length c)), .agg (SetC y (.slice B cm.length d))] w0 fun v w' => v = .bool (decide (addS x cl = addS y cm)) ∧ Ext w0 w' := by
 have hS := St.rd2 (S := NoB) hr hr2
 have hxl := hx.len
 have hyl := hy.len
 have h0l : (List.replicate 16 (0 : Int)).length = 16 := rfl
 have hpx := addS_ok hx cl
 have hpy := addS_ok hy cm
 have hpxl := hpx.1.len
 have hpyl := hpy.1.len
 have hpxu := hpx.2.1
 have hpyu := hpy.2.1
 have hpxn := hpx.2.2
 have hpyn := hpy.2.2
 refine c_enter (l := [.agg (SetC x (.slice A cl.length c)), .agg (SetC y (.slice B cm.length d)), undef, undef, undef, undef, undef, undef, undef, undef]) Try.func46 rfl (by simp only [Try.ntmps46, List.size_toArray, List.length_cons, List.length_nil, Nat.reduceAdd, Nat.reduceSub, Array.replicate_succ, Array.replicate_zero, List.push_toArray, List.append_toArray, List.nil_append, List.cons_append]) ?_
 refine x_seq fun K1 hK1 => ?_
 refine x_region ?_
 refine m_box hS (fun w1 g1 hS => ?_)
 try simp only [opv, n1, n2, n3, n4, Value.cells, Array.toArray_toList] at hS ⊢
 obtain ⟨gx, hgx⟩ : ∃ z, z = g1 := ⟨_, rfl⟩
 rw [← hgx] at hS ⊢
 refine m_box hS (fun w2 g2 hS => ?_)
 try simp only [opv, n1, n2, n3, n4, Value.cells, Array.toArray_toList] at hS ⊢
 obtain ⟨gy, hgy⟩ : ∃ z, z = g2 := ⟨_, rfl⟩
 rw [← hgy] at hS ⊢
 replace hS := hS.rd_none none 1
 refine s_go (s_assign) ?_
 try simp only [opv, n1, n2, n3, n4, Value.cells]
 refine x_nil ?_
 refine hK1 _ _ ?_
 refine x_seq fun K2 hK2 => ?_
 refine x_mixed_c (Lc := [.obj gx (.cells (SetC x (.slice A cl.length c)) 72 (0, 0)), .obj gy (.cells (SetC y (.slice B cm.length d)) 72 (0, 0)), .rd A 1 cl.length (List.map (Value.int .u64) cl), .rd B 1 cm.length (List.map (Value.int .u64) cm)]) [] 0 [4, 5, 6, 7, 8, 9] (fun f w => f 4 = .bool (decide (addS x cl = addS y cm)) ∧ Ext w0 w) (by kernel_rfl) (by kernel_rfl) (by kernel_rfl) (by decide) hS (fun w3 hS => ?mixpre101) ?mixrest101
 case mixpre101 =>
  refine p_nil ?_
  simp only [List.length_cons, List.length_nil, Nat.reduceAdd, Nat.reduceSub]
  refine any_go (i := 0) (by rfl) (by decide +kernel) (by decide +kernel) noLate_nil (go_yields w_none (fun w hS => m_load_row Try.underlying72 (hi := ti72) (hS := hS) (hfit := by rw [setC_size (by assumption)]))) ?_
  try simp only [opv, n1, n2, n3, n4, Value.cells, List.getElem_toArray, List.getElem_cons_zero, List.getElem_cons_succ]
  refine any_go (i := 2) (by rfl) (by decide +kernel) (by decide +kernel) noLate_nil (go_yields w_none (fun w hS => m_load_row Try.underlying72 (hi := ti72) (hS := hS) (hfit := by rw [setC_size (by assumption)]))) ?_
  try simp only [opv, n1, n2, n3, n4, Value.cells, List.getElem_toArray, List.getElem_cons_zero, List.getElem_cons_succ]
  refine any_step [1] (by kernel_rfl) (by decide) (fun w4 hE => ⟨fun _ => (hS.ext hE).sel (by repeat (first | exact Sel.nil | (refine Sel.cons (by repeat (first | exact Del.head | apply Del.tail)) ?_))), ?_⟩)
  replace hS := hS.ext hE
  intro i hi
  simp only [List.mem_cons, List.not_mem_nil, or_false] at hi
  subst hi
  ·
   refine any_op (by rfl) ?_
   refine s_call en36 ?_
   try simp only [opv, n1, n2, n3, n4, Value.cells, List.map_toArray, List.map_cons, List.map_nil, List.append_toArray, List.cons_append, List.nil_append, Array.append_empty]
   refine CallR.mono (c_dotsAdd _ x hx A c cl (hS.hasRd (by repeat (first | exact Has.head | apply Has.tail))) hu none 0 [] (hS.hasRd (by repeat (first | exact Has.head | apply Has.tail))) U64s.nil (by rw [List.length_nil]; omega)) ?_
   rintro _ w5 ⟨D, e, rfl, hC5⟩
   replace hS := hS.call hC5
   simp only [List.cons_append, List.nil_append, List.append_nil] at hS ⊢
   try simp only [opv, n1, n2, n3, n4, Value.cells]
   refine x_nil ?_
   refine any_step [3] (by kernel_rfl) (by decide) (fun w6 hE => ⟨fun _ => (hS.ext hE).sel (by repeat (first | exact Sel.nil | (refine Sel.cons (by repeat (first | exact Del.head | apply Del.tail)) ?_))), ?_⟩)
   replace hS := hS.ext hE
   intro i hi
   simp only [List.mem_cons, List.not_mem_nil, or_false] at hi
   subst hi
   ·
    refine any_op (by rfl) ?_
    refine s_call en36 ?_
    try simp only [opv, n1, n2, n3, n4, Value.cells, List.map_toArray, List.map_cons, List.map_nil, List.append_toArray, List.cons_append, List.nil_append, Array.append_empty]
    refine CallR.mono (c_dotsAdd _ y hy B d cm (hS.hasRd (by repeat (first | exact Has.head | apply Has.tail))) hu2 none 0 [] (hS.hasRd (by repeat (first | exact Has.head | apply Has.tail))) U64s.nil (by rw [List.length_nil]; omega)) ?_
    rintro _ w7 ⟨D2, e2, rfl, hC7⟩
    replace hS := hS.call hC7
    simp only [List.cons_append, List.nil_append, List.append_nil] at hS ⊢
    try simp only [opv, n1, n2, n3, n4, Value.cells]
    refine x_nil ?_
    refine any_step [4] (by kernel_rfl) (by decide) (fun w8 hE => ⟨fun _ => (hS.ext hE).sel (by repeat (first | exact Sel.nil | (refine Sel.cons (by repeat (first | exact Del.head | apply Del.tail)) ?_))), ?_⟩)
    replace hS := hS.ext hE
    intro i hi
    simp only [List.mem_cons, List.not_mem_nil, or_false] at hi
    subst hi
    ·
     refine any_op (by rfl) ?_
     refine s_call en84 ?_
     try simp only [opv, n1, n2, n3, n4, Value.cells, List.map_toArray, List.map_cons, List.map_nil, List.append_toArray, List.cons_append, List.nil_append, Array.append_empty]
     refine CallR.mono (c_dotsAlike _ _ _ hpxl hpyl D e _ (hS.vecRd (by repeat (first | exact Has.head | apply Has.tail))) hpxu D2 e2 _ (hS.vecRd (by repeat (first | exact Has.head | apply Has.tail))) hpyu (by omega)) ?_
     rintro _ w9 ⟨rfl, hE9⟩
     replace hS := hS.ext hE9
     try simp only [opv, n1, n2, n3, n4, Value.cells]
     refine x_nil ?_
     refine any_go (i := 5) (by rfl) (by decide +kernel) (by decide +kernel) noLate_nil (go_yields w_none (fun w hS => s_assign)) ?_
     try simp only [opv, n1, n2, n3, n4, Value.cells]
     refine any_nil (by kernel_rfl) (fun w10 hE => ?_)
     replace hS := hS.ext hE
     refine ⟨fun _ => hS.sel (by repeat (first | exact Sel.nil | (refine Sel.cons (by repeat (first | exact Del.head | apply Del.tail)) ?_))), ?_⟩
     refine mix_leaf (by simp only [clob, List.foldl, n1, n2, n3, n4]) ?_
     try simp only [n1, n2]
     exact ⟨by first | trivial | rfl, hS.ext_of⟩
 intro fm1 w11 hM
 obtain ⟨h4, hEE⟩ := hM
 simp only [clob, List.foldl, n3, n4, h4]
 refine hK2 _ _ ?_
 refine x_ret ?_
 refine r_tmp rfl ?_
 exact ⟨rfl, hEE⟩
theorem c_dotsJoin (w0 : World) (x y : List Int) (hx : VOk x) (hy : VOk y) (A : Option Addr) (c : Nat) (cl : List Int) (hr : Rd w0 A 1 cl.length (List.map (Value.int .u64) cl)) (hu : U64s cl) (B : Option Addr) (d : Nat) (cm : List Int) (hr2 : Rd w0 B 1 cm.length (List.map (Value.int .u64) cm)) (hu2 : U64s cm) (hn : cl.length + cm.length ≤ 4000000000)  :
    CallR Try.prog 44 #[.agg (SetC x (.slice A cl.length c)), .agg (SetC y (.slice B cm.length d))] w0 fun v w' => ∃ (D : Option Addr) (e : Nat), v = .agg (SetC (joinS (x, cl) (y, cm)).1 (.slice D (joinS (x, cl) (y, cm)).2.length e)) ∧ St NoB w0 w' [.vec D e 48 1 (joinS (x, cl) (y, cm)).2.length (List.map (Value.int .u64) (joinS (x, cl) (y, cm)).2)] := by
 have hS := St.rd2 (S := NoB) hr hr2
 have hxl := hx.len
 have hyl := hy.len
 have h0l : (List.replicate 16 (0 : Int)).length = 16 := rfl
 have hpx := addS_ok hx cl
 have hpy := addS_ok hy cm
 have hpxl := hpx.1.len
 have hpyl := hpy.1.len
 have hpxu := hpx.2.1
 have hpyu := hpy.2.1
 have hpxn := hpx.2.2
 have hpyn := hpy.2.2
 have hvj := vok_join hx hy
 have hvjl := hvj.len
 have hjo := addS_ok hvj (cl ++ cm)
 have hjl := hjo.1.len
 have hucm := hu.app hu2
 have hlcm : (cl ++ cm).length = cl.length + cm.length := List.length_append ..
 refine c_enter (l := [.agg (SetC x (.slice A cl.length c)), .agg (SetC y (.slice B cm.length d)), undef, undef, undef, undef, undef, undef, undef, undef, undef, undef, undef, undef, undef, undef, undef, undef]) Try.func44 rfl (by simp only [Try.ntmps44, List.size_toArray, List.length_cons, List.length_nil, Nat.reduceAdd, Nat.reduceSub, Array.replicate_succ, Array.replicate_zero, List.push_toArray, List.append_toArray, List.nil_append, List.cons_append]) ?_
 refine x_seq fun K1 hK1 => ?_
 refine x_region ?_
 refine m_box hS (fun w1 g1 hS => ?_)
 try simp only [opv, n1, n2, n3, n4, Value.cells, Array.toArray_toList] at hS ⊢
 obtain ⟨gx, hgx⟩ : ∃ z, z = g1 := ⟨_, rfl⟩
 rw [← hgx] at hS ⊢
 refine m_box hS (fun w2 g2 hS => ?_)
 try simp only [opv, n1, n2, n3, n4, Value.cells, Array.toArray_toList] at hS ⊢
 obtain ⟨gy, hgy⟩ : ∃ z, z = g2 := ⟨_, rfl⟩
 rw [← hgy] at hS ⊢
 refine m_alloc ti72 hS (fun w3 g3 hS => ?_)
 try simp only [opv, n1, n2, n3, n4, Value.cells, Array.toArray_toList] at hS ⊢
 replace hS : St NoB w0 w3 (.obj g3 (.cells (SetC (List.replicate 16 0) (.slice none 0 0)) 72 (0, 0)) :: _) := hS
 obtain ⟨gbr, hgbr⟩ : ∃ z, z = g3 := ⟨_, rfl⟩
 rw [← hgbr] at hS ⊢
 replace hS := hS.rd_none none 1
 refine x_nil ?_
 refine hK1 _ _ ?_
 refine x_seq fun K2 hK2 => ?_
 refine x_mixed_c (Lc := [.obj gx (.cells (SetC x (.slice A cl.length c)) 72 (0, 0)), .obj gy (.cells (SetC y (.slice B cm.length d)) 72 (0, 0)), .rd A 1 cl.length (List.map (Value.int .u64) cl), .rd B 1 cm.length (List.map (Value.int .u64) cm), .rd none 1 0 []]) [] 0 [5, 6, 7, 8, 9, 10, 11, 12, 13, 14, 15, 16, 17] (fun f w => ∃ (D : Option Addr) (e : Nat), St NoB w0 w [.obj gbr (.cells (SetC (joinS (x, cl) (y, cm)).1 (.slice D (joinS (x, cl) (y, cm)).2.length e)) 72 (0, 0)), .vec D e 48 1 (joinS (x, cl) (y, cm)).2.length (List.map (Value.int .u64) (joinS (x, cl) (y, cm)).2)]) (by kernel_rfl) (by kernel_rfl) (by kernel_rfl) (by decide) hS (fun w4 hS => ?mixpre101) ?mixrest101
 case mixpre101 =>
  refine p_nil ?_
  simp only [List.length_cons, List.length_nil, Nat.reduceAdd, Nat.reduceSub]
  first | refine any_go (i := 0) (by rfl) (by decide +kernel) (by decide +kernel) noLate_nil (go_yields w_none (fun w hS => m_fieldAddr Try.underlying72 (hi := ti70))) ?_ | refine any_go (i := 0) (by rfl) (by decide +kernel) (by decide +kernel) noLate_nil (go_yields w_none (fun w hS => m_fieldAddr_rd Try.underlying72 (hi := ti70) (hS := hS))) ?_ | refine any_go (i := 0) (by rfl) (by decide +kernel) (by decide +kernel) noLate_nil (go_yields w_none (fun w hS => m_fieldAddr_vec Try.underlying72 (hi := ti70) (hS := hS))) ?_
  try simp only [opv, n1, n2, n3, n4, Value.cells, Nat.zero_add, Nat.add_zero, List.getElem_toArray, List.getElem_cons_zero, List.getElem_cons_succ]
  refine any_go (i := 1) (by rfl) (by decide +kernel) (by decide +kernel) noLate_nil (go_yields w_none (fun w hS => m_loada_obj Try.underlying70 (hi := ti70) (hS := hS) (hfit := by rw [setC_size (by assumption)]; decide))) ?_
  try simp only [opv, n1, n2, n3, n4, Value.cells, List.getElem_toArray, List.getElem_cons_zero, List.getElem_cons_succ]
  rw [set_flo (by assumption)]
  first | refine any_go (i := 2) (by rfl) (by decide +kernel) (by decide +kernel) noLate_nil (go_yields w_none (fun w hS => m_fieldAddr Try.underlying72 (hi := ti70))) ?_ | refine any_go (i := 2) (by rfl) (by decide +kernel) (by decide +kernel) noLate_nil (go_yields w_none (fun w hS => m_fieldAddr_rd Try.underlying72 (hi := ti70) (hS := hS))) ?_ | refine any_go (i := 2) (by rfl) (by decide +kernel) (by decide +kernel) noLate_nil (go_yields w_none (fun w hS => m_fieldAddr_vec Try.underlying72 (hi := ti70) (hS := hS))) ?_
  try simp only [opv, n1, n2, n3, n4, Value.cells, Nat.zero_add, Nat.add_zero, List.getElem_toArray, List.getElem_cons_zero, List.getElem_cons_succ]
  refine any_go (i := 3) (by rfl) (by decide +kernel) (by decide +kernel) noLate_nil (go_yields w_none (fun w hS => m_loada_obj Try.underlying70 (hi := ti70) (hS := hS) (hfit := by rw [setC_size (by assumption)]; decide))) ?_
  try simp only [opv, n1, n2, n3, n4, Value.cells, List.getElem_toArray, List.getElem_cons_zero, List.getElem_cons_succ]
  rw [set_flo (by assumption)]
  apply any_go (i := 4) (by rfl) (by decide +kernel) (by decide +kernel) noLate_nil (call_yields w_none en86 ?H1) ?K1
  case H1 =>
    intro w hS
    try simp only [opv, n1, n2, n3, n4, List.map_toArray, List.map_cons, List.map_nil, List.append_toArray, List.cons_append, List.nil_append, Array.append_empty]
    refine CallR.mono (c_vecJoin x y hxl hyl _) ?_
    rintro _ w1 ⟨rfl, hE⟩; exact ⟨rfl, hE⟩
  try simp only [opv, n1, n2, n3, n4, Value.cells]
  refine any_go (i := 5) (by rfl) (by decide +kernel) (by decide +kernel) noLate_nil (go_yields w_none (fun w hS => s_build_struct (cells := (SetC (vjoin x y) (.slice none 0 0))) Try.underlying72 ti72 bp72 (hc := by simp only [List.map_toArray, List.map_cons, List.map_nil, opv, n1, n2, n3, n4, Value.cells, List.toList_toArray]; exact fill_set (by rfl) hvjl))) ?_
  try simp only [opv, n1, n2, n3, n4, Value.cells]
  first | refine any_go (i := 6) (by rfl) (by decide +kernel) (by decide +kernel) noLate_nil (go_yields w_none (fun w hS => m_fieldAddr Try.underlying72 (hi := ti65))) ?_ | refine any_go (i := 6) (by rfl) (by decide +kernel) (by decide +kernel) noLate_nil (go_yields w_none (fun w hS => m_fieldAddr_rd Try.underlying72 (hi := ti65) (hS := hS))) ?_ | refine any_go (i := 6) (by rfl) (by decide +kernel) (by decide +kernel) noLate_nil (go_yields w_none (fun w hS => m_fieldAddr_vec Try.underlying72 (hi := ti65) (hS := hS))) ?_
  try simp only [opv, n1, n2, n3, n4, Value.cells, Nat.zero_add, Nat.add_zero, List.getElem_toArray, List.getElem_cons_zero, List.getElem_cons_succ]
  refine any_go (i := 7) (by rfl) (by decide +kernel) (by decide +kernel) noLate_nil (go_yields w_none (fun w hS => m_load_obj Try.underlying65 (hS := hS) (hv := set_sl (by assumption) _))) ?_
  try simp only [opv, n1, n2, n3, n4, Value.cells, List.getElem_toArray, List.getElem_cons_zero, List.getElem_cons_succ]
  first | refine any_go (i := 8) (by rfl) (by decide +kernel) (by decide +kernel) noLate_nil (go_yields w_none (fun w hS => m_fieldAddr Try.underlying72 (hi := ti65))) ?_ | refine any_go (i := 8) (by rfl) (by decide +kernel) (by decide +kernel) noLate_nil (go_yields w_none (fun w hS => m_fieldAddr_rd Try.underlying72 (hi := ti65) (hS := hS))) ?_ | refine any_go (i := 8) (by rfl) (by decide +kernel) (by decide +kernel) noLate_nil (go_yields w_none (fun w hS => m_fieldAddr_vec Try.underlying72 (hi := ti65) (hS := hS))) ?_
  try simp only [opv, n1, n2, n3, n4, Value.cells, Nat.zero_add, Nat.add_zero, List.getElem_toArray, List.getElem_cons_zero, List.getElem_cons_succ]
  refine any_go (i := 9) (by rfl) (by decide +kernel) (by decide +kernel) noLate_nil (go_yields w_none (fun w hS => m_load_obj Try.underlying65 (hS := hS) (hv := set_sl (by assumption) _))) ?_
  try simp only [opv, n1, n2, n3, n4, Value.cells, List.getElem_toArray, List.getElem_cons_zero, List.getElem_cons_succ]
  refine any_step [10] (by kernel_rfl) (by decide) (fun w5 hE => ⟨fun _ => (hS.ext hE).sel (by repeat (first | exact Sel.nil | (refine Sel.cons (by repeat (first | exact Del.head | apply Del.tail)) ?_))), ?_⟩)
  replace hS := hS.ext hE
  intro i hi
  simp only [List.mem_cons, List.not_mem_nil, or_false] at hi
  subst hi
  ·
   refine any_op (by rfl) ?_
   refine m_buildRow (cells := #[_, _]) Try.underlying139 ti65 (hc := by simp only [List.map_toArray, List.map_cons, List.map_nil, opv, n1, n2, n3, n4, Value.cells, List.toList_toArray]; (repeat (refine fill_cons rfl rfl (Nat.le_of_ble_eq_true rfl) ?_)); rfl) (hS := hS) (h := fun w6 g6 hS => ?_)
   try simp only [opv, n1, n2, n3, n4, Value.cells, Array.toArray_toList] at hS ⊢
   replace hS := hS.obj_rd (sz := 1) (n := 2) rfl .head
   refine x_nil ?_
   refine any_step [11] (by kernel_rfl) (by decide) (fun w7 hE => ⟨fun _ => (hS.ext hE).sel (by repeat (first | exact Sel.nil | (refine Sel.cons (by repeat (first | exact Del.head | apply Del.tail)) ?_))), ?_⟩)
   replace hS := hS.ext hE
   intro i hi
   simp only [List.mem_cons, List.not_mem_nil, or_false] at hi
   subst hi
   ·
    refine any_op (by rfl) ?_
    refine s_call en78 ?_
    try simp only [opv, n1, n2, n3, n4, Value.cells, List.map_toArray, List.map_cons, List.map_nil, List.append_toArray, List.cons_append, List.nil_append, Array.append_empty]
    refine CallR.mono (c_slConcat _ _ _ A c cl (hS.hasRd (by repeat (first | exact Has.head | apply Has.tail))) hu B d cm (hS.hasRd (by repeat (first | exact Has.head | apply Has.tail))) hu2 (hS.hasRd (by repeat (first | exact Has.head | apply Has.tail))) hn) ?_
    rintro _ w8 ⟨D1, e1, rfl, hC8⟩
    replace hS := hS.call hC8
    simp only [List.cons_append, List.nil_append] at hS
    try simp only [opv, n1, n2, n3, n4, Value.cells]
    refine x_nil ?_
    refine any_step [12] (by kernel_rfl) (by decide) (fun w9 hE => ⟨fun _ => (hS.ext hE).sel (by repeat (first | exact Sel.nil | (refine Sel.cons (by repeat (first | exact Del.head | apply Del.tail)) ?_))), ?_⟩)
    replace hS := hS.ext hE
    intro i hi
    simp only [List.mem_cons, List.not_mem_nil, or_false] at hi
    subst hi
    ·
     refine any_op (by rfl) ?_
     refine s_call en36 ?_
     try simp only [opv, n1, n2, n3, n4, Value.cells, List.map_toArray, List.map_cons, List.map_nil, List.append_toArray, List.cons_append, List.nil_append, Array.append_empty]
     refine CallR.mono (c_dotsAdd _ (vjoin x y) hvj none 0 [] (hS.hasRd (by repeat (first | exact Has.head | apply Has.tail))) U64s.nil D1 e1 (cl ++ cm) (hS.vecRd (by repeat (first | exact Has.head | apply Has.tail))) hucm (by rw [List.length_nil]; omega)) ?_
     rintro _ w10 ⟨D, e, rfl, hC10⟩
     replace hS := hS.call hC10
     simp only [List.cons_append, List.nil_append, List.append_nil] at hS ⊢
     try simp only [opv, n1, n2, n3, n4, Value.cells]
     refine x_nil ?_
     refine any_step [13] (by kernel_rfl) (by decide) (fun w11 hE => ⟨fun _ => (hS.ext hE).sel (by repeat (first | exact Sel.nil | (refine Sel.cons (by repeat (first | exact Del.head | apply Del.tail)) ?_))), ?_⟩)
     replace hS := hS.ext hE
     intro i hi
     simp only [List.mem_cons, List.not_mem_nil, or_false] at hi
     subst hi
     ·
      refine any_op (by rfl) ?_
      refine m_store_obj ti72 (hS := hS) (hv := setC_size (by assumption) _) (h1 := set_one _ _ _ _) (hfit := by rw [setC_size (by assumption)]; omega) (hc := set_whole (by assumption) (by assumption) _ _) (h := fun w12 hS => ?_)
      try simp only [opv, n1, n2, n3, n4, Value.cells, Array.toArray_toList] at hS ⊢
      refine x_nil ?_
      refine any_nil (by kernel_rfl) (fun w13 hE => ?_)
      replace hS := hS.ext hE
      refine ⟨fun _ => hS.sel (by repeat (first | exact Sel.nil | (refine Sel.cons (by repeat (first | exact Del.head | apply Del.tail)) ?_))), ?_⟩
      refine mix_leaf (by simp only [clob, List.foldl, n1, n2, n3, n4]) ?_
      try simp only [n1, n2]
      exact ⟨_, _, hS.sel (by repeat (first | exact Sel.nil | (refine Sel.cons (by repeat (first | exact Del.head | apply Del.tail)) ?_)))⟩
 intro fm1 w14 hM
 obtain ⟨D, e, hS⟩ := hM
 simp only [clob, List.foldl, n3, n4]
 refine hK2 _ _ ?_
 refine x_ret ?_
 refine r_cell_agg rfl Try.underlying72 ti72 (hS := hS) (hfit := by rw [setC_size (by assumption)]) (hR := ?_)
 exact ⟨_, _, rfl, hS.sel (by repeat (first | exact Sel.nil | (refine Sel.cons (by repeat (first | exact Del.head | apply Del.tail)) ?_)))⟩
end Go.Proofs.Ytffmanidnlbjjaa
set_option linter.unusedSimpArgs false
set_option linter.unusedVariables false
set_option maxHeartbeats 3000000
set_option maxRecDepth 100000
namespace Go.Proofs.Ytffmanidnlbjjaa
open Go.RowKit

def fl2 : List Int := (List.replicate 16 (0 : Int)).set 0 2
def fl4 : List Int := (List.replicate 16 (0 : Int)).set 0 4
theorem set_ext {v : List Int} (h : v.length = 16) (s : Value) : (SetC v s).extract 0 (0 + 16) = ic .u32 v := by
  rw [← set_flo h s]; apply Array.ext'; simp
theorem dal_1 : addS (List.replicate 16 0) [1, 2, 4] = (fl2, [4]) := by decide +kernel
theorem dal_2 : addS fl2 [4, 3] = (fl4, []) := by decide +kernel
theorem dal_3 : cntS (addS fl2 [4]) = 3 := by decide +kernel
theorem fl2_ok : VOk fl2 := VOk.zero.set (by decide) (by decide)
theorem u_one {x : Int} (h : 0 ≤ x ∧ x < 18446744073709551616) : U64s [x] := fun y hy => by rw [List.mem_singleton] at hy; rw [hy]; exact h

theorem c_law13alive  (w0 : World) :
    CallR Try.prog 31 #[] w0 fun v w' => v = .bool true ∧ Ext w0 w' := by
 have hS : St NoB w0 w0 [] := St.start w0
 have h2l : fl2.length = 16 := rfl
 have h4l : fl4.length = 16 := rfl
 refine c_enter (l := [undef, undef, undef, undef, undef, undef, undef, undef, undef, undef, undef, undef, undef, undef, undef, undef, undef, undef, undef, undef, undef, undef, undef, undef, undef, undef, undef]) Try.func31 rfl (by simp only [Try.ntmps31, List.size_toArray, List.length_cons, List.length_nil, Nat.reduceAdd, Nat.reduceSub, Array.replicate_succ, Array.replicate_zero, List.push_toArray, List.append_toArray, List.nil_append, List.cons_append]) ?_
 refine x_seq fun K1 hK1 => ?_
 refine x_region ?_
 refine s_go (s_assign) ?_
 try simp only [opv, n1, n2, n3, n4, Value.cells]
 refine x_nil ?_
 refine hK1 _ _ ?_
 refine x_seq fun K2 hK2 => ?_
 refine x_region ?_
 refine m_buildRow (cells := #[_, _, _]) Try.underlying65 ti48 (hc := by simp only [List.map_toArray, List.map_cons, List.map_nil, opv, n1, n2, n3, n4, Value.cells, List.toList_toArray]; (repeat (refine fill_cons rfl rfl (Nat.le_of_ble_eq_true rfl) ?_)); rfl) (hS := hS) (h := fun w1 g1 hS => ?_)
 try simp only [opv, n1, n2, n3, n4, Value.cells, Array.toArray_toList] at hS ⊢
 replace hS := hS.obj_rd (sz := 1) (n := 3) rfl .head
 refine s_call en34 ?_
 try simp only [opv, n1, n2, n3, n4, Value.cells, List.map_toArray, List.map_cons, List.map_nil, List.append_toArray, List.cons_append, List.nil_append, Array.append_empty]
 refine CallR.mono (c_dotsOf _ _ _ [1, 2, 4] (hS.hasRd (by repeat (first | exact Has.head | apply Has.tail))) (by unfold U64s; decide) (by decide)) ?_
 rintro _ w2 ⟨D, e, rfl, hC2⟩
 replace hS := hS.call hC2
 simp only [List.cons_append, List.nil_append, List.append_nil] at hS ⊢
 rw [dal_1] at hS ⊢
 try simp only [opv, n1, n2, n3, n4, Value.cells]
 refine m_alloc ti72 hS (fun w3 g3 hS => ?_)
 try simp only [opv, n1, n2, n3, n4, Value.cells, Array.toArray_toList] at hS ⊢
 replace hS : St NoB w0 w3 (.obj g3 (.cells (SetC (List.replicate 16 0) (.slice none 0 0)) 72 (0, 0)) :: _) := hS
 have h0l : (List.replicate 16 (0 : Int)).length = 16 := rfl
 refine m_store_obj ti72 (hS := hS) (hv := setC_size (by assumption) _) (h1 := set_one _ _ _ _) (hfit := by rw [setC_size (by assumption)]; omega) (hc := set_whole (by assumption) (by assumption) _ _) (h := fun w4 hS => ?_)
 try simp only [opv, n1, n2, n3, n4, Value.cells, Array.toArray_toList] at hS ⊢
 refine x_nil ?_
 refine hK2 _ _ ?_
 refine x_seq fun K3 hK3 => ?_
 refine x_region ?_
 first | refine s_go (m_fieldAddr Try.underlying72 (hi := ti70)) ?_ | refine s_go (m_fieldAddr_rd Try.underlying72 (hi := ti70) (hS := hS)) ?_ | refine s_go (m_fieldAddr_vec Try.underlying72 (hi := ti70) (hS := hS)) ?_
 try simp only [opv, n1, n2, n3, n4, Value.cells, Nat.zero_add, Nat.add_zero, List.getElem_toArray, List.getElem_cons_zero, List.getElem_cons_succ]
 refine s_go (m_loada_obj Try.underlying70 (hi := ti70) (hS := hS) (hfit := by rw [setC_size (by assumption)]; decide)) ?_
 try simp only [opv, n1, n2, n3, n4, Value.cells, List.getElem_toArray, List.getElem_cons_zero, List.getElem_cons_succ]
 rw [set_flo (by assumption)]
 refine s_go (s_build_arr (cells := #[_, .int .u32 0, .int .u32 0, .int .u32 0, .int .u32 0, .int .u32 0, .int .u32 0, .int .u32 0, .int .u32 0, .int .u32 0, .int .u32 0, .int .u32 0, .int .u32 0, .int .u32 0, .int .u32 0, .int .u32 0]) Try.underlying70 ti70 ti29 (hc := by simp only [List.map_toArray, List.map_cons, List.map_nil, opv, n1, n2, n3, n4, Value.cells, List.toList_toArray]; (repeat (refine fill_cons rfl rfl (Nat.le_of_ble_eq_true rfl) ?_)); rfl)) ?_
 try simp only [opv, n1, n2, n3, n4, Value.cells]
 rw [show (#[.int .u32 2, .int .u32 0, .int .u32 0, .int .u32 0, .int .u32 0, .int .u32 0, .int .u32 0, .int .u32 0, .int .u32 0, .int .u32 0, .int .u32 0, .int .u32 0, .int .u32 0, .int .u32 0, .int .u32 0, .int .u32 0] : Array Value) = ic .u32 fl2 from rfl]
 refine s_go (s_eql_agg eqv70 (hg := eg70) (hX := zi_ic (by assumption)) (hY := zi_ic (by assumption)) (h1 := by assumption) (h2 := by assumption)) ?_
 try simp only [opv, n1, n2, n3, n4, Value.cells]
 try simp only [eq_self, decide_true, beq_self_eq_true, Bool.and_self]
 refine s_go (s_move) ?_
 try simp only [opv, n1, n2, n3, n4, Value.cells]
 refine g_on (yi (t := 8) rfl rfl) ?_
 first | refine s_go (m_fieldAddr Try.underlying72 (hi := ti65)) ?_ | refine s_go (m_fieldAddr_rd Try.underlying72 (hi := ti65) (hS := hS)) ?_ | refine s_go (m_fieldAddr_vec Try.underlying72 (hi := ti65) (hS := hS)) ?_
 try simp only [opv, n1, n2, n3, n4, Value.cells, Nat.zero_add, Nat.add_zero, List.getElem_toArray, List.getElem_cons_zero, List.getElem_cons_succ]
 refine g_on (yi (t := 8) rfl rfl) ?_
 refine s_go (m_load_obj Try.underlying65 (hS := hS) (hv := set_sl (by assumption) _)) ?_
 try simp only [opv, n1, n2, n3, n4, Value.cells, List.getElem_toArray, List.getElem_cons_zero, List.getElem_cons_succ]
 refine g_on (yi (t := 8) rfl rfl) ?_
 refine s_go (s_len_sl Try.underlying65) ?_
 try simp only [opv, n1, n2, n3, n4, Value.cells]
 refine g_on (yi (t := 8) rfl rfl) ?_
 refine s_go (s_eql) ?_
 try simp only [opv, n1, n2, n3, n4, Value.cells]
 try simp only [eq_self, decide_true, beq_self_eq_true, Bool.and_self]
 first | refine s_go (s_pick_t) ?_ | refine s_go (s_pick_f) ?_
 try simp only [opv, n1, n2, n3, n4, Value.cells]
 refine s_go (s_move) ?_
 try simp only [opv, n1, n2, n3, n4, Value.cells]
 refine g_on (yi (t := 14) rfl rfl) ?_
 refine s_go (m_load_row Try.underlying72 (hi := ti72) (hS := hS) (hfit := by rw [setC_size (by assumption)])) ?_
 try simp only [opv, n1, n2, n3, n4, Value.cells, List.getElem_toArray, List.getElem_cons_zero, List.getElem_cons_succ]
 refine g_on (yi (t := 14) rfl rfl) ?_
 refine m_buildRow (cells := #[_]) Try.underlying65 ti48 (hc := by simp only [List.map_toArray, List.map_cons, List.map_nil, opv, n1, n2, n3, n4, Value.cells, List.toList_toArray]; (repeat (refine fill_cons rfl rfl (Nat.le_of_ble_eq_true rfl) ?_)); rfl) (hS := hS) (h := fun w5 g5 hS => ?_)
 try simp only [opv, n1, n2, n3, n4, Value.cells, Array.toArray_toList] at hS ⊢
 replace hS := hS.obj_rd (sz := 1) (n := 1) rfl .head
 refine g_on (yi (t := 14) rfl rfl) ?_
 refine s_call en36 ?_
 try simp only [opv, n1, n2, n3, n4, Value.cells, List.map_toArray, List.map_cons, List.map_nil, List.append_toArray, List.cons_append, List.nil_append, Array.append_empty]
 refine CallR.mono (c_dotsAdd _ fl2 fl2_ok D e [4] (hS.vecRd (by repeat (first | exact Has.head | apply Has.tail))) (u_one (by decide)) _ _ [3] (hS.hasRd (by repeat (first | exact Has.head | apply Has.tail))) (u_one (by decide)) (by decide)) ?_
 rintro _ w6 ⟨D2, e2, rfl, hC6⟩
 replace hS := hS.call hC6
 simp only [List.cons_append, List.nil_append, List.append_nil] at hS ⊢
 rw [dal_2] at hS ⊢
 try simp only [opv, n1, n2, n3, n4, Value.cells]
 refine g_on (yi (t := 14) rfl rfl) ?_
 refine s_go (s_field_agg Try.underlying72 (hu := Try.underlying70) (hi := ti70)) ?_
 try simp only [opv, n1, n2, n3, n4, Value.cells, List.getElem_toArray, List.getElem_cons_zero, List.getElem_cons_succ]
 rw [set_ext (by assumption)]
 refine g_on (yi (t := 14) rfl rfl) ?_
 refine s_go (s_build_arr (cells := #[_, .int .u32 0, .int .u32 0, .int .u32 0, .int .u32 0, .int .u32 0, .int .u32 0, .int .u32 0, .int .u32 0, .int .u32 0, .int .u32 0, .int .u32 0, .int .u32 0, .int .u32 0, .int .u32 0, .int .u32 0]) Try.underlying70 ti70 ti29 (hc := by simp only [List.map_toArray, List.map_cons, List.map_nil, opv, n1, n2, n3, n4, Value.cells, List.toList_toArray]; (repeat (refine fill_cons rfl rfl (Nat.le_of_ble_eq_true rfl) ?_)); rfl)) ?_
 try simp only [opv, n1, n2, n3, n4, Value.cells]
 rw [show (#[.int .u32 4, .int .u32 0, .int .u32 0, .int .u32 0, .int .u32 0, .int .u32 0, .int .u32 0, .int .u32 0, .int .u32 0, .int .u32 0, .int .u32 0, .int .u32 0, .int .u32 0, .int .u32 0, .int .u32 0, .int .u32 0] : Array Value) = ic .u32 fl4 from rfl]
 refine g_on (yi (t := 14) rfl rfl) ?_
 refine s_go (s_eql_agg eqv70 (hg := eg70) (hX := zi_ic (by assumption)) (hY := zi_ic (by assumption)) (h1 := by assumption) (h2 := by assumption)) ?_
 try simp only [opv, n1, n2, n3, n4, Value.cells]
 try simp only [eq_self, decide_true, beq_self_eq_true, Bool.and_self]
 first | refine s_go (s_pick_t) ?_ | refine s_go (s_pick_f) ?_
 try simp only [opv, n1, n2, n3, n4, Value.cells]
 refine s_go (s_move) ?_
 try simp only [opv, n1, n2, n3, n4, Value.cells]
 refine g_on (yi (t := 22) rfl rfl) ?_
 refine s_go (m_load_row Try.underlying72 (hi := ti72) (hS := hS) (hfit := by rw [setC_size (by assumption)])) ?_
 try simp only [opv, n1, n2, n3, n4, Value.cells, List.getElem_toArray, List.getElem_cons_zero, List.getElem_cons_succ]
 refine g_on (yi (t := 22) rfl rfl) ?_
 refine s_call en42 ?_
 try simp only [opv, n1, n2, n3, n4, Value.cells, List.map_toArray, List.map_cons, List.map_nil, List.append_toArray, List.cons_append, List.nil_append, Array.append_empty]
 refine CallR.mono (c_dotsCount _ fl2 fl2_ok D e [4] (hS.vecRd (by repeat (first | exact Has.head | apply Has.tail))) (u_one (by decide)) (by decide)) ?_
 rintro _ w7 ⟨rfl, hE7⟩
 replace hS := hS.ext hE7
 try simp only [opv, n1, n2, n3, n4, Value.cells]
 rw [dal_3]
 refine g_on (yi (t := 22) rfl rfl) ?_
 refine s_go (s_eql) ?_
 try simp only [opv, n1, n2, n3, n4, Value.cells]
 try simp only [eq_self, decide_true, beq_self_eq_true, Bool.and_self]
 first | refine s_go (s_pick_t) ?_ | refine s_go (s_pick_f) ?_
 try simp only [opv, n1, n2, n3, n4, Value.cells]
 refine s_go (s_assign) ?_
 try simp only [opv, n1, n2, n3, n4, Value.cells]
 refine x_nil ?_
 refine hK3 _ _ ?_
 refine x_ret ?_
 refine r_tmp rfl ?_
 exact ⟨rfl, hS.ext_of⟩
end Go.Proofs.Ytffmanidnlbjjaa
set_option linter.unusedSimpArgs false
set_option linter.unusedVariables false
set_option maxHeartbeats 3000000
set_option maxRecDepth 100000
namespace Go.Proofs.Ytffmanidnlbjjaa
open Go.RowKit
theorem c_DotsAlone (w0 : World) (A : Option Addr) (c : Nat) (l : List Int) (hr : Rd w0 A 1 l.length (List.map (Value.int .u64) l)) (hu : U64s l) (B : Option Addr) (d : Nat) (r : List Int) (hr2 : Rd w0 B 1 r.length (List.map (Value.int .u64) r)) (hu2 : U64s r) (C : Option Addr) (e : Nat) (aq : List Int) (hr3 : Rd w0 C 1 aq.length (List.map (Value.int .u64) aq)) (hu3 : U64s aq)  :
    CallR Try.prog 7 #[.slice A l.length c, .slice B r.length d, .slice C aq.length e] w0 fun v w' => v = .bool true ∧ Ext w0 w' := by
 have hS := St.rd3 (S := NoB) hr hr2 hr3
 have h0l : (List.replicate 16 (0 : Int)).length = 16 := rfl
 obtain ⟨pa, hpa⟩ : ∃ z, addS (List.replicate 16 0) l = z := ⟨_, rfl⟩
 obtain ⟨pb, hpb⟩ : ∃ z, addS (List.replicate 16 0) r = z := ⟨_, rfl⟩
 obtain ⟨pj, hpj⟩ : ∃ z, joinS pa pb = z := ⟨_, rfl⟩
 have hna : NS pa.1 pa.2 := by rw [← hpa]; exact (add_nrm VOk.zero l).ns
 have hnb : NS pb.1 pb.2 := by rw [← hpb]; exact (add_nrm VOk.zero r).ns
 have hnj : NS pj.1 pj.2 := by rw [← hpj]; exact ns_join hna hnb
 have hau : U64s pa.2 := fun x hx => may_u64 (hna.may x hx)
 have hbu : U64s pb.2 := fun x hx => may_u64 (hnb.may x hx)
 have hju : U64s pj.2 := fun x hx => may_u64 (hnj.may x hx)
 have hal : pa.2.length ≤ l.length := by rw [← hpa]; exact (addS_ok VOk.zero l).2.2
 have hbl : pb.2.length ≤ r.length := by rw [← hpb]; exact (addS_ok VOk.zero r).2.2
 have hjl : pj.2.length ≤ pa.2.length + pb.2.length := by have h := (addS_ok (vok_join hna.vok hnb.vok) (pa.2 ++ pb.2)).2.2; rw [List.length_append] at h; rw [← hpj]; exact h
 have hal6 := hna.vok.len
 have hbl6 := hnb.vok.len
 have hjl6 := hnj.vok.len
 have haH : ∀ x, HasD pa.1 pa.2 x ↔ MayD x ∧ x ∈ l := by intro x; rw [← hpa, (add_nrm VOk.zero l).has, has_zero]
 have hjH : ∀ x, HasD pj.1 pj.2 x ↔ HasD pa.1 pa.2 x ∨ HasD pb.1 pb.2 x := by intro x; rw [← hpj, joinS, (add_nrm (vok_join hna.vok hnb.vok) _).has, has_join hna hnb]
 have hcj : cntS pj ≤ (l.length : Int) + (r.length : Int) := by rw [← hpj, ← hpa, ← hpb]; exact cnt_join
 have hstep : addS (List.replicate 16 0) (r.reverse ++ l) = pj := by rw [step_join, hpa, hpb, hpj]
 have hidj : addS pj.1 pj.2 = pj := ns_add hnj
 refine c_enter (l := [.slice A l.length c, .slice B r.length d, .slice C aq.length e, undef, undef, undef, undef, undef, undef, undef, undef, undef, undef, undef, undef, undef, undef, undef, undef, undef, undef, undef, undef, undef, undef, undef, undef, undef, undef, undef, undef, undef, undef, undef, undef, undef, undef, undef, undef, undef, undef, undef, undef, undef, undef, undef, undef, undef, undef, undef, undef, undef, undef, undef, undef, undef, undef, undef, undef, undef, undef, undef, undef, undef, undef, undef, undef, undef, undef, undef, undef, undef, undef, undef, undef, undef, undef, undef, undef, undef, undef, undef, undef, undef, undef, undef, undef, undef, undef, undef, undef, undef, undef, undef, undef, undef, undef, undef, undef, undef, undef, undef, undef, undef, undef, undef, undef, undef, undef, undef, undef, undef, undef, undef, undef, undef, undef, undef, undef, undef, undef, undef, undef, undef, undef, undef]) Try.func7 rfl (by simp only [Try.ntmps7, List.size_toArray, List.length_cons, List.length_nil, Nat.reduceAdd, Nat.reduceSub, Array.replicate_succ, Array.replicate_zero, List.push_toArray, List.append_toArray, List.nil_append, List.cons_append]) ?_
 refine x_seq fun K1 hK1 => ?_
 refine x_region ?_
 refine s_go (s_assign) ?_
 try simp only [opv, n1, n2, n3, n4, Value.cells]
 refine x_nil ?_
 refine hK1 _ _ ?_
 refine x_seq fun K2 hK2 => ?_
 refine x_seq fun K3 hK3 => ?_
 refine x_region ?_
 refine s_go (s_move) ?_
 try simp only [opv, n1, n2, n3, n4, Value.cells]
 refine s_go (s_len_sl Try.underlying65) ?_
 try simp only [opv, n1, n2, n3, n4, Value.cells]
 refine s_go (s_gtr) ?_
 try simp only [opv, n1, n2, n3, n4, Value.cells]
 refine s_go (s_move) ?_
 try simp only [opv, n1, n2, n3, n4, Value.cells]
 refine s_part 17 rfl (fun hp1 => ?_) (fun hp1 => ?_)
 ·
  try simp only [n3, n4]
  try simp only [decide_eq_true_eq, decide_eq_false_iff_not, Bool.not_eq_true', Bool.not_eq_false', Int.not_lt, Int.not_le, ne_eq, Decidable.not_not] at hp1
  first
  | (exfalso; omega)
  | skip
    refine g_off (yi (t := 17) rfl rfl) ?_
    try simp only [opv, n1, n2, n3, n4, Value.cells]
    refine g_off (yi (t := 17) rfl rfl) ?_
    try simp only [opv, n1, n2, n3, n4, Value.cells]
    refine g_off (yi (t := 17) rfl rfl) ?_
    try simp only [opv, n1, n2, n3, n4, Value.cells]
    first | refine s_go (s_pick_t) ?_ | refine s_go (s_pick_f) ?_
    try simp only [opv, n1, n2, n3, n4, Value.cells]
    refine s_go (s_move) ?_
    try simp only [opv, n1, n2, n3, n4, Value.cells]
    refine g_off (yi (t := 22) rfl rfl) ?_
    try simp only [opv, n1, n2, n3, n4, Value.cells]
    refine g_off (yi (t := 22) rfl rfl) ?_
    try simp only [opv, n1, n2, n3, n4, Value.cells]
    refine g_off (yi (t := 22) rfl rfl) ?_
    try simp only [opv, n1, n2, n3, n4, Value.cells]
    first | refine s_go (s_pick_t) ?_ | refine s_go (s_pick_f) ?_
    try simp only [opv, n1, n2, n3, n4, Value.cells]
    refine x_nil ?_
    refine hK3 _ _ ?_
    refine x_cond_t (h := ?_)
    refine x_seq fun K4 hK4 => ?_
    refine x_region ?_
    refine s_call en31 ?_
    try simp only [opv, n1, n2, n3, n4, Value.cells, List.map_toArray, List.map_cons, List.map_nil, List.append_toArray, List.cons_append, List.nil_append, Array.append_empty]
    refine CallR.mono (c_law13alive _) ?_
    rintro _ w1 ⟨rfl, hE1⟩
    replace hS := hS.ext hE1
    try simp only [opv, n1, n2, n3, n4, Value.cells]
    refine s_go (s_assign) ?_
    try simp only [opv, n1, n2, n3, n4, Value.cells]
    refine x_nil ?_
    refine hK4 _ _ ?_
    refine x_ret ?_
    refine r_tmp rfl ?_
    exact ⟨rfl, hS.ext_of⟩
 ·
  try simp only [n3, n4]
  try simp only [decide_eq_true_eq, decide_eq_false_iff_not, Bool.not_eq_true', Bool.not_eq_false', Int.not_lt, Int.not_le, ne_eq, Decidable.not_not] at hp1
  first
  | (exfalso; omega)
  | skip
    refine g_on (yi (t := 17) rfl rfl) ?_
    refine s_go (s_move) ?_
    try simp only [opv, n1, n2, n3, n4, Value.cells]
    refine g_on (yi (t := 17) rfl rfl) ?_
    refine s_go (s_len_sl Try.underlying65) ?_
    try simp only [opv, n1, n2, n3, n4, Value.cells]
    refine g_on (yi (t := 17) rfl rfl) ?_
    refine s_go (s_gtr) ?_
    try simp only [opv, n1, n2, n3, n4, Value.cells]
    first | refine s_go (s_pick_t) ?_ | refine s_go (s_pick_f) ?_
    try simp only [opv, n1, n2, n3, n4, Value.cells]
    refine s_go (s_move) ?_
    try simp only [opv, n1, n2, n3, n4, Value.cells]
    refine s_part 22 rfl (fun hp2 => ?_) (fun hp2 => ?_)
    ·
     try simp only [n3, n4]
     try simp only [decide_eq_true_eq, decide_eq_false_iff_not, Bool.not_eq_true', Bool.not_eq_false', Int.not_lt, Int.not_le, ne_eq, Decidable.not_not] at hp2
     first
     | (exfalso; omega)
     | skip
       refine g_off (yi (t := 22) rfl rfl) ?_
       try simp only [opv, n1, n2, n3, n4, Value.cells]
       refine g_off (yi (t := 22) rfl rfl) ?_
       try simp only [opv, n1, n2, n3, n4, Value.cells]
       refine g_off (yi (t := 22) rfl rfl) ?_
       try simp only [opv, n1, n2, n3, n4, Value.cells]
       first | refine s_go (s_pick_t) ?_ | refine s_go (s_pick_f) ?_
       try simp only [opv, n1, n2, n3, n4, Value.cells]
       refine x_nil ?_
       refine hK3 _ _ ?_
       refine x_cond_t (h := ?_)
       refine x_seq fun K5 hK5 => ?_
       refine x_region ?_
       refine s_call en31 ?_
       try simp only [opv, n1, n2, n3, n4, Value.cells, List.map_toArray, List.map_cons, List.map_nil, List.append_toArray, List.cons_append, List.nil_append, Array.append_empty]
       refine CallR.mono (c_law13alive _) ?_
       rintro _ w2 ⟨rfl, hE2⟩
       replace hS := hS.ext hE2
       try simp only [opv, n1, n2, n3, n4, Value.cells]
       refine s_go (s_assign) ?_
       try simp only [opv, n1, n2, n3, n4, Value.cells]
       refine x_nil ?_
       refine hK5 _ _ ?_
       refine x_ret ?_
       refine r_tmp rfl ?_
       exact ⟨rfl, hS.ext_of⟩
    ·
     try simp only [n3, n4]
     try simp only [decide_eq_true_eq, decide_eq_false_iff_not, Bool.not_eq_true', Bool.not_eq_false', Int.not_lt, Int.not_le, ne_eq, Decidable.not_not] at hp2
     first
     | (exfalso; omega)
     | skip
       refine g_on (yi (t := 22) rfl rfl) ?_
       refine s_go (s_move) ?_
       try simp only [opv, n1, n2, n3, n4, Value.cells]
       refine g_on (yi (t := 22) rfl rfl) ?_
       refine s_go (s_len_sl Try.underlying65) ?_
       try simp only [opv, n1, n2, n3, n4, Value.cells]
       refine g_on (yi (t := 22) rfl rfl) ?_
       refine s_go (s_gtr) ?_
       try simp only [opv, n1, n2, n3, n4, Value.cells]
       first | refine s_go (s_pick_t) ?_ | refine s_go (s_pick_f) ?_
       try simp only [opv, n1, n2, n3, n4, Value.cells]
       refine x_nil ?_
       refine hK3 _ _ ?_
       refine x_cond (ht := fun hc3 => ?_) (hf := fun hc3 => ?_)
       ·
        try simp only [decide_eq_true_eq, decide_eq_false_iff_not, Bool.not_eq_true', Bool.not_eq_false', Int.not_lt, Int.not_le, ne_eq, Decidable.not_not, bne_iff_ne, beq_iff_eq, not_true_eq_false, not_false_eq_true] at hc3
        first
        | (exfalso; omega)
        | skip
          refine x_seq fun K6 hK6 => ?_
          refine x_region ?_
          refine s_call en31 ?_
          try simp only [opv, n1, n2, n3, n4, Value.cells, List.map_toArray, List.map_cons, List.map_nil, List.append_toArray, List.cons_append, List.nil_append, Array.append_empty]
          refine CallR.mono (c_law13alive _) ?_
          rintro _ w3 ⟨rfl, hE3⟩
          replace hS := hS.ext hE3
          try simp only [opv, n1, n2, n3, n4, Value.cells]
          refine s_go (s_assign) ?_
          try simp only [opv, n1, n2, n3, n4, Value.cells]
          refine x_nil ?_
          refine hK6 _ _ ?_
          refine x_ret ?_
          refine r_tmp rfl ?_
          exact ⟨rfl, hS.ext_of⟩
       ·
        try simp only [decide_eq_true_eq, decide_eq_false_iff_not, Bool.not_eq_true', Bool.not_eq_false', Int.not_lt, Int.not_le, ne_eq, Decidable.not_not, bne_iff_ne, beq_iff_eq, not_true_eq_false, not_false_eq_true] at hc3
        first
        | (exfalso; omega)
        | skip
          have hln : l.length ≤ 40 := by omega
          have hln2 : r.length ≤ 40 := by omega
          have hln3 : aq.length ≤ 60 := by omega
          refine x_skip ?_
          refine hK2 _ _ ?_
          refine x_seq fun K7 hK7 => ?_
          refine x_region ?_
          refine s_go (s_move) ?_
          try simp only [opv, n1, n2, n3, n4, Value.cells]
          refine s_call en34 ?_
          try simp only [opv, n1, n2, n3, n4, Value.cells, List.map_toArray, List.map_cons, List.map_nil, List.append_toArray, List.cons_append, List.nil_append, Array.append_empty]
          refine CallR.mono (c_dotsOf _ A c l (hS.hasRd (by repeat (first | exact Has.head | apply Has.tail))) hu (by omega)) ?_
          rintro _ w4 ⟨Da, ea, rfl, hC4⟩
          replace hS := hS.call hC4
          simp only [List.cons_append, List.nil_append, List.append_nil] at hS ⊢
          rw [hpa] at hS ⊢
          try simp only [opv, n1, n2, n3, n4, Value.cells]
          refine s_go (s_move) ?_
          try simp only [opv, n1, n2, n3, n4, Value.cells]
          refine s_call en34 ?_
          try simp only [opv, n1, n2, n3, n4, Value.cells, List.map_toArray, List.map_cons, List.map_nil, List.append_toArray, List.cons_append, List.nil_append, Array.append_empty]
          refine CallR.mono (c_dotsOf _ B d r (hS.hasRd (by repeat (first | exact Has.head | apply Has.tail))) hu2 (by omega)) ?_
          rintro _ w5 ⟨Db, eb, rfl, hC5⟩
          replace hS := hS.call hC5
          simp only [List.cons_append, List.nil_append, List.append_nil] at hS ⊢
          rw [hpb] at hS ⊢
          try simp only [opv, n1, n2, n3, n4, Value.cells]
          refine m_alloc ti72 hS (fun w6 g6 hS => ?_)
          try simp only [opv, n1, n2, n3, n4, Value.cells, Array.toArray_toList] at hS ⊢
          replace hS : St NoB w0 w6 (.obj g6 (.cells (SetC (List.replicate 16 0) (.slice none 0 0)) 72 (0, 0)) :: _) := hS
          obtain ⟨ga, hga⟩ : ∃ z, z = g6 := ⟨_, rfl⟩
          rw [← hga] at hS ⊢
          refine m_alloc ti72 hS (fun w7 g7 hS => ?_)
          try simp only [opv, n1, n2, n3, n4, Value.cells, Array.toArray_toList] at hS ⊢
          replace hS : St NoB w0 w7 (.obj g7 (.cells (SetC (List.replicate 16 0) (.slice none 0 0)) 72 (0, 0)) :: _) := hS
          obtain ⟨gb, hgb⟩ : ∃ z, z = g7 := ⟨_, rfl⟩
          rw [← hgb] at hS ⊢
          refine m_store_obj ti72 (hS := hS) (hv := setC_size hal6 _) (h1 := set_one _ _ _ _) (hfit := by rw [setC_size h0l]; omega) (hc := set_whole h0l hal6 _ _) (h := fun w8 hS => ?_)
          try simp only [opv, n1, n2, n3, n4, Value.cells, Array.toArray_toList] at hS ⊢
          refine m_store_obj ti72 (hS := hS) (hv := setC_size hbl6 _) (h1 := set_one _ _ _ _) (hfit := by rw [setC_size h0l]; omega) (hc := set_whole h0l hbl6 _ _) (h := fun w9 hS => ?_)
          try simp only [opv, n1, n2, n3, n4, Value.cells, Array.toArray_toList] at hS ⊢
          refine x_nil ?_
          refine hK7 _ _ ?_
          refine x_seq fun K8 hK8 => ?_
          refine x_region ?_
          refine s_go (m_load_row Try.underlying72 (hi := ti72) (hS := hS) (hfit := by rw [setC_size hal6])) ?_
          try simp only [opv, n1, n2, n3, n4, Value.cells, List.getElem_toArray, List.getElem_cons_zero, List.getElem_cons_succ]
          refine s_go (m_load_row Try.underlying72 (hi := ti72) (hS := hS) (hfit := by rw [setC_size hbl6])) ?_
          try simp only [opv, n1, n2, n3, n4, Value.cells, List.getElem_toArray, List.getElem_cons_zero, List.getElem_cons_succ]
          refine s_call en44 ?_
          try simp only [opv, n1, n2, n3, n4, Value.cells, List.map_toArray, List.map_cons, List.map_nil, List.append_toArray, List.cons_append, List.nil_append, Array.append_empty]
          refine CallR.mono (c_dotsJoin _ pa.1 pb.1 hna.vok hnb.vok Da ea pa.2 (hS.vecRd (A := Da) (n := pa.2.length) (by repeat (first | exact Has.head | apply Has.tail))) hau Db eb pb.2 (hS.vecRd (A := Db) (n := pb.2.length) (by repeat (first | exact Has.head | apply Has.tail))) hbu (by omega)) ?_
          rintro _ w10 ⟨Dj, ej, rfl, hC10⟩
          replace hS := hS.call hC10
          simp only [List.cons_append, List.nil_append, List.append_nil] at hS ⊢
          rw [show joinS (pa.1, pa.2) (pb.1, pb.2) = pj from hpj] at hS ⊢
          try simp only [opv, n1, n2, n3, n4, Value.cells]
          refine m_alloc ti72 hS (fun w11 g11 hS => ?_)
          try simp only [opv, n1, n2, n3, n4, Value.cells, Array.toArray_toList] at hS ⊢
          replace hS : St NoB w0 w11 (.obj g11 (.cells (SetC (List.replicate 16 0) (.slice none 0 0)) 72 (0, 0)) :: _) := hS
          obtain ⟨gj, hgj⟩ : ∃ z, z = g11 := ⟨_, rfl⟩
          rw [← hgj] at hS ⊢
          refine m_store_obj ti72 (hS := hS) (hv := setC_size hjl6 _) (h1 := set_one _ _ _ _) (hfit := by rw [setC_size h0l]; omega) (hc := set_whole h0l hjl6 _ _) (h := fun w12 hS => ?_)
          try simp only [opv, n1, n2, n3, n4, Value.cells, Array.toArray_toList] at hS ⊢
          refine x_nil ?_
          refine hK8 _ _ ?_
          refine x_seq fun K9 hK9 => ?_
          refine x_seq fun K10 hK10 => ?_
          refine x_region ?_
          refine s_go (s_assign) ?_
          try simp only [opv, n1, n2, n3, n4, Value.cells]
          refine x_nil ?_
          refine hK10 _ _ ?_
          refine x_block ?_
          refine x_loop [6, 10, 35, 36, 37, 38, 39, 40, 41, 42, 43, 44, 45, 46, 47, 48, 49, 50, 51, 52, 53, 54, 55, 56, 57, 58, 59, 60, 61] (fun m f w => ∃ k : Nat, k ≤ aq.length ∧ m = aq.length - k ∧ f 10 = .int .i64 (k : Int) ∧ St NoB w0 w [.obj ga (.cells (SetC pa.1 (.slice Da pa.2.length ea)) 72 (0, 0)), .vec Da ea 48 1 pa.2.length (List.map (Value.int .u64) pa.2), .obj gb (.cells (SetC pb.1 (.slice Db pb.2.length eb)) 72 (0, 0)), .vec Db eb 48 1 pb.2.length (List.map (Value.int .u64) pb.2), .obj gj (.cells (SetC pj.1 (.slice Dj pj.2.length ej)) 72 (0, 0)), .vec Dj ej 48 1 pj.2.length (List.map (Value.int .u64) pj.2), .rd A 1 l.length (List.map (Value.int .u64) l), .rd B 1 r.length (List.map (Value.int .u64) r), .rd C 1 aq.length (List.map (Value.int .u64) aq)]) (aq.length) ?init1 (fun m1 f1 wl1 hI => ?_)
          case init1 =>
           try simp only [opv, n1, n2, n3, n4, Value.cells]
           exact ⟨0, by omega, rfl, rfl, hS.sel (by repeat (first | exact Sel.nil | (refine Sel.cons (by repeat (first | exact Del.head | apply Del.tail)) ?_)))⟩
          obtain ⟨k, hk, hmk, h10, hS⟩ := hI
          simp only [clob, List.foldl, n3, n4, h10]
          refine x_seq fun K11 hK11 => ?_
          refine x_seq fun K12 hK12 => ?_
          refine x_region ?_
          refine s_go (s_move) ?_
          try simp only [opv, n1, n2, n3, n4, Value.cells]
          refine s_go (s_move) ?_
          try simp only [opv, n1, n2, n3, n4, Value.cells]
          refine s_go (s_len_sl Try.underlying65) ?_
          try simp only [opv, n1, n2, n3, n4, Value.cells]
          refine s_go (s_lss) ?_
          try simp only [opv, n1, n2, n3, n4, Value.cells]
          refine x_nil ?_
          refine hK12 _ _ ?_
          refine x_cond (ht := fun hc4 => ?_) (hf := fun hc4 => ?_)
          ·
           try simp only [decide_eq_true_eq, decide_eq_false_iff_not, Bool.not_eq_true', Bool.not_eq_false', Int.not_lt, Int.not_le, ne_eq, Decidable.not_not, bne_iff_ne, beq_iff_eq, not_true_eq_false, not_false_eq_true] at hc4
           first
           | (exfalso; omega)
           | skip
             have hxr := hu3.get (k := k) (by omega)
             obtain ⟨q, hq⟩ : ∃ q : Nat, aq.getD (k) 0 = (q : Int) := ⟨(aq.getD (k) 0).toNat, by omega⟩
             rw [hq] at hxr
             refine x_skip ?_
             refine hK11 _ _ ?_
             refine x_seq fun K13 hK13 => ?_
             refine x_block ?_
             refine x_seq fun K14 hK14 => ?_
             refine x_quiet (by kernel_rfl) (by kernel_rfl) hS ?_
             refine q_go (fun w hS => m_load_row Try.underlying72 (hi := ti72) (hS := hS) (hfit := by rw [setC_size hjl6])) ?_
             try simp only [opv, n1, n2, n3, n4, Value.cells, List.getElem_toArray, List.getElem_cons_zero, List.getElem_cons_succ]
             refine q_go (fun w hS => s_move) ?_
             try simp only [opv, n1, n2, n3, n4, Value.cells]
             refine q_go (fun w hS => s_move) ?_
             try simp only [opv, n1, n2, n3, n4, Value.cells]
             first | refine q_go (fun w hS => m_indexAddr_rd Try.underlying65 ti48 (hS := hS)) ?_ | refine q_go (fun w hS => m_indexAddr_vec Try.underlying65 ti48 (hS := hS)) ?_
             try simp only [opv, n1, n2, n3, n4, Value.cells, Nat.mul_one, Nat.zero_add, Int.toNat_natCast, Int.reduceToNat]
             first | refine q_go (fun w hS => m_load_obj Try.underlying48 (hS := hS)) ?_ | refine q_go (fun w hS => m_load_bx Try.underlying48 (hS := hS)) ?_ | refine q_go (fun w hS => m_load_rd Try.underlying48 (hS := hS)) ?_ | refine q_go (fun w hS => m_load_vec Try.underlying48 (hS := hS)) ?_
             try simp only [opv, n1, n2, n3, n4, Value.cells, List.getElem_toArray, List.getElem_cons_zero, List.getElem_cons_succ]
             rw [hq]
             apply q_call en40
             case H =>
               intro w hS
               try simp only [opv, n1, n2, n3, n4, List.map_toArray, List.map_cons, List.map_nil, List.append_toArray, List.cons_append, List.nil_append, Array.append_empty]
               refine CallR.mono (c_dotsHas _ pj.1 hnj.vok Dj ej pj.2 (hS.vecRd (A := Dj) (n := pj.2.length) (by repeat (first | exact Has.head | apply Has.tail))) hju (by omega) q (by omega)) ?_
               rintro _ w1 ⟨rfl, hE⟩; exact ⟨rfl, hS.ext hE⟩
             try simp only [opv, n1, n2, n3, n4, Value.cells]
             refine q_go (fun w hS => m_load_row Try.underlying72 (hi := ti72) (hS := hS) (hfit := by rw [setC_size hal6])) ?_
             try simp only [opv, n1, n2, n3, n4, Value.cells, List.getElem_toArray, List.getElem_cons_zero, List.getElem_cons_succ]
             refine q_go (fun w hS => s_move) ?_
             try simp only [opv, n1, n2, n3, n4, Value.cells]
             refine q_go (fun w hS => s_move) ?_
             try simp only [opv, n1, n2, n3, n4, Value.cells]
             first | refine q_go (fun w hS => m_indexAddr_rd Try.underlying65 ti48 (hS := hS)) ?_ | refine q_go (fun w hS => m_indexAddr_vec Try.underlying65 ti48 (hS := hS)) ?_
             try simp only [opv, n1, n2, n3, n4, Value.cells, Nat.mul_one, Nat.zero_add, Int.toNat_natCast, Int.reduceToNat]
             first | refine q_go (fun w hS => m_load_obj Try.underlying48 (hS := hS)) ?_ | refine q_go (fun w hS => m_load_bx Try.underlying48 (hS := hS)) ?_ | refine q_go (fun w hS => m_load_rd Try.underlying48 (hS := hS)) ?_ | refine q_go (fun w hS => m_load_vec Try.underlying48 (hS := hS)) ?_
             try simp only [opv, n1, n2, n3, n4, Value.cells, List.getElem_toArray, List.getElem_cons_zero, List.getElem_cons_succ]
             rw [hq]
             apply q_call en40
             case H =>
               intro w hS
               try simp only [opv, n1, n2, n3, n4, List.map_toArray, List.map_cons, List.map_nil, List.append_toArray, List.cons_append, List.nil_append, Array.append_empty]
               refine CallR.mono (c_dotsHas _ pa.1 hna.vok Da ea pa.2 (hS.vecRd (A := Da) (n := pa.2.length) (by repeat (first | exact Has.head | apply Has.tail))) hau (by omega) q (by omega)) ?_
               rintro _ w1 ⟨rfl, hE⟩; exact ⟨rfl, hS.ext hE⟩
             try simp only [opv, n1, n2, n3, n4, Value.cells]
             refine q_go (fun w hS => s_move) ?_
             try simp only [opv, n1, n2, n3, n4, Value.cells]
             refine q_part 53 rfl (fun hp3 => ?_) (fun hp3 => ?_)
             ·
              try simp only [n3, n4]
              try simp only [decide_eq_true_eq, decide_eq_false_iff_not, Bool.not_eq_true', Bool.not_eq_false', Int.not_lt, Int.not_le, ne_eq, Decidable.not_not] at hp3
              first
              | (exfalso; omega)
              | skip
                have hjt : HasD pj.1 pj.2 (q : Int) := (hjH _).2 (.inl (by simpa using hp3))
                refine q_off (yi (t := 53) rfl rfl) ?_
                try simp only [opv, n1, n2, n3, n4, Value.cells]
                refine q_off (yi (t := 53) rfl rfl) ?_
                try simp only [opv, n1, n2, n3, n4, Value.cells]
                refine q_off (yi (t := 53) rfl rfl) ?_
                try simp only [opv, n1, n2, n3, n4, Value.cells]
                refine q_off (yi (t := 53) rfl rfl) ?_
                try simp only [opv, n1, n2, n3, n4, Value.cells]
                refine q_off (yi (t := 53) rfl rfl) ?_
                try simp only [opv, n1, n2, n3, n4, Value.cells]
                refine q_off (yi (t := 53) rfl rfl) ?_
                try simp only [opv, n1, n2, n3, n4, Value.cells]
                first | refine q_go (fun w hS => s_pick_t) ?_ | refine q_go (fun w hS => s_pick_f) ?_
                try simp only [opv, n1, n2, n3, n4, Value.cells]
                refine q_go (fun w hS => s_neq_bool Try.underlying4) ?_
                try simp only [opv, n1, n2, n3, n4, Value.cells]
                first | rw [show (!(decide (HasD pj.1 pj.2 (q : Int)) == true)) = false by rw [decide_eq_true hjt]; rfl] | rw [show (!(decide (HasD pj.1 pj.2 (q : Int)) == decide (HasD pb.1 pb.2 (q : Int)))) = false by rw [hjf, beq_self_eq_true]; rfl]
                clear hS
                refine q_nil fun w13 hS => ?_
                refine hK14 _ _ ?_
                refine x_cond_f (h := ?_)
                refine x_skip ?_
                refine hK13 _ _ ?_
                refine x_region ?_
                refine s_go (s_move) ?_
                try simp only [opv, n1, n2, n3, n4, Value.cells]
                refine s_go (s_add (hc := by first | exact wr_i64 (by omega) (by omega) | rfl)) ?_
                try simp only [opv, n1, n2, n3, n4, Value.cells]
                refine s_go (s_assign) ?_
                try simp only [opv, n1, n2, n3, n4, Value.cells]
                refine x_nil ?_
                refine loop_back (m' := aq.length - (k + 1)) (by simp only [clob, List.foldl, n1, n2, n3, n4]) ?_ ?_
                · try simp only [opv, n1, n2, n3, n4, Value.cells]
                  exact ⟨k + 1, by omega, by omega, by rfl, hS.sel (by repeat (first | exact Sel.nil | (refine Sel.cons (by repeat (first | exact Del.head | apply Del.tail)) ?_)))⟩
                · omega
             ·
              try simp only [n3, n4]
              try simp only [decide_eq_true_eq, decide_eq_false_iff_not, Bool.not_eq_true', Bool.not_eq_false', Int.not_lt, Int.not_le, ne_eq, Decidable.not_not] at hp3
              first
              | (exfalso; omega)
              | skip
                have hna2 : ¬ HasD pa.1 pa.2 (q : Int) := by simpa using hp3
                have hjf : decide (HasD pj.1 pj.2 (q : Int)) = decide (HasD pb.1 pb.2 (q : Int)) := decide_eq_decide.2 ((hjH _).trans ⟨fun h => h.resolve_left hna2, .inr⟩)
                refine q_on (yi (t := 53) rfl rfl) ?_
                refine q_go (fun w hS => m_load_row Try.underlying72 (hi := ti72) (hS := hS) (hfit := by rw [setC_size hbl6])) ?_
                try simp only [opv, n1, n2, n3, n4, Value.cells, List.getElem_toArray, List.getElem_cons_zero, List.getElem_cons_succ]
                refine q_on (yi (t := 53) rfl rfl) ?_
                refine q_go (fun w hS => s_move) ?_
                try simp only [opv, n1, n2, n3, n4, Value.cells]
                refine q_on (yi (t := 53) rfl rfl) ?_
                refine q_go (fun w hS => s_move) ?_
                try simp only [opv, n1, n2, n3, n4, Value.cells]
                refine q_on (yi (t := 53) rfl rfl) ?_
                first | refine q_go (fun w hS => m_indexAddr_rd Try.underlying65 ti48 (hS := hS)) ?_ | refine q_go (fun w hS => m_indexAddr_vec Try.underlying65 ti48 (hS := hS)) ?_
                try simp only [opv, n1, n2, n3, n4, Value.cells, Nat.mul_one, Nat.zero_add, Int.toNat_natCast, Int.reduceToNat]
                refine q_on (yi (t := 53) rfl rfl) ?_
                first | refine q_go (fun w hS => m_load_obj Try.underlying48 (hS := hS)) ?_ | refine q_go (fun w hS => m_load_bx Try.underlying48 (hS := hS)) ?_ | refine q_go (fun w hS => m_load_rd Try.underlying48 (hS := hS)) ?_ | refine q_go (fun w hS => m_load_vec Try.underlying48 (hS := hS)) ?_
                try simp only [opv, n1, n2, n3, n4, Value.cells, List.getElem_toArray, List.getElem_cons_zero, List.getElem_cons_succ]
                rw [hq]
                refine q_on (yi (t := 53) rfl rfl) ?_
                apply q_call en40
                case H =>
                  intro w hS
                  try simp only [opv, n1, n2, n3, n4, List.map_toArray, List.map_cons, List.map_nil, List.append_toArray, List.cons_append, List.nil_append, Array.append_empty]
                  refine CallR.mono (c_dotsHas _ pb.1 hnb.vok Db eb pb.2 (hS.vecRd (A := Db) (n := pb.2.length) (by repeat (first | exact Has.head | apply Has.tail))) hbu (by omega) q (by omega)) ?_
                  rintro _ w1 ⟨rfl, hE⟩; exact ⟨rfl, hS.ext hE⟩
                try simp only [opv, n1, n2, n3, n4, Value.cells]
                first | refine q_go (fun w hS => s_pick_t) ?_ | refine q_go (fun w hS => s_pick_f) ?_
                try simp only [opv, n1, n2, n3, n4, Value.cells]
                refine q_go (fun w hS => s_neq_bool Try.underlying4) ?_
                try simp only [opv, n1, n2, n3, n4, Value.cells]
                first | rw [show (!(decide (HasD pj.1 pj.2 (q : Int)) == true)) = false by rw [decide_eq_true hjt]; rfl] | rw [show (!(decide (HasD pj.1 pj.2 (q : Int)) == decide (HasD pb.1 pb.2 (q : Int)))) = false by rw [hjf, beq_self_eq_true]; rfl]
                clear hS
                refine q_nil fun w14 hS => ?_
                refine hK14 _ _ ?_
                refine x_cond_f (h := ?_)
                refine x_skip ?_
                refine hK13 _ _ ?_
                refine x_region ?_
                refine s_go (s_move) ?_
                try simp only [opv, n1, n2, n3, n4, Value.cells]
                refine s_go (s_add (hc := by first | exact wr_i64 (by omega) (by omega) | rfl)) ?_
                try simp only [opv, n1, n2, n3, n4, Value.cells]
                refine s_go (s_assign) ?_
                try simp only [opv, n1, n2, n3, n4, Value.cells]
                refine x_nil ?_
                refine loop_back (m' := aq.length - (k + 1)) (by simp only [clob, List.foldl, n1, n2, n3, n4]) ?_ ?_
                · try simp only [opv, n1, n2, n3, n4, Value.cells]
                  exact ⟨k + 1, by omega, by omega, by rfl, hS.sel (by repeat (first | exact Sel.nil | (refine Sel.cons (by repeat (first | exact Del.head | apply Del.tail)) ?_)))⟩
                · omega
          ·
           try simp only [decide_eq_true_eq, decide_eq_false_iff_not, Bool.not_eq_true', Bool.not_eq_false', Int.not_lt, Int.not_le, ne_eq, Decidable.not_not, bne_iff_ne, beq_iff_eq, not_true_eq_false, not_false_eq_true] at hc4
           first
           | (exfalso; omega)
           | skip
             refine x_exit (look_here ?_)
             refine hK9 _ _ ?_
             refine x_seq fun K15 hK15 => ?_
             refine x_seq fun K16 hK16 => ?_
             refine x_region ?_
             refine s_go (s_assign) ?_
             try simp only [opv, n1, n2, n3, n4, Value.cells]
             refine x_nil ?_
             refine hK16 _ _ ?_
             refine x_block ?_
             refine x_loop [6, 11, 62, 63, 64, 65, 66, 67, 68, 69, 70, 71, 72, 73, 74, 75, 76, 77, 78, 79] (fun m f w => ∃ k : Nat, k ≤ l.length ∧ m = l.length - k ∧ f 11 = .int .i64 (k : Int) ∧ St NoB w0 w [.obj ga (.cells (SetC pa.1 (.slice Da pa.2.length ea)) 72 (0, 0)), .vec Da ea 48 1 pa.2.length (List.map (Value.int .u64) pa.2), .obj gb (.cells (SetC pb.1 (.slice Db pb.2.length eb)) 72 (0, 0)), .vec Db eb 48 1 pb.2.length (List.map (Value.int .u64) pb.2), .obj gj (.cells (SetC pj.1 (.slice Dj pj.2.length ej)) 72 (0, 0)), .vec Dj ej 48 1 pj.2.length (List.map (Value.int .u64) pj.2), .rd A 1 l.length (List.map (Value.int .u64) l), .rd B 1 r.length (List.map (Value.int .u64) r), .rd C 1 aq.length (List.map (Value.int .u64) aq)]) (l.length) ?init2 (fun m2 f2 wl2 hI => ?_)
             case init2 =>
              try simp only [opv, n1, n2, n3, n4, Value.cells]
              exact ⟨0, by omega, rfl, rfl, hS.sel (by repeat (first | exact Sel.nil | (refine Sel.cons (by repeat (first | exact Del.head | apply Del.tail)) ?_)))⟩
             obtain ⟨k, hk, hmk, h11, hS⟩ := hI
             simp only [clob, List.foldl, n3, n4, h11]
             refine x_seq fun K17 hK17 => ?_
             refine x_seq fun K18 hK18 => ?_
             refine x_region ?_
             refine s_go (s_move) ?_
             try simp only [opv, n1, n2, n3, n4, Value.cells]
             refine s_go (s_move) ?_
             try simp only [opv, n1, n2, n3, n4, Value.cells]
             refine s_go (s_len_sl Try.underlying65) ?_
             try simp only [opv, n1, n2, n3, n4, Value.cells]
             refine s_go (s_lss) ?_
             try simp only [opv, n1, n2, n3, n4, Value.cells]
             refine x_nil ?_
             refine hK18 _ _ ?_
             refine x_cond (ht := fun hc7 => ?_) (hf := fun hc7 => ?_)
             ·
              try simp only [decide_eq_true_eq, decide_eq_false_iff_not, Bool.not_eq_true', Bool.not_eq_false', Int.not_lt, Int.not_le, ne_eq, Decidable.not_not, bne_iff_ne, beq_iff_eq, not_true_eq_false, not_false_eq_true] at hc7
              first
              | (exfalso; omega)
              | skip
                have hxr := hu.get (k := k) (by omega)
                obtain ⟨q, hq⟩ : ∃ q : Nat, l.getD (k) 0 = (q : Int) := ⟨(l.getD (k) 0).toNat, by omega⟩
                rw [hq] at hxr
                have hqm : (q : Int) ∈ l := by rw [← hq]; exact getD_mem' (by omega)
                have hdm : decide (HasD pa.1 pa.2 (q : Int)) = decide (MayD (q : Int)) := decide_eq_decide.2 ((haH _).trans ⟨fun h => h.1, fun h => ⟨h, hqm⟩⟩)
                refine x_skip ?_
                refine hK17 _ _ ?_
                refine x_seq fun K19 hK19 => ?_
                refine x_block ?_
                refine x_seq fun K20 hK20 => ?_
                refine x_quiet (by kernel_rfl) (by kernel_rfl) hS ?_
                refine q_go (fun w hS => m_load_row Try.underlying72 (hi := ti72) (hS := hS) (hfit := by rw [setC_size hal6])) ?_
                try simp only [opv, n1, n2, n3, n4, Value.cells, List.getElem_toArray, List.getElem_cons_zero, List.getElem_cons_succ]
                refine q_go (fun w hS => s_move) ?_
                try simp only [opv, n1, n2, n3, n4, Value.cells]
                refine q_go (fun w hS => s_move) ?_
                try simp only [opv, n1, n2, n3, n4, Value.cells]
                first | refine q_go (fun w hS => m_indexAddr_rd Try.underlying65 ti48 (hS := hS)) ?_ | refine q_go (fun w hS => m_indexAddr_vec Try.underlying65 ti48 (hS := hS)) ?_
                try simp only [opv, n1, n2, n3, n4, Value.cells, Nat.mul_one, Nat.zero_add, Int.toNat_natCast, Int.reduceToNat]
                first | refine q_go (fun w hS => m_load_obj Try.underlying48 (hS := hS)) ?_ | refine q_go (fun w hS => m_load_bx Try.underlying48 (hS := hS)) ?_ | refine q_go (fun w hS => m_load_rd Try.underlying48 (hS := hS)) ?_ | refine q_go (fun w hS => m_load_vec Try.underlying48 (hS := hS)) ?_
                try simp only [opv, n1, n2, n3, n4, Value.cells, List.getElem_toArray, List.getElem_cons_zero, List.getElem_cons_succ]
                rw [hq]
                apply q_call en40
                case H =>
                  intro w hS
                  try simp only [opv, n1, n2, n3, n4, List.map_toArray, List.map_cons, List.map_nil, List.append_toArray, List.cons_append, List.nil_append, Array.append_empty]
                  refine CallR.mono (c_dotsHas _ pa.1 hna.vok Da ea pa.2 (hS.vecRd (A := Da) (n := pa.2.length) (by repeat (first | exact Has.head | apply Has.tail))) hau (by omega) q (by omega)) ?_
                  rintro _ w1 ⟨rfl, hE⟩; exact ⟨rfl, hS.ext hE⟩
                try simp only [opv, n1, n2, n3, n4, Value.cells]
                refine q_go (fun w hS => s_move) ?_
                try simp only [opv, n1, n2, n3, n4, Value.cells]
                refine q_go (fun w hS => s_move) ?_
                try simp only [opv, n1, n2, n3, n4, Value.cells]
                first | refine q_go (fun w hS => m_indexAddr_rd Try.underlying65 ti48 (hS := hS)) ?_ | refine q_go (fun w hS => m_indexAddr_vec Try.underlying65 ti48 (hS := hS)) ?_
                try simp only [opv, n1, n2, n3, n4, Value.cells, Nat.mul_one, Nat.zero_add, Int.toNat_natCast, Int.reduceToNat]
                first | refine q_go (fun w hS => m_load_obj Try.underlying48 (hS := hS)) ?_ | refine q_go (fun w hS => m_load_bx Try.underlying48 (hS := hS)) ?_ | refine q_go (fun w hS => m_load_rd Try.underlying48 (hS := hS)) ?_ | refine q_go (fun w hS => m_load_vec Try.underlying48 (hS := hS)) ?_
                try simp only [opv, n1, n2, n3, n4, Value.cells, List.getElem_toArray, List.getElem_cons_zero, List.getElem_cons_succ]
                rw [hq]
                apply q_call en45
                case H =>
                  intro w hS
                  try simp only [opv, n1, n2, n3, n4, List.map_toArray, List.map_cons, List.map_nil, List.append_toArray, List.cons_append, List.nil_append, Array.append_empty]
                  refine CallR.mono (c_ref13May q (by omega) _) ?_
                  rintro _ w1 ⟨rfl, hE⟩; exact ⟨rfl, hS.ext hE⟩
                try simp only [opv, n1, n2, n3, n4, Value.cells]
                refine q_go (fun w hS => s_neq_bool Try.underlying4) ?_
                try simp only [opv, n1, n2, n3, n4, Value.cells]
                rw [show (!(decide (HasD pa.1 pa.2 (q : Int)) == decide (MayD (q : Int)))) = false by rw [hdm, beq_self_eq_true]; rfl]
                clear hS
                refine q_nil fun w15 hS => ?_
                refine hK20 _ _ ?_
                refine x_cond_f (h := ?_)
                refine x_skip ?_
                refine hK19 _ _ ?_
                refine x_region ?_
                refine s_go (s_move) ?_
                try simp only [opv, n1, n2, n3, n4, Value.cells]
                refine s_go (s_add (hc := by first | exact wr_i64 (by omega) (by omega) | rfl)) ?_
                try simp only [opv, n1, n2, n3, n4, Value.cells]
                refine s_go (s_assign) ?_
                try simp only [opv, n1, n2, n3, n4, Value.cells]
                refine x_nil ?_
                refine loop_back (m' := l.length - (k + 1)) (by simp only [clob, List.foldl, n1, n2, n3, n4]) ?_ ?_
                · try simp only [opv, n1, n2, n3, n4, Value.cells]
                  exact ⟨k + 1, by omega, by omega, by rfl, hS.sel (by repeat (first | exact Sel.nil | (refine Sel.cons (by repeat (first | exact Del.head | apply Del.tail)) ?_)))⟩
                · omega
             ·
              try simp only [decide_eq_true_eq, decide_eq_false_iff_not, Bool.not_eq_true', Bool.not_eq_false', Int.not_lt, Int.not_le, ne_eq, Decidable.not_not, bne_iff_ne, beq_iff_eq, not_true_eq_false, not_false_eq_true] at hc7
              first
              | (exfalso; omega)
              | skip
                refine x_exit (look_here ?_)
                refine hK15 _ _ ?_
                refine x_seq fun K21 hK21 => ?_
                refine x_region ?_
                refine s_go (s_build_struct (cells := #[.int .u32 0, .int .u32 0, .int .u32 0, .int .u32 0, .int .u32 0, .int .u32 0, .int .u32 0, .int .u32 0, .int .u32 0, .int .u32 0, .int .u32 0, .int .u32 0, .int .u32 0, .int .u32 0, .int .u32 0, .int .u32 0, .slice none 0 0]) Try.underlying72 ti72 bp72 (hc := by simp only [List.map_toArray, List.map_cons, List.map_nil, opv, n1, n2, n3, n4, Value.cells, List.toList_toArray]; (repeat (refine fill_cons rfl rfl (Nat.le_of_ble_eq_true rfl) ?_)); rfl)) ?_
                try simp only [opv, n1, n2, n3, n4, Value.cells]
                rw [show (#[.int .u32 0, .int .u32 0, .int .u32 0, .int .u32 0, .int .u32 0, .int .u32 0, .int .u32 0, .int .u32 0, .int .u32 0, .int .u32 0, .int .u32 0, .int .u32 0, .int .u32 0, .int .u32 0, .int .u32 0, .int .u32 0, .slice none 0 0] : Array Value) = SetC (List.replicate 16 0) (.slice none 0 0) from rfl]
                refine m_alloc ti72 hS (fun w16 g16 hS => ?_)
                try simp only [opv, n1, n2, n3, n4, Value.cells, Array.toArray_toList] at hS ⊢
                replace hS : St NoB w0 w16 (.obj g16 (.cells (SetC (List.replicate 16 0) (.slice none 0 0)) 72 (0, 0)) :: _) := hS
                obtain ⟨gs, hgs⟩ : ∃ z, z = g16 := ⟨_, rfl⟩
                rw [← hgs] at hS ⊢
                refine m_store_obj ti72 (hS := hS) (hv := setC_size h0l _) (h1 := set_one _ _ _ _) (hfit := by rw [setC_size h0l]; omega) (hc := set_whole h0l h0l _ _) (h := fun w17 hS => ?_)
                try simp only [opv, n1, n2, n3, n4, Value.cells, Array.toArray_toList] at hS ⊢
                refine x_nil ?_
                refine hK21 _ _ ?_
                refine x_seq fun K22 hK22 => ?_
                refine x_seq fun K23 hK23 => ?_
                refine x_region ?_
                refine s_go (s_move) ?_
                try simp only [opv, n1, n2, n3, n4, Value.cells]
                refine s_go (s_len_sl Try.underlying65) ?_
                try simp only [opv, n1, n2, n3, n4, Value.cells]
                refine s_go (s_sub (hc := by first | exact wr_i64 (by omega) (by omega) | rfl)) ?_
                try simp only [opv, n1, n2, n3, n4, Value.cells]
                refine s_go (s_assign) ?_
                try simp only [opv, n1, n2, n3, n4, Value.cells]
                refine x_nil ?_
                refine hK23 _ _ ?_
                refine x_block ?_
                refine x_loop [13, 84, 85, 86, 87, 88, 89, 90, 91, 92, 93, 94] (fun m f w => ∃ (k : Nat) (D : Option Addr) (de : Nat) (p : List Int × List Int), k ≤ r.length ∧ m = k ∧ f 13 = .int .i64 ((k : Int) - 1) ∧ (addS (List.replicate 16 0) (r.drop k).reverse) = p ∧ St NoB w0 w [.obj gs (.cells (SetC p.1 (.slice D p.2.length de)) 72 (0, 0)), .vec D de 48 1 p.2.length (List.map (Value.int .u64) p.2), .obj ga (.cells (SetC pa.1 (.slice Da pa.2.length ea)) 72 (0, 0)), .vec Da ea 48 1 pa.2.length (List.map (Value.int .u64) pa.2), .obj gb (.cells (SetC pb.1 (.slice Db pb.2.length eb)) 72 (0, 0)), .vec Db eb 48 1 pb.2.length (List.map (Value.int .u64) pb.2), .obj gj (.cells (SetC pj.1 (.slice Dj pj.2.length ej)) 72 (0, 0)), .vec Dj ej 48 1 pj.2.length (List.map (Value.int .u64) pj.2), .rd A 1 l.length (List.map (Value.int .u64) l), .rd B 1 r.length (List.map (Value.int .u64) r), .rd C 1 aq.length (List.map (Value.int .u64) aq)]) (r.length) ?init3 (fun m3 f3 wl3 hI => ?_)
                case init3 =>
                 try simp only [opv, n1, n2, n3, n4, Value.cells]
                 replace hS := hS.nil_vec 48 1
                 exact ⟨r.length, none, 0, (List.replicate 16 0, []), by omega, rfl, rfl, by rw [List.drop_of_length_le (Nat.le_refl _)]; rfl, hS.sel (by repeat (first | exact Sel.nil | (refine Sel.cons (by repeat (first | exact Del.head | apply Del.tail)) ?_)))⟩
                obtain ⟨k, D, de, p, hk, hmk, h13, hp, hS⟩ := hI
                simp only [clob, List.foldl, n3, n4, h13]
                have hnp : NS p.1 p.2 := by rw [← hp]; exact (add_nrm VOk.zero _).ns
                have hpu : U64s p.2 := fun x hx => may_u64 (hnp.may x hx)
                have hpl6 := hnp.vok.len
                have hpl : p.2.length ≤ r.length := by have h := (addS_ok VOk.zero (r.drop k).reverse).2.2; rw [hp, List.length_reverse, List.length_drop] at h; omega
                refine x_seq fun K24 hK24 => ?_
                refine x_seq fun K25 hK25 => ?_
                refine x_region ?_
                refine s_go (s_move) ?_
                try simp only [opv, n1, n2, n3, n4, Value.cells]
                refine s_go (s_geq) ?_
                try simp only [opv, n1, n2, n3, n4, Value.cells]
                refine x_nil ?_
                refine hK25 _ _ ?_
                refine x_cond (ht := fun hc9 => ?_) (hf := fun hc9 => ?_)
                ·
                 try simp only [decide_eq_true_eq, decide_eq_false_iff_not, Bool.not_eq_true', Bool.not_eq_false', Int.not_lt, Int.not_le, ne_eq, Decidable.not_not, bne_iff_ne, beq_iff_eq, not_true_eq_false, not_false_eq_true] at hc9
                 first
                 | (exfalso; omega)
                 | skip
                   have hk1 : 0 < k := by omega
                   have hxr := hu2.get (k := k - 1) (by omega)
                   obtain ⟨q, hq⟩ : ∃ q : Nat, r.getD (k - 1) 0 = (q : Int) := ⟨(r.getD (k - 1) 0).toNat, by omega⟩
                   rw [hq] at hxr
                   have hst : addS p.1 (p.2 ++ [(q : Int)]) = addS (List.replicate 16 0) (r.drop (k - 1)).reverse := by rw [← hp, add_add VOk.zero, ← hq]; have h := drop_rev (m := r) (k := k - 1) (by omega); rw [show k - 1 + 1 = k by omega] at h; rw [h]
                   have hst6 : (addS p.1 (p.2 ++ [(q : Int)])).1.length = 16 := (addS_ok hnp.vok _).1.len
                   refine x_skip ?_
                   refine hK24 _ _ ?_
                   refine x_seq fun K26 hK26 => ?_
                   refine x_block ?_
                   refine x_mixed_c (Lc := [.obj gs (.cells (SetC p.1 (.slice D p.2.length de)) 72 (0, 0)), .vec D de 48 1 p.2.length (List.map (Value.int .u64) p.2), .obj ga (.cells (SetC pa.1 (.slice Da pa.2.length ea)) 72 (0, 0)), .vec Da ea 48 1 pa.2.length (List.map (Value.int .u64) pa.2), .obj gb (.cells (SetC pb.1 (.slice Db pb.2.length eb)) 72 (0, 0)), .vec Db eb 48 1 pb.2.length (List.map (Value.int .u64) pb.2), .obj gj (.cells (SetC pj.1 (.slice Dj pj.2.length ej)) 72 (0, 0)), .vec Dj ej 48 1 pj.2.length (List.map (Value.int .u64) pj.2), .rd A 1 l.length (List.map (Value.int .u64) l), .rd B 1 r.length (List.map (Value.int .u64) r), .rd C 1 aq.length (List.map (Value.int .u64) aq)]) [7] 0 [88, 89, 90, 91, 92, 93, 94] (fun f w => ∃ (D2 : Option Addr) (e2 : Nat), St NoB w0 w [.obj gs (.cells (SetC (addS p.1 (p.2 ++ [(q : Int)])).1 (.slice D2 (addS p.1 (p.2 ++ [(q : Int)])).2.length e2)) 72 (0, 0)), .vec D2 e2 48 1 (addS p.1 (p.2 ++ [(q : Int)])).2.length (List.map (Value.int .u64) (addS p.1 (p.2 ++ [(q : Int)])).2), .obj ga (.cells (SetC pa.1 (.slice Da pa.2.length ea)) 72 (0, 0)), .vec Da ea 48 1 pa.2.length (List.map (Value.int .u64) pa.2), .obj gb (.cells (SetC pb.1 (.slice Db pb.2.length eb)) 72 (0, 0)), .vec Db eb 48 1 pb.2.length (List.map (Value.int .u64) pb.2), .obj gj (.cells (SetC pj.1 (.slice Dj pj.2.length ej)) 72 (0, 0)), .vec Dj ej 48 1 pj.2.length (List.map (Value.int .u64) pj.2), .rd A 1 l.length (List.map (Value.int .u64) l), .rd B 1 r.length (List.map (Value.int .u64) r), .rd C 1 aq.length (List.map (Value.int .u64) aq)]) (by kernel_rfl) (by kernel_rfl) (by kernel_rfl) (by decide) hS (fun w18 hS => ?mixpre1901) ?mixrest1901
                   case mixpre1901 =>
                    refine p_nil ?_
                    simp only [List.length_cons, List.length_nil, Nat.reduceAdd, Nat.reduceSub]
                    refine any_go (i := 0) (by rfl) (by decide +kernel) (by decide +kernel) (by unfold noLate; decide) (go_yields w_none (fun w hS => m_load_row Try.underlying72 (hi := ti72) (hS := hS) (hfit := by rw [setC_size hpl6]))) ?_
                    try simp only [opv, n1, n2, n3, n4, Value.cells, List.getElem_toArray, List.getElem_cons_zero, List.getElem_cons_succ]
                    refine any_go (i := 1) (by rfl) (by decide +kernel) (by decide +kernel) (by unfold noLate; decide) (go_yields w_none (fun w hS => s_move)) ?_
                    try simp only [opv, n1, n2, n3, n4, Value.cells]
                    refine any_go (i := 2) (by rfl) (by decide +kernel) (by decide +kernel) (by unfold noLate; decide) (go_yields w_none (fun w hS => s_move)) ?_
                    try simp only [opv, n1, n2, n3, n4, Value.cells]
                    rw [show ((k : Int) - 1) = ((k - 1 : Nat) : Int) by omega]
                    first | refine any_go (i := 3) (by rfl) (by decide +kernel) (by decide +kernel) (by unfold noLate; decide) (go_yields w_none (fun w hS => m_indexAddr_rd Try.underlying65 ti48 (hS := hS))) ?_ | refine any_go (i := 3) (by rfl) (by decide +kernel) (by decide +kernel) (by unfold noLate; decide) (go_yields w_none (fun w hS => m_indexAddr_vec Try.underlying65 ti48 (hS := hS))) ?_
                    try simp only [opv, n1, n2, n3, n4, Value.cells, Nat.mul_one, Nat.zero_add, Int.toNat_natCast, Int.reduceToNat]
                    first | refine any_go (i := 4) (by rfl) (by decide +kernel) (by decide +kernel) (by unfold noLate; decide) (go_yields w_none (fun w hS => m_load_obj Try.underlying48 (hS := hS))) ?_ | refine any_go (i := 4) (by rfl) (by decide +kernel) (by decide +kernel) (by unfold noLate; decide) (go_yields w_none (fun w hS => m_load_bx Try.underlying48 (hS := hS))) ?_ | refine any_go (i := 4) (by rfl) (by decide +kernel) (by decide +kernel) (by unfold noLate; decide) (go_yields w_none (fun w hS => m_load_rd Try.underlying48 (hS := hS))) ?_ | refine any_go (i := 4) (by rfl) (by decide +kernel) (by decide +kernel) (by unfold noLate; decide) (go_yields w_none (fun w hS => m_load_vec Try.underlying48 (hS := hS))) ?_
                    try simp only [opv, n1, n2, n3, n4, Value.cells, List.getElem_toArray, List.getElem_cons_zero, List.getElem_cons_succ]
                    rw [hq]
                    refine any_step [5] (by kernel_rfl) (by decide) (fun w19 hE => ⟨fun _ => (hS.ext hE).sel (by repeat (first | exact Sel.nil | (refine Sel.cons (by repeat (first | exact Del.head | apply Del.tail)) ?_))), ?_⟩)
                    replace hS := hS.ext hE
                    intro i hi
                    simp only [List.mem_cons, List.not_mem_nil, or_false] at hi
                    subst hi
                    ·
                     refine any_op (by rfl) ?_
                     refine m_buildRow (cells := #[_]) Try.underlying65 ti48 (hc := by simp only [List.map_toArray, List.map_cons, List.map_nil, opv, n1, n2, n3, n4, Value.cells, List.toList_toArray]; (repeat (refine fill_cons rfl rfl (Nat.le_of_ble_eq_true rfl) ?_)); rfl) (hS := hS) (h := fun w20 g20 hS => ?_)
                     try simp only [opv, n1, n2, n3, n4, Value.cells, Array.toArray_toList] at hS ⊢
                     replace hS := hS.obj_rd (sz := 1) (n := 1) rfl .head
                     refine x_nil ?_
                     refine any_step [6] (by kernel_rfl) (by decide) (fun w21 hE => ⟨fun _ => (hS.ext hE).sel (by repeat (first | exact Sel.nil | (refine Sel.cons (by repeat (first | exact Del.head | apply Del.tail)) ?_))), ?_⟩)
                     replace hS := hS.ext hE
                     intro i hi
                     simp only [List.mem_cons, List.not_mem_nil, or_false] at hi
                     subst hi
                     ·
                      refine any_op (by rfl) ?_
                      refine s_call en36 ?_
                      try simp only [opv, n1, n2, n3, n4, Value.cells, List.map_toArray, List.map_cons, List.map_nil, List.append_toArray, List.cons_append, List.nil_append, Array.append_empty]
                      refine CallR.mono (c_dotsAdd _ p.1 hnp.vok D de p.2 (hS.vecRd (A := D) (n := p.2.length) (by repeat (first | exact Has.head | apply Has.tail))) hpu _ _ [(q : Int)] (hS.hasRd (by repeat (first | exact Has.head | apply Has.tail))) (u_one (by omega)) (by simp only [List.length_cons, List.length_nil]; omega)) ?_
                      rintro _ w22 ⟨D2, e2, rfl, hC22⟩
                      replace hS := hS.call hC22
                      simp only [List.cons_append, List.nil_append, List.append_nil] at hS ⊢
                      try simp only [opv, n1, n2, n3, n4, Value.cells]
                      refine x_nil ?_
                      refine any_step [7] (by kernel_rfl) (by decide) (fun w23 hE => ⟨fun _ => (hS.ext hE).sel (by repeat (first | exact Sel.nil | (refine Sel.cons (by repeat (first | exact Del.head | apply Del.tail)) ?_))), ?_⟩)
                      replace hS := hS.ext hE
                      intro i hi
                      simp only [List.mem_cons, List.not_mem_nil, or_false] at hi
                      subst hi
                      ·
                       refine any_op (by rfl) ?_
                       refine m_store_obj ti72 (hS := hS) (hv := setC_size hst6 _) (h1 := set_one _ _ _ _) (hfit := by rw [setC_size hpl6]; omega) (hc := set_whole hpl6 hst6 _ _) (h := fun w24 hS => ?_)
                       try simp only [opv, n1, n2, n3, n4, Value.cells, Array.toArray_toList] at hS ⊢
                       refine x_nil ?_
                       refine any_nil (by kernel_rfl) (fun w25 hE => ?_)
                       replace hS := hS.ext hE
                       refine ⟨fun hl => absurd (hl 7 (by decide)) (by decide +kernel), ?_⟩
                       refine mix_leaf (by simp only [clob, List.foldl, n1, n2, n3, n4]) ?_
                       try simp only [n1, n2]
                       exact ⟨_, _, hS.sel (by repeat (first | exact Sel.nil | (refine Sel.cons (by repeat (first | exact Del.head | apply Del.tail)) ?_)))⟩
                   intro fm1 w26 hM
                   obtain ⟨D2, e2, hS⟩ := hM
                   simp only [clob, List.foldl, n3, n4]
                   refine hK26 _ _ ?_
                   refine x_region ?_
                   refine s_go (s_move) ?_
                   try simp only [opv, n1, n2, n3, n4, Value.cells]
                   refine s_go (s_sub (hc := by first | exact wr_i64 (by omega) (by omega) | rfl)) ?_
                   try simp only [opv, n1, n2, n3, n4, Value.cells]
                   refine s_go (s_assign) ?_
                   try simp only [opv, n1, n2, n3, n4, Value.cells]
                   refine x_nil ?_
                   refine loop_back (m' := k - 1) (by simp only [clob, List.foldl, n1, n2, n3, n4]) ?_ ?_
                   · try simp only [opv, n1, n2, n3, n4, Value.cells]
                     exact ⟨k - 1, _, _, _, by omega, by omega, congrArg (Value.int .i64) (by omega), hst.symm, hS.sel (by repeat (first | exact Sel.nil | (refine Sel.cons (by repeat (first | exact Del.head | apply Del.tail)) ?_)))⟩
                   · omega
                ·
                 try simp only [decide_eq_true_eq, decide_eq_false_iff_not, Bool.not_eq_true', Bool.not_eq_false', Int.not_lt, Int.not_le, ne_eq, Decidable.not_not, bne_iff_ne, beq_iff_eq, not_true_eq_false, not_false_eq_true] at hc9
                 first
                 | (exfalso; omega)
                 | skip
                   obtain rfl : k = 0 := by omega
                   have hfin : addS p.1 (p.2 ++ l) = pj := by rw [← hp, add_add VOk.zero, List.drop_zero, hstep]
                   refine x_exit (look_here ?_)
                   refine hK22 _ _ ?_
                   refine x_seq fun K27 hK27 => ?_
                   refine x_region ?_
                   refine s_go (m_load_row Try.underlying72 (hi := ti72) (hS := hS) (hfit := by rw [setC_size hpl6])) ?_
                   try simp only [opv, n1, n2, n3, n4, Value.cells, List.getElem_toArray, List.getElem_cons_zero, List.getElem_cons_succ]
                   refine s_go (s_move) ?_
                   try simp only [opv, n1, n2, n3, n4, Value.cells]
                   refine s_call en36 ?_
                   try simp only [opv, n1, n2, n3, n4, Value.cells, List.map_toArray, List.map_cons, List.map_nil, List.append_toArray, List.cons_append, List.nil_append, Array.append_empty]
                   refine CallR.mono (c_dotsAdd _ p.1 hnp.vok D de p.2 (hS.vecRd (A := D) (n := p.2.length) (by repeat (first | exact Has.head | apply Has.tail))) hpu A c l (hS.hasRd (by repeat (first | exact Has.head | apply Has.tail))) hu (by omega)) ?_
                   rintro _ w27 ⟨Ds, es, rfl, hC27⟩
                   replace hS := hS.call hC27
                   simp only [List.cons_append, List.nil_append, List.append_nil] at hS ⊢
                   rw [hfin] at hS ⊢
                   try simp only [opv, n1, n2, n3, n4, Value.cells]
                   refine m_store_obj ti72 (hS := hS) (hv := setC_size hjl6 _) (h1 := set_one _ _ _ _) (hfit := by rw [setC_size hpl6]; omega) (hc := set_whole hpl6 hjl6 _ _) (h := fun w28 hS => ?_)
                   try simp only [opv, n1, n2, n3, n4, Value.cells, Array.toArray_toList] at hS ⊢
                   refine x_nil ?_
                   refine hK27 _ _ ?_
                   refine x_seq fun K28 hK28 => ?_
                   refine x_quiet (by kernel_rfl) (by kernel_rfl) hS ?_
                   refine q_go (fun w hS => m_load_row Try.underlying72 (hi := ti72) (hS := hS) (hfit := by rw [setC_size hjl6])) ?_
                   try simp only [opv, n1, n2, n3, n4, Value.cells, List.getElem_toArray, List.getElem_cons_zero, List.getElem_cons_succ]
                   apply q_call en38
                   case H =>
                     intro w hS
                     try simp only [opv, n1, n2, n3, n4, List.map_toArray, List.map_cons, List.map_nil, List.append_toArray, List.cons_append, List.nil_append, Array.append_empty]
                     refine CallR.mono (c_dotsRight _ pj.1 hnj.vok Dj ej pj.2 (hS.vecRd (A := Dj) (n := pj.2.length) (by repeat (first | exact Has.head | apply Has.tail))) hju (by omega)) ?_
                     rintro _ w1 ⟨rfl, hE⟩; exact ⟨rfl, hS.ext hE⟩
                   try simp only [opv, n1, n2, n3, n4, Value.cells]
                   rw [decide_eq_true (show (pj.1, pj.2) = addS pj.1 pj.2 from hidj.symm)]
                   refine q_go (fun w hS => s_move) ?_
                   try simp only [opv, n1, n2, n3, n4, Value.cells]
                   refine q_on (yi (t := 100) rfl rfl) ?_
                   refine q_go (fun w hS => m_load_row Try.underlying72 (hi := ti72) (hS := hS) (hfit := by rw [setC_size hjl6])) ?_
                   try simp only [opv, n1, n2, n3, n4, Value.cells, List.getElem_toArray, List.getElem_cons_zero, List.getElem_cons_succ]
                   refine q_on (yi (t := 100) rfl rfl) ?_
                   refine q_go (fun w hS => m_load_row Try.underlying72 (hi := ti72) (hS := hS) (hfit := by rw [setC_size hjl6])) ?_
                   try simp only [opv, n1, n2, n3, n4, Value.cells, List.getElem_toArray, List.getElem_cons_zero, List.getElem_cons_succ]
                   refine q_on (yi (t := 100) rfl rfl) ?_
                   apply q_call en46
                   case H =>
                     intro w hS
                     try simp only [opv, n1, n2, n3, n4, List.map_toArray, List.map_cons, List.map_nil, List.append_toArray, List.cons_append, List.nil_append, Array.append_empty]
                     refine CallR.mono (c_dotsSame _ pj.1 pj.1 hnj.vok hnj.vok Ds es pj.2 (hS.vecRd (A := Ds) (n := pj.2.length) (by repeat (first | exact Has.head | apply Has.tail))) hju Dj ej pj.2 (hS.vecRd (A := Dj) (n := pj.2.length) (by repeat (first | exact Has.head | apply Has.tail))) hju (by omega)) ?_
                     rintro _ w1 ⟨rfl, hE⟩; exact ⟨rfl, hS.ext hE⟩
                   try simp only [opv, n1, n2, n3, n4, Value.cells]
                   try simp only [eq_self, decide_true, beq_self_eq_true, Bool.and_self]
                   first | refine q_go (fun w hS => s_pick_t) ?_ | refine q_go (fun w hS => s_pick_f) ?_
                   try simp only [opv, n1, n2, n3, n4, Value.cells]
                   refine q_go (fun w hS => s_move) ?_
                   try simp only [opv, n1, n2, n3, n4, Value.cells]
                   refine q_on (yi (t := 105) rfl rfl) ?_
                   refine q_go (fun w hS => m_load_row Try.underlying72 (hi := ti72) (hS := hS) (hfit := by rw [setC_size hjl6])) ?_
                   try simp only [opv, n1, n2, n3, n4, Value.cells, List.getElem_toArray, List.getElem_cons_zero, List.getElem_cons_succ]
                   refine q_on (yi (t := 105) rfl rfl) ?_
                   apply q_call en33
                   case H =>
                     intro w hS
                     try simp only [opv, n1, n2, n3, n4, List.map_toArray, List.map_cons, List.map_nil, List.append_toArray, List.cons_append, List.nil_append, Array.append_empty]
                     refine CallR.mono (c_from13 pj.1 hjl6 _ _ _ _) ?_
                     rintro _ w1 ⟨rfl, hE⟩; exact ⟨rfl, hS.ext hE⟩
                   try simp only [opv, n1, n2, n3, n4, Value.cells]
                   refine q_on (yi (t := 105) rfl rfl) ?_
                   refine q_go (fun w hS => m_load_row Try.underlying72 (hi := ti72) (hS := hS) (hfit := by rw [setC_size hjl6])) ?_
                   try simp only [opv, n1, n2, n3, n4, Value.cells, List.getElem_toArray, List.getElem_cons_zero, List.getElem_cons_succ]
                   refine q_on (yi (t := 105) rfl rfl) ?_
                   apply q_call en33
                   case H =>
                     intro w hS
                     try simp only [opv, n1, n2, n3, n4, List.map_toArray, List.map_cons, List.map_nil, List.append_toArray, List.cons_append, List.nil_append, Array.append_empty]
                     refine CallR.mono (c_from13 pj.1 hjl6 _ _ _ _) ?_
                     rintro _ w1 ⟨rfl, hE⟩; exact ⟨rfl, hS.ext hE⟩
                   try simp only [opv, n1, n2, n3, n4, Value.cells]
                   refine q_on (yi (t := 105) rfl rfl) ?_
                   apply q_call en32
                   case H =>
                     intro w hS
                     try simp only [opv, n1, n2, n3, n4, List.map_toArray, List.map_cons, List.map_nil, List.append_toArray, List.cons_append, List.nil_append, Array.append_empty]
                     refine CallR.mono (c_ref13Same _ _ _ hjl6 hjl6 Ds es pj.2 (hS.vecRd (A := Ds) (n := pj.2.length) (by repeat (first | exact Has.head | apply Has.tail))) hju Dj ej pj.2 (hS.vecRd (A := Dj) (n := pj.2.length) (by repeat (first | exact Has.head | apply Has.tail))) hju (by omega)) ?_
                     rintro _ w1 ⟨rfl, hE⟩; exact ⟨rfl, hS.ext hE⟩
                   try simp only [opv, n1, n2, n3, n4, Value.cells]
                   try simp only [eq_self, decide_true, beq_self_eq_true, Bool.and_self]
                   first | refine q_go (fun w hS => s_pick_t) ?_ | refine q_go (fun w hS => s_pick_f) ?_
                   try simp only [opv, n1, n2, n3, n4, Value.cells]
                   refine q_go (fun w hS => s_move) ?_
                   try simp only [opv, n1, n2, n3, n4, Value.cells]
                   refine q_on (yi (t := 112) rfl rfl) ?_
                   refine q_go (fun w hS => m_load_row Try.underlying72 (hi := ti72) (hS := hS) (hfit := by rw [setC_size hjl6])) ?_
                   try simp only [opv, n1, n2, n3, n4, Value.cells, List.getElem_toArray, List.getElem_cons_zero, List.getElem_cons_succ]
                   refine q_on (yi (t := 112) rfl rfl) ?_
                   apply q_call en42
                   case H =>
                     intro w hS
                     try simp only [opv, n1, n2, n3, n4, List.map_toArray, List.map_cons, List.map_nil, List.append_toArray, List.cons_append, List.nil_append, Array.append_empty]
                     refine CallR.mono (c_dotsCount _ pj.1 hnj.vok Dj ej pj.2 (hS.vecRd (A := Dj) (n := pj.2.length) (by repeat (first | exact Has.head | apply Has.tail))) hju (by omega)) ?_
                     rintro _ w1 ⟨rfl, hE⟩; exact ⟨rfl, hS.ext hE⟩
                   try simp only [opv, n1, n2, n3, n4, Value.cells]
                   rw [hidj]
                   refine q_on (yi (t := 112) rfl rfl) ?_
                   refine q_go (fun w hS => s_move) ?_
                   try simp only [opv, n1, n2, n3, n4, Value.cells]
                   refine q_on (yi (t := 112) rfl rfl) ?_
                   refine q_go (fun w hS => s_len_sl Try.underlying65) ?_
                   try simp only [opv, n1, n2, n3, n4, Value.cells]
                   refine q_on (yi (t := 112) rfl rfl) ?_
                   refine q_go (fun w hS => s_move) ?_
                   try simp only [opv, n1, n2, n3, n4, Value.cells]
                   refine q_on (yi (t := 112) rfl rfl) ?_
                   refine q_go (fun w hS => s_len_sl Try.underlying65) ?_
                   try simp only [opv, n1, n2, n3, n4, Value.cells]
                   refine q_on (yi (t := 112) rfl rfl) ?_
                   refine q_go (fun w hS => s_add (hc := by first | exact wr_i64 (by omega) (by omega) | rfl)) ?_
                   try simp only [opv, n1, n2, n3, n4, Value.cells]
                   refine q_on (yi (t := 112) rfl rfl) ?_
                   refine q_go (fun w hS => s_conv Try.underlying3 Try.underlying48 (hc := wr_u64 (by omega) (by omega))) ?_
                   try simp only [opv, n1, n2, n3, n4, Value.cells]
                   refine q_on (yi (t := 112) rfl rfl) ?_
                   refine q_go (fun w hS => s_leq) ?_
                   try simp only [opv, n1, n2, n3, n4, Value.cells]
                   rw [decide_eq_true hcj]
                   first | refine q_go (fun w hS => s_pick_t) ?_ | refine q_go (fun w hS => s_pick_f) ?_
                   try simp only [opv, n1, n2, n3, n4, Value.cells]
                   refine q_go (fun w hS => s_move) ?_
                   try simp only [opv, n1, n2, n3, n4, Value.cells]
                   refine q_on (yi (t := 123) rfl rfl) ?_
                   apply q_call en31
                   case H =>
                     intro w hS
                     try simp only [opv, n1, n2, n3, n4, List.map_toArray, List.map_cons, List.map_nil, List.append_toArray, List.cons_append, List.nil_append, Array.append_empty]
                     refine CallR.mono (c_law13alive _) ?_
                     rintro _ w1 ⟨rfl, hE⟩; exact ⟨rfl, hS.ext hE⟩
                   try simp only [opv, n1, n2, n3, n4, Value.cells]
                   first | refine q_go (fun w hS => s_pick_t) ?_ | refine q_go (fun w hS => s_pick_f) ?_
                   try simp only [opv, n1, n2, n3, n4, Value.cells]
                   refine q_go (fun w hS => s_assign) ?_
                   try simp only [opv, n1, n2, n3, n4, Value.cells]
                   clear hS
                   refine q_nil fun w29 hS => ?_
                   refine hK28 _ _ ?_
                   refine x_ret ?_
                   refine r_tmp rfl ?_
                   exact ⟨rfl, hS.ext_of⟩
end Go.Proofs.Ytffmanidnlbjjaa
set_option linter.unusedSimpArgs false
set_option linter.unusedVariables false
set_option maxHeartbeats 800000
set_option maxRecDepth 100000
namespace Go.Proofs.Ytffmanidnlbjjaa
open Go.ChangeShapes Go.WideShapes Go.ChangeAt Go.RowKit

theorem u64s_of {l : List Int} (h : ∀ x ∈ l, (Lit.int .u64 x).wf = true) : U64s l := fun x hx => by have := bounds_u64 (h x hx); omega
end Go.Proofs.Ytffmanidnlbjjaa
namespace Go.Proofs.Ytffmanidnlbjjaa
open Go.ChangeShapes Go.WideShapes Go.ChangeAt Go.RowKit
theorem own0 : ownKnob Try.prog.godebug = none := by kernel_rfl
theorem laidOut0 : laidOutB Try.prog = true := by kernel_rfl
end Go.Proofs.Ytffmanidnlbjjaa
namespace Go.Proofs.Ytffmanidnlbjjaa
theorem ws_cons {c : Char} (h : c ≠ Char.ofNat 32) (x : List Char) : wordsSigns (c :: x) = (match wordsSigns x with | w :: ws => (c :: w) :: ws | [] => [[c]]) := by
  conv => lhs; unfold wordsSigns
  split
  · simp_all
  · next h1 => exact absurd (by simpa using (List.cons.inj h1).1) h
  · next h1 => obtain ⟨rfl, rfl⟩ := List.cons.inj h1; rfl
theorem ws_app (b : List Char) : ∀ (a : List Char), (∀ c ∈ a, c ≠ Char.ofNat 32) → wordsSigns (a ++ Char.ofNat 32 :: b) = a :: wordsSigns b
  | [], _ => rfl
  | c :: r, h => by
    rw [List.cons_append, ws_cons (h c (by simp)), ws_app b r (fun x hx => h x (by simp [hx]))]
/-- the head's words: harness, a sum, cut -/
theorem head_words {P : Program} {s b : List Char} (he : P.initOrder = String.ofList ("harness".toList ++ Char.ofNat 32 :: (s ++ Char.ofNat 32 :: ("cut".toList ++ Char.ofNat 32 :: b)))) (hs : isSumSigns s = true) (hb : ∀ c ∈ s, c ≠ Char.ofNat 32) :
    ∃ R, behindMainWord (wordsSigns P.initOrder.toList) = "cut".toList :: R := by
  refine ⟨wordsSigns b, ?_⟩
  rw [he, String.toList_ofList, ws_app _ _ (by decide), ws_app _ _ hb, ws_app _ _ (by decide)]
  simp only [behindMainWord, hs, beq_self_eq_true, Bool.true_or, Bool.and_self, if_true]
theorem e_gc : ("cut".toList == "gc".toList) = false := by decide
theorem e_spec : ("cut".toList == "spec".toList) = false := by decide
theorem e_car : ("cut".toList == "carried".toList) = false := by decide
theorem e_sl (R : List (List Char)) : stripLifts liftWords ("cut".toList :: R) = ([], "cut".toList :: R) := by
  have h : ∀ (l : List String), (∀ o ∈ l, ("cut".toList == o.toList) = false) → stripLifts l ("cut".toList :: R) = ([], "cut".toList :: R) := by
    intro l
    induction l with
    | nil => intro _; rfl
    | cons o os ih => intro hl; rw [stripLifts, hl o (by simp)]; simp only [Bool.false_eq_true, if_false]; exact ih fun x hx => hl x (by simp [hx])
  exact h liftWords (by decide)
section
variable {P : Program} (h : ∃ R, behindMainWord (wordsSigns P.initOrder.toList) = "cut".toList :: R)
include h
theorem make_of : P.make = some .cut := by
  obtain ⟨R, h⟩ := h
  unfold Program.make
  rw [h]
  simp only [e_gc, e_spec, beq_self_eq_true, Bool.or_self, Bool.true_or, Bool.false_eq_true, if_false, if_true]
theorem lifts_of : P.liftsFinal = false := by
  obtain ⟨R, h⟩ := h
  unfold Program.liftsFinal Program.headLifts
  rw [h, e_sl]
  show (_ || _) = false
  rfl
theorem enter_of (hl : P.laysLater = false) (hr : P.bearsReflect = false) (hd : P.doorFits [] = true) : P.mayEnter = true := by
  obtain ⟨R, h⟩ := h
  unfold Program.mayEnter
  rw [h]
  dsimp only
  rw [e_sl, hl, hr]
  simp only [hd, e_gc, e_spec, e_car, beq_self_eq_true, Bool.or_self, Bool.false_and, Bool.not_false, Bool.or_true, Bool.and_true, List.head?_cons, List.contains_nil]
end
theorem closed_of {P : Program} {f : FuncId} {fn : Func} {s : ChangeSpec} {c : OpenClaim} (hm : P.make = some .cut) (hl : P.liftsFinal = false) (he : P.mayEnter = true) (h2 : laidOutB P = true) (h3 : mapsRowed P = true) (hst : (P.stops == []) = true) (hk : (P.stopKnobs == []) = true)
    (hp : P.plainKeys = c.plainKeys) (hh : P.stopsHeard = true) (i1 : P.inPlace f = c.inPlace) (i2 : P.unfollowed f = c.unfollowed) (i3 : P.recurses f = c.recurses) (i4 : P.varsNamed f = c.named)
    (rest : (c.wf (OpenSpec.ofChange s) && fn.params.all (P.readableRec ·) && namedTie P c.named s.vars && (c.stops == []) && (c.knobs == []) &&
      (c.maps == (fn.params.toList ++ s.plain.varTypes P).any (P.mapsRec ·)) && (c.ifaces == (fn.params.toList ++ s.plain.varTypes P).any (P.ifacesRec ·)) && (c.mapsOut == P.mapsAmong fn.resultTypes.toList) &&
      (c.loops == (fn.params.toList ++ s.plain.varTypes P).any (P.loopsFrom ·)) && (c.wideKeys == (fn.params.toList ++ s.plain.varTypes P ++ fn.resultTypes.toList).any (P.wideKeysFrom ·)) &&
      s.vars.all (P.varReadable ·) && fn.resultTypes.all (fun t => P.readableRec t && decide (t < P.types.size)) && (c.ifacesOut == fn.resultTypes.toList.any (P.ifacesRec ·)) && (c.loopsOut == fn.resultTypes.toList.any (P.loopsFrom ·)) && c.shortTexts.isNone && (c.lifted == false) && (some Make.cut == some c.make) &&
      (c.kinds == (if c.domain.isEmpty then [] else fn.params.toList.map fun t => match P.underlying t with | some (.int k) => some k | _ => none)) && (c.pinned == c.pinnedBy) &&
      (c.veiled == (fn.params.toList ++ s.plain.varTypes P ++ fn.resultTypes.toList).any (P.veiledRec ·)) && c.veiledFits P fn.params.toList (fn.params.toList ++ s.plain.varTypes P ++ fn.resultTypes.toList)) = true) : joinedFacts P f fn s c = true := by
  simp only [Bool.and_eq_true] at rest
  unfold joinedFacts
  rw [hm, hl, he, h2, h3, hst, hk, hp, hh, i1, i2, i3, i4]
  simp only [beq_self_eq_true, Bool.and_eq_true, Bool.and_true]
  have hkd := rest.1.1.1.2
  simp only [rest, and_self]
  exact ⟨⟨⟨⟨trivial, hkd⟩, trivial⟩, trivial⟩, trivial⟩
end Go.Proofs.Ytffmanidnlbjjaa
namespace Go.Proofs.Ytffmanidnlbjjaa
def ioS : List Nat := [55, 54, 99, 48, 99, 99, 57, 102, 100, 49, 97, 101, 97, 50, 102, 51, 48, 57, 100, 51, 52, 54, 49, 98, 100, 54, 53, 102, 53, 50, 100, 102, 100, 100, 102, 97, 52, 53, 48, 97, 50, 97, 99, 48, 98, 101, 98, 53, 51, 53, 49, 102, 53, 48, 57, 99, 101, 49, 57, 56, 57, 50, 48, 49]
def ioB : List Nat := [97, 116, 32, 104, 97, 110, 100, 99, 97, 114, 116, 47, 104, 97, 110, 100, 99, 97, 114, 116, 108, 97, 119, 49, 52, 46, 84, 97, 103, 115, 65, 100, 100, 115, 32, 104, 97, 110, 100, 99, 97, 114, 116, 47, 104, 97, 110, 100, 99, 97, 114, 116, 108, 97, 119, 49, 52, 46, 84, 97, 103, 115, 87, 105, 110, 32, 104, 97, 110, 100, 99, 97, 114, 116, 47, 104, 97, 110, 100, 99, 97, 114, 116, 108, 97, 119, 50, 49, 46, 67, 104, 117, 110, 107, 70, 101, 119, 101, 115, 116, 32, 104, 97, 110, 100, 99, 97, 114, 116, 47, 104, 97, 110, 100, 99, 97, 114, 116, 108, 97, 119, 49, 51, 46, 68, 111, 116, 115, 65, 100, 100, 115, 32, 104, 97, 110, 100, 99, 97, 114, 116, 47, 104, 97, 110, 100, 99, 97, 114, 116, 108, 97, 119, 49, 51, 46, 68, 111, 116, 115, 65, 108, 111, 110, 101, 32, 104, 97, 110, 100, 99, 97, 114, 116, 47, 104, 97, 110, 100, 99, 97, 114, 116, 108, 97, 119, 49, 51, 46, 68, 111, 116, 115, 74, 111, 105, 110, 115]
theorem io_eq : Try.prog.initOrder = String.ofList ("harness".toList ++ Char.ofNat 32 :: (ioS.map Char.ofNat ++ Char.ofNat 32 :: ("cut".toList ++ Char.ofNat 32 :: ioB.map Char.ofNat))) := by kernel_rfl
theorem io_sum : isSumSigns (ioS.map Char.ofNat) = true := by kernel_rfl
theorem io_hd : ∃ R, behindMainWord (wordsSigns Try.prog.initOrder.toList) = "cut".toList :: R := head_words io_eq io_sum (by decide)
theorem p_make : Try.prog.make = some .cut := make_of io_hd
theorem p_lifts : Try.prog.liftsFinal = false := lifts_of io_hd
theorem p_ll : Try.prog.laysLater = false := by kernel_rfl
theorem p_br : Try.prog.bearsReflect = false := by kernel_rfl
theorem p_df : Try.prog.doorFits [] = true := by kernel_rfl
theorem p_enter : Try.prog.mayEnter = true := enter_of io_hd p_ll p_br p_df
theorem p_rowed : mapsRowed Try.prog = true := by kernel_rfl
theorem p_stops : (Try.prog.stops == []) = true := by kernel_rfl
theorem p_knobs : (Try.prog.stopKnobs == []) = true := by kernel_rfl
theorem p_keys : Try.prog.plainKeys = false := by kernel_rfl
theorem p_heard : Try.prog.stopsHeard = true := by kernel_rfl
end Go.Proofs.Ytffmanidnlbjjaa
