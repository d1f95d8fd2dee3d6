/- Contracts of functions, printed by a program of this seat (wip/tools/gen.py) out of its specs. -/
import Derived.Test.YtjgbcaegofpggaaCd
set_option linter.unusedSimpArgs false
set_option linter.unusedVariables false
set_option maxHeartbeats 2000000
set_option maxRecDepth 100000
namespace Go.Proofs.Ytjgbcaegofpggaa
open Go.RowKit


def seal2 (l : List Int) : List Int := [((crcM 65535 l / 256 : Nat) : Int), ((crcM 65535 l % 256 : Nat) : Int)]
def sealed (l : List Int) : List Int := l ++ seal2 l
def openE (l : List Int) : Int := if l.length < 2 then 4 else if crcM 65535 (l.take (l.length - 2)) ≠ bt l (l.length - 2) * 256 + bt l (l.length - 1) then 5 else 0
def openD (l : List Int) : List Int := if openE l = 0 then l.take (l.length - 2) else []
theorem or_256 {a b : Nat} (hb : b < 256) : a * 256 ||| b = a * 256 + b := by
  have := Nat.two_pow_add_eq_or_of_lt (i := 8) (b := b) hb a
  rw [show 2 ^ 8 * a = a * 256 by omega] at this
  exact this.symm


theorem c_crcSeal (w0 : World) (A : Option Addr) (n c : Nat) (l : List Int) (hr : Rd w0 A 1 n (l.map (Value.int .u8))) (hl : l.length = n) (hw : Byt l) (hn : n ≤ 140737488355000) (hc : n ≤ c) :
    CallR Try.prog 50 #[.slice A n c] w0 fun v w' => ∃ A' c', v = .slice A' (n + 2) c' ∧ St NoB w0 w' [.vec A' c' 5 1 (n + 2) ((sealed l).map (Value.int .u8))] := by
  have hS := St.rd1 (S := NoB) hr
  refine c_enter (l := [.slice A n c, undef, undef, undef, undef, undef, undef, undef, undef, undef, undef, undef, undef, undef, undef, undef, undef, undef, undef]) Try.func50 rfl (by simp only [Try.ntmps50, List.size_toArray, List.length_cons, List.length_nil, Nat.reduceAdd, Nat.reduceSub, Array.replicate_succ, Array.replicate_zero, List.push_toArray, List.append_toArray, List.nil_append, List.cons_append]) ?_
  refine x_seq fun K1 hK1 => ?_
  refine x_region ?_
  refine s_go (s_assign) ?_
  try simp only [opv, n1, n2, n3, n4, Value.cells]
  refine x_nil ?_
  refine hK1 _ _ ?_
  refine x_seq fun K2 hK2 => ?_
  refine x_region ?_
  refine s_go (s_move) ?_
  try simp only [opv, n1, n2, n3, n4, Value.cells]
  refine s_call en44 ?_
  try simp only [opv, n1, n2, n3, n4, Value.cells, List.map_toArray, List.map_cons, List.map_nil, List.append_toArray, List.cons_append, List.nil_append, Array.append_empty]
  refine CallR.mono (c_crcSum _ _ _ _ _ (hS.hasRd (by repeat (first | exact Has.head | apply Has.tail))) (by simp [*]) (by first | assumption | exact Byt.take (by assumption) _) (by omega) (by omega)) ?_
  rintro _ w1 ⟨rfl, hE1⟩
  replace hS := hS.ext hE1
  try simp only [opv, n1, n2, n3, n4, Value.cells]
  refine s_go (s_assign) ?_
  try simp only [opv, n1, n2, n3, n4, Value.cells]
  refine x_nil ?_
  refine hK2 _ _ ?_
  refine x_seq fun K3 hK3 => ?_
  refine x_region ?_
  have hcl : crcM 65535 l < 65536 := crcM_lt _ (by omega)
  refine s_go (s_move) ?_
  try simp only [opv, n1, n2, n3, n4, Value.cells]
  refine s_go (s_move) ?_
  try simp only [opv, n1, n2, n3, n4, Value.cells]
  refine s_go (s_len_sl Try.underlying42) ?_
  try simp only [opv, n1, n2, n3, n4, Value.cells]
  refine s_go (s_move) ?_
  try simp only [opv, n1, n2, n3, n4, Value.cells]
  refine s_go (s_len_sl Try.underlying42) ?_
  try simp only [opv, n1, n2, n3, n4, Value.cells]
  refine m_slice_rd (lo := 0) (hi := n) (m := n) Try.underlying42 ti5 (hlo := rfl) (hhi := ⟨_, rfl⟩) (hmx := ⟨_, rfl⟩) (hS := hS) (h := fun A1 hA1 hS => ?_)
  try simp only [← List.map_append, ← List.map_drop, ← List.map_take, Nat.mul_one, Nat.zero_mul, Nat.sub_zero, List.drop_zero, List.nil_append, Nat.zero_add] at hS ⊢
  try simp only [opv, n1, n2, n3, n4, Value.cells, Array.toArray_toList] at hS ⊢
  refine s_go (s_move) ?_
  try simp only [opv, n1, n2, n3, n4, Value.cells]
  refine s_go (s_shr (hc := shr_u .u16 (r := crcM 65535 l) (p := 256) (s := crcM 65535 l / 256) rfl)) ?_
  try simp only [opv, n1, n2, n3, n4, Value.cells]
  refine s_go (s_conv Try.underlying43 Try.underlying5 (hc := by first | exact wr_u8 (by omega) (by omega) | rfl)) ?_
  try simp only [opv, n1, n2, n3, n4, Value.cells]
  refine s_go (s_move) ?_
  try simp only [opv, n1, n2, n3, n4, Value.cells]
  refine s_go (s_conv Try.underlying43 Try.underlying5 (hc := cv_u8 (r := crcM 65535 l) (s := crcM 65535 l % 256) rfl)) ?_
  try simp only [opv, n1, n2, n3, n4, Value.cells]
  refine m_buildRow (cells := #[_, _]) Try.underlying42 ti5 (hc := by simp only [List.map_toArray, List.map_cons, List.map_nil, opv, n1, n2, n3, n4, Value.cells, List.toList_toArray]; (repeat (refine fill_cons rfl rfl (Nat.le_of_ble_eq_true rfl) ?_)); rfl) (hS := hS) (h := fun w2 g2 hS => ?_)
  try simp only [opv, n1, n2, n3, n4, Value.cells, Array.toArray_toList] at hS ⊢
  replace hS := hS.obj_rd (sz := 1) (n := 2) rfl .head
  refine m_append_copy Try.underlying42 ti5 (hS := hS) (news := (seal2 l).map (Value.int .u8)) (h := fun w3 A3 C3 hS => ?_)
  try simp only [← List.map_append, ← List.map_drop, ← List.map_take, Nat.mul_one, Nat.zero_mul, Nat.sub_zero, List.drop_zero, List.nil_append, Nat.zero_add] at hS ⊢
  try simp only [opv, n1, n2, n3, n4, Value.cells, Array.toArray_toList] at hS ⊢
  refine s_go (s_assign) ?_
  try simp only [opv, n1, n2, n3, n4, Value.cells]
  refine x_nil ?_
  refine hK3 _ _ ?_
  refine x_ret ?_
  refine r_tmp rfl ?_
  rw [show l.take n = l by rw [← hl, List.take_length]] at hS
  exact ⟨_, _, rfl, hS.sel (by repeat (first | exact Sel.nil | (refine Sel.cons (by repeat (first | exact Del.head | apply Del.tail)) ?_)))⟩

theorem c_ref05Seal (w0 : World) (A : Option Addr) (n c : Nat) (l : List Int) (hr : Rd w0 A 1 n (l.map (Value.int .u8))) (hl : l.length = n) (hw : Byt l) (hn : n ≤ 140737488355000) (hc : n ≤ c) :
    CallR Try.prog 51 #[.slice A n c] w0 fun v w' => ∃ A' c', v = .slice A' (n + 2) c' ∧ St NoB w0 w' [.vec A' c' 5 1 (n + 2) ((sealed l).map (Value.int .u8))] := by
  have hS := St.rd1 (S := NoB) hr
  refine c_enter (l := [.slice A n c, undef, undef, undef, undef, undef, undef, undef, undef, undef, undef, undef, undef, undef, undef, undef, undef]) Try.func51 rfl (by simp only [Try.ntmps51, List.size_toArray, List.length_cons, List.length_nil, Nat.reduceAdd, Nat.reduceSub, Array.replicate_succ, Array.replicate_zero, List.push_toArray, List.append_toArray, List.nil_append, List.cons_append]) ?_
  refine x_seq fun K1 hK1 => ?_
  refine x_region ?_
  refine s_go (s_assign) ?_
  try simp only [opv, n1, n2, n3, n4, Value.cells]
  refine x_nil ?_
  refine hK1 _ _ ?_
  refine x_seq fun K2 hK2 => ?_
  refine x_region ?_
  refine s_go (s_move) ?_
  try simp only [opv, n1, n2, n3, n4, Value.cells]
  refine s_call en45 ?_
  try simp only [opv, n1, n2, n3, n4, Value.cells, List.map_toArray, List.map_cons, List.map_nil, List.append_toArray, List.cons_append, List.nil_append, Array.append_empty]
  refine CallR.mono (c_ref05Sum _ _ _ _ _ (hS.hasRd (by repeat (first | exact Has.head | apply Has.tail))) (by simp [*]) (by first | assumption | exact Byt.take (by assumption) _) (by omega) (by omega)) ?_
  rintro _ w1 ⟨rfl, hE1⟩
  replace hS := hS.ext hE1
  try simp only [opv, n1, n2, n3, n4, Value.cells]
  refine s_go (s_assign) ?_
  try simp only [opv, n1, n2, n3, n4, Value.cells]
  refine x_nil ?_
  refine hK2 _ _ ?_
  refine x_seq fun K3 hK3 => ?_
  refine x_region ?_
  have hcl : crcM 65535 l < 65536 := crcM_lt _ (by omega)
  refine m_buildRow (cells := #[]) Try.underlying42 ti5 (hc := by simp only [List.map_toArray, List.map_cons, List.map_nil, opv, n1, n2, n3, n4, Value.cells, List.toList_toArray]; (repeat (refine fill_cons rfl rfl (Nat.le_of_ble_eq_true rfl) ?_)); rfl) (hS := hS) (h := fun w2 g2 hS => ?_)
  try simp only [opv, n1, n2, n3, n4, Value.cells, Array.toArray_toList] at hS ⊢
  replace hS := hS.obj_vec (sz := 1) (n := 0) rfl (by decide) .head
  refine s_go (s_move) ?_
  try simp only [opv, n1, n2, n3, n4, Value.cells]
  refine m_append Try.underlying42 ti5 (hS := hS) (h := fun w3 A3 C3 hS => ?_)
  try simp only [← List.map_append, ← List.map_drop, ← List.map_take, Nat.mul_one, Nat.zero_mul, Nat.sub_zero, List.drop_zero, List.nil_append, Nat.zero_add] at hS ⊢
  try simp only [opv, n1, n2, n3, n4, Value.cells, Array.toArray_toList] at hS ⊢
  refine s_go (s_move) ?_
  try simp only [opv, n1, n2, n3, n4, Value.cells]
  refine s_go (s_quo (hc := quo_u16 (r := crcM 65535 l) (p := 256) (by omega))) ?_
  try simp only [opv, n1, n2, n3, n4, Value.cells]
  refine s_go (s_conv Try.underlying43 Try.underlying5 (hc := by first | exact wr_u8 (by omega) (by omega) | rfl)) ?_
  try simp only [opv, n1, n2, n3, n4, Value.cells]
  refine s_go (s_move) ?_
  try simp only [opv, n1, n2, n3, n4, Value.cells]
  refine s_go (s_rem (hc := rem_nat (r := crcM 65535 l) (p := 256))) ?_
  try simp only [opv, n1, n2, n3, n4, Value.cells]
  refine s_go (s_conv Try.underlying43 Try.underlying5 (hc := by first | exact wr_u8 (by omega) (by omega) | rfl)) ?_
  try simp only [opv, n1, n2, n3, n4, Value.cells]
  refine m_buildRow (cells := #[_, _]) Try.underlying42 ti5 (hc := by simp only [List.map_toArray, List.map_cons, List.map_nil, opv, n1, n2, n3, n4, Value.cells, List.toList_toArray]; (repeat (refine fill_cons rfl rfl (Nat.le_of_ble_eq_true rfl) ?_)); rfl) (hS := hS) (h := fun w4 g4 hS => ?_)
  try simp only [opv, n1, n2, n3, n4, Value.cells, Array.toArray_toList] at hS ⊢
  replace hS := hS.obj_rd (sz := 1) (n := 2) rfl .head
  refine m_append Try.underlying42 ti5 (hS := hS) (news := (seal2 l).map (Value.int .u8)) (h := fun w5 A5 C5 hS => ?_)
  try simp only [← List.map_append, ← List.map_drop, ← List.map_take, Nat.mul_one, Nat.zero_mul, Nat.sub_zero, List.drop_zero, List.nil_append, Nat.zero_add] at hS ⊢
  try simp only [opv, n1, n2, n3, n4, Value.cells, Array.toArray_toList] at hS ⊢
  refine s_go (s_assign) ?_
  try simp only [opv, n1, n2, n3, n4, Value.cells]
  refine x_nil ?_
  refine hK3 _ _ ?_
  refine x_ret ?_
  refine r_tmp rfl ?_
  exact ⟨_, _, rfl, hS.sel (by repeat (first | exact Sel.nil | (refine Sel.cons (by repeat (first | exact Del.head | apply Del.tail)) ?_)))⟩


theorem openE_short {l : List Int} (h : l.length < 2) : openE l = 4 := by simp [openE, h]
theorem openE_bad {l : List Int} (h : ¬ l.length < 2) (hs : crcM 65535 (l.take (l.length - 2)) ≠ bt l (l.length - 2) * 256 + bt l (l.length - 1)) : openE l = 5 := by simp [openE, h, hs]
theorem openE_ok {l : List Int} (h : ¬ l.length < 2) (hs : crcM 65535 (l.take (l.length - 2)) = bt l (l.length - 2) * 256 + bt l (l.length - 1)) : openE l = 0 := by simp [openE, h, hs]
theorem openD_none {l : List Int} (h : openE l ≠ 0) : openD l = [] := by simp [openD, h]
theorem openD_ok {l : List Int} (h : openE l = 0) : openD l = l.take (l.length - 2) := by simp [openD, h]


theorem c_crcOpen (w0 : World) (A : Option Addr) (n c : Nat) (l : List Int) (hr : Rd w0 A 1 n (l.map (Value.int .u8))) (hl : l.length = n) (hw : Byt l) (hn : n ≤ 140737488355000) (hc : n ≤ c) :
    CallR Try.prog 47 #[.slice A n c] w0 fun v w' => ∃ A' m c', v = .tuple #[.slice A' m c', .int .i64 (openE l)] ∧ m = (openD l).length ∧ St NoB w0 w' [.vec A' c' 5 1 m ((openD l).map (Value.int .u8))] := by
  have hS := St.rd1 (S := NoB) hr
  refine c_enter (l := [.slice A n c, undef, undef, undef, undef, undef, undef, undef, undef, undef, undef, undef, undef, undef, undef, undef, undef, undef, undef, undef, undef, undef, undef, undef, undef, undef, undef, undef, undef, undef, undef, undef, undef, undef, undef]) Try.func47 rfl (by simp only [Try.ntmps47, List.size_toArray, List.length_cons, List.length_nil, Nat.reduceAdd, Nat.reduceSub, Array.replicate_succ, Array.replicate_zero, List.push_toArray, List.append_toArray, List.nil_append, List.cons_append]) ?_
  refine x_seq fun K1 hK1 => ?_
  refine x_region ?_
  refine s_go (s_assign) ?_
  try simp only [opv, n1, n2, n3, n4, Value.cells]
  refine s_go (s_assign) ?_
  try simp only [opv, n1, n2, n3, n4, Value.cells]
  refine x_nil ?_
  refine hK1 _ _ ?_
  refine x_seq fun K2 hK2 => ?_
  refine x_region ?_
  refine s_go (s_move) ?_
  try simp only [opv, n1, n2, n3, n4, Value.cells]
  refine s_go (s_len_sl Try.underlying42) ?_
  try simp only [opv, n1, n2, n3, n4, Value.cells]
  refine s_go (s_sub (hc := by first | exact wr_i64 (by omega) (by omega) | rfl)) ?_
  try simp only [opv, n1, n2, n3, n4, Value.cells]
  refine s_go (s_assign) ?_
  try simp only [opv, n1, n2, n3, n4, Value.cells]
  refine x_nil ?_
  refine hK2 _ _ ?_
  refine x_seq fun K3 hK3 => ?_
  refine x_seq fun K4 hK4 => ?_
  refine x_region ?_
  refine s_go (s_move) ?_
  try simp only [opv, n1, n2, n3, n4, Value.cells]
  refine s_go (s_lss) ?_
  try simp only [opv, n1, n2, n3, n4, Value.cells]
  refine x_nil ?_
  refine hK4 _ _ ?_
  refine x_cond (ht := fun hc1 => ?_) (hf := fun hc1 => ?_)
  ·
    try simp only [decide_eq_true_eq, decide_eq_false_iff_not, Bool.not_eq_true', Bool.not_eq_false', Int.not_lt, Int.not_le, ne_eq, Decidable.not_not] at hc1
    have hE : openE l = 4 := openE_short (by omega)
    refine x_seq fun K5 hK5 => ?_
    refine x_region ?_
    refine s_go (s_assign) ?_
    try simp only [opv, n1, n2, n3, n4, Value.cells]
    refine s_go (s_assign) ?_
    try simp only [opv, n1, n2, n3, n4, Value.cells]
    refine x_nil ?_
    refine hK5 _ _ ?_
    refine x_ret ?_
    refine r_tmp2 rfl ?_
    have hD := openD_none (l := l) (by rw [hE]; decide)
    have hS := hS.nil_vec 5 1
    exact ⟨none, 0, 0, by rw [hE]; rfl, by rw [hD]; rfl, by rw [hD]; exact hS.sel (by repeat (first | exact Sel.nil | (refine Sel.cons (by repeat (first | exact Del.head | apply Del.tail)) ?_)))⟩
  ·
    try simp only [decide_eq_true_eq, decide_eq_false_iff_not, Bool.not_eq_true', Bool.not_eq_false', Int.not_lt, Int.not_le, ne_eq, Decidable.not_not] at hc1
    rw [show (n : Int) - 2 = ((n - 2 : Nat) : Int) by omega]
    have hcl : crcM 65535 (l.take (n - 2)) < 65536 := crcM_lt _ (by omega)
    have hb1 := hw.bt (n - 2)
    have hb2 := hw.bt (n - 1)
    refine x_skip ?_
    refine hK3 _ _ ?_
    refine x_seq fun K6 hK6 => ?_
    refine x_seq fun K7 hK7 => ?_
    refine x_region ?_
    refine s_go (s_move) ?_
    try simp only [opv, n1, n2, n3, n4, Value.cells]
    refine s_go (s_move) ?_
    try simp only [opv, n1, n2, n3, n4, Value.cells]
    refine m_slice_rd (lo := 0) (hi := n - 2) (m := _) Try.underlying42 ti5 (hlo := rfl) (hhi := ⟨_, rfl⟩) (hmx := rfl) (hS := hS) (h := fun A1 hA1 hS => ?_)
    try simp only [← List.map_append, ← List.map_drop, ← List.map_take, Nat.mul_one, Nat.zero_mul, Nat.sub_zero, List.drop_zero, List.nil_append, Nat.zero_add] at hS ⊢
    try simp only [opv, n1, n2, n3, n4, Value.cells, Array.toArray_toList] at hS ⊢
    refine s_call en44 ?_
    try simp only [opv, n1, n2, n3, n4, Value.cells, List.map_toArray, List.map_cons, List.map_nil, List.append_toArray, List.cons_append, List.nil_append, Array.append_empty]
    refine CallR.mono (c_crcSum _ _ _ _ _ (hS.hasRd (by repeat (first | exact Has.head | apply Has.tail))) (by simp [*]) (by first | assumption | exact Byt.take (by assumption) _) (by omega) (by omega)) ?_
    rintro _ w1 ⟨rfl, hE1⟩
    replace hS := hS.ext hE1
    try simp only [opv, n1, n2, n3, n4, Value.cells]
    refine s_go (s_assign) ?_
    try simp only [opv, n1, n2, n3, n4, Value.cells]
    refine x_nil ?_
    refine hK7 _ _ ?_
    refine x_seq fun K8 hK8 => ?_
    refine x_quiet (by kernel_rfl) (by kernel_rfl) hS ?_
    refine q_go (fun w hS => s_move) ?_
    try simp only [opv, n1, n2, n3, n4, Value.cells]
    refine q_go (fun w hS => s_move) ?_
    try simp only [opv, n1, n2, n3, n4, Value.cells]
    refine q_go (fun w hS => s_move) ?_
    try simp only [opv, n1, n2, n3, n4, Value.cells]
    first | refine q_go (fun w hS => m_indexAddr_rd Try.underlying42 ti5 (hS := hS)) ?_ | refine q_go (fun w hS => m_indexAddr_vec Try.underlying42 ti5 (hS := hS)) ?_
    try simp only [opv, n1, n2, n3, n4, Value.cells, Nat.mul_one, Nat.zero_add, Int.toNat_natCast]
    first | refine q_go (fun w hS => m_load_obj Try.underlying5 (hS := hS)) ?_ | refine q_go (fun w hS => m_load_rd Try.underlying5 (hS := hS)) ?_ | refine q_go (fun w hS => m_load_vec Try.underlying5 (hS := hS)) ?_
    try simp only [opv, n1, n2, n3, n4, Value.cells]
    rw [hb1.1]
    refine q_go (fun w hS => s_conv Try.underlying5 Try.underlying43 (hc := by first | exact wr_u16 (by omega) (by omega) | rfl)) ?_
    try simp only [opv, n1, n2, n3, n4, Value.cells]
    refine q_go (fun w hS => s_shl (hc := shl_u16 (r := bt l (n - 2)) (p := 256) (s := bt l (n - 2) * 256) (by omega))) ?_
    try simp only [opv, n1, n2, n3, n4, Value.cells]
    refine q_go (fun w hS => s_move) ?_
    try simp only [opv, n1, n2, n3, n4, Value.cells]
    refine q_go (fun w hS => s_move) ?_
    try simp only [opv, n1, n2, n3, n4, Value.cells]
    refine q_go (fun w hS => s_add (hc := by first | exact wr_i64 (by omega) (by omega) | rfl)) ?_
    try simp only [opv, n1, n2, n3, n4, Value.cells]
    rw [show ((n - 2 : Nat) : Int) + 1 = ((n - 1 : Nat) : Int) by omega]
    first | refine q_go (fun w hS => m_indexAddr_rd Try.underlying42 ti5 (hS := hS)) ?_ | refine q_go (fun w hS => m_indexAddr_vec Try.underlying42 ti5 (hS := hS)) ?_
    try simp only [opv, n1, n2, n3, n4, Value.cells, Nat.mul_one, Nat.zero_add, Int.toNat_natCast]
    first | refine q_go (fun w hS => m_load_obj Try.underlying5 (hS := hS)) ?_ | refine q_go (fun w hS => m_load_rd Try.underlying5 (hS := hS)) ?_ | refine q_go (fun w hS => m_load_vec Try.underlying5 (hS := hS)) ?_
    try simp only [opv, n1, n2, n3, n4, Value.cells]
    rw [hb2.1]
    refine q_go (fun w hS => s_conv Try.underlying5 Try.underlying43 (hc := by first | exact wr_u16 (by omega) (by omega) | rfl)) ?_
    try simp only [opv, n1, n2, n3, n4, Value.cells]
    refine q_go (fun w hS => s_bits (by simp) (hc := (or_u16 (a := bt l (n - 2) * 256) (b := bt l (n - 1)) (by omega) (by omega)).trans (by rw [or_256 hb2.2]))) ?_
    try simp only [opv, n1, n2, n3, n4, Value.cells]
    refine q_go (fun w hS => s_neq) ?_
    try simp only [opv, n1, n2, n3, n4, Value.cells]
    clear hS
    refine q_nil fun w2 hS => ?_
    refine hK8 _ _ ?_
    refine x_cond (ht := fun hc2 => ?_) (hf := fun hc2 => ?_)
    ·
      try simp only [decide_eq_true_eq, decide_eq_false_iff_not, Bool.not_eq_true', Bool.not_eq_false', Int.not_lt, Int.not_le, ne_eq, Decidable.not_not] at hc2
      have hE : openE l = 5 := openE_bad (by omega) (by rw [hl]; exact_mod_cast hc2)
      refine x_seq fun K9 hK9 => ?_
      refine x_region ?_
      refine s_go (s_assign) ?_
      try simp only [opv, n1, n2, n3, n4, Value.cells]
      refine s_go (s_assign) ?_
      try simp only [opv, n1, n2, n3, n4, Value.cells]
      refine x_nil ?_
      refine hK9 _ _ ?_
      refine x_ret ?_
      refine r_tmp2 rfl ?_
      have hD := openD_none (l := l) (by rw [hE]; decide)
      have hS := hS.nil_vec 5 1
      exact ⟨none, 0, 0, by rw [hE]; rfl, by rw [hD]; rfl, by rw [hD]; exact hS.sel (by repeat (first | exact Sel.nil | (refine Sel.cons (by repeat (first | exact Del.head | apply Del.tail)) ?_)))⟩
    ·
      try simp only [decide_eq_true_eq, decide_eq_false_iff_not, Bool.not_eq_true', Bool.not_eq_false', Int.not_lt, Int.not_le, ne_eq, Decidable.not_not] at hc2
      have hE : openE l = 0 := openE_ok (by omega) (by rw [hl]; exact_mod_cast hc2)
      refine x_skip ?_
      refine hK6 _ _ ?_
      refine x_seq fun K10 hK10 => ?_
      refine x_region ?_
      refine m_buildRow (cells := #[]) Try.underlying42 ti5 (hc := by simp only [List.map_toArray, List.map_cons, List.map_nil, opv, n1, n2, n3, n4, Value.cells, List.toList_toArray]; (repeat (refine fill_cons rfl rfl (Nat.le_of_ble_eq_true rfl) ?_)); rfl) (hS := hS) (h := fun w3 g3 hS => ?_)
      try simp only [opv, n1, n2, n3, n4, Value.cells, Array.toArray_toList] at hS ⊢
      replace hS := hS.obj_vec (sz := 1) (n := 0) rfl (by decide) .head
      refine s_go (s_move) ?_
      try simp only [opv, n1, n2, n3, n4, Value.cells]
      refine s_go (s_move) ?_
      try simp only [opv, n1, n2, n3, n4, Value.cells]
      refine m_slice_rd (lo := 0) (hi := n - 2) (m := _) Try.underlying42 ti5 (hlo := rfl) (hhi := ⟨_, rfl⟩) (hmx := rfl) (hS := hS) (h := fun A2 hA2 hS => ?_)
      try simp only [← List.map_append, ← List.map_drop, ← List.map_take, Nat.mul_one, Nat.zero_mul, Nat.sub_zero, List.drop_zero, List.nil_append, Nat.zero_add] at hS ⊢
      try simp only [opv, n1, n2, n3, n4, Value.cells, Array.toArray_toList] at hS ⊢
      refine m_append Try.underlying42 ti5 (hS := hS) (h := fun w4 A4 C4 hS => ?_)
      try simp only [← List.map_append, ← List.map_drop, ← List.map_take, Nat.mul_one, Nat.zero_mul, Nat.sub_zero, List.drop_zero, List.nil_append, Nat.zero_add] at hS ⊢
      try simp only [opv, n1, n2, n3, n4, Value.cells, Array.toArray_toList] at hS ⊢
      refine s_go (s_assign) ?_
      try simp only [opv, n1, n2, n3, n4, Value.cells]
      refine s_go (s_assign) ?_
      try simp only [opv, n1, n2, n3, n4, Value.cells]
      refine x_nil ?_
      refine hK10 _ _ ?_
      refine x_ret ?_
      refine r_tmp2 rfl ?_
      have hD := openD_ok hE
      rw [hl] at hD
      exact ⟨_, _, _, by rw [hE]; rfl, by rw [hD]; simp; omega, by rw [hD]; exact hS.sel (by repeat (first | exact Sel.nil | (refine Sel.cons (by repeat (first | exact Del.head | apply Del.tail)) ?_)))⟩

theorem c_ref05Open (w0 : World) (A : Option Addr) (n c : Nat) (l : List Int) (hr : Rd w0 A 1 n (l.map (Value.int .u8))) (hl : l.length = n) (hw : Byt l) (hn : n ≤ 140737488355000) (hc : n ≤ c) :
    CallR Try.prog 48 #[.slice A n c] w0 fun v w' => ∃ A' m c', v = .tuple #[.slice A' m c', .int .i64 (openE l)] ∧ m = (openD l).length ∧ Ext w0 w' ∧ Rd w' A' 1 m ((openD l).map (Value.int .u8)) ∧ (0 < m → 0 < n ∧ A'.map (·.block) = A.map (·.block)) := by
  have hS := St.rd1 (S := NoB) hr
  refine c_enter (l := [.slice A n c, undef, undef, undef, undef, undef, undef, undef, undef, undef, undef, undef, undef, undef, undef, undef, undef, undef, undef, undef, undef, undef, undef, undef, undef, undef, undef, undef, undef, undef, undef, undef, undef, undef, undef, undef, undef, undef, undef]) Try.func48 rfl (by simp only [Try.ntmps48, List.size_toArray, List.length_cons, List.length_nil, Nat.reduceAdd, Nat.reduceSub, Array.replicate_succ, Array.replicate_zero, List.push_toArray, List.append_toArray, List.nil_append, List.cons_append]) ?_
  refine x_seq fun K1 hK1 => ?_
  refine x_region ?_
  refine s_go (s_assign) ?_
  try simp only [opv, n1, n2, n3, n4, Value.cells]
  refine s_go (s_assign) ?_
  try simp only [opv, n1, n2, n3, n4, Value.cells]
  refine x_nil ?_
  refine hK1 _ _ ?_
  refine x_seq fun K2 hK2 => ?_
  refine x_seq fun K3 hK3 => ?_
  refine x_region ?_
  refine s_go (s_move) ?_
  try simp only [opv, n1, n2, n3, n4, Value.cells]
  refine s_go (s_len_sl Try.underlying42) ?_
  try simp only [opv, n1, n2, n3, n4, Value.cells]
  refine s_go (s_lss) ?_
  try simp only [opv, n1, n2, n3, n4, Value.cells]
  refine x_nil ?_
  refine hK3 _ _ ?_
  refine x_cond (ht := fun hc1 => ?_) (hf := fun hc1 => ?_)
  ·
    try simp only [decide_eq_true_eq, decide_eq_false_iff_not, Bool.not_eq_true', Bool.not_eq_false', Int.not_lt, Int.not_le, ne_eq, Decidable.not_not] at hc1
    have hE : openE l = 4 := openE_short (by omega)
    refine x_seq fun K4 hK4 => ?_
    refine x_region ?_
    refine s_go (s_assign) ?_
    try simp only [opv, n1, n2, n3, n4, Value.cells]
    refine s_go (s_assign) ?_
    try simp only [opv, n1, n2, n3, n4, Value.cells]
    refine x_nil ?_
    refine hK4 _ _ ?_
    refine x_ret ?_
    refine r_tmp2 rfl ?_
    have hD := openD_none (l := l) (by rw [hE]; decide)
    exact ⟨none, 0, 0, by rw [hE]; rfl, by rw [hD]; rfl, hS.ext_of, by rw [hD]; exact ⟨rfl, fun h => absurd h (by omega)⟩, fun h => absurd h (by omega)⟩
  ·
    try simp only [decide_eq_true_eq, decide_eq_false_iff_not, Bool.not_eq_true', Bool.not_eq_false', Int.not_lt, Int.not_le, ne_eq, Decidable.not_not] at hc1
    have hcl : crcM 65535 (l.take (n - 2)) < 65536 := crcM_lt _ (by omega)
    have hb1 := hw.bt (n - 2)
    have hb2 := hw.bt (n - 1)
    refine x_skip ?_
    refine hK2 _ _ ?_
    refine x_seq fun K5 hK5 => ?_
    refine x_region ?_
    refine s_go (s_move) ?_
    try simp only [opv, n1, n2, n3, n4, Value.cells]
    refine s_go (s_move) ?_
    try simp only [opv, n1, n2, n3, n4, Value.cells]
    refine s_go (s_len_sl Try.underlying42) ?_
    try simp only [opv, n1, n2, n3, n4, Value.cells]
    refine s_go (s_sub (hc := by first | exact wr_i64 (by omega) (by omega) | rfl)) ?_
    try simp only [opv, n1, n2, n3, n4, Value.cells]
    rw [show (n : Int) - 2 = ((n - 2 : Nat) : Int) by omega]
    refine m_slice_rd (lo := 0) (hi := n - 2) (m := _) Try.underlying42 ti5 (hlo := rfl) (hhi := ⟨_, rfl⟩) (hmx := rfl) (hS := hS) (h := fun A1 hA1 hS => ?_)
    try simp only [← List.map_append, ← List.map_drop, ← List.map_take, Nat.mul_one, Nat.zero_mul, Nat.sub_zero, List.drop_zero, List.nil_append, Nat.zero_add] at hS ⊢
    try simp only [opv, n1, n2, n3, n4, Value.cells, Array.toArray_toList] at hS ⊢
    refine s_go (s_assign) ?_
    try simp only [opv, n1, n2, n3, n4, Value.cells]
    refine x_nil ?_
    refine hK5 _ _ ?_
    refine x_seq fun K6 hK6 => ?_
    refine x_seq fun K7 hK7 => ?_
    refine x_region ?_
    refine s_go (s_move) ?_
    try simp only [opv, n1, n2, n3, n4, Value.cells]
    refine s_call en45 ?_
    try simp only [opv, n1, n2, n3, n4, Value.cells, List.map_toArray, List.map_cons, List.map_nil, List.append_toArray, List.cons_append, List.nil_append, Array.append_empty]
    refine CallR.mono (c_ref05Sum _ _ _ _ _ (hS.hasRd (by repeat (first | exact Has.head | apply Has.tail))) (by simp [*]) (by first | assumption | exact Byt.take (by assumption) _) (by omega) (by omega)) ?_
    rintro _ w1 ⟨rfl, hE1⟩
    replace hS := hS.ext hE1
    try simp only [opv, n1, n2, n3, n4, Value.cells]
    refine s_go (s_assign) ?_
    try simp only [opv, n1, n2, n3, n4, Value.cells]
    refine x_nil ?_
    refine hK7 _ _ ?_
    refine x_seq fun K8 hK8 => ?_
    refine x_region ?_
    refine s_go (s_move) ?_
    try simp only [opv, n1, n2, n3, n4, Value.cells]
    refine s_go (s_quo (hc := quo_u16 (r := crcM 65535 (l.take (n - 2))) (p := 256) (by omega))) ?_
    try simp only [opv, n1, n2, n3, n4, Value.cells]
    refine s_go (s_conv Try.underlying43 Try.underlying5 (hc := by first | exact wr_u8 (by omega) (by omega) | rfl)) ?_
    try simp only [opv, n1, n2, n3, n4, Value.cells]
    refine s_go (s_move) ?_
    try simp only [opv, n1, n2, n3, n4, Value.cells]
    refine s_go (s_move) ?_
    try simp only [opv, n1, n2, n3, n4, Value.cells]
    refine s_go (s_len_sl Try.underlying42) ?_
    try simp only [opv, n1, n2, n3, n4, Value.cells]
    refine s_go (s_sub (hc := by first | exact wr_i64 (by omega) (by omega) | rfl)) ?_
    try simp only [opv, n1, n2, n3, n4, Value.cells]
    rw [show (n : Int) - 2 = ((n - 2 : Nat) : Int) by omega]
    first | refine s_go (m_indexAddr_rd Try.underlying42 ti5 (hS := hS)) ?_ | refine s_go (m_indexAddr_vec Try.underlying42 ti5 (hS := hS)) ?_
    try simp only [opv, n1, n2, n3, n4, Value.cells, Nat.mul_one, Nat.zero_add, Int.toNat_natCast]
    first | refine s_go (m_load_obj Try.underlying5 (hS := hS)) ?_ | refine s_go (m_load_rd Try.underlying5 (hS := hS)) ?_ | refine s_go (m_load_vec Try.underlying5 (hS := hS)) ?_
    try simp only [opv, n1, n2, n3, n4, Value.cells]
    rw [hb1.1]
    refine s_go (s_neq) ?_
    try simp only [opv, n1, n2, n3, n4, Value.cells]
    refine s_go (s_move) ?_
    try simp only [opv, n1, n2, n3, n4, Value.cells]
    refine s_part 26 rfl (fun hp1 => ?_) (fun hp1 => ?_)
    ·
      try simp only [n3, n4]
      try simp only [decide_eq_true_eq, decide_eq_false_iff_not, Bool.not_eq_true', Bool.not_eq_false', Int.not_lt, Int.not_le, ne_eq, Decidable.not_not] at hp1
      have hE : openE l = 5 := openE_bad (by omega) (by rw [hl]; omega)
      refine g_off (yi (t := 26) rfl rfl) ?_
      try simp only [opv, n1, n2, n3, n4, Value.cells]
      refine g_off (yi (t := 26) rfl rfl) ?_
      try simp only [opv, n1, n2, n3, n4, Value.cells]
      refine g_off (yi (t := 26) rfl rfl) ?_
      try simp only [opv, n1, n2, n3, n4, Value.cells]
      refine g_off (yi (t := 26) rfl rfl) ?_
      try simp only [opv, n1, n2, n3, n4, Value.cells]
      refine g_off (yi (t := 26) rfl rfl) ?_
      try simp only [opv, n1, n2, n3, n4, Value.cells]
      refine g_off (yi (t := 26) rfl rfl) ?_
      try simp only [opv, n1, n2, n3, n4, Value.cells]
      refine g_off (yi (t := 26) rfl rfl) ?_
      try simp only [opv, n1, n2, n3, n4, Value.cells]
      refine g_off (yi (t := 26) rfl rfl) ?_
      try simp only [opv, n1, n2, n3, n4, Value.cells]
      refine g_off (yi (t := 26) rfl rfl) ?_
      try simp only [opv, n1, n2, n3, n4, Value.cells]
      refine g_off (yi (t := 26) rfl rfl) ?_
      try simp only [opv, n1, n2, n3, n4, Value.cells]
      first | refine s_go (s_pick_t) ?_ | refine s_go (s_pick_f) ?_
      try simp only [opv, n1, n2, n3, n4, Value.cells]
      refine x_nil ?_
      refine hK8 _ _ ?_
      refine x_cond_t (h := ?_)
      refine x_seq fun K9 hK9 => ?_
      refine x_region ?_
      refine s_go (s_assign) ?_
      try simp only [opv, n1, n2, n3, n4, Value.cells]
      refine s_go (s_assign) ?_
      try simp only [opv, n1, n2, n3, n4, Value.cells]
      refine x_nil ?_
      refine hK9 _ _ ?_
      refine x_ret ?_
      refine r_tmp2 rfl ?_
      have hD := openD_none (l := l) (by rw [hE]; decide)
      exact ⟨none, 0, 0, by rw [hE]; rfl, by rw [hD]; rfl, hS.ext_of, by rw [hD]; exact ⟨rfl, fun h => absurd h (by omega)⟩, fun h => absurd h (by omega)⟩
    ·
      try simp only [n3, n4]
      try simp only [decide_eq_true_eq, decide_eq_false_iff_not, Bool.not_eq_true', Bool.not_eq_false', Int.not_lt, Int.not_le, ne_eq, Decidable.not_not] at hp1
      refine g_on (yi (t := 26) rfl rfl) ?_
      refine s_go (s_move) ?_
      try simp only [opv, n1, n2, n3, n4, Value.cells]
      refine g_on (yi (t := 26) rfl rfl) ?_
      refine s_go (s_rem (hc := rem_nat (r := crcM 65535 (l.take (n - 2))) (p := 256))) ?_
      try simp only [opv, n1, n2, n3, n4, Value.cells]
      refine g_on (yi (t := 26) rfl rfl) ?_
      refine s_go (s_conv Try.underlying43 Try.underlying5 (hc := by first | exact wr_u8 (by omega) (by omega) | rfl)) ?_
      try simp only [opv, n1, n2, n3, n4, Value.cells]
      refine g_on (yi (t := 26) rfl rfl) ?_
      refine s_go (s_move) ?_
      try simp only [opv, n1, n2, n3, n4, Value.cells]
      refine g_on (yi (t := 26) rfl rfl) ?_
      refine s_go (s_move) ?_
      try simp only [opv, n1, n2, n3, n4, Value.cells]
      refine g_on (yi (t := 26) rfl rfl) ?_
      refine s_go (s_len_sl Try.underlying42) ?_
      try simp only [opv, n1, n2, n3, n4, Value.cells]
      refine g_on (yi (t := 26) rfl rfl) ?_
      refine s_go (s_sub (hc := by first | exact wr_i64 (by omega) (by omega) | rfl)) ?_
      try simp only [opv, n1, n2, n3, n4, Value.cells]
      rw [show (n : Int) - 1 = ((n - 1 : Nat) : Int) by omega]
      refine g_on (yi (t := 26) rfl rfl) ?_
      first | refine s_go (m_indexAddr_rd Try.underlying42 ti5 (hS := hS)) ?_ | refine s_go (m_indexAddr_vec Try.underlying42 ti5 (hS := hS)) ?_
      try simp only [opv, n1, n2, n3, n4, Value.cells, Nat.mul_one, Nat.zero_add, Int.toNat_natCast]
      refine g_on (yi (t := 26) rfl rfl) ?_
      first | refine s_go (m_load_obj Try.underlying5 (hS := hS)) ?_ | refine s_go (m_load_rd Try.underlying5 (hS := hS)) ?_ | refine s_go (m_load_vec Try.underlying5 (hS := hS)) ?_
      try simp only [opv, n1, n2, n3, n4, Value.cells]
      rw [hb2.1]
      refine g_on (yi (t := 26) rfl rfl) ?_
      refine s_go (s_neq) ?_
      try simp only [opv, n1, n2, n3, n4, Value.cells]
      first | refine s_go (s_pick_t) ?_ | refine s_go (s_pick_f) ?_
      try simp only [opv, n1, n2, n3, n4, Value.cells]
      refine x_nil ?_
      refine hK8 _ _ ?_
      refine x_cond (ht := fun hc3 => ?_) (hf := fun hc3 => ?_)
      ·
        try simp only [decide_eq_true_eq, decide_eq_false_iff_not, Bool.not_eq_true', Bool.not_eq_false', Int.not_lt, Int.not_le, ne_eq, Decidable.not_not] at hc3
        have hE : openE l = 5 := openE_bad (by omega) (by rw [hl]; omega)
        refine x_seq fun K10 hK10 => ?_
        refine x_region ?_
        refine s_go (s_assign) ?_
        try simp only [opv, n1, n2, n3, n4, Value.cells]
        refine s_go (s_assign) ?_
        try simp only [opv, n1, n2, n3, n4, Value.cells]
        refine x_nil ?_
        refine hK10 _ _ ?_
        refine x_ret ?_
        refine r_tmp2 rfl ?_
        have hD := openD_none (l := l) (by rw [hE]; decide)
        exact ⟨none, 0, 0, by rw [hE]; rfl, by rw [hD]; rfl, hS.ext_of, by rw [hD]; exact ⟨rfl, fun h => absurd h (by omega)⟩, fun h => absurd h (by omega)⟩
      ·
        try simp only [decide_eq_true_eq, decide_eq_false_iff_not, Bool.not_eq_true', Bool.not_eq_false', Int.not_lt, Int.not_le, ne_eq, Decidable.not_not] at hc3
        have hE : openE l = 0 := openE_ok (by omega) (by rw [hl]; omega)
        refine x_skip ?_
        refine hK6 _ _ ?_
        refine x_seq fun K11 hK11 => ?_
        refine x_region ?_
        refine s_go (s_move) ?_
        try simp only [opv, n1, n2, n3, n4, Value.cells]
        refine s_go (s_assign) ?_
        try simp only [opv, n1, n2, n3, n4, Value.cells]
        refine s_go (s_assign) ?_
        try simp only [opv, n1, n2, n3, n4, Value.cells]
        refine x_nil ?_
        refine hK11 _ _ ?_
        refine x_ret ?_
        refine r_tmp2 rfl ?_
        have hD := openD_ok hE
        rw [hl] at hD
        exact ⟨_, _, _, by rw [hE]; rfl, by rw [hD]; simp; omega, hS.ext_of, by rw [hD]; exact hS.hasRd (by repeat (first | exact Has.head | apply Has.tail)), fun h => ⟨by omega, by rw [hA1 h]; cases A <;> rfl⟩⟩

theorem c_ref03Same (w0 : World) (A B : Option Addr) (n m c d : Nat) (a b : List Int) (ha : Rd w0 A 1 n (a.map (Value.int .u8))) (hb : Rd w0 B 1 m (b.map (Value.int .u8))) (hal : a.length = n) (hbl : b.length = m) (hn : n ≤ 140737488355328) :
    CallR Try.prog 49 #[.slice A n c, .slice B m d] w0 fun v w' => v = .bool (decide (a = b)) ∧ Ext w0 w' := by
  have hS := St.rd2 (S := NoB) ha hb
  refine c_enter (l := [.slice A n c, .slice B m d, undef, undef, undef, undef, undef, undef, undef, undef, undef, undef, undef, undef, undef, undef, undef, undef, undef, undef, undef, undef, undef, undef, undef, undef]) Try.func49 rfl (by simp only [Try.ntmps49, List.size_toArray, List.length_cons, List.length_nil, Nat.reduceAdd, Nat.reduceSub, Array.replicate_succ, Array.replicate_zero, List.push_toArray, List.append_toArray, List.nil_append, List.cons_append]) ?_
  refine x_seq fun K1 hK1 => ?_
  refine x_region ?_
  refine s_go (s_assign) ?_
  try simp only [opv, n1, n2, n3, n4, Value.cells]
  refine x_nil ?_
  refine hK1 _ _ ?_
  refine x_seq fun K2 hK2 => ?_
  refine x_seq fun K3 hK3 => ?_
  refine x_region ?_
  refine s_go (s_move) ?_
  try simp only [opv, n1, n2, n3, n4, Value.cells]
  refine s_go (s_len_sl Try.underlying42) ?_
  try simp only [opv, n1, n2, n3, n4, Value.cells]
  refine s_go (s_move) ?_
  try simp only [opv, n1, n2, n3, n4, Value.cells]
  refine s_go (s_len_sl Try.underlying42) ?_
  try simp only [opv, n1, n2, n3, n4, Value.cells]
  refine s_go (s_neq) ?_
  try simp only [opv, n1, n2, n3, n4, Value.cells]
  refine x_nil ?_
  refine hK3 _ _ ?_
  refine x_cond (ht := fun hc1 => ?_) (hf := fun hc1 => ?_)
  ·
    try simp only [decide_eq_true_eq, decide_eq_false_iff_not, Bool.not_eq_true', Bool.not_eq_false', Int.not_lt, Int.not_le, ne_eq, Decidable.not_not] at hc1
    have hne : ¬ a = b := fun h => by subst h; omega
    refine x_seq fun K4 hK4 => ?_
    refine x_region ?_
    refine s_go (s_assign) ?_
    try simp only [opv, n1, n2, n3, n4, Value.cells]
    refine x_nil ?_
    refine hK4 _ _ ?_
    refine x_ret ?_
    refine r_tmp rfl ?_
    exact ⟨by simp [hne], hS.ext_of⟩
  ·
    try simp only [decide_eq_true_eq, decide_eq_false_iff_not, Bool.not_eq_true', Bool.not_eq_false', Int.not_lt, Int.not_le, ne_eq, Decidable.not_not] at hc1
    obtain rfl : n = m := by omega
    refine x_skip ?_
    refine hK2 _ _ ?_
    refine x_seq fun K5 hK5 => ?_
    refine x_seq fun K6 hK6 => ?_
    refine x_region ?_
    refine s_go (s_assign) ?_
    try simp only [opv, n1, n2, n3, n4, Value.cells]
    refine x_nil ?_
    refine hK6 _ _ ?_
    refine x_block ?_
    refine x_loop [4, 5, 11, 12, 13, 14, 15, 16, 17, 18, 19, 20, 21, 22, 23, 24, 25] (fun m f w => ∃ k : Nat, k ≤ n ∧ m = n - k ∧ f 5 = .int .i64 (k : Int) ∧ a.take k = b.take k ∧ St NoB w0 w [.rd A 1 n (a.map (Value.int .u8)), .rd B 1 n (b.map (Value.int .u8))]) (n) ?init1 (fun m1 f1 wl1 hI => ?_)
    case init1 =>
      try simp only [opv, n1, n2, n3, n4, Value.cells]
      exact ⟨0, by omega, rfl, rfl, rfl, hS⟩
    obtain ⟨k, hk, hm, h5, hab, hS⟩ := hI
    simp only [clob, List.foldl, n3, n4, h5]
    refine x_seq fun K7 hK7 => ?_
    refine x_seq fun K8 hK8 => ?_
    refine x_region ?_
    refine s_go (s_move) ?_
    try simp only [opv, n1, n2, n3, n4, Value.cells]
    refine s_go (s_move) ?_
    try simp only [opv, n1, n2, n3, n4, Value.cells]
    refine s_go (s_len_sl Try.underlying42) ?_
    try simp only [opv, n1, n2, n3, n4, Value.cells]
    refine s_go (s_lss) ?_
    try simp only [opv, n1, n2, n3, n4, Value.cells]
    refine x_nil ?_
    refine hK8 _ _ ?_
    refine x_cond (ht := fun hc2 => ?_) (hf := fun hc2 => ?_)
    ·
      try simp only [decide_eq_true_eq, decide_eq_false_iff_not, Bool.not_eq_true', Bool.not_eq_false', Int.not_lt, Int.not_le, ne_eq, Decidable.not_not] at hc2
      refine x_skip ?_
      refine hK7 _ _ ?_
      refine x_seq fun K9 hK9 => ?_
      refine x_block ?_
      refine x_seq fun K10 hK10 => ?_
      refine x_quiet (by kernel_rfl) (by kernel_rfl) hS ?_
      refine q_go (fun w hS => s_move) ?_
      try simp only [opv, n1, n2, n3, n4, Value.cells]
      refine q_go (fun w hS => s_move) ?_
      try simp only [opv, n1, n2, n3, n4, Value.cells]
      first | refine q_go (fun w hS => m_indexAddr_rd Try.underlying42 ti5 (hS := hS)) ?_ | refine q_go (fun w hS => m_indexAddr_vec Try.underlying42 ti5 (hS := hS)) ?_
      try simp only [opv, n1, n2, n3, n4, Value.cells, Nat.mul_one, Nat.zero_add, Int.toNat_natCast]
      first | refine q_go (fun w hS => m_load_obj Try.underlying5 (hS := hS)) ?_ | refine q_go (fun w hS => m_load_rd Try.underlying5 (hS := hS)) ?_ | refine q_go (fun w hS => m_load_vec Try.underlying5 (hS := hS)) ?_
      try simp only [opv, n1, n2, n3, n4, Value.cells]
      refine q_go (fun w hS => s_move) ?_
      try simp only [opv, n1, n2, n3, n4, Value.cells]
      refine q_go (fun w hS => s_move) ?_
      try simp only [opv, n1, n2, n3, n4, Value.cells]
      first | refine q_go (fun w hS => m_indexAddr_rd Try.underlying42 ti5 (hS := hS)) ?_ | refine q_go (fun w hS => m_indexAddr_vec Try.underlying42 ti5 (hS := hS)) ?_
      try simp only [opv, n1, n2, n3, n4, Value.cells, Nat.mul_one, Nat.zero_add, Int.toNat_natCast]
      first | refine q_go (fun w hS => m_load_obj Try.underlying5 (hS := hS)) ?_ | refine q_go (fun w hS => m_load_rd Try.underlying5 (hS := hS)) ?_ | refine q_go (fun w hS => m_load_vec Try.underlying5 (hS := hS)) ?_
      try simp only [opv, n1, n2, n3, n4, Value.cells]
      refine q_go (fun w hS => s_neq) ?_
      try simp only [opv, n1, n2, n3, n4, Value.cells]
      clear hS
      refine q_nil fun w1 hS => ?_
      refine hK10 _ _ ?_
      refine x_cond (ht := fun hc3 => ?_) (hf := fun hc3 => ?_)
      ·
        try simp only [decide_eq_true_eq, decide_eq_false_iff_not, Bool.not_eq_true', Bool.not_eq_false', Int.not_lt, Int.not_le, ne_eq, Decidable.not_not] at hc3
        have hne : ¬ a = b := fun h => by subst h; exact hc3 rfl
        refine x_seq fun K11 hK11 => ?_
        refine x_region ?_
        refine s_go (s_assign) ?_
        try simp only [opv, n1, n2, n3, n4, Value.cells]
        refine x_nil ?_
        refine hK11 _ _ ?_
        refine x_ret ?_
        refine r_tmp rfl ?_
        exact ⟨by simp [hne], hS.ext_of⟩
      ·
        try simp only [decide_eq_true_eq, decide_eq_false_iff_not, Bool.not_eq_true', Bool.not_eq_false', Int.not_lt, Int.not_le, ne_eq, Decidable.not_not] at hc3
        refine x_skip ?_
        refine hK9 _ _ ?_
        refine x_region ?_
        refine s_go (s_move) ?_
        try simp only [opv, n1, n2, n3, n4, Value.cells]
        refine s_go (s_add (hc := by first | exact wr_i64 (by omega) (by omega) | rfl)) ?_
        try simp only [opv, n1, n2, n3, n4, Value.cells]
        refine s_go (s_assign) ?_
        try simp only [opv, n1, n2, n3, n4, Value.cells]
        refine x_nil ?_
        refine loop_back (m' := n - (k + 1)) (by simp only [clob, List.foldl, n1, n2, n3, n4]) ?_ ?_
        · try simp only [opv, n1, n2, n3, n4, Value.cells]
          exact ⟨k + 1, by omega, by omega, by rfl, by rw [take_succ_getD (by omega), take_succ_getD (by omega), hab, hc3], hS⟩
        · omega
    ·
      try simp only [decide_eq_true_eq, decide_eq_false_iff_not, Bool.not_eq_true', Bool.not_eq_false', Int.not_lt, Int.not_le, ne_eq, Decidable.not_not] at hc2
      obtain rfl : k = n := by omega
      have heq : a = b := by rw [← List.take_length (l := a), ← List.take_length (l := b), hal, hbl]; exact hab
      refine x_exit (look_here ?_)
      refine hK5 _ _ ?_
      refine x_seq fun K12 hK12 => ?_
      refine x_region ?_
      refine s_go (s_assign) ?_
      try simp only [opv, n1, n2, n3, n4, Value.cells]
      refine x_nil ?_
      refine hK12 _ _ ?_
      refine x_ret ?_
      refine r_tmp rfl ?_
      exact ⟨by simp [heq], hS.ext_of⟩
end Go.Proofs.Ytjgbcaegofpggaa
