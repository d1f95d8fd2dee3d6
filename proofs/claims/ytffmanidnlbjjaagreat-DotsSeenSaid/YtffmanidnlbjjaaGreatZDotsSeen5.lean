/- Rules, plain words and walks that the claim leans on: Rb, Rc, Rd, Re, Cv, Rf, Rg, Rh. -/
import Derived.Test.YtffmanidnlbjjaaGreatZDotsSeen4
set_option linter.unusedSimpArgs false
set_option linter.unusedVariables false
set_option linter.unusedSimpArgs false
set_option linter.unusedVariables false
set_option maxHeartbeats 2000000
set_option maxRecDepth 100000
namespace Go.Proofs.YtffmanidnlbjjaaGreat
open Go.RowKit

/-- a set's cells -/
def setL (v : List Int) (s : Value) : List Value := v.map (Value.int .u32) ++ [s]
abbrev SetC (v : List Int) (s : Value) : Array Value := (setL v s).toArray
theorem setL_len {v : List Int} (h : v.length = 16) (s : Value) : (setL v s).length = 17 := by simp [setL, h]
theorem setC_size {v : List Int} (h : v.length = 16) (s : Value) : (SetC v s).size = 17 := setL_len h s
theorem set_flo {v : List Int} (h : v.length = 16) (s : Value) : (((SetC v s).toList.drop 0).take 16).toArray = ic .u32 v := by
  show ((setL v s).take 16).toArray = _
  rw [setL, List.take_left' (by simpa using h)]; rfl
theorem set_sl {v : List Int} (h : v.length = 16) (s : Value) : (SetC v s)[16]? = some s := by
  rw [List.getElem?_toArray, setL, List.getElem?_append_right (by simp [h])]; simp [h]
theorem set_at {v : List Int} (h : v.length = 16) (s : Value) {r : Nat} (hr : r < 16) : (SetC v s)[r]? = some (.int .u32 (v.getD r 0)) := by
  rw [List.getElem?_toArray, setL, List.getElem?_append_left (by simp [h, hr])]; exact il_get (by omega)
theorem set_put {v : List Int} (h : v.length = 16) (s : Value) {r : Nat} (hr : r < 16) (n : Int) : splice (SetC v s).toList r [.int .u32 n] = setL (v.set r n) s := by
  show splice (setL v s) r _ = _
  rw [splice_one (by rw [setL_len h]; omega), setL, List.set_append_left _ _ (by simp [h, hr]), setL, List.map_set]
theorem set_put16 {v : List Int} (h : v.length = 16) (s s' : Value) : splice (SetC v s).toList 16 [s'] = setL v s' := by
  show splice (setL v s) 16 _ = _
  rw [splice_one (by rw [setL_len h]; omega), setL, List.set_append_right _ _ (by simp [h])]; simp [h, setL]
theorem set_whole {v v' : List Int} (h : v.length = 16) (h' : v'.length = 16) (s s' : Value) : splice (SetC v s).toList 0 (SetC v' s').toList = setL v' s' := splice_all (by show (setL v' s').length = (setL v s).length; rw [setL_len h, setL_len h'])
theorem set_one (v : List Int) (A : Option Addr) (n c : Nat) : ∀ u ∈ setL v (.slice A n c), u.oneCell' = true := by
  intro u hu
  rcases List.mem_append.1 hu with hu | hu
  · exact il_one _ _ u hu
  · rw [List.mem_singleton] at hu; rw [hu]; rfl
theorem fill_set {pl : Nat → Option (Nat × Nat)} {v : List Int} (h0 : pl 0 = some (0, 16)) (h : v.length = 16) : Instr.fill pl (setL (List.replicate 16 0) (.slice none 0 0)).toArray [(0, .agg (ic .u32 v))] = some (SetC v (.slice none 0 0)) := by
  refine fill_cons h0 (by simpa [Value.cells] using h) (by simp [setL]) ?_
  simp only [fill_nil, Value.cells]
  have e : splice (setL (List.replicate 16 0) (.slice none 0 0)).toArray.toList 0 (ic .u32 v).toList = setL v (.slice none 0 0) := by
    simp [splice, setL, ic, h]
  rw [e]
theorem fill_set2 {pl : Nat → Option (Nat × Nat)} {v : List Int} {A : Option Addr} {n c : Nat} (h0 : pl 0 = some (0, 16)) (h1 : pl 1 = some (16, 1)) (h : v.length = 16) : Instr.fill pl (setL (List.replicate 16 0) (.slice none 0 0)).toArray [(0, .agg (ic .u32 v)), (1, .slice A n c)] = some (SetC v (.slice A n c)) := by
  refine fill_cons h0 (by simpa [Value.cells] using h) (by simp [setL]) ?_
  have e : splice (setL (List.replicate 16 0) (.slice none 0 0)).toArray.toList 0 (ic .u32 v).toList = setL v (.slice none 0 0) := by
    simp [splice, setL, ic, h]
  simp only [Value.cells]
  rw [e]
  refine fill_cons h1 rfl (by rw [List.size_toArray, setL_len h]; omega) ?_
  simp only [fill_nil, Value.cells]
  exact congrArg (fun l : List Value => some l.toArray) (set_put16 h _ _)
def U64s (l : List Int) : Prop := ∀ x ∈ l, 0 ≤ x ∧ x < 18446744073709551616
theorem U64s.get {l : List Int} (h : U64s l) {k : Nat} (hk : k < l.length) : 0 ≤ l.getD k 0 ∧ l.getD k 0 < 18446744073709551616 := h _ (getD_mem' hk)
theorem U64s.app {l m : List Int} (h : U64s l) (h2 : U64s m) : U64s (l ++ m) := fun x hx => (List.mem_append.1 hx).elim (h x) (h2 x)
theorem U64s.nil : U64s [] := fun x h => by cases h
theorem may_nat {x : Nat} : MayD (x : Int) ↔ x / 4294967296 < 16 ∧ 0 < x % 4294967296 := by unfold MayD; omega
theorem dR_nat {x : Nat} : dR (x : Int) = x / 4294967296 := by unfold dR; omega
theorem may_u64 {d : Int} (h : MayD d) : 0 ≤ d ∧ d < 18446744073709551616 := by obtain ⟨a, b, c⟩ := h; omega

theorem c_dotsMay (x : Nat) (hx : x < 18446744073709551616)  (w0 : World) :
    CallR Tryz.prog 102 #[.int .u64 (x : Int)] w0 fun v w' => v = .bool (decide (MayD (x : Int))) ∧ Ext w0 w' := by
 have hS : St NoB w0 w0 [] := St.start w0
 refine c_enter (l := [.int .u64 (x : Int), undef, undef, undef, undef, undef, undef, undef, undef, undef, undef, undef, undef, undef, undef, undef, undef, undef, undef, undef]) Tryz.func102 rfl (by simp only [Tryz.ntmps102, List.size_toArray, List.length_cons, List.length_nil, Nat.reduceAdd, Nat.reduceSub, Array.replicate_succ, Array.replicate_zero, List.push_toArray, List.append_toArray, List.nil_append, List.cons_append]) ?_
 refine x_seq fun K1 hK1 => ?_
 refine x_region ?_
 refine s_go (s_assign) ?_
 try simp only [opv, n1, n2, n3, n4, Value.cells]
 refine x_nil ?_
 refine hK1 _ _ ?_
 refine x_seq fun K2 hK2 => ?_
 refine x_region ?_
 refine s_go (s_move) ?_
 try simp only [opv, n1, n2, n3, n4, Value.cells]
 refine s_call en106 ?_
 try simp only [opv, n1, n2, n3, n4, Value.cells, List.map_toArray, List.map_cons, List.map_nil, List.append_toArray, List.cons_append, List.nil_append, Array.append_empty]
 refine CallR.mono (c_keyUndot x hx _) ?_
 rintro _ w1 ⟨rfl, hE1⟩
 replace hS := hS.ext hE1
 try simp only [opv, n1, n2, n3, n4, Value.cells]
 refine s_go (s_move) ?_
 try simp only [opv, n1, n2, n3, n4, Value.cells]
 refine s_go (s_extract (hv := rfl)) ?_
 try simp only [List.getElem_toArray, List.getElem_cons_zero, List.getElem_cons_succ]
 try simp only [opv, n1, n2, n3, n4, Value.cells]
 refine s_go (s_extract (hv := rfl)) ?_
 try simp only [List.getElem_toArray, List.getElem_cons_zero, List.getElem_cons_succ]
 try simp only [opv, n1, n2, n3, n4, Value.cells]
 refine s_go (s_assign) ?_
 try simp only [opv, n1, n2, n3, n4, Value.cells]
 refine s_go (s_assign) ?_
 try simp only [opv, n1, n2, n3, n4, Value.cells]
 refine x_nil ?_
 refine hK2 _ _ ?_
 refine x_seq fun K3 hK3 => ?_
 refine x_region ?_
 refine s_go (s_move) ?_
 try simp only [opv, n1, n2, n3, n4, Value.cells]
 refine s_go (s_lss) ?_
 try simp only [opv, n1, n2, n3, n4, Value.cells]
 refine s_go (s_move) ?_
 try simp only [opv, n1, n2, n3, n4, Value.cells]
 refine s_part 12 rfl (fun hp1 => ?_) (fun hp1 => ?_)
 ·
  try simp only [n3, n4]
  try simp only [decide_eq_true_eq, decide_eq_false_iff_not, Bool.not_eq_true', Bool.not_eq_false', Int.not_lt, Int.not_le, ne_eq, Decidable.not_not] at hp1
  refine g_on (yi (t := 12) rfl rfl) ?_
  refine s_go (s_move) ?_
  try simp only [opv, n1, n2, n3, n4, Value.cells]
  refine g_on (yi (t := 12) rfl rfl) ?_
  refine s_go (s_lss) ?_
  try simp only [opv, n1, n2, n3, n4, Value.cells]
  first | refine s_go (s_pick_t) ?_ | refine s_go (s_pick_f) ?_
  try simp only [opv, n1, n2, n3, n4, Value.cells]
  refine s_go (s_move) ?_
  try simp only [opv, n1, n2, n3, n4, Value.cells]
  refine s_part 16 rfl (fun hp2 => ?_) (fun hp2 => ?_)
  ·
   try simp only [n3, n4]
   try simp only [decide_eq_true_eq, decide_eq_false_iff_not, Bool.not_eq_true', Bool.not_eq_false', Int.not_lt, Int.not_le, ne_eq, Decidable.not_not] at hp2
   refine g_on (yi (t := 16) rfl rfl) ?_
   refine s_go (s_move) ?_
   try simp only [opv, n1, n2, n3, n4, Value.cells]
   refine g_on (yi (t := 16) rfl rfl) ?_
   refine s_go (s_neq) ?_
   try simp only [opv, n1, n2, n3, n4, Value.cells]
   first | refine s_go (s_pick_t) ?_ | refine s_go (s_pick_f) ?_
   try simp only [opv, n1, n2, n3, n4, Value.cells]
   refine s_go (s_assign) ?_
   try simp only [opv, n1, n2, n3, n4, Value.cells]
   refine x_nil ?_
   refine hK3 _ _ ?_
   refine x_ret ?_
   refine r_tmp rfl ?_
   exact ⟨congrArg Value.bool (by rw [Bool.eq_iff_iff]; simp only [decide_eq_true_eq, may_nat]; simp at *; omega), hS.ext_of⟩
  ·
   try simp only [n3, n4]
   try simp only [decide_eq_true_eq, decide_eq_false_iff_not, Bool.not_eq_true', Bool.not_eq_false', Int.not_lt, Int.not_le, ne_eq, Decidable.not_not] at hp2
   refine g_off (yi (t := 16) rfl rfl) ?_
   try simp only [opv, n1, n2, n3, n4, Value.cells]
   refine g_off (yi (t := 16) rfl rfl) ?_
   try simp only [opv, n1, n2, n3, n4, Value.cells]
   first | refine s_go (s_pick_t) ?_ | refine s_go (s_pick_f) ?_
   try simp only [opv, n1, n2, n3, n4, Value.cells]
   refine s_go (s_assign) ?_
   try simp only [opv, n1, n2, n3, n4, Value.cells]
   refine x_nil ?_
   refine hK3 _ _ ?_
   refine x_ret ?_
   refine r_tmp rfl ?_
   exact ⟨congrArg Value.bool (by rw [Bool.eq_iff_iff]; simp only [decide_eq_true_eq, may_nat]; simp at *; omega), hS.ext_of⟩
 ·
  try simp only [n3, n4]
  try simp only [decide_eq_true_eq, decide_eq_false_iff_not, Bool.not_eq_true', Bool.not_eq_false', Int.not_lt, Int.not_le, ne_eq, Decidable.not_not] at hp1
  refine g_off (yi (t := 12) rfl rfl) ?_
  try simp only [opv, n1, n2, n3, n4, Value.cells]
  refine g_off (yi (t := 12) rfl rfl) ?_
  try simp only [opv, n1, n2, n3, n4, Value.cells]
  first | refine s_go (s_pick_t) ?_ | refine s_go (s_pick_f) ?_
  try simp only [opv, n1, n2, n3, n4, Value.cells]
  refine s_go (s_move) ?_
  try simp only [opv, n1, n2, n3, n4, Value.cells]
  refine g_off (yi (t := 16) rfl rfl) ?_
  try simp only [opv, n1, n2, n3, n4, Value.cells]
  refine g_off (yi (t := 16) rfl rfl) ?_
  try simp only [opv, n1, n2, n3, n4, Value.cells]
  first | refine s_go (s_pick_t) ?_ | refine s_go (s_pick_f) ?_
  try simp only [opv, n1, n2, n3, n4, Value.cells]
  refine s_go (s_assign) ?_
  try simp only [opv, n1, n2, n3, n4, Value.cells]
  refine x_nil ?_
  refine hK3 _ _ ?_
  refine x_ret ?_
  refine r_tmp rfl ?_
  exact ⟨congrArg Value.bool (by rw [Bool.eq_iff_iff]; simp only [decide_eq_true_eq, may_nat]; simp at *; omega), hS.ext_of⟩
theorem c_ref13May (x : Nat) (hx : x < 18446744073709551616)  (w0 : World) :
    CallR Tryz.prog 108 #[.int .u64 (x : Int)] w0 fun v w' => v = .bool (decide (MayD (x : Int))) ∧ Ext w0 w' := by
 have hS : St NoB w0 w0 [] := St.start w0
 refine c_enter (l := [.int .u64 (x : Int), undef, undef, undef, undef, undef, undef, undef, undef, undef, undef]) Tryz.func108 rfl (by simp only [Tryz.ntmps108, List.size_toArray, List.length_cons, List.length_nil, Nat.reduceAdd, Nat.reduceSub, Array.replicate_succ, Array.replicate_zero, List.push_toArray, List.append_toArray, List.nil_append, List.cons_append]) ?_
 refine x_seq fun K1 hK1 => ?_
 refine x_region ?_
 refine s_go (s_assign) ?_
 try simp only [opv, n1, n2, n3, n4, Value.cells]
 refine x_nil ?_
 refine hK1 _ _ ?_
 refine x_seq fun K2 hK2 => ?_
 refine x_region ?_
 refine s_go (s_move) ?_
 try simp only [opv, n1, n2, n3, n4, Value.cells]
 refine s_go (s_quo (hc := quo_u64 (p := 4294967296) (by omega))) ?_
 try simp only [opv, n1, n2, n3, n4, Value.cells]
 refine s_go (s_lss) ?_
 try simp only [opv, n1, n2, n3, n4, Value.cells]
 refine s_go (s_move) ?_
 try simp only [opv, n1, n2, n3, n4, Value.cells]
 refine s_part 6 rfl (fun hp1 => ?_) (fun hp1 => ?_)
 ·
  try simp only [n3, n4]
  try simp only [decide_eq_true_eq, decide_eq_false_iff_not, Bool.not_eq_true', Bool.not_eq_false', Int.not_lt, Int.not_le, ne_eq, Decidable.not_not] at hp1
  refine g_on (yi (t := 6) rfl rfl) ?_
  refine s_go (s_move) ?_
  try simp only [opv, n1, n2, n3, n4, Value.cells]
  refine g_on (yi (t := 6) rfl rfl) ?_
  refine s_go (s_rem (hc := rem_nat (p := 4294967296))) ?_
  try simp only [opv, n1, n2, n3, n4, Value.cells]
  refine g_on (yi (t := 6) rfl rfl) ?_
  refine s_go (s_gtr) ?_
  try simp only [opv, n1, n2, n3, n4, Value.cells]
  first | refine s_go (s_pick_t) ?_ | refine s_go (s_pick_f) ?_
  try simp only [opv, n1, n2, n3, n4, Value.cells]
  refine s_go (s_assign) ?_
  try simp only [opv, n1, n2, n3, n4, Value.cells]
  refine x_nil ?_
  refine hK2 _ _ ?_
  refine x_ret ?_
  refine r_tmp rfl ?_
  exact ⟨congrArg Value.bool (by rw [Bool.eq_iff_iff]; simp only [decide_eq_true_eq, may_nat]; simp at *; omega), hS.ext_of⟩
 ·
  try simp only [n3, n4]
  try simp only [decide_eq_true_eq, decide_eq_false_iff_not, Bool.not_eq_true', Bool.not_eq_false', Int.not_lt, Int.not_le, ne_eq, Decidable.not_not] at hp1
  refine g_off (yi (t := 6) rfl rfl) ?_
  try simp only [opv, n1, n2, n3, n4, Value.cells]
  refine g_off (yi (t := 6) rfl rfl) ?_
  try simp only [opv, n1, n2, n3, n4, Value.cells]
  refine g_off (yi (t := 6) rfl rfl) ?_
  try simp only [opv, n1, n2, n3, n4, Value.cells]
  first | refine s_go (s_pick_t) ?_ | refine s_go (s_pick_f) ?_
  try simp only [opv, n1, n2, n3, n4, Value.cells]
  refine s_go (s_assign) ?_
  try simp only [opv, n1, n2, n3, n4, Value.cells]
  refine x_nil ?_
  refine hK2 _ _ ?_
  refine x_ret ?_
  refine r_tmp rfl ?_
  exact ⟨congrArg Value.bool (by rw [Bool.eq_iff_iff]; simp only [decide_eq_true_eq, may_nat]; simp at *; omega), hS.ext_of⟩
theorem c_slEqual (w0 : World) (A : Option Addr) (c : Nat) (l : List Int) (hr : Rd w0 A 1 l.length (List.map (Value.int .u64) l)) (hu : U64s l) (B : Option Addr) (d : Nat) (r : List Int) (hr2 : Rd w0 B 1 r.length (List.map (Value.int .u64) r)) (hu2 : U64s r) (hn : l.length ≤ 4000000000 ∧ r.length ≤ 4000000000)  :
    CallR Tryz.prog 111 #[.slice A l.length c, .slice B r.length d] w0 fun v w' => v = .bool (decide (l = r)) ∧ Ext w0 w' := by
 have hS := St.rd2 (S := NoB) hr hr2
 refine c_enter (l := [.slice A l.length c, .slice B r.length d, undef, undef, undef, undef, undef, undef, undef, undef, undef, undef, undef, undef, undef, undef, undef, undef, undef, undef, undef, undef, undef, undef, undef, undef]) Tryz.func111 rfl (by simp only [Tryz.ntmps111, List.size_toArray, List.length_cons, List.length_nil, Nat.reduceAdd, Nat.reduceSub, Array.replicate_succ, Array.replicate_zero, List.push_toArray, List.append_toArray, List.nil_append, List.cons_append]) ?_
 refine x_seq fun K1 hK1 => ?_
 refine x_region ?_
 refine s_go (s_assign) ?_
 try simp only [opv, n1, n2, n3, n4, Value.cells]
 refine x_nil ?_
 refine hK1 _ _ ?_
 refine x_seq fun K2 hK2 => ?_
 refine x_seq fun K3 hK3 => ?_
 refine x_region ?_
 refine s_go (s_move) ?_
 try simp only [opv, n1, n2, n3, n4, Value.cells]
 refine s_go (s_len_sl Tryz.underlying27) ?_
 try simp only [opv, n1, n2, n3, n4, Value.cells]
 refine s_go (s_move) ?_
 try simp only [opv, n1, n2, n3, n4, Value.cells]
 refine s_go (s_len_sl Tryz.underlying27) ?_
 try simp only [opv, n1, n2, n3, n4, Value.cells]
 refine s_go (s_neq) ?_
 try simp only [opv, n1, n2, n3, n4, Value.cells]
 refine x_nil ?_
 refine hK3 _ _ ?_
 refine x_cond (ht := fun hc1 => ?_) (hf := fun hc1 => ?_)
 ·
  try simp only [decide_eq_true_eq, decide_eq_false_iff_not, Bool.not_eq_true', Bool.not_eq_false', Int.not_lt, Int.not_le, ne_eq, Decidable.not_not, bne_iff_ne, beq_iff_eq, not_true_eq_false, not_false_eq_true] at hc1
  have hne : ¬ l = r := fun h => hc1 (by rw [h])
  refine x_seq fun K4 hK4 => ?_
  refine x_region ?_
  refine s_go (s_assign) ?_
  try simp only [opv, n1, n2, n3, n4, Value.cells]
  refine x_nil ?_
  refine hK4 _ _ ?_
  refine x_ret ?_
  refine r_tmp rfl ?_
  exact ⟨by first | exact congrArg Value.bool (decide_eq_true (by assumption)).symm | exact congrArg Value.bool (decide_eq_false (by assumption)).symm, hS.ext_of⟩
 ·
  try simp only [decide_eq_true_eq, decide_eq_false_iff_not, Bool.not_eq_true', Bool.not_eq_false', Int.not_lt, Int.not_le, ne_eq, Decidable.not_not, bne_iff_ne, beq_iff_eq, not_true_eq_false, not_false_eq_true] at hc1
  have hlr : l.length = r.length := by omega
  refine x_skip ?_
  refine hK2 _ _ ?_
  refine x_seq fun K5 hK5 => ?_
  refine x_seq fun K6 hK6 => ?_
  refine x_region ?_
  refine s_go (s_move) ?_
  try simp only [opv, n1, n2, n3, n4, Value.cells]
  refine s_go (s_len_sl Tryz.underlying27) ?_
  try simp only [opv, n1, n2, n3, n4, Value.cells]
  refine s_go (s_move) ?_
  try simp only [opv, n1, n2, n3, n4, Value.cells]
  refine x_nil ?_
  refine hK6 _ _ ?_
  refine x_block ?_
  refine x_loop [4, 5, 13, 14, 15, 16, 17, 18, 19, 20, 21, 22, 23, 24, 25] (fun m f w => ∃ k : Nat, k ≤ l.length ∧ m = l.length - k ∧ f 13 = .int .i64 (k : Int) ∧ l.take k = r.take k ∧ St NoB w0 w [.rd A 1 l.length (List.map (Value.int .u64) l), .rd B 1 r.length (List.map (Value.int .u64) r)]) (l.length) ?init1 (fun m1 f1 wl1 hI => ?_)
  case init1 =>
   try simp only [opv, n1, n2, n3, n4, Value.cells]
   exact ⟨0, by omega, rfl, rfl, rfl, hS⟩
  obtain ⟨k, hk, hm, h13, hab, hS⟩ := hI
  simp only [clob, List.foldl, n3, n4, h13]
  refine x_seq fun K7 hK7 => ?_
  refine x_region ?_
  refine s_go (s_lss) ?_
  try simp only [opv, n1, n2, n3, n4, Value.cells]
  refine x_nil ?_
  refine hK7 _ _ ?_
  refine x_seq fun K8 hK8 => ?_
  refine x_cond (ht := fun hc2 => ?_) (hf := fun hc2 => ?_)
  ·
   try simp only [decide_eq_true_eq, decide_eq_false_iff_not, Bool.not_eq_true', Bool.not_eq_false', Int.not_lt, Int.not_le, ne_eq, Decidable.not_not, bne_iff_ne, beq_iff_eq, not_true_eq_false, not_false_eq_true] at hc2
   refine x_skip ?_
   refine hK8 _ _ ?_
   refine x_seq fun K9 hK9 => ?_
   refine x_block ?_
   refine x_seq fun K10 hK10 => ?_
   refine x_region ?_
   refine s_go (s_move) ?_
   try simp only [opv, n1, n2, n3, n4, Value.cells]
   refine s_go (s_assign) ?_
   try simp only [opv, n1, n2, n3, n4, Value.cells]
   refine x_nil ?_
   refine hK10 _ _ ?_
   refine x_seq fun K11 hK11 => ?_
   refine x_quiet (by kernel_rfl) (by kernel_rfl) hS ?_
   refine q_go (fun w hS => s_move) ?_
   try simp only [opv, n1, n2, n3, n4, Value.cells]
   refine q_go (fun w hS => s_move) ?_
   try simp only [opv, n1, n2, n3, n4, Value.cells]
   first | refine q_go (fun w hS => m_indexAddr_rd Tryz.underlying27 ti84 (hS := hS)) ?_ | refine q_go (fun w hS => m_indexAddr_vec Tryz.underlying27 ti84 (hS := hS)) ?_
   try simp only [opv, n1, n2, n3, n4, Value.cells, Nat.mul_one, Nat.zero_add, Int.toNat_natCast, Int.reduceToNat]
   first | refine q_go (fun w hS => m_load_obj Tryz.underlying84 (hS := hS)) ?_ | refine q_go (fun w hS => m_load_bx Tryz.underlying84 (hS := hS)) ?_ | refine q_go (fun w hS => m_load_rd Tryz.underlying84 (hS := hS)) ?_ | refine q_go (fun w hS => m_load_vec Tryz.underlying84 (hS := hS)) ?_
   try simp only [opv, n1, n2, n3, n4, Value.cells, List.getElem_toArray, List.getElem_cons_zero, List.getElem_cons_succ]
   refine q_go (fun w hS => s_move) ?_
   try simp only [opv, n1, n2, n3, n4, Value.cells]
   refine q_go (fun w hS => s_move) ?_
   try simp only [opv, n1, n2, n3, n4, Value.cells]
   first | refine q_go (fun w hS => m_indexAddr_rd Tryz.underlying27 ti84 (hS := hS)) ?_ | refine q_go (fun w hS => m_indexAddr_vec Tryz.underlying27 ti84 (hS := hS)) ?_
   try simp only [opv, n1, n2, n3, n4, Value.cells, Nat.mul_one, Nat.zero_add, Int.toNat_natCast, Int.reduceToNat]
   first | refine q_go (fun w hS => m_load_obj Tryz.underlying84 (hS := hS)) ?_ | refine q_go (fun w hS => m_load_bx Tryz.underlying84 (hS := hS)) ?_ | refine q_go (fun w hS => m_load_rd Tryz.underlying84 (hS := hS)) ?_ | refine q_go (fun w hS => m_load_vec Tryz.underlying84 (hS := hS)) ?_
   try simp only [opv, n1, n2, n3, n4, Value.cells, List.getElem_toArray, List.getElem_cons_zero, List.getElem_cons_succ]
   refine q_go (fun w hS => s_neq) ?_
   try simp only [opv, n1, n2, n3, n4, Value.cells]
   clear hS
   refine q_nil fun w1 hS => ?_
   refine hK11 _ _ ?_
   refine x_cond (ht := fun hc3 => ?_) (hf := fun hc3 => ?_)
   ·
    try simp only [decide_eq_true_eq, decide_eq_false_iff_not, Bool.not_eq_true', Bool.not_eq_false', Int.not_lt, Int.not_le, ne_eq, Decidable.not_not, bne_iff_ne, beq_iff_eq, not_true_eq_false, not_false_eq_true] at hc3
    have hne : ¬ l = r := fun h => by subst h; exact hc3 rfl
    refine x_seq fun K12 hK12 => ?_
    refine x_region ?_
    refine s_go (s_assign) ?_
    try simp only [opv, n1, n2, n3, n4, Value.cells]
    refine x_nil ?_
    refine hK12 _ _ ?_
    refine x_ret ?_
    refine r_tmp rfl ?_
    exact ⟨by first | exact congrArg Value.bool (decide_eq_true (by assumption)).symm | exact congrArg Value.bool (decide_eq_false (by assumption)).symm, hS.ext_of⟩
   ·
    try simp only [decide_eq_true_eq, decide_eq_false_iff_not, Bool.not_eq_true', Bool.not_eq_false', Int.not_lt, Int.not_le, ne_eq, Decidable.not_not, bne_iff_ne, beq_iff_eq, not_true_eq_false, not_false_eq_true] at hc3
    have hxy : l.getD k 0 = r.getD k 0 := hc3
    refine x_skip ?_
    refine hK9 _ _ ?_
    refine x_region ?_
    refine s_go (s_add (hc := by first | exact wr_i64 (by omega) (by omega) | rfl)) ?_
    try simp only [opv, n1, n2, n3, n4, Value.cells]
    refine s_go (s_move) ?_
    try simp only [opv, n1, n2, n3, n4, Value.cells]
    refine x_nil ?_
    refine loop_back (m' := l.length - (k + 1)) (by simp only [clob, List.foldl, n1, n2, n3, n4]) ?_ ?_
    · try simp only [opv, n1, n2, n3, n4, Value.cells]
      exact ⟨k + 1, by omega, by omega, by rfl, by rw [take_succ_getD (by omega), take_succ_getD (by omega), hab, hxy], hS⟩
    · omega
  ·
   try simp only [decide_eq_true_eq, decide_eq_false_iff_not, Bool.not_eq_true', Bool.not_eq_false', Int.not_lt, Int.not_le, ne_eq, Decidable.not_not, bne_iff_ne, beq_iff_eq, not_true_eq_false, not_false_eq_true] at hc2
   obtain rfl : k = l.length := by omega
   have heq : l = r := by rw [List.take_of_length_le (Nat.le_refl _), hlr, List.take_of_length_le (Nat.le_refl _)] at hab; exact hab
   refine x_exit (look_here ?_)
   refine hK5 _ _ ?_
   refine x_seq fun K13 hK13 => ?_
   refine x_region ?_
   refine s_go (s_assign) ?_
   try simp only [opv, n1, n2, n3, n4, Value.cells]
   refine x_nil ?_
   refine hK13 _ _ ?_
   refine x_ret ?_
   refine r_tmp rfl ?_
   exact ⟨by first | exact congrArg Value.bool (decide_eq_true (by assumption)).symm | exact congrArg Value.bool (decide_eq_false (by assumption)).symm, hS.ext_of⟩
theorem c_dotsAlike (w0 : World) (x y : List Int) (hx : x.length = 16) (hy : y.length = 16) (A : Option Addr) (c : Nat) (l : List Int) (hr : Rd w0 A 1 l.length (List.map (Value.int .u64) l)) (hu : U64s l) (B : Option Addr) (d : Nat) (r : List Int) (hr2 : Rd w0 B 1 r.length (List.map (Value.int .u64) r)) (hu2 : U64s r) (hn : l.length ≤ 4000000000 ∧ r.length ≤ 4000000000)  :
    CallR Tryz.prog 57 #[.agg (SetC x (.slice A l.length c)), .agg (SetC y (.slice B r.length d))] w0 fun v w' => v = .bool (decide ((x, l) = (y, r))) ∧ Ext w0 w' := by
 have hS := St.rd2 (S := NoB) hr hr2
 refine c_enter (l := [.agg (SetC x (.slice A l.length c)), .agg (SetC y (.slice B r.length d)), undef, undef, undef, undef, undef, undef, undef, undef, undef, undef, undef, undef, undef, undef, undef]) Tryz.func57 rfl (by simp only [Tryz.ntmps57, List.size_toArray, List.length_cons, List.length_nil, Nat.reduceAdd, Nat.reduceSub, Array.replicate_succ, Array.replicate_zero, List.push_toArray, List.append_toArray, List.nil_append, List.cons_append]) ?_
 refine x_seq fun K1 hK1 => ?_
 refine x_region ?_
 refine m_box hS (fun w1 g1 hS => ?_)
 try simp only [opv, n1, n2, n3, n4, Value.cells, Array.toArray_toList] at hS ⊢
 refine m_box hS (fun w2 g2 hS => ?_)
 try simp only [opv, n1, n2, n3, n4, Value.cells, Array.toArray_toList] at hS ⊢
 refine s_go (s_assign) ?_
 try simp only [opv, n1, n2, n3, n4, Value.cells]
 refine x_nil ?_
 refine hK1 _ _ ?_
 refine x_seq fun K2 hK2 => ?_
 refine x_region ?_
 first | refine s_go (m_fieldAddr Tryz.underlying29 (hi := ti26)) ?_ | refine s_go (m_fieldAddr_rd Tryz.underlying29 (hi := ti26) (hS := hS)) ?_ | refine s_go (m_fieldAddr_vec Tryz.underlying29 (hi := ti26) (hS := hS)) ?_
 try simp only [opv, n1, n2, n3, n4, Value.cells, Nat.zero_add, Nat.add_zero, List.getElem_toArray, List.getElem_cons_zero, List.getElem_cons_succ]
 refine s_go (m_loada_obj Tryz.underlying26 (hi := ti26) (hS := hS) (hfit := by rw [setC_size (by assumption)]; decide)) ?_
 try simp only [opv, n1, n2, n3, n4, Value.cells, List.getElem_toArray, List.getElem_cons_zero, List.getElem_cons_succ]
 rw [set_flo (by assumption)]
 first | refine s_go (m_fieldAddr Tryz.underlying29 (hi := ti26)) ?_ | refine s_go (m_fieldAddr_rd Tryz.underlying29 (hi := ti26) (hS := hS)) ?_ | refine s_go (m_fieldAddr_vec Tryz.underlying29 (hi := ti26) (hS := hS)) ?_
 try simp only [opv, n1, n2, n3, n4, Value.cells, Nat.zero_add, Nat.add_zero, List.getElem_toArray, List.getElem_cons_zero, List.getElem_cons_succ]
 refine s_go (m_loada_obj Tryz.underlying26 (hi := ti26) (hS := hS) (hfit := by rw [setC_size (by assumption)]; decide)) ?_
 try simp only [opv, n1, n2, n3, n4, Value.cells, List.getElem_toArray, List.getElem_cons_zero, List.getElem_cons_succ]
 rw [set_flo (by assumption)]
 refine s_go (s_eql_agg eqv26 (hg := eg26) (hX := zi_ic (by assumption)) (hY := zi_ic (by assumption)) (h1 := by assumption) (h2 := by assumption)) ?_
 try simp only [opv, n1, n2, n3, n4, Value.cells]
 refine s_go (s_move) ?_
 try simp only [opv, n1, n2, n3, n4, Value.cells]
 refine s_part 10 rfl (fun hp1 => ?_) (fun hp1 => ?_)
 ·
  try simp only [n3, n4]
  try simp only [decide_eq_true_eq, decide_eq_false_iff_not, Bool.not_eq_true', Bool.not_eq_false', Int.not_lt, Int.not_le, ne_eq, Decidable.not_not] at hp1
  have hxy : x = y := by simpa using hp1
  refine g_on (yi (t := 10) rfl rfl) ?_
  first | refine s_go (m_fieldAddr Tryz.underlying29 (hi := ti27)) ?_ | refine s_go (m_fieldAddr_rd Tryz.underlying29 (hi := ti27) (hS := hS)) ?_ | refine s_go (m_fieldAddr_vec Tryz.underlying29 (hi := ti27) (hS := hS)) ?_
  try simp only [opv, n1, n2, n3, n4, Value.cells, Nat.zero_add, Nat.add_zero, List.getElem_toArray, List.getElem_cons_zero, List.getElem_cons_succ]
  refine g_on (yi (t := 10) rfl rfl) ?_
  refine s_go (m_load_obj Tryz.underlying27 (hS := hS) (hv := set_sl (by assumption) _)) ?_
  try simp only [opv, n1, n2, n3, n4, Value.cells, List.getElem_toArray, List.getElem_cons_zero, List.getElem_cons_succ]
  refine g_on (yi (t := 10) rfl rfl) ?_
  first | refine s_go (m_fieldAddr Tryz.underlying29 (hi := ti27)) ?_ | refine s_go (m_fieldAddr_rd Tryz.underlying29 (hi := ti27) (hS := hS)) ?_ | refine s_go (m_fieldAddr_vec Tryz.underlying29 (hi := ti27) (hS := hS)) ?_
  try simp only [opv, n1, n2, n3, n4, Value.cells, Nat.zero_add, Nat.add_zero, List.getElem_toArray, List.getElem_cons_zero, List.getElem_cons_succ]
  refine g_on (yi (t := 10) rfl rfl) ?_
  refine s_go (m_load_obj Tryz.underlying27 (hS := hS) (hv := set_sl (by assumption) _)) ?_
  try simp only [opv, n1, n2, n3, n4, Value.cells, List.getElem_toArray, List.getElem_cons_zero, List.getElem_cons_succ]
  refine g_on (yi (t := 10) rfl rfl) ?_
  refine s_call en111 ?_
  try simp only [opv, n1, n2, n3, n4, Value.cells, List.map_toArray, List.map_cons, List.map_nil, List.append_toArray, List.cons_append, List.nil_append, Array.append_empty]
  refine CallR.mono (c_slEqual _ A c l (hS.hasRd (by repeat (first | exact Has.head | apply Has.tail))) hu B d r (hS.hasRd (by repeat (first | exact Has.head | apply Has.tail))) hu2 hn) ?_
  rintro _ w3 ⟨rfl, hE3⟩
  replace hS := hS.ext hE3
  try simp only [opv, n1, n2, n3, n4, Value.cells]
  first | refine s_go (s_pick_t) ?_ | refine s_go (s_pick_f) ?_
  try simp only [opv, n1, n2, n3, n4, Value.cells]
  refine s_go (s_assign) ?_
  try simp only [opv, n1, n2, n3, n4, Value.cells]
  refine x_nil ?_
  refine hK2 _ _ ?_
  refine x_ret ?_
  refine r_tmp rfl ?_
  first
  | exact ⟨by rw [hE]; rfl, hS.ext_of⟩
  | exact ⟨congrArg Value.bool (decide_eq_decide.2 ⟨fun h => by rw [hxy, h], fun h => (Prod.mk.inj h).2⟩), hS.ext_of⟩
 ·
  try simp only [n3, n4]
  try simp only [decide_eq_true_eq, decide_eq_false_iff_not, Bool.not_eq_true', Bool.not_eq_false', Int.not_lt, Int.not_le, ne_eq, Decidable.not_not] at hp1
  have hE : decide ((x, l) = (y, r)) = false := decide_eq_false (fun h => by rw [Prod.mk.injEq] at h; simp [h.1] at hp1)
  refine g_off (yi (t := 10) rfl rfl) ?_
  try simp only [opv, n1, n2, n3, n4, Value.cells]
  refine g_off (yi (t := 10) rfl rfl) ?_
  try simp only [opv, n1, n2, n3, n4, Value.cells]
  refine g_off (yi (t := 10) rfl rfl) ?_
  try simp only [opv, n1, n2, n3, n4, Value.cells]
  refine g_off (yi (t := 10) rfl rfl) ?_
  try simp only [opv, n1, n2, n3, n4, Value.cells]
  refine g_off (yi (t := 10) rfl rfl) ?_
  try simp only [opv, n1, n2, n3, n4, Value.cells]
  first | refine s_go (s_pick_t) ?_ | refine s_go (s_pick_f) ?_
  try simp only [opv, n1, n2, n3, n4, Value.cells]
  refine s_go (s_assign) ?_
  try simp only [opv, n1, n2, n3, n4, Value.cells]
  refine x_nil ?_
  refine hK2 _ _ ?_
  refine x_ret ?_
  refine r_tmp rfl ?_
  first
  | exact ⟨by rw [hE]; rfl, hS.ext_of⟩
  | exact ⟨congrArg Value.bool (decide_eq_decide.2 ⟨fun h => by rw [hxy, h], fun h => (Prod.mk.inj h).2⟩), hS.ext_of⟩
theorem c_ref13Same (w0 : World) (x y : List Int) (hx : x.length = 16) (hy : y.length = 16) (A : Option Addr) (c : Nat) (l : List Int) (hr : Rd w0 A 1 l.length (List.map (Value.int .u64) l)) (hu : U64s l) (B : Option Addr) (d : Nat) (r : List Int) (hr2 : Rd w0 B 1 r.length (List.map (Value.int .u64) r)) (hu2 : U64s r) (hn : l.length ≤ 4000000000 ∧ r.length ≤ 4000000000)  :
    CallR Tryz.prog 14 #[.agg (SetC x (.slice A l.length c)), .agg (SetC y (.slice B r.length d))] w0 fun v w' => v = .bool (decide ((x, l) = (y, r))) ∧ Ext w0 w' := by
 have hS := St.rd2 (S := NoB) hr hr2
 refine c_enter (l := [.agg (SetC x (.slice A l.length c)), .agg (SetC y (.slice B r.length d)), undef, undef, undef, undef, undef, undef, undef, undef, undef, undef, undef, undef, undef, undef, undef, undef, undef, undef, undef, undef, undef, undef, undef, undef, undef, undef, undef, undef, undef, undef, undef, undef, undef, undef, undef, undef]) Tryz.func14 rfl (by simp only [Tryz.ntmps14, List.size_toArray, List.length_cons, List.length_nil, Nat.reduceAdd, Nat.reduceSub, Array.replicate_succ, Array.replicate_zero, List.push_toArray, List.append_toArray, List.nil_append, List.cons_append]) ?_
 refine x_seq fun K1 hK1 => ?_
 refine x_region ?_
 refine m_box hS (fun w1 g1 hS => ?_)
 try simp only [opv, n1, n2, n3, n4, Value.cells, Array.toArray_toList] at hS ⊢
 obtain ⟨gx, hgx⟩ : ∃ z, z = g1 := ⟨_, rfl⟩
 rw [← hgx] at hS ⊢
 refine m_box hS (fun w2 g2 hS => ?_)
 try simp only [opv, n1, n2, n3, n4, Value.cells, Array.toArray_toList] at hS ⊢
 obtain ⟨gy, hgy⟩ : ∃ z, z = g2 := ⟨_, rfl⟩
 rw [← hgy] at hS ⊢
 refine s_go (s_assign) ?_
 try simp only [opv, n1, n2, n3, n4, Value.cells]
 refine x_nil ?_
 refine hK1 _ _ ?_
 refine x_seq fun K2 hK2 => ?_
 refine x_seq fun K3 hK3 => ?_
 refine x_region ?_
 first | refine s_go (m_fieldAddr Tryz.underlying33 (hi := ti25)) ?_ | refine s_go (m_fieldAddr_rd Tryz.underlying33 (hi := ti25) (hS := hS)) ?_ | refine s_go (m_fieldAddr_vec Tryz.underlying33 (hi := ti25) (hS := hS)) ?_
 try simp only [opv, n1, n2, n3, n4, Value.cells, Nat.zero_add, Nat.add_zero, List.getElem_toArray, List.getElem_cons_zero, List.getElem_cons_succ]
 refine s_go (m_loada_obj Tryz.underlying25 (hi := ti25) (hS := hS) (hfit := by rw [setC_size (by assumption)]; decide)) ?_
 try simp only [opv, n1, n2, n3, n4, Value.cells, List.getElem_toArray, List.getElem_cons_zero, List.getElem_cons_succ]
 rw [set_flo (by assumption)]
 first | refine s_go (m_fieldAddr Tryz.underlying33 (hi := ti25)) ?_ | refine s_go (m_fieldAddr_rd Tryz.underlying33 (hi := ti25) (hS := hS)) ?_ | refine s_go (m_fieldAddr_vec Tryz.underlying33 (hi := ti25) (hS := hS)) ?_
 try simp only [opv, n1, n2, n3, n4, Value.cells, Nat.zero_add, Nat.add_zero, List.getElem_toArray, List.getElem_cons_zero, List.getElem_cons_succ]
 refine s_go (m_loada_obj Tryz.underlying25 (hi := ti25) (hS := hS) (hfit := by rw [setC_size (by assumption)]; decide)) ?_
 try simp only [opv, n1, n2, n3, n4, Value.cells, List.getElem_toArray, List.getElem_cons_zero, List.getElem_cons_succ]
 rw [set_flo (by assumption)]
 refine s_go (s_neq_agg eqv25 (hg := eg25) (hX := zi_ic (by assumption)) (hY := zi_ic (by assumption)) (h1 := by assumption) (h2 := by assumption)) ?_
 try simp only [opv, n1, n2, n3, n4, Value.cells]
 refine s_go (s_move) ?_
 try simp only [opv, n1, n2, n3, n4, Value.cells]
 refine s_part 11 rfl (fun hp1 => ?_) (fun hp1 => ?_)
 ·
  try simp only [n3, n4]
  try simp only [decide_eq_true_eq, decide_eq_false_iff_not, Bool.not_eq_true', Bool.not_eq_false', Int.not_lt, Int.not_le, ne_eq, Decidable.not_not] at hp1
  have hE : decide ((x, l) = (y, r)) = false := decide_eq_false (fun h => by rw [Prod.mk.injEq] at h; simp [h.1] at hp1)
  refine g_off (yi (t := 11) rfl rfl) ?_
  try simp only [opv, n1, n2, n3, n4, Value.cells]
  refine g_off (yi (t := 11) rfl rfl) ?_
  try simp only [opv, n1, n2, n3, n4, Value.cells]
  refine g_off (yi (t := 11) rfl rfl) ?_
  try simp only [opv, n1, n2, n3, n4, Value.cells]
  refine g_off (yi (t := 11) rfl rfl) ?_
  try simp only [opv, n1, n2, n3, n4, Value.cells]
  refine g_off (yi (t := 11) rfl rfl) ?_
  try simp only [opv, n1, n2, n3, n4, Value.cells]
  refine g_off (yi (t := 11) rfl rfl) ?_
  try simp only [opv, n1, n2, n3, n4, Value.cells]
  refine g_off (yi (t := 11) rfl rfl) ?_
  try simp only [opv, n1, n2, n3, n4, Value.cells]
  first | refine s_go (s_pick_t) ?_ | refine s_go (s_pick_f) ?_
  try simp only [opv, n1, n2, n3, n4, Value.cells]
  refine x_nil ?_
  refine hK3 _ _ ?_
  refine x_cond_t (h := ?_)
  try have hE : decide ((x, l) = (y, r)) = false := decide_eq_false (fun h => by rw [Prod.mk.injEq] at h; simp [h.2] at @c)
  refine x_seq fun K4 hK4 => ?_
  refine x_region ?_
  refine s_go (s_assign) ?_
  try simp only [opv, n1, n2, n3, n4, Value.cells]
  refine x_nil ?_
  refine hK4 _ _ ?_
  refine x_ret ?_
  refine r_tmp rfl ?_
  exact ⟨by rw [hE]; rfl, hS.ext_of⟩
 ·
  try simp only [n3, n4]
  try simp only [decide_eq_true_eq, decide_eq_false_iff_not, Bool.not_eq_true', Bool.not_eq_false', Int.not_lt, Int.not_le, ne_eq, Decidable.not_not] at hp1
  have hxy : x = y := by simpa using hp1
  refine g_on (yi (t := 11) rfl rfl) ?_
  first | refine s_go (m_fieldAddr Tryz.underlying33 (hi := ti27)) ?_ | refine s_go (m_fieldAddr_rd Tryz.underlying33 (hi := ti27) (hS := hS)) ?_ | refine s_go (m_fieldAddr_vec Tryz.underlying33 (hi := ti27) (hS := hS)) ?_
  try simp only [opv, n1, n2, n3, n4, Value.cells, Nat.zero_add, Nat.add_zero, List.getElem_toArray, List.getElem_cons_zero, List.getElem_cons_succ]
  refine g_on (yi (t := 11) rfl rfl) ?_
  refine s_go (m_load_obj Tryz.underlying27 (hS := hS) (hv := set_sl (by assumption) _)) ?_
  try simp only [opv, n1, n2, n3, n4, Value.cells, List.getElem_toArray, List.getElem_cons_zero, List.getElem_cons_succ]
  refine g_on (yi (t := 11) rfl rfl) ?_
  refine s_go (s_len_sl Tryz.underlying27) ?_
  try simp only [opv, n1, n2, n3, n4, Value.cells]
  refine g_on (yi (t := 11) rfl rfl) ?_
  first | refine s_go (m_fieldAddr Tryz.underlying33 (hi := ti27)) ?_ | refine s_go (m_fieldAddr_rd Tryz.underlying33 (hi := ti27) (hS := hS)) ?_ | refine s_go (m_fieldAddr_vec Tryz.underlying33 (hi := ti27) (hS := hS)) ?_
  try simp only [opv, n1, n2, n3, n4, Value.cells, Nat.zero_add, Nat.add_zero, List.getElem_toArray, List.getElem_cons_zero, List.getElem_cons_succ]
  refine g_on (yi (t := 11) rfl rfl) ?_
  refine s_go (m_load_obj Tryz.underlying27 (hS := hS) (hv := set_sl (by assumption) _)) ?_
  try simp only [opv, n1, n2, n3, n4, Value.cells, List.getElem_toArray, List.getElem_cons_zero, List.getElem_cons_succ]
  refine g_on (yi (t := 11) rfl rfl) ?_
  refine s_go (s_len_sl Tryz.underlying27) ?_
  try simp only [opv, n1, n2, n3, n4, Value.cells]
  refine g_on (yi (t := 11) rfl rfl) ?_
  refine s_go (s_neq) ?_
  try simp only [opv, n1, n2, n3, n4, Value.cells]
  first | refine s_go (s_pick_t) ?_ | refine s_go (s_pick_f) ?_
  try simp only [opv, n1, n2, n3, n4, Value.cells]
  refine x_nil ?_
  refine hK3 _ _ ?_
  refine x_cond (ht := fun hc2 => ?_) (hf := fun hc2 => ?_)
  ·
   try simp only [decide_eq_true_eq, decide_eq_false_iff_not, Bool.not_eq_true', Bool.not_eq_false', Int.not_lt, Int.not_le, ne_eq, Decidable.not_not, bne_iff_ne, beq_iff_eq, not_true_eq_false, not_false_eq_true] at hc2
   try have hE : decide ((x, l) = (y, r)) = false := decide_eq_false (fun h => by rw [Prod.mk.injEq] at h; simp [h.2] at hc2)
   refine x_seq fun K5 hK5 => ?_
   refine x_region ?_
   refine s_go (s_assign) ?_
   try simp only [opv, n1, n2, n3, n4, Value.cells]
   refine x_nil ?_
   refine hK5 _ _ ?_
   refine x_ret ?_
   refine r_tmp rfl ?_
   exact ⟨by rw [hE]; rfl, hS.ext_of⟩
  ·
   try simp only [decide_eq_true_eq, decide_eq_false_iff_not, Bool.not_eq_true', Bool.not_eq_false', Int.not_lt, Int.not_le, ne_eq, Decidable.not_not, bne_iff_ne, beq_iff_eq, not_true_eq_false, not_false_eq_true] at hc2
   have hlr : l.length = r.length := by first | omega | (simp at hc2; omega)
   refine x_skip ?_
   refine hK2 _ _ ?_
   refine x_seq fun K6 hK6 => ?_
   refine x_seq fun K7 hK7 => ?_
   refine x_region ?_
   refine s_go (s_assign) ?_
   try simp only [opv, n1, n2, n3, n4, Value.cells]
   refine x_nil ?_
   refine hK7 _ _ ?_
   refine x_block ?_
   refine x_loop [4, 5, 20, 21, 22, 23, 24, 25, 26, 27, 28, 29, 30, 31, 32, 33, 34, 35, 36, 37] (fun m f w => ∃ k : Nat, k ≤ l.length ∧ m = l.length - k ∧ f 5 = .int .i64 (k : Int) ∧ l.take k = r.take k ∧ St NoB w0 w [.obj gy (.cells (SetC y (.slice B r.length d)) 33 (0, 0)), .obj gx (.cells (SetC x (.slice A l.length c)) 33 (0, 0)), .rd A 1 l.length (List.map (Value.int .u64) l), .rd B 1 r.length (List.map (Value.int .u64) r)]) (l.length) ?init1 (fun m1 f1 wl1 hI => ?_)
   case init1 =>
    try simp only [opv, n1, n2, n3, n4, Value.cells]
    exact ⟨0, by omega, rfl, rfl, rfl, hS⟩
   obtain ⟨k, hk, hm, h5, hab, hS⟩ := hI
   simp only [clob, List.foldl, n3, n4, h5]
   refine x_seq fun K8 hK8 => ?_
   refine x_seq fun K9 hK9 => ?_
   refine x_region ?_
   refine s_go (s_move) ?_
   try simp only [opv, n1, n2, n3, n4, Value.cells]
   first | refine s_go (m_fieldAddr Tryz.underlying33 (hi := ti27)) ?_ | refine s_go (m_fieldAddr_rd Tryz.underlying33 (hi := ti27) (hS := hS)) ?_ | refine s_go (m_fieldAddr_vec Tryz.underlying33 (hi := ti27) (hS := hS)) ?_
   try simp only [opv, n1, n2, n3, n4, Value.cells, Nat.zero_add, Nat.add_zero, List.getElem_toArray, List.getElem_cons_zero, List.getElem_cons_succ]
   refine s_go (m_load_obj Tryz.underlying27 (hS := hS) (hv := set_sl (by assumption) _)) ?_
   try simp only [opv, n1, n2, n3, n4, Value.cells, List.getElem_toArray, List.getElem_cons_zero, List.getElem_cons_succ]
   refine s_go (s_len_sl Tryz.underlying27) ?_
   try simp only [opv, n1, n2, n3, n4, Value.cells]
   refine s_go (s_lss) ?_
   try simp only [opv, n1, n2, n3, n4, Value.cells]
   refine x_nil ?_
   refine hK9 _ _ ?_
   refine x_cond (ht := fun hc3 => ?_) (hf := fun hc3 => ?_)
   ·
    try simp only [decide_eq_true_eq, decide_eq_false_iff_not, Bool.not_eq_true', Bool.not_eq_false', Int.not_lt, Int.not_le, ne_eq, Decidable.not_not, bne_iff_ne, beq_iff_eq, not_true_eq_false, not_false_eq_true] at hc3
    refine x_skip ?_
    refine hK8 _ _ ?_
    refine x_seq fun K10 hK10 => ?_
    refine x_block ?_
    refine x_seq fun K11 hK11 => ?_
    refine x_quiet (by kernel_rfl) (by kernel_rfl) hS ?_
    first | refine q_go (fun w hS => m_fieldAddr Tryz.underlying33 (hi := ti27)) ?_ | refine q_go (fun w hS => m_fieldAddr_rd Tryz.underlying33 (hi := ti27) (hS := hS)) ?_ | refine q_go (fun w hS => m_fieldAddr_vec Tryz.underlying33 (hi := ti27) (hS := hS)) ?_
    try simp only [opv, n1, n2, n3, n4, Value.cells, Nat.zero_add, Nat.add_zero, List.getElem_toArray, List.getElem_cons_zero, List.getElem_cons_succ]
    refine q_go (fun w hS => m_load_obj Tryz.underlying27 (hS := hS) (hv := set_sl (by assumption) _)) ?_
    try simp only [opv, n1, n2, n3, n4, Value.cells, List.getElem_toArray, List.getElem_cons_zero, List.getElem_cons_succ]
    refine q_go (fun w hS => s_move) ?_
    try simp only [opv, n1, n2, n3, n4, Value.cells]
    first | refine q_go (fun w hS => m_indexAddr_rd Tryz.underlying27 ti84 (hS := hS)) ?_ | refine q_go (fun w hS => m_indexAddr_vec Tryz.underlying27 ti84 (hS := hS)) ?_
    try simp only [opv, n1, n2, n3, n4, Value.cells, Nat.mul_one, Nat.zero_add, Int.toNat_natCast, Int.reduceToNat]
    first | refine q_go (fun w hS => m_load_obj Tryz.underlying84 (hS := hS)) ?_ | refine q_go (fun w hS => m_load_bx Tryz.underlying84 (hS := hS)) ?_ | refine q_go (fun w hS => m_load_rd Tryz.underlying84 (hS := hS)) ?_ | refine q_go (fun w hS => m_load_vec Tryz.underlying84 (hS := hS)) ?_
    try simp only [opv, n1, n2, n3, n4, Value.cells, List.getElem_toArray, List.getElem_cons_zero, List.getElem_cons_succ]
    first | refine q_go (fun w hS => m_fieldAddr Tryz.underlying33 (hi := ti27)) ?_ | refine q_go (fun w hS => m_fieldAddr_rd Tryz.underlying33 (hi := ti27) (hS := hS)) ?_ | refine q_go (fun w hS => m_fieldAddr_vec Tryz.underlying33 (hi := ti27) (hS := hS)) ?_
    try simp only [opv, n1, n2, n3, n4, Value.cells, Nat.zero_add, Nat.add_zero, List.getElem_toArray, List.getElem_cons_zero, List.getElem_cons_succ]
    refine q_go (fun w hS => m_load_obj Tryz.underlying27 (hS := hS) (hv := set_sl (by assumption) _)) ?_
    try simp only [opv, n1, n2, n3, n4, Value.cells, List.getElem_toArray, List.getElem_cons_zero, List.getElem_cons_succ]
    refine q_go (fun w hS => s_move) ?_
    try simp only [opv, n1, n2, n3, n4, Value.cells]
    first | refine q_go (fun w hS => m_indexAddr_rd Tryz.underlying27 ti84 (hS := hS)) ?_ | refine q_go (fun w hS => m_indexAddr_vec Tryz.underlying27 ti84 (hS := hS)) ?_
    try simp only [opv, n1, n2, n3, n4, Value.cells, Nat.mul_one, Nat.zero_add, Int.toNat_natCast, Int.reduceToNat]
    first | refine q_go (fun w hS => m_load_obj Tryz.underlying84 (hS := hS)) ?_ | refine q_go (fun w hS => m_load_bx Tryz.underlying84 (hS := hS)) ?_ | refine q_go (fun w hS => m_load_rd Tryz.underlying84 (hS := hS)) ?_ | refine q_go (fun w hS => m_load_vec Tryz.underlying84 (hS := hS)) ?_
    try simp only [opv, n1, n2, n3, n4, Value.cells, List.getElem_toArray, List.getElem_cons_zero, List.getElem_cons_succ]
    refine q_go (fun w hS => s_neq) ?_
    try simp only [opv, n1, n2, n3, n4, Value.cells]
    clear hS
    refine q_nil fun w3 hS => ?_
    refine hK11 _ _ ?_
    refine x_cond (ht := fun hc4 => ?_) (hf := fun hc4 => ?_)
    ·
     try simp only [decide_eq_true_eq, decide_eq_false_iff_not, Bool.not_eq_true', Bool.not_eq_false', Int.not_lt, Int.not_le, ne_eq, Decidable.not_not, bne_iff_ne, beq_iff_eq, not_true_eq_false, not_false_eq_true] at hc4
     have hE : decide ((x, l) = (y, r)) = false := decide_eq_false (fun h => by have h := (Prod.mk.inj h).2; subst h; exact hc4 rfl)
     refine x_seq fun K12 hK12 => ?_
     refine x_region ?_
     refine s_go (s_assign) ?_
     try simp only [opv, n1, n2, n3, n4, Value.cells]
     refine x_nil ?_
     refine hK12 _ _ ?_
     refine x_ret ?_
     refine r_tmp rfl ?_
     exact ⟨by rw [hE]; rfl, hS.ext_of⟩
    ·
     try simp only [decide_eq_true_eq, decide_eq_false_iff_not, Bool.not_eq_true', Bool.not_eq_false', Int.not_lt, Int.not_le, ne_eq, Decidable.not_not, bne_iff_ne, beq_iff_eq, not_true_eq_false, not_false_eq_true] at hc4
     have hxy2 : l.getD k 0 = r.getD k 0 := hc4
     refine x_skip ?_
     refine hK10 _ _ ?_
     refine x_region ?_
     refine s_go (s_move) ?_
     try simp only [opv, n1, n2, n3, n4, Value.cells]
     refine s_go (s_add (hc := by first | exact wr_i64 (by omega) (by omega) | rfl)) ?_
     try simp only [opv, n1, n2, n3, n4, Value.cells]
     refine s_go (s_assign) ?_
     try simp only [opv, n1, n2, n3, n4, Value.cells]
     refine x_nil ?_
     refine loop_back (m' := l.length - (k + 1)) (by simp only [clob, List.foldl, n1, n2, n3, n4]) ?_ ?_
     · try simp only [opv, n1, n2, n3, n4, Value.cells]
       exact ⟨k + 1, by omega, by omega, by rfl, by rw [take_succ_getD (by omega), take_succ_getD (by omega), hab, hxy2], hS⟩
     · omega
   ·
    try simp only [decide_eq_true_eq, decide_eq_false_iff_not, Bool.not_eq_true', Bool.not_eq_false', Int.not_lt, Int.not_le, ne_eq, Decidable.not_not, bne_iff_ne, beq_iff_eq, not_true_eq_false, not_false_eq_true] at hc3
    obtain rfl : k = l.length := by omega
    have heq : l = r := by rw [List.take_of_length_le (Nat.le_refl _), hlr, List.take_of_length_le (Nat.le_refl _)] at hab; exact hab
    have hE : decide ((x, l) = (y, r)) = true := decide_eq_true (by rw [hxy, heq])
    refine x_exit (look_here ?_)
    refine hK6 _ _ ?_
    refine x_seq fun K13 hK13 => ?_
    refine x_region ?_
    refine s_go (s_assign) ?_
    try simp only [opv, n1, n2, n3, n4, Value.cells]
    refine x_nil ?_
    refine hK13 _ _ ?_
    refine x_ret ?_
    refine r_tmp rfl ?_
    exact ⟨by rw [hE]; rfl, hS.ext_of⟩
end Go.Proofs.YtffmanidnlbjjaaGreat
set_option linter.unusedSimpArgs false
set_option linter.unusedVariables false
set_option maxHeartbeats 2000000
set_option maxRecDepth 100000
namespace Go.Proofs.YtffmanidnlbjjaaGreat
open Go.RowKit

/-- the first of two rows, one behind the other -/
def catK (a b : List Int) (k : Nat) : List Int := (([a, b] : List (List Int)).take k).flatten
theorem cat_two (a b : List Int) : catK a b 2 = a ++ b := by simp [catK]
theorem cat_len (a b : List Int) (k : Nat) : (catK a b k).length ≤ a.length + b.length := by
  match k with
  | 0 => simp [catK]
  | 1 => simp [catK]
  | k + 2 => simp [catK]
theorem cat_at {S : Nat → Prop} {w0 w : World} {L : List Res} {A B : Option Addr} {c d : Nat} {a b : List Int} {k : Nat} (hk : k < 2) (hS : St S w0 w L) (ha : Has L (.rd A 1 a.length (List.map (Value.int .u64) a))) (hb : Has L (.rd B 1 b.length (List.map (Value.int .u64) b))) :
    ∃ (X : Option Addr) (xc : Nat) (xs : List Int), [Value.slice A a.length c, Value.slice B b.length d][k]? = some (.slice X xs.length xc) ∧ catK a b (k + 1) = catK a b k ++ xs ∧ St S w0 w (.rd X 1 xs.length (List.map (Value.int .u64) xs) :: L) := by
  rcases (by omega : k = 0 ∨ k = 1) with rfl | rfl
  · exact ⟨A, c, a, rfl, by simp [catK], hS.rd_dup ha⟩
  · exact ⟨B, d, b, rfl, by simp [catK], hS.rd_dup hb⟩

theorem c_slGrow (n : Nat) (hn : n ≤ 8000000000)  (w0 : World) :
    CallR Tryz.prog 114 #[.slice none 0 0, .int .i64 (n : Int)] w0 fun v w' => ∃ (D : Option Addr) (e : Nat), v = .slice D 0 e ∧ St NoB w0 w' [.vec D e 84 1 0 []] := by
 have hS : St NoB w0 w0 [] := St.start w0
 refine c_enter (l := [.slice none 0 0, .int .i64 (n : Int), undef, undef, undef, undef, undef, undef, undef, undef, undef, undef, undef, undef, undef, undef, undef, undef, undef, undef, undef, undef, undef, undef, undef, undef, undef]) Tryz.func114 rfl (by simp only [Tryz.ntmps114, List.size_toArray, List.length_cons, List.length_nil, Nat.reduceAdd, Nat.reduceSub, Array.replicate_succ, Array.replicate_zero, List.push_toArray, List.append_toArray, List.nil_append, List.cons_append]) ?_
 refine x_seq fun K1 hK1 => ?_
 refine x_region ?_
 refine s_go (s_assign) ?_
 try simp only [opv, n1, n2, n3, n4, Value.cells]
 refine x_nil ?_
 refine hK1 _ _ ?_
 refine x_seq fun K2 hK2 => ?_
 refine x_seq fun K3 hK3 => ?_
 refine x_region ?_
 refine s_go (s_move) ?_
 try simp only [opv, n1, n2, n3, n4, Value.cells]
 refine s_go (s_lss) ?_
 try simp only [opv, n1, n2, n3, n4, Value.cells]
 refine x_nil ?_
 refine hK3 _ _ ?_
 refine x_cond (ht := fun hc1 => ?_) (hf := fun hc1 => ?_)
 ·
  try simp only [decide_eq_true_eq, decide_eq_false_iff_not, Bool.not_eq_true', Bool.not_eq_false', Int.not_lt, Int.not_le, ne_eq, Decidable.not_not, bne_iff_ne, beq_iff_eq, not_true_eq_false, not_false_eq_true] at hc1
  exfalso; omega
 ·
  try simp only [decide_eq_true_eq, decide_eq_false_iff_not, Bool.not_eq_true', Bool.not_eq_false', Int.not_lt, Int.not_le, ne_eq, Decidable.not_not, bne_iff_ne, beq_iff_eq, not_true_eq_false, not_false_eq_true] at hc1
  refine x_skip ?_
  refine hK2 _ _ ?_
  refine x_seq fun K4 hK4 => ?_
  refine x_seq fun K5 hK5 => ?_
  refine x_region ?_
  refine s_go (s_move) ?_
  try simp only [opv, n1, n2, n3, n4, Value.cells]
  refine s_go (s_move) ?_
  try simp only [opv, n1, n2, n3, n4, Value.cells]
  refine s_go (s_cap Tryz.underlying27) ?_
  try simp only [opv, n1, n2, n3, n4, Value.cells]
  refine s_go (s_move) ?_
  try simp only [opv, n1, n2, n3, n4, Value.cells]
  refine s_go (s_len_sl Tryz.underlying27) ?_
  try simp only [opv, n1, n2, n3, n4, Value.cells]
  refine s_go (s_sub (hc := by first | exact wr_i64 (by omega) (by omega) | rfl)) ?_
  try simp only [opv, n1, n2, n3, n4, Value.cells]
  refine s_go (s_sub (hc := by first | exact wr_i64 (by omega) (by omega) | rfl)) ?_
  try simp only [opv, n1, n2, n3, n4, Value.cells]
  simp only [Int.sub_self, Int.sub_zero]
  refine s_go (s_assign) ?_
  try simp only [opv, n1, n2, n3, n4, Value.cells]
  refine x_nil ?_
  refine hK5 _ _ ?_
  refine x_seq fun K6 hK6 => ?_
  refine x_region ?_
  refine s_go (s_move) ?_
  try simp only [opv, n1, n2, n3, n4, Value.cells]
  refine s_go (s_gtr) ?_
  try simp only [opv, n1, n2, n3, n4, Value.cells]
  refine x_nil ?_
  refine hK6 _ _ ?_
  refine x_cond (ht := fun hc2 => ?_) (hf := fun hc2 => ?_)
  ·
   try simp only [decide_eq_true_eq, decide_eq_false_iff_not, Bool.not_eq_true', Bool.not_eq_false', Int.not_lt, Int.not_le, ne_eq, Decidable.not_not, bne_iff_ne, beq_iff_eq, not_true_eq_false, not_false_eq_true] at hc2
   have hn0 : 0 < n := by omega
   refine x_region ?_
   refine s_go (s_move) ?_
   try simp only [opv, n1, n2, n3, n4, Value.cells]
   refine s_go (s_move) ?_
   try simp only [opv, n1, n2, n3, n4, Value.cells]
   refine s_go (s_cap Tryz.underlying27) ?_
   try simp only [opv, n1, n2, n3, n4, Value.cells]
   refine s_go (m_slice_lo0 (hi := 0) Tryz.underlying27 ti84 (hhi := ⟨_, rfl⟩)) ?_
   try simp only [opv, n1, n2, n3, n4, Value.cells]
   refine s_go (s_move) ?_
   try simp only [opv, n1, n2, n3, n4, Value.cells]
   refine m_append_zero Tryz.underlying27 Tryz.underlying3 ti84 (hS := hS) (h := fun w1 A1 C1 hc1 hS => ?_)
   try simp only [← List.map_append, ← List.map_drop, ← List.map_take, Nat.mul_one, Nat.zero_mul, Nat.sub_zero, List.drop_zero, List.nil_append, Nat.zero_add] at hS ⊢
   try simp only [opv, n1, n2, n3, n4, Value.cells, Array.toArray_toList] at hS ⊢
   refine s_go (s_move) ?_
   try simp only [opv, n1, n2, n3, n4, Value.cells]
   refine s_go (s_len_sl Tryz.underlying27) ?_
   try simp only [opv, n1, n2, n3, n4, Value.cells]
   refine s_go (m_slice_lo0 (hi := 0) Tryz.underlying27 ti84 (hhi := ⟨_, rfl⟩)) ?_
   try simp only [opv, n1, n2, n3, n4, Value.cells]
   refine s_go (s_assign) ?_
   try simp only [opv, n1, n2, n3, n4, Value.cells]
   refine x_nil ?_
   refine hK4 _ _ ?_
   refine x_seq fun K7 hK7 => ?_
   refine x_region ?_
   refine s_go (s_move) ?_
   try simp only [opv, n1, n2, n3, n4, Value.cells]
   refine s_go (s_assign) ?_
   try simp only [opv, n1, n2, n3, n4, Value.cells]
   refine x_nil ?_
   refine hK7 _ _ ?_
   refine x_ret ?_
   refine r_tmp rfl ?_
   exact ⟨_, _, rfl, hS.sel (by repeat (first | exact Sel.nil | (refine Sel.cons (by repeat (first | exact Del.head | apply Del.tail)) ?_)))⟩
  ·
   try simp only [decide_eq_true_eq, decide_eq_false_iff_not, Bool.not_eq_true', Bool.not_eq_false', Int.not_lt, Int.not_le, ne_eq, Decidable.not_not, bne_iff_ne, beq_iff_eq, not_true_eq_false, not_false_eq_true] at hc2
   refine x_skip ?_
   refine hK4 _ _ ?_
   refine x_seq fun K8 hK8 => ?_
   refine x_region ?_
   refine s_go (s_move) ?_
   try simp only [opv, n1, n2, n3, n4, Value.cells]
   refine s_go (s_assign) ?_
   try simp only [opv, n1, n2, n3, n4, Value.cells]
   refine x_nil ?_
   refine hK8 _ _ ?_
   refine x_ret ?_
   refine r_tmp rfl ?_
   replace hS := hS.nil_vec 84 1
   exact ⟨none, 0, rfl, hS.sel (by repeat (first | exact Sel.nil | (refine Sel.cons (by repeat (first | exact Del.head | apply Del.tail)) ?_)))⟩
theorem c_slConcat (w0 : World) (G : Option Addr) (gc : Nat) (A : Option Addr) (c : Nat) (a : List Int) (hr : Rd w0 A 1 a.length (List.map (Value.int .u64) a)) (hu : U64s a) (B : Option Addr) (d : Nat) (b : List Int) (hr2 : Rd w0 B 1 b.length (List.map (Value.int .u64) b)) (hu2 : U64s b) (hG : Rd w0 G 1 2 [Value.slice A a.length c, Value.slice B b.length d]) (hn : a.length + b.length ≤ 4000000000)  :
    CallR Tryz.prog 59 #[.slice G 2 gc] w0 fun v w' => ∃ (D : Option Addr) (e : Nat), v = .slice D (a ++ b).length e ∧ St NoB w0 w' [.vec D e 84 1 (a ++ b).length (List.map (Value.int .u64) (a ++ b))] := by
 have hS := St.rd3 (S := NoB) hG hr hr2
 have hcl := cat_len a b
 refine c_enter (l := [.slice G 2 gc, undef, undef, undef, undef, undef, undef, undef, undef, undef, undef, undef, undef, undef, undef, undef, undef, undef, undef, undef, undef, undef, undef, undef, undef, undef, undef, undef, undef, undef, undef, undef, undef, undef, undef, undef]) Tryz.func59 rfl (by simp only [Tryz.ntmps59, List.size_toArray, List.length_cons, List.length_nil, Nat.reduceAdd, Nat.reduceSub, Array.replicate_succ, Array.replicate_zero, List.push_toArray, List.append_toArray, List.nil_append, List.cons_append]) ?_
 refine x_seq fun K1 hK1 => ?_
 refine x_region ?_
 refine s_go (s_assign) ?_
 try simp only [opv, n1, n2, n3, n4, Value.cells]
 refine x_nil ?_
 refine hK1 _ _ ?_
 refine x_seq fun K2 hK2 => ?_
 refine x_region ?_
 refine s_go (s_assign) ?_
 try simp only [opv, n1, n2, n3, n4, Value.cells]
 refine x_nil ?_
 refine hK2 _ _ ?_
 refine x_seq fun K3 hK3 => ?_
 refine x_seq fun K4 hK4 => ?_
 refine x_region ?_
 refine s_go (s_move) ?_
 try simp only [opv, n1, n2, n3, n4, Value.cells]
 refine s_go (s_len_sl Tryz.underlying170) ?_
 try simp only [opv, n1, n2, n3, n4, Value.cells]
 refine s_go (s_move) ?_
 try simp only [opv, n1, n2, n3, n4, Value.cells]
 refine x_nil ?_
 refine hK4 _ _ ?_
 refine x_block ?_
 refine x_loop [3, 5, 11, 12, 13, 14, 15, 16, 17, 18, 19, 20, 21, 22] (fun m f w => ∃ k : Nat, k ≤ 2 ∧ m = 2 - k ∧ f 11 = .int .i64 (k : Int) ∧ f 3 = .int .i64 ((catK a b k).length : Int) ∧ St NoB w0 w [.rd G 1 2 [Value.slice A a.length c, Value.slice B b.length d], .rd A 1 a.length (List.map (Value.int .u64) a), .rd B 1 b.length (List.map (Value.int .u64) b)]) (2) ?init1 (fun m1 f1 wl1 hI => ?_)
 case init1 =>
  try simp only [opv, n1, n2, n3, n4, Value.cells]
  exact ⟨0, by omega, rfl, rfl, rfl, hS⟩
 obtain ⟨k, hk, hm, h11, h3, hS⟩ := hI
 simp only [clob, List.foldl, n3, n4, h11, h3]
 have hck := hcl k
 have hck1 := hcl (k + 1)
 refine x_seq fun K5 hK5 => ?_
 refine x_region ?_
 refine s_go (s_lss) ?_
 try simp only [opv, n1, n2, n3, n4, Value.cells]
 refine x_nil ?_
 refine hK5 _ _ ?_
 refine x_seq fun K6 hK6 => ?_
 refine x_cond (ht := fun hc1 => ?_) (hf := fun hc1 => ?_)
 ·
  try simp only [decide_eq_true_eq, decide_eq_false_iff_not, Bool.not_eq_true', Bool.not_eq_false', Int.not_lt, Int.not_le, ne_eq, Decidable.not_not, bne_iff_ne, beq_iff_eq, not_true_eq_false, not_false_eq_true] at hc1
  obtain ⟨X, xc, xs, hX, hcs, hS2⟩ := cat_at (c := c) (d := d) (a := a) (b := b) (A := A) (B := B) (k := k) (by omega) hS (by repeat (first | exact Has.head | apply Has.tail)) (by repeat (first | exact Has.head | apply Has.tail))
  have hxl : (catK a b k).length + xs.length ≤ 4000000000 := by have := congrArg List.length hcs; rw [List.length_append] at this; omega
  refine x_skip ?_
  refine hK6 _ _ ?_
  refine x_seq fun K7 hK7 => ?_
  refine x_block ?_
  refine x_seq fun K8 hK8 => ?_
  refine x_region ?_
  first | refine s_go (m_indexAddr_rd Tryz.underlying170 ti27 (hS := hS)) ?_ | refine s_go (m_indexAddr_vec Tryz.underlying170 ti27 (hS := hS)) ?_
  try simp only [opv, n1, n2, n3, n4, Value.cells, Nat.mul_one, Nat.zero_add, Int.toNat_natCast, Int.reduceToNat]
  first | refine s_go (m_load_obj Tryz.underlying27 (hS := hS) (hv := hX)) ?_ | refine s_go (m_load_bx Tryz.underlying27 (hS := hS) (hv := hX)) ?_ | refine s_go (m_load_rd Tryz.underlying27 (hS := hS) (hv := hX)) ?_ | refine s_go (m_load_vec Tryz.underlying27 (hS := hS) (hv := hX)) ?_
  try simp only [opv, n1, n2, n3, n4, Value.cells, List.getElem_toArray, List.getElem_cons_zero, List.getElem_cons_succ]
  refine s_go (s_assign) ?_
  try simp only [opv, n1, n2, n3, n4, Value.cells]
  refine x_nil ?_
  refine hK8 _ _ ?_
  refine x_seq fun K9 hK9 => ?_
  refine x_region ?_
  refine s_go (s_move) ?_
  try simp only [opv, n1, n2, n3, n4, Value.cells]
  refine s_go (s_move) ?_
  try simp only [opv, n1, n2, n3, n4, Value.cells]
  refine s_go (s_len_sl Tryz.underlying27) ?_
  try simp only [opv, n1, n2, n3, n4, Value.cells]
  refine s_go (s_add (hc := by first | exact wr_i64 (by omega) (by omega) | rfl)) ?_
  try simp only [opv, n1, n2, n3, n4, Value.cells]
  refine s_go (s_assign) ?_
  try simp only [opv, n1, n2, n3, n4, Value.cells]
  refine x_nil ?_
  refine hK9 _ _ ?_
  refine x_seq fun K10 hK10 => ?_
  refine x_region ?_
  refine s_go (s_move) ?_
  try simp only [opv, n1, n2, n3, n4, Value.cells]
  refine s_go (s_lss) ?_
  try simp only [opv, n1, n2, n3, n4, Value.cells]
  refine x_nil ?_
  refine hK10 _ _ ?_
  refine x_cond (ht := fun hc2 => ?_) (hf := fun hc2 => ?_)
  ·
   try simp only [decide_eq_true_eq, decide_eq_false_iff_not, Bool.not_eq_true', Bool.not_eq_false', Int.not_lt, Int.not_le, ne_eq, Decidable.not_not, bne_iff_ne, beq_iff_eq, not_true_eq_false, not_false_eq_true] at hc2
   exfalso; omega
  ·
   try simp only [decide_eq_true_eq, decide_eq_false_iff_not, Bool.not_eq_true', Bool.not_eq_false', Int.not_lt, Int.not_le, ne_eq, Decidable.not_not, bne_iff_ne, beq_iff_eq, not_true_eq_false, not_false_eq_true] at hc2
   refine x_skip ?_
   refine hK7 _ _ ?_
   refine x_region ?_
   refine s_go (s_add (hc := by first | exact wr_i64 (by omega) (by omega) | rfl)) ?_
   try simp only [opv, n1, n2, n3, n4, Value.cells]
   refine s_go (s_move) ?_
   try simp only [opv, n1, n2, n3, n4, Value.cells]
   refine x_nil ?_
   refine loop_back (m' := 2 - (k + 1)) (by simp only [clob, List.foldl, n1, n2, n3, n4]) ?_ ?_
   · try simp only [opv, n1, n2, n3, n4, Value.cells]
     exact ⟨k + 1, by omega, by omega, by rfl, congrArg (Value.int .i64) (by rw [hcs, List.length_append]; omega), hS.sel (by repeat (first | exact Sel.nil | (refine Sel.cons (by repeat (first | exact Del.head | apply Del.tail)) ?_)))⟩
   · omega
 ·
  try simp only [decide_eq_true_eq, decide_eq_false_iff_not, Bool.not_eq_true', Bool.not_eq_false', Int.not_lt, Int.not_le, ne_eq, Decidable.not_not, bne_iff_ne, beq_iff_eq, not_true_eq_false, not_false_eq_true] at hc1
  obtain rfl : k = 2 := by omega
  rw [cat_two]
  have habl : (a ++ b).length = a.length + b.length := List.length_append ..
  refine x_exit (look_here ?_)
  refine hK3 _ _ ?_
  refine x_seq fun K11 hK11 => ?_
  refine x_region ?_
  refine s_go (s_move) ?_
  try simp only [opv, n1, n2, n3, n4, Value.cells]
  refine s_call en114 ?_
  try simp only [opv, n1, n2, n3, n4, Value.cells, List.map_toArray, List.map_cons, List.map_nil, List.append_toArray, List.cons_append, List.nil_append, Array.append_empty]
  refine CallR.mono (c_slGrow (a ++ b).length (by omega) _) ?_
  rintro _ w1 ⟨D, e, rfl, hC1⟩
  replace hS := hS.call hC1
  simp only [List.cons_append, List.nil_append] at hS
  try simp only [opv, n1, n2, n3, n4, Value.cells]
  refine s_go (s_assign) ?_
  try simp only [opv, n1, n2, n3, n4, Value.cells]
  refine x_nil ?_
  refine hK11 _ _ ?_
  refine x_seq fun K12 hK12 => ?_
  refine x_seq fun K13 hK13 => ?_
  refine x_region ?_
  refine s_go (s_move) ?_
  try simp only [opv, n1, n2, n3, n4, Value.cells]
  refine s_go (s_len_sl Tryz.underlying170) ?_
  try simp only [opv, n1, n2, n3, n4, Value.cells]
  refine s_go (s_move) ?_
  try simp only [opv, n1, n2, n3, n4, Value.cells]
  refine x_nil ?_
  refine hK13 _ _ ?_
  refine x_block ?_
  refine x_loop [6, 8, 27, 28, 29, 30, 31, 32, 33, 34] (fun m f w => ∃ (k : Nat) (D : Option Addr) (e : Nat), k ≤ 2 ∧ m = 2 - k ∧ f 27 = .int .i64 (k : Int) ∧ f 6 = .slice D (catK a b k).length e ∧ St NoB w0 w [.vec D e 84 1 (catK a b k).length (List.map (Value.int .u64) (catK a b k)), .rd G 1 2 [Value.slice A a.length c, Value.slice B b.length d], .rd A 1 a.length (List.map (Value.int .u64) a), .rd B 1 b.length (List.map (Value.int .u64) b)]) (2) ?init2 (fun m2 f2 wl2 hI => ?_)
  case init2 =>
   try simp only [opv, n1, n2, n3, n4, Value.cells]
   exact ⟨0, D, e, by omega, rfl, rfl, rfl, hS.sel (by repeat (first | exact Sel.nil | (refine Sel.cons (by repeat (first | exact Del.head | apply Del.tail)) ?_)))⟩
  obtain ⟨k, D, e, hk, hm, h27, h6, hS⟩ := hI
  simp only [clob, List.foldl, n3, n4, h27, h6]
  have hck := hcl k
  have hck1 := hcl (k + 1)
  refine x_seq fun K14 hK14 => ?_
  refine x_region ?_
  refine s_go (s_lss) ?_
  try simp only [opv, n1, n2, n3, n4, Value.cells]
  refine x_nil ?_
  refine hK14 _ _ ?_
  refine x_seq fun K15 hK15 => ?_
  refine x_cond (ht := fun hc3 => ?_) (hf := fun hc3 => ?_)
  ·
   try simp only [decide_eq_true_eq, decide_eq_false_iff_not, Bool.not_eq_true', Bool.not_eq_false', Int.not_lt, Int.not_le, ne_eq, Decidable.not_not, bne_iff_ne, beq_iff_eq, not_true_eq_false, not_false_eq_true] at hc3
   obtain ⟨X, xc, xs, hX, hcs, hS2⟩ := cat_at (c := c) (d := d) (a := a) (b := b) (A := A) (B := B) (k := k) (by omega) hS (by repeat (first | exact Has.head | apply Has.tail)) (by repeat (first | exact Has.head | apply Has.tail))
   clear hS
   have hS := hS2
   have hxl : (catK a b k).length + xs.length ≤ 4000000000 := by have := congrArg List.length hcs; rw [List.length_append] at this; omega
   refine x_skip ?_
   refine hK15 _ _ ?_
   refine x_seq fun K16 hK16 => ?_
   refine x_block ?_
   refine x_seq fun K17 hK17 => ?_
   refine x_region ?_
   first | refine s_go (m_indexAddr_rd Tryz.underlying170 ti27 (hS := hS)) ?_ | refine s_go (m_indexAddr_vec Tryz.underlying170 ti27 (hS := hS)) ?_
   try simp only [opv, n1, n2, n3, n4, Value.cells, Nat.mul_one, Nat.zero_add, Int.toNat_natCast, Int.reduceToNat]
   refine s_go (m_load_rd Tryz.underlying27 (hS := hS) (hv := hX)) ?_
   try simp only [opv, n1, n2, n3, n4, Value.cells, List.getElem_toArray, List.getElem_cons_zero, List.getElem_cons_succ]
   refine s_go (s_assign) ?_
   try simp only [opv, n1, n2, n3, n4, Value.cells]
   refine x_nil ?_
   refine hK17 _ _ ?_
   refine x_region ?_
   refine s_go (s_move) ?_
   try simp only [opv, n1, n2, n3, n4, Value.cells]
   refine s_go (s_move) ?_
   try simp only [opv, n1, n2, n3, n4, Value.cells]
   refine m_append Tryz.underlying27 ti84 (hS := hS) (news := List.map (Value.int .u64) xs) (h := fun w2 A2 C2 hS => ?_)
   try simp only [← List.map_append, ← List.map_drop, ← List.map_take, Nat.mul_one, Nat.zero_mul, Nat.sub_zero, List.drop_zero, List.nil_append, Nat.zero_add] at hS ⊢
   try simp only [opv, n1, n2, n3, n4, Value.cells, Array.toArray_toList] at hS ⊢
   refine s_go (s_assign) ?_
   try simp only [opv, n1, n2, n3, n4, Value.cells]
   refine x_nil ?_
   refine hK16 _ _ ?_
   refine x_region ?_
   refine s_go (s_add (hc := by first | exact wr_i64 (by omega) (by omega) | rfl)) ?_
   try simp only [opv, n1, n2, n3, n4, Value.cells]
   refine s_go (s_move) ?_
   try simp only [opv, n1, n2, n3, n4, Value.cells]
   refine x_nil ?_
   refine loop_back (m' := 2 - (k + 1)) (by simp only [clob, List.foldl, n1, n2, n3, n4]) ?_ ?_
   · try simp only [opv, n1, n2, n3, n4, Value.cells]
     rw [← List.length_append, ← hcs] at hS
     exact ⟨k + 1, _, _, by omega, by omega, by rfl, by rw [hcs, List.length_append], hS.sel (by repeat (first | exact Sel.nil | (refine Sel.cons (by repeat (first | exact Del.head | apply Del.tail)) ?_)))⟩
   · omega
  ·
   try simp only [decide_eq_true_eq, decide_eq_false_iff_not, Bool.not_eq_true', Bool.not_eq_false', Int.not_lt, Int.not_le, ne_eq, Decidable.not_not, bne_iff_ne, beq_iff_eq, not_true_eq_false, not_false_eq_true] at hc3
   obtain rfl : k = 2 := by omega
   rw [cat_two] at hS ⊢
   refine x_exit (look_here ?_)
   refine hK12 _ _ ?_
   refine x_seq fun K18 hK18 => ?_
   refine x_region ?_
   refine s_go (s_move) ?_
   try simp only [opv, n1, n2, n3, n4, Value.cells]
   refine s_go (s_assign) ?_
   try simp only [opv, n1, n2, n3, n4, Value.cells]
   refine x_nil ?_
   refine hK18 _ _ ?_
   refine x_ret ?_
   refine r_tmp rfl ?_
   exact ⟨_, _, rfl, hS.sel (by repeat (first | exact Sel.nil | (refine Sel.cons (by repeat (first | exact Del.head | apply Del.tail)) ?_)))⟩
end Go.Proofs.YtffmanidnlbjjaaGreat
set_option linter.unusedSimpArgs false
set_option linter.unusedVariables false
set_option maxHeartbeats 3000000
set_option maxRecDepth 100000
namespace Go.Proofs.YtffmanidnlbjjaaGreat
open Go.RowKit

def cntI : List Int → List (Int × Value)
  | [] => []
  | x :: l => mput x (.int .i64 ((l.count x : Int) + 1)) (cntI l)
theorem cntI_get (x : Int) : ∀ (l : List Int), mget x (cntI l) = if l.count x = 0 then none else some (.int .i64 (l.count x : Int))
  | [] => rfl
  | y :: l => by
    rw [cntI, mget_put, List.count_cons]
    by_cases e : x = y
    · subst e; simp
    · have e' : ¬ (y == x) = true := by simpa using fun h => e h.symm
      rw [if_neg e, if_neg e', Nat.add_zero]; exact cntI_get x l
theorem cntI_getD (x : Int) (l : List Int) : (mget x (cntI l)).getD (.int .i64 0) = .int .i64 (l.count x : Int) := by
  rw [cntI_get]; split
  · next h => rw [h]; rfl
  · rfl
theorem cntI_snoc (ds : List Int) (d : Int) : cntI (ds ++ [d]).reverse = mput d (.int .i64 ((ds.count d : Int) + 1)) (cntI ds.reverse) := by
  rw [List.reverse_append, ← List.count_reverse (l := ds)]; rfl
theorem step_sub (p : List Int × List Int) (d : Int) : ∀ x ∈ (stepD p d).2, x ∈ p.2 ∨ x = d := fun x hx => by
  unfold stepD at hx
  split at hx
  · exact .inl hx
  · split at hx
    · exact .inl hx
    · rcases List.mem_append.1 hx with h | h
      · exact .inl h
      · exact .inr (by simpa using h)
theorem fold_sub : ∀ (ds : List Int) (p : List Int × List Int), ∀ x ∈ (ds.foldl stepD p).2, x ∈ p.2 ∨ x ∈ ds
  | [], p, x, hx => .inl hx
  | d :: ds, p, x, hx => by
    rcases fold_sub ds (stepD p d) x hx with h | h
    · rcases step_sub p d x h with h | rfl
      · exact .inl h
      · exact .inr (by simp)
    · exact .inr (by simp [h])
theorem step_len (p : List Int × List Int) (d : Int) : (stepD p d).2.length ≤ p.2.length + 1 := by
  unfold stepD; split
  · omega
  · split <;> simp
theorem fold_len : ∀ (ds : List Int) (p : List Int × List Int), (ds.foldl stepD p).2.length ≤ p.2.length + ds.length
  | [], p => Nat.le_refl _
  | d :: ds, p => by
    have h := fold_len ds (stepD p d)
    have h2 := step_len p d
    rw [List.foldl_cons, List.length_cons]; omega
theorem add_loop {v ds : List Int} {d : Int} (hv : VOk v) (hm : ∀ x ∈ ds, MayD x) (hs : ds.Pairwise (· ≤ ·)) :
    ((d ∈ ds ∨ d % 4294967296 ≤ flo (ds.foldl stepD (v, [])).1 d) → MayD d → (ds ++ [d]).foldl stepD (v, []) = ds.foldl stepD (v, [])) ∧
    (¬ d ∈ ds → ¬ d % 4294967296 ≤ flo (ds.foldl stepD (v, [])).1 d → d % 4294967296 = flo (ds.foldl stepD (v, [])).1 d + 1 → (ds ++ [d]).foldl stepD (v, []) = ((ds.foldl stepD (v, [])).1.set (dR d) (d % 4294967296), (ds.foldl stepD (v, [])).2)) ∧
    (¬ d ∈ ds → ¬ d % 4294967296 ≤ flo (ds.foldl stepD (v, [])).1 d → ¬ d % 4294967296 = flo (ds.foldl stepD (v, [])).1 d + 1 → (ds ++ [d]).foldl stepD (v, []) = ((ds.foldl stepD (v, [])).1, (ds.foldl stepD (v, [])).2 ++ [d])) := by
  obtain ⟨h1, h2⟩ := fold_ns (ds := ds) (ns_nil hv) hm hs (fun c hc => by cases hc)
  have hsub := fold_sub ds (v, [])
  generalize hp : ds.foldl stepD (v, []) = p at *
  have e : (ds ++ [d]).foldl stepD (v, []) = stepD p d := by rw [List.foldl_append, hp]; rfl
  have hnd : ¬ d ∈ ds → ¬ d ∈ p.2 := fun h hd => by
    rcases hsub d hd with h3 | h3
    · cases h3
    · exact h h3
  rw [e]
  refine ⟨fun h hd => ?_, fun h h3 h4 => ?_, fun h h3 h4 => ?_⟩
  · have : d % 4294967296 ≤ flo p.1 d ∨ d ∈ p.2 := by
      rcases h with h | h
      · exact ((h2 d).2 (.inr h)).2
      · exact .inl h
    rw [stepD, if_pos this]
  · rw [stepD, if_neg (fun q => q.elim h3 (hnd h)), if_pos h4]
  · rw [stepD, if_neg (fun q => q.elim h3 (hnd h)), if_neg h4]
theorem mayF_take {l : List Int} {k : Nat} (hk : k < l.length) : (MayD (l.getD k 0) → mayF (l.take (k + 1)) = mayF (l.take k) ++ [l.getD k 0]) ∧ (¬ MayD (l.getD k 0) → mayF (l.take (k + 1)) = mayF (l.take k)) := by
  rw [List.take_succ_eq_append_getElem hk, ← getD_ltz hk, mayF, List.filter_append]
  refine ⟨fun h => ?_, fun h => ?_⟩
  · rw [List.filter_cons_of_pos (by simpa using h)]; rfl
  · rw [List.filter_cons_of_neg (by simpa using h)]; simp [mayF]
theorem mayF_len (l : List Int) : (mayF l).length ≤ l.length := List.length_filter_le _ _
theorem perm_snoc {hl2 hl m : List Int} {x : Int} (h1 : hl2.Perm (hl ++ [x])) (h2 : hl.Perm m) : hl2.Perm (m ++ [x]) := h1.trans (h2.append_right _)
theorem pop_perm {hl hl2 ds m : List Int} {d : Int} (h1 : hl.Perm (d :: hl2)) (h2 : (hl ++ ds).Perm m) : (hl2 ++ (ds ++ [d])).Perm m := by
  refine List.Perm.trans ?_ h2
  refine List.Perm.trans ?_ (h1.append_right ds).symm
  rw [← List.append_assoc]
  exact List.perm_append_comm
theorem fold_vok : ∀ {ds : List Int} {p : List Int × List Int}, VOk p.1 → (∀ d ∈ ds, MayD d) → VOk (ds.foldl stepD p).1
  | [], _, h, _ => h
  | d :: ds, p, h, hm => fold_vok (ds := ds) (cnt_step1 h (hm d (by simp))).2 fun x hx => hm x (by simp [hx])
theorem addS_ok {v : List Int} (hv : VOk v) (l : List Int) : VOk (addS v l).1 ∧ U64s (addS v l).2 ∧ (addS v l).2.length ≤ l.length := by
  have h := (add_nrm hv l).ns
  refine ⟨h.vok, fun x hx => may_u64 (h.may x hx), ?_⟩
  have h1 := fold_len (sortI (mayF l)) (v, [])
  have h2 : (sortI (mayF l)).length ≤ l.length := by rw [(sortI_perm _).length_eq]; exact mayF_len l
  unfold addS; simp only [List.length_nil] at h1; omega

theorem c_dotsAdd (w0 : World) (x : List Int) (hx : VOk x) (A : Option Addr) (c : Nat) (cl : List Int) (hr : Rd w0 A 1 cl.length (List.map (Value.int .u64) cl)) (hu : U64s cl) (B : Option Addr) (d : Nat) (l : List Int) (hr2 : Rd w0 B 1 l.length (List.map (Value.int .u64) l)) (hu2 : U64s l) (hn : cl.length + l.length ≤ 4000000000)  :
    CallR Tryz.prog 50 #[.agg (SetC x (.slice A cl.length c)), .slice B l.length d] w0 fun v w' => ∃ (D : Option Addr) (e : Nat), v = .agg (SetC (addS x (cl ++ l)).1 (.slice D (addS x (cl ++ l)).2.length e)) ∧ St NoB w0 w' [.vec D e 84 1 (addS x (cl ++ l)).2.length (List.map (Value.int .u64) (addS x (cl ++ l)).2)] := by
 have hS := St.rd2 (S := NoB) hr hr2
 have hxl := hx.len
 have h0l : (List.replicate 16 (0 : Int)).length = 16 := rfl
 have hal : (cl ++ l).length = cl.length + l.length := List.length_append ..
 have huc : U64s (cl ++ l) := hu.app hu2
 refine c_enter (l := [.agg (SetC x (.slice A cl.length c)), .slice B l.length d, undef, undef, undef, undef, undef, undef, undef, undef, undef, undef, undef, undef, undef, undef, undef, undef, undef, undef, undef, undef, undef, undef, undef, undef, undef, undef, undef, undef, undef, undef, undef, undef, undef, undef, undef, undef, undef, undef, undef, undef, undef, undef, undef, undef, undef, undef, undef, undef, undef, undef, undef, undef, undef, undef, undef, undef, undef, undef, undef, undef, undef, undef, undef, undef, undef, undef, undef, undef, undef, undef, undef, undef, undef, undef, undef, undef, undef, undef, undef, undef, undef, undef, undef]) Tryz.func50 rfl (by simp only [Tryz.ntmps50, List.size_toArray, List.length_cons, List.length_nil, Nat.reduceAdd, Nat.reduceSub, Array.replicate_succ, Array.replicate_zero, List.push_toArray, List.append_toArray, List.nil_append, List.cons_append]) ?_
 refine x_seq fun K1 hK1 => ?_
 refine x_region ?_
 refine m_box hS (fun w1 g1 hS => ?_)
 try simp only [opv, n1, n2, n3, n4, Value.cells, Array.toArray_toList] at hS ⊢
 obtain ⟨gba, hgba⟩ : ∃ z, z = g1 := ⟨_, rfl⟩
 rw [← hgba] at hS ⊢
 refine m_alloc ti29 hS (fun w2 g2 hS => ?_)
 try simp only [opv, n1, n2, n3, n4, Value.cells, Array.toArray_toList] at hS ⊢
 replace hS : St NoB w0 w2 (.obj g2 (.cells (SetC (List.replicate 16 0) (.slice none 0 0)) 29 (0, 0)) :: _) := hS
 obtain ⟨gbr, hgbr⟩ : ∃ z, z = g2 := ⟨_, rfl⟩
 rw [← hgbr] at hS ⊢
 refine x_nil ?_
 refine hK1 _ _ ?_
 refine x_seq fun K2 hK2 => ?_
 refine x_region ?_
 first | refine s_go (m_fieldAddr Tryz.underlying29 (hi := ti26)) ?_ | refine s_go (m_fieldAddr_rd Tryz.underlying29 (hi := ti26) (hS := hS)) ?_ | refine s_go (m_fieldAddr_vec Tryz.underlying29 (hi := ti26) (hS := hS)) ?_
 try simp only [opv, n1, n2, n3, n4, Value.cells, Nat.zero_add, Nat.add_zero, List.getElem_toArray, List.getElem_cons_zero, List.getElem_cons_succ]
 refine s_go (m_loada_obj Tryz.underlying26 (hi := ti26) (hS := hS) (hfit := by rw [setC_size (by assumption)]; decide)) ?_
 try simp only [opv, n1, n2, n3, n4, Value.cells, List.getElem_toArray, List.getElem_cons_zero, List.getElem_cons_succ]
 rw [set_flo (by assumption)]
 refine s_go (s_build_struct (cells := (SetC x (.slice none 0 0))) Tryz.underlying29 ti29 bp29 (hc := by simp only [List.map_toArray, List.map_cons, List.map_nil, opv, n1, n2, n3, n4, Value.cells, List.toList_toArray]; exact fill_set (by rfl) hxl)) ?_
 try simp only [opv, n1, n2, n3, n4, Value.cells]
 refine m_alloc ti29 hS (fun w3 g3 hS => ?_)
 try simp only [opv, n1, n2, n3, n4, Value.cells, Array.toArray_toList] at hS ⊢
 replace hS : St NoB w0 w3 (.obj g3 (.cells (SetC (List.replicate 16 0) (.slice none 0 0)) 29 (0, 0)) :: _) := hS
 obtain ⟨gbo, hgbo⟩ : ∃ z, z = g3 := ⟨_, rfl⟩
 rw [← hgbo] at hS ⊢
 refine m_store_obj ti29 (hS := hS) (hv := setC_size (by assumption) _) (h1 := set_one _ _ _ _) (hfit := by rw [setC_size (by assumption)]; omega) (hc := set_whole (by assumption) (by assumption) _ _) (h := fun w4 hS => ?_)
 try simp only [opv, n1, n2, n3, n4, Value.cells, Array.toArray_toList] at hS ⊢
 refine x_nil ?_
 refine hK2 _ _ ?_
 refine x_seq fun K3 hK3 => ?_
 refine x_region ?_
 refine m_buildRow (cells := #[]) Tryz.underlying155 ti84 (hc := by simp only [List.map_toArray, List.map_cons, List.map_nil, opv, n1, n2, n3, n4, Value.cells, List.toList_toArray]; (repeat (refine fill_cons rfl rfl (Nat.le_of_ble_eq_true rfl) ?_)); rfl) (hS := hS) (h := fun w5 g5 hS => ?_)
 try simp only [opv, n1, n2, n3, n4, Value.cells, Array.toArray_toList] at hS ⊢
 replace hS := hS.obj_vec (sz := 1) (n := 0) rfl (by decide) .head
 refine m_box hS (fun w6 g6 hS => ?_)
 try simp only [opv, n1, n2, n3, n4, Value.cells, Array.toArray_toList] at hS ⊢
 obtain ⟨gw, hgw⟩ : ∃ z, z = g6 := ⟨_, rfl⟩
 rw [← hgw] at hS ⊢
 refine s_go (s_assign) ?_
 try simp only [opv, n1, n2, n3, n4, Value.cells]
 refine x_nil ?_
 refine hK3 _ _ ?_
 refine x_seq fun K4 hK4 => ?_
 refine x_seq fun K5 hK5 => ?_
 refine x_region ?_
 first | refine s_go (m_fieldAddr Tryz.underlying29 (hi := ti27)) ?_ | refine s_go (m_fieldAddr_rd Tryz.underlying29 (hi := ti27) (hS := hS)) ?_ | refine s_go (m_fieldAddr_vec Tryz.underlying29 (hi := ti27) (hS := hS)) ?_
 try simp only [opv, n1, n2, n3, n4, Value.cells, Nat.zero_add, Nat.add_zero, List.getElem_toArray, List.getElem_cons_zero, List.getElem_cons_succ]
 refine s_go (m_load_obj Tryz.underlying27 (hS := hS) (hv := set_sl (by assumption) _)) ?_
 try simp only [opv, n1, n2, n3, n4, Value.cells, List.getElem_toArray, List.getElem_cons_zero, List.getElem_cons_succ]
 refine s_go (s_move) ?_
 try simp only [opv, n1, n2, n3, n4, Value.cells]
 refine m_buildRow (cells := #[_, _]) Tryz.underlying170 ti27 (hc := by simp only [List.map_toArray, List.map_cons, List.map_nil, opv, n1, n2, n3, n4, Value.cells, List.toList_toArray]; (repeat (refine fill_cons rfl rfl (Nat.le_of_ble_eq_true rfl) ?_)); rfl) (hS := hS) (h := fun w7 g7 hS => ?_)
 try simp only [opv, n1, n2, n3, n4, Value.cells, Array.toArray_toList] at hS ⊢
 replace hS := hS.obj_rd (sz := 1) (n := 2) rfl .head
 refine s_call en59 ?_
 try simp only [opv, n1, n2, n3, n4, Value.cells, List.map_toArray, List.map_cons, List.map_nil, List.append_toArray, List.cons_append, List.nil_append, Array.append_empty]
 refine CallR.mono (c_slConcat _ _ _ A c cl (hS.hasRd (by repeat (first | exact Has.head | apply Has.tail))) hu B d l (hS.hasRd (by repeat (first | exact Has.head | apply Has.tail))) hu2 (hS.hasRd (by repeat (first | exact Has.head | apply Has.tail))) hn) ?_
 rintro _ w8 ⟨D, e, rfl, hC8⟩
 replace hS := hS.call hC8
 simp only [List.cons_append, List.nil_append] at hS
 replace hS := hS.vec_rd (by exact Upd.head)
 try simp only [opv, n1, n2, n3, n4, Value.cells]
 refine s_go (s_len_sl Tryz.underlying27) ?_
 try simp only [opv, n1, n2, n3, n4, Value.cells]
 refine s_go (s_move) ?_
 try simp only [opv, n1, n2, n3, n4, Value.cells]
 refine x_nil ?_
 refine hK5 _ _ ?_
 refine x_block ?_
 refine x_loop [8, 24, 25, 26, 27, 28, 29, 30, 31, 32, 33, 34, 35] (fun m f w => ∃ (k : Nat) (W : Option Addr) (wc n : Nat) (hl : List Int), k ≤ (cl ++ l).length ∧ m = (cl ++ l).length - k ∧ f 24 = .int .i64 (k : Int) ∧ hl.Perm (mayF ((cl ++ l).take k)) ∧ hl.length = n ∧ HeapN hl n ∧ n ≤ k ∧ St NoB w0 w [.obj gw (.cells #[.slice W n wc] 155 (0, 0)), .vec W wc 84 1 n (List.map (Value.int .u64) hl), .obj gbo (.cells (SetC x (.slice none 0 0)) 29 (0, 0)), .rd D 1 (cl ++ l).length (List.map (Value.int .u64) (cl ++ l)), .obj gbr (.cells (SetC (List.replicate 16 0) (.slice none 0 0)) 29 (0, 0))]) ((cl ++ l).length) ?init1 (fun m1 f1 wl1 hI => ?_)
 case init1 =>
  try simp only [opv, n1, n2, n3, n4, Value.cells]
  exact ⟨0, _, _, 0, [], by omega, rfl, rfl, .refl _, rfl, (fun k a b => by omega), Nat.le_refl _, hS.sel (by repeat (first | exact Sel.nil | (refine Sel.cons (by repeat (first | exact Del.head | apply Del.tail)) ?_)))⟩
 obtain ⟨k, W, wc, n, hl, hk, hm, h24, hpm, hln, hH, hnk, hS⟩ := hI
 simp only [clob, List.foldl, n3, n4, h24]
 refine x_seq fun K6 hK6 => ?_
 refine x_region ?_
 refine s_go (s_lss) ?_
 try simp only [opv, n1, n2, n3, n4, Value.cells]
 refine x_nil ?_
 refine hK6 _ _ ?_
 refine x_seq fun K7 hK7 => ?_
 refine x_cond (ht := fun hc1 => ?_) (hf := fun hc1 => ?_)
 ·
  try simp only [decide_eq_true_eq, decide_eq_false_iff_not, Bool.not_eq_true', Bool.not_eq_false', Int.not_lt, Int.not_le, ne_eq, Decidable.not_not, bne_iff_ne, beq_iff_eq, not_true_eq_false, not_false_eq_true] at hc1
  have hmk := mayF_take (l := cl ++ l) (k := k) (by omega)
  have hxr := huc.get (k := k) (by omega)
  obtain ⟨q, hq⟩ : ∃ q : Nat, (cl ++ l).getD k 0 = (q : Int) := ⟨((cl ++ l).getD k 0).toNat, by omega⟩
  rw [hq] at hmk hxr
  refine x_skip ?_
  refine hK7 _ _ ?_
  refine x_seq fun K8 hK8 => ?_
  refine x_block ?_
  refine x_seq fun K9 hK9 => ?_
  refine x_region ?_
  first | refine s_go (m_indexAddr_rd Tryz.underlying27 ti84 (hS := hS)) ?_ | refine s_go (m_indexAddr_vec Tryz.underlying27 ti84 (hS := hS)) ?_
  try simp only [opv, n1, n2, n3, n4, Value.cells, Nat.mul_one, Nat.zero_add, Int.toNat_natCast, Int.reduceToNat]
  first | refine s_go (m_load_obj Tryz.underlying84 (hS := hS)) ?_ | refine s_go (m_load_bx Tryz.underlying84 (hS := hS)) ?_ | refine s_go (m_load_rd Tryz.underlying84 (hS := hS)) ?_ | refine s_go (m_load_vec Tryz.underlying84 (hS := hS)) ?_
  try simp only [opv, n1, n2, n3, n4, Value.cells, List.getElem_toArray, List.getElem_cons_zero, List.getElem_cons_succ]
  rw [hq]
  refine s_go (s_assign) ?_
  try simp only [opv, n1, n2, n3, n4, Value.cells]
  refine x_nil ?_
  refine hK9 _ _ ?_
  refine x_seq fun K10 hK10 => ?_
  refine x_region ?_
  refine s_go (s_move) ?_
  try simp only [opv, n1, n2, n3, n4, Value.cells]
  refine s_call en102 ?_
  try simp only [opv, n1, n2, n3, n4, Value.cells, List.map_toArray, List.map_cons, List.map_nil, List.append_toArray, List.cons_append, List.nil_append, Array.append_empty]
  refine CallR.mono (c_dotsMay q (by omega) _) ?_
  rintro _ w9 ⟨rfl, hE9⟩
  replace hS := hS.ext hE9
  try simp only [opv, n1, n2, n3, n4, Value.cells]
  refine x_nil ?_
  refine hK10 _ _ ?_
  refine x_cond (ht := fun hc2 => ?_) (hf := fun hc2 => ?_)
  ·
   try simp only [decide_eq_true_eq, decide_eq_false_iff_not, Bool.not_eq_true', Bool.not_eq_false', Int.not_lt, Int.not_le, ne_eq, Decidable.not_not, bne_iff_ne, beq_iff_eq, not_true_eq_false, not_false_eq_true] at hc2
   have hM : MayD (q : Int) := by simpa using hc2
   refine x_region ?_
   refine s_go (s_move) ?_
   try simp only [opv, n1, n2, n3, n4, Value.cells]
   refine s_go (s_iface Tryz.underlying154) ?_
   try simp only [opv, n1, n2, n3, n4, Value.cells]
   refine s_go (s_move) ?_
   try simp only [opv, n1, n2, n3, n4, Value.cells]
   refine s_go (s_iface Tryz.underlying84) ?_
   try simp only [opv, n1, n2, n3, n4, Value.cells]
   refine s_call en103 ?_
   try simp only [opv, n1, n2, n3, n4, Value.cells, List.map_toArray, List.map_cons, List.map_nil, List.append_toArray, List.cons_append, List.nil_append, Array.append_empty]
   refine CallR.mono (c_heapPush _ gw W wc n hl hln (by omega) hH (q : Int) (hS.owns (by repeat (first | exact Spl.nil | (apply Spl.cons (by repeat (first | exact Del.head | apply Del.tail))))))) ?_
   rintro _ w10 ⟨A2, c2, l2, rfl, hp, hl2, hH2, hC10⟩
   replace hS := hS.frame (by repeat (first | exact Spl.nil | (apply Spl.cons (by repeat (first | exact Del.head | apply Del.tail))))) hC10 (by intro r hr g hg; simp only [List.mem_cons, List.not_mem_nil, or_false] at hr; rcases hr with rfl | rfl <;> simp [Res.reads] at hg)
   simp only [List.cons_append, List.nil_append] at hS
   try simp only [opv, n1, n2, n3, n4, Value.cells]
   refine x_nil ?_
   refine hK8 _ _ ?_
   refine x_region ?_
   refine s_go (s_add (hc := by first | exact wr_i64 (by omega) (by omega) | rfl)) ?_
   try simp only [opv, n1, n2, n3, n4, Value.cells]
   refine s_go (s_move) ?_
   try simp only [opv, n1, n2, n3, n4, Value.cells]
   refine x_nil ?_
   refine loop_back (m' := (cl ++ l).length - (k + 1)) (by simp only [clob, List.foldl, n1, n2, n3, n4]) ?_ ?_
   · try simp only [opv, n1, n2, n3, n4, Value.cells]
     first
     | exact ⟨k + 1, _, _, n + 1, l2, by omega, by omega, by rfl, hmk.1 hM ▸ perm_snoc hp hpm, hl2, hH2, by omega, hS.sel (by repeat (first | exact Sel.nil | (refine Sel.cons (by repeat (first | exact Del.head | apply Del.tail)) ?_)))⟩
     | exact ⟨k + 1, _, _, n, hl, by omega, by omega, by rfl, hmk.2 hM ▸ hpm, hln, hH, by omega, hS.sel (by repeat (first | exact Sel.nil | (refine Sel.cons (by repeat (first | exact Del.head | apply Del.tail)) ?_)))⟩
   · omega
  ·
   try simp only [decide_eq_true_eq, decide_eq_false_iff_not, Bool.not_eq_true', Bool.not_eq_false', Int.not_lt, Int.not_le, ne_eq, Decidable.not_not, bne_iff_ne, beq_iff_eq, not_true_eq_false, not_false_eq_true] at hc2
   have hM : ¬ MayD (q : Int) := by simpa using hc2
   refine x_skip ?_
   refine hK8 _ _ ?_
   refine x_region ?_
   refine s_go (s_add (hc := by first | exact wr_i64 (by omega) (by omega) | rfl)) ?_
   try simp only [opv, n1, n2, n3, n4, Value.cells]
   refine s_go (s_move) ?_
   try simp only [opv, n1, n2, n3, n4, Value.cells]
   refine x_nil ?_
   refine loop_back (m' := (cl ++ l).length - (k + 1)) (by simp only [clob, List.foldl, n1, n2, n3, n4]) ?_ ?_
   · try simp only [opv, n1, n2, n3, n4, Value.cells]
     first
     | exact ⟨k + 1, _, _, n + 1, l2, by omega, by omega, by rfl, hmk.1 hM ▸ perm_snoc hp hpm, hl2, hH2, by omega, hS.sel (by repeat (first | exact Sel.nil | (refine Sel.cons (by repeat (first | exact Del.head | apply Del.tail)) ?_)))⟩
     | exact ⟨k + 1, _, _, n, hl, by omega, by omega, by rfl, hmk.2 hM ▸ hpm, hln, hH, by omega, hS.sel (by repeat (first | exact Sel.nil | (refine Sel.cons (by repeat (first | exact Del.head | apply Del.tail)) ?_)))⟩
   · omega
 ·
  try simp only [decide_eq_true_eq, decide_eq_false_iff_not, Bool.not_eq_true', Bool.not_eq_false', Int.not_lt, Int.not_le, ne_eq, Decidable.not_not, bne_iff_ne, beq_iff_eq, not_true_eq_false, not_false_eq_true] at hc1
  obtain rfl : k = (cl ++ l).length := by omega
  rw [List.take_of_length_le (Nat.le_refl _)] at hpm
  refine x_exit (look_here ?_)
  refine hK4 _ _ ?_
  refine x_seq fun K11 hK11 => ?_
  refine x_region ?_
  refine m_makeMap kv84 hS (fun w11 g11 hS => ?_)
  try simp only [opv, n1, n2, n3, n4, Value.cells, Array.toArray_toList] at hS ⊢
  obtain ⟨gm, hgm⟩ : ∃ z, z = g11 := ⟨_, rfl⟩
  rw [← hgm] at hS ⊢
  refine s_go (s_assign) ?_
  try simp only [opv, n1, n2, n3, n4, Value.cells]
  refine x_nil ?_
  refine hK11 _ _ ?_
  refine x_seq fun K12 hK12 => ?_
  refine x_block ?_
  refine x_loop [10, 11, 12, 37, 38, 39, 40, 41, 42, 43, 44, 45, 46, 47, 48, 49, 50, 51, 52, 53, 54, 55, 56, 57, 58, 59, 60, 61, 62, 63, 64, 65, 66, 67, 68, 69, 70, 71, 72, 73, 74, 75, 76, 77, 78, 79, 80, 81, 82, 83] (fun m f w => ∃ (W : Option Addr) (wc n : Nat) (hl ds : List Int) (E : Option Addr) (ec : Nat), m = n ∧ (hl ++ ds).Perm (mayF (cl ++ l)) ∧ hl.length = n ∧ HeapN hl n ∧ ds.Pairwise (· ≤ ·) ∧ (∀ a ∈ ds, ∀ b ∈ hl, a ≤ b) ∧ St NoB w0 w [.obj gm (mObj kv84 (cntI ds.reverse)), .obj gw (.cells #[.slice W n wc] 155 (0, 0)), .vec W wc 84 1 n (List.map (Value.int .u64) hl), .obj gbo (.cells (SetC (ds.foldl stepD (x, [])).1 (.slice E (ds.foldl stepD (x, [])).2.length ec)) 29 (0, 0)), .vec E ec 84 1 (ds.foldl stepD (x, [])).2.length (List.map (Value.int .u64) (ds.foldl stepD (x, [])).2), .rd D 1 (cl ++ l).length (List.map (Value.int .u64) (cl ++ l)), .obj gbr (.cells (SetC (List.replicate 16 0) (.slice none 0 0)) 29 (0, 0))]) (n) ?init2 (fun m2 f2 wl2 hI => ?_)
  case init2 =>
   try simp only [opv, n1, n2, n3, n4, Value.cells]
   replace hS := hS.nil_vec 84 1
   exact ⟨_, _, n, hl, [], none, 0, rfl, by simpa using hpm, hln, hH, .nil, (fun a h => by cases h), hS.sel (by repeat (first | exact Sel.nil | (refine Sel.cons (by repeat (first | exact Del.head | apply Del.tail)) ?_)))⟩
  obtain ⟨W, wc, n, hl, ds, E, ec, hm, hpm2, hln, hH, hsd, hdl, hS⟩ := hI
  simp only [clob, List.foldl, n3, n4]
  have hmds : ∀ a ∈ ds, MayD a := fun a ha => (mem_mayF.1 (hpm2.mem_iff.1 (List.mem_append_right _ ha))).2
  have hmhl : ∀ a ∈ hl, MayD a := fun a ha => (mem_mayF.1 (hpm2.mem_iff.1 (List.mem_append_left _ ha))).2
  have hdsl : hl.length + ds.length ≤ 4000000000 := by have h1 := hpm2.length_eq; have h2 := mayF_len (cl ++ l); rw [List.length_append] at h1; omega
  have hflen := fold_len ds (x, [])
  have hfok : VOk (ds.foldl stepD (x, [])).1 := fold_vok hx hmds
  have hfl16 := hfok.len
  simp only [List.length_nil] at hflen
  refine x_seq fun K13 hK13 => ?_
  refine x_seq fun K14 hK14 => ?_
  refine x_region ?_
  refine s_go (s_move) ?_
  try simp only [opv, n1, n2, n3, n4, Value.cells]
  refine s_go (s_nilCheck) ?_
  try simp only [opv, n1, n2, n3, n4, Value.cells]
  first | refine s_go (m_load_obj Tryz.underlying155 (hS := hS)) ?_ | refine s_go (m_load_bx Tryz.underlying155 (hS := hS)) ?_ | refine s_go (m_load_rd Tryz.underlying155 (hS := hS)) ?_ | refine s_go (m_load_vec Tryz.underlying155 (hS := hS)) ?_
  try simp only [opv, n1, n2, n3, n4, Value.cells, List.getElem_toArray, List.getElem_cons_zero, List.getElem_cons_succ]
  refine s_call en104 ?_
  try simp only [opv, n1, n2, n3, n4, Value.cells, List.map_toArray, List.map_cons, List.map_nil, List.append_toArray, List.cons_append, List.nil_append, Array.append_empty]
  refine CallR.mono (c_wLen _ _ _ _) ?_
  rintro _ w12 ⟨rfl, hE12⟩
  replace hS := hS.ext hE12
  try simp only [opv, n1, n2, n3, n4, Value.cells]
  refine s_go (s_gtr) ?_
  try simp only [opv, n1, n2, n3, n4, Value.cells]
  refine x_nil ?_
  refine hK14 _ _ ?_
  refine x_cond (ht := fun hc3 => ?_) (hf := fun hc3 => ?_)
  ·
   try simp only [decide_eq_true_eq, decide_eq_false_iff_not, Bool.not_eq_true', Bool.not_eq_false', Int.not_lt, Int.not_le, ne_eq, Decidable.not_not, bne_iff_ne, beq_iff_eq, not_true_eq_false, not_false_eq_true] at hc3
   obtain ⟨k2, rfl⟩ : ∃ k2, n = k2 + 1 := ⟨n - 1, by omega⟩
   have hln0 : hl.length = k2 + 1 := hln
   refine x_skip ?_
   refine hK13 _ _ ?_
   refine x_block ?_
   refine x_seq fun K15 hK15 => ?_
   refine x_region ?_
   refine s_go (s_move) ?_
   try simp only [opv, n1, n2, n3, n4, Value.cells]
   refine s_go (s_iface Tryz.underlying154) ?_
   try simp only [opv, n1, n2, n3, n4, Value.cells]
   refine s_call en105 ?_
   try simp only [opv, n1, n2, n3, n4, Value.cells, List.map_toArray, List.map_cons, List.map_nil, List.append_toArray, List.cons_append, List.nil_append, Array.append_empty]
   refine CallR.mono (c_heapPop _ gw W wc k2 hl hln (by omega) hH (hS.owns (by repeat (first | exact Spl.nil | (apply Spl.cons (by repeat (first | exact Del.head | apply Del.tail))))))) ?_
   rintro _ w13 ⟨l2, rfl, hpo, hl2, hH2, hmin2, hC13⟩
   replace hS := hS.frame (by repeat (first | exact Spl.nil | (apply Spl.cons (by repeat (first | exact Del.head | apply Del.tail))))) hC13 (by intro r hr g hg; simp only [List.mem_cons, List.not_mem_nil, or_false] at hr; rcases hr with rfl | rfl <;> simp [Res.reads] at hg)
   simp only [List.cons_append, List.nil_append] at hS
   have hdm : MayD (hl.getD 0 0) := hmhl _ (getD_mem' (by omega))
   have hdd : ∀ a ∈ ds, a ≤ hl.getD 0 0 := fun a ha => hdl a ha _ (getD_mem' (by omega))
   have hpp := pop_perm hpo hpm2
   have hdu := may_u64 hdm
   obtain ⟨q, hq⟩ : ∃ q : Nat, hl.getD 0 0 = (q : Int) := ⟨(hl.getD 0 0).toNat, by omega⟩
   rw [hq] at hdm hdd hpp hdu hmin2 ⊢
   have hsd2 : (ds ++ [(q : Int)]).Pairwise (· ≤ ·) := List.pairwise_append.2 ⟨hsd, by simp, fun a ha b hb => by rw [List.mem_singleton] at hb; rw [hb]; exact hdd a ha⟩
   have hdl2 : ∀ a ∈ ds ++ [(q : Int)], ∀ b ∈ l2, a ≤ b := fun a ha b hb => by (have h2 := hmin2 b hb); rcases List.mem_append.1 ha with ha | ha; (have := hdd a ha; omega); (rw [List.mem_singleton] at ha; omega)
   have hlo := add_loop (d := (q : Int)) hx hmds hsd
   have hcs := cntI_snoc ds (q : Int)
   obtain ⟨r, hr0⟩ : ∃ r, r = q / 4294967296 := ⟨_, rfl⟩
   obtain ⟨s, hs0⟩ : ∃ s, s = q % 4294967296 := ⟨_, rfl⟩
   have hdn := may_nat.1 hdm
   rw [← hr0, ← hs0] at hdn
   have hqs : (q : Int) % 4294967296 = (s : Int) := by omega
   have hfq : flo (ds.foldl stepD (x, [])).1 (q : Int) = (ds.foldl stepD (x, [])).1.getD r 0 := by rw [flo, dR_nat, hr0]
   have hdr : dR (q : Int) = r := by rw [dR_nat, hr0]
   rw [hqs, hfq, hdr] at hlo
   have hct : ds.count (q : Int) ≤ ds.length := List.count_le_length
   have hfn := hfok.nat r
   try simp only [opv, n1, n2, n3, n4, Value.cells]
   refine s_go (s_assert Tryz.underlying84) ?_
   try simp only [opv, n1, n2, n3, n4, Value.cells]
   refine s_go (s_assign) ?_
   try simp only [opv, n1, n2, n3, n4, Value.cells]
   refine x_nil ?_
   refine hK15 _ _ ?_
   refine x_seq fun K16 hK16 => ?_
   refine x_region ?_
   refine s_go (s_move) ?_
   try simp only [opv, n1, n2, n3, n4, Value.cells]
   refine s_call en106 ?_
   try simp only [opv, n1, n2, n3, n4, Value.cells, List.map_toArray, List.map_cons, List.map_nil, List.append_toArray, List.cons_append, List.nil_append, Array.append_empty]
   refine CallR.mono (c_keyUndot q (by omega) _) ?_
   rintro _ w14 ⟨rfl, hE14⟩
   replace hS := hS.ext hE14
   try simp only [opv, n1, n2, n3, n4, Value.cells]
   rw [show q / 4294967296 % 256 = r by omega, ← hs0]
   refine s_go (s_move) ?_
   try simp only [opv, n1, n2, n3, n4, Value.cells]
   refine s_go (s_extract (hv := rfl)) ?_
   try simp only [List.getElem_toArray, List.getElem_cons_zero, List.getElem_cons_succ]
   try simp only [opv, n1, n2, n3, n4, Value.cells]
   refine s_go (s_extract (hv := rfl)) ?_
   try simp only [List.getElem_toArray, List.getElem_cons_zero, List.getElem_cons_succ]
   try simp only [opv, n1, n2, n3, n4, Value.cells]
   refine s_go (s_assign) ?_
   try simp only [opv, n1, n2, n3, n4, Value.cells]
   refine s_go (s_assign) ?_
   try simp only [opv, n1, n2, n3, n4, Value.cells]
   refine x_nil ?_
   refine hK16 _ _ ?_
   refine x_seq fun K17 hK17 => ?_
   refine x_seq fun K18 hK18 => ?_
   refine x_region ?_
   refine s_go (s_move) ?_
   try simp only [opv, n1, n2, n3, n4, Value.cells]
   refine s_go (s_move) ?_
   try simp only [opv, n1, n2, n3, n4, Value.cells]
   refine s_go (m_lookup ky84 Tryz.underlying158 ti3 (hy := rfl) (ha := by first | trivial | assumption | omega) (hD := by first | assumption | exact mok_all | exact mok_nil | exact mput_ok (by first | assumption | omega) (by first | assumption | exact mok_nil)) (hS := hS)) ?_
   try simp only [opv, n1, n2, n3, n4, Value.cells]
   try simp only [kv84]
   rw [cntI_getD, List.count_reverse]
   refine s_go (s_add (hc := by first | exact wr_i64 (by omega) (by omega) | rfl)) ?_
   try simp only [opv, n1, n2, n3, n4, Value.cells]
   refine m_mapUpdate ky84 Tryz.underlying158 (hy := rfl) (ha := by first | trivial | assumption | omega) (hD := by first | assumption | exact mok_all | exact mok_nil | exact mput_ok (by first | assumption | omega) (by first | assumption | exact mok_nil)) (hS := hS) (h := fun w15 hS => ?_)
   try simp only [opv, n1, n2, n3, n4, Value.cells, Array.toArray_toList] at hS ⊢
   rw [← hcs] at hS
   refine x_nil ?_
   refine hK18 _ _ ?_
   refine x_seq fun K19 hK19 => ?_
   refine x_region ?_
   refine s_go (s_move) ?_
   try simp only [opv, n1, n2, n3, n4, Value.cells]
   refine s_go (s_move) ?_
   try simp only [opv, n1, n2, n3, n4, Value.cells]
   refine s_go (m_lookup ky84 Tryz.underlying158 ti3 (hy := rfl) (ha := by first | trivial | assumption | omega) (hD := by first | assumption | exact mok_all | exact mok_nil | exact mput_ok (by first | assumption | omega) (by first | assumption | exact mok_nil)) (hS := hS)) ?_
   try simp only [opv, n1, n2, n3, n4, Value.cells]
   try simp only [kv84]
   rw [hcs, mget_put, if_pos rfl]
   simp only [Option.getD_some]
   refine s_go (s_gtr) ?_
   try simp only [opv, n1, n2, n3, n4, Value.cells]
   refine s_go (s_move) ?_
   try simp only [opv, n1, n2, n3, n4, Value.cells]
   refine s_part 59 rfl (fun hp1 => ?_) (fun hp1 => ?_)
   ·
    try simp only [n3, n4]
    try simp only [decide_eq_true_eq, decide_eq_false_iff_not, Bool.not_eq_true', Bool.not_eq_false', Int.not_lt, Int.not_le, ne_eq, Decidable.not_not] at hp1
    have hmem : (q : Int) ∈ ds := List.count_pos_iff.1 (by omega)
    have hst := hlo.1 (.inl hmem) hdm
    refine g_off (yi (t := 59) rfl rfl) ?_
    try simp only [opv, n1, n2, n3, n4, Value.cells]
    refine g_off (yi (t := 59) rfl rfl) ?_
    try simp only [opv, n1, n2, n3, n4, Value.cells]
    refine g_off (yi (t := 59) rfl rfl) ?_
    try simp only [opv, n1, n2, n3, n4, Value.cells]
    refine g_off (yi (t := 59) rfl rfl) ?_
    try simp only [opv, n1, n2, n3, n4, Value.cells]
    refine g_off (yi (t := 59) rfl rfl) ?_
    try simp only [opv, n1, n2, n3, n4, Value.cells]
    refine g_off (yi (t := 59) rfl rfl) ?_
    try simp only [opv, n1, n2, n3, n4, Value.cells]
    first | refine s_go (s_pick_t) ?_ | refine s_go (s_pick_f) ?_
    try simp only [opv, n1, n2, n3, n4, Value.cells]
    refine x_nil ?_
    refine hK19 _ _ ?_
    refine x_cond_t (h := ?_)
    try have hst := hlo.1 (.inr (by omega)) hdm
    refine x_exit (look_here ?_)
    refine loop_back (m' := k2) (by simp only [clob, List.foldl, n1, n2, n3, n4]) ?_ ?_
    · try simp only [opv, n1, n2, n3, n4, Value.cells]
      first
      | (rw [← hst] at hS; exact ⟨_, _, k2, l2, ds ++ [(q : Int)], _, _, by omega, hpp, hl2, hH2, hsd2, hdl2, hS.sel (by repeat (first | exact Sel.nil | (refine Sel.cons (by repeat (first | exact Del.head | apply Del.tail)) ?_)))⟩)
      | (rw [← hst1, ← hst2, ← hst3] at hS; exact ⟨_, _, k2, l2, ds ++ [(q : Int)], _, _, by omega, hpp, hl2, hH2, hsd2, hdl2, hS.sel (by repeat (first | exact Sel.nil | (refine Sel.cons (by repeat (first | exact Del.head | apply Del.tail)) ?_)))⟩)
    · omega
   ·
    try simp only [n3, n4]
    try simp only [decide_eq_true_eq, decide_eq_false_iff_not, Bool.not_eq_true', Bool.not_eq_false', Int.not_lt, Int.not_le, ne_eq, Decidable.not_not] at hp1
    have hnm : ¬ (q : Int) ∈ ds := fun h => by (have := List.count_pos_iff.2 h); omega
    refine g_on (yi (t := 59) rfl rfl) ?_
    refine s_go (s_move) ?_
    try simp only [opv, n1, n2, n3, n4, Value.cells]
    refine g_on (yi (t := 59) rfl rfl) ?_
    refine s_go (s_move) ?_
    try simp only [opv, n1, n2, n3, n4, Value.cells]
    refine g_on (yi (t := 59) rfl rfl) ?_
    first | refine s_go (m_fieldAddr Tryz.underlying29 (hi := ti26)) ?_ | refine s_go (m_fieldAddr_rd Tryz.underlying29 (hi := ti26) (hS := hS)) ?_ | refine s_go (m_fieldAddr_vec Tryz.underlying29 (hi := ti26) (hS := hS)) ?_
    try simp only [opv, n1, n2, n3, n4, Value.cells, Nat.zero_add, Nat.add_zero, List.getElem_toArray, List.getElem_cons_zero, List.getElem_cons_succ]
    refine g_on (yi (t := 59) rfl rfl) ?_
    refine s_go (m_indexAddr_arr Tryz.underlying26 ti24) ?_
    try simp only [opv, n1, n2, n3, n4, Value.cells, Nat.mul_one, Nat.zero_add, Int.toNat_natCast, Int.reduceToNat]
    refine g_on (yi (t := 59) rfl rfl) ?_
    refine s_go (m_load_obj Tryz.underlying24 (hS := hS) (hv := set_at hfl16 _ (by omega))) ?_
    try simp only [opv, n1, n2, n3, n4, Value.cells, List.getElem_toArray, List.getElem_cons_zero, List.getElem_cons_succ]
    refine g_on (yi (t := 59) rfl rfl) ?_
    refine s_go (s_leq) ?_
    try simp only [opv, n1, n2, n3, n4, Value.cells]
    first | refine s_go (s_pick_t) ?_ | refine s_go (s_pick_f) ?_
    try simp only [opv, n1, n2, n3, n4, Value.cells]
    refine x_nil ?_
    refine hK19 _ _ ?_
    refine x_cond (ht := fun hc5 => ?_) (hf := fun hc5 => ?_)
    ·
     try simp only [decide_eq_true_eq, decide_eq_false_iff_not, Bool.not_eq_true', Bool.not_eq_false', Int.not_lt, Int.not_le, ne_eq, Decidable.not_not, bne_iff_ne, beq_iff_eq, not_true_eq_false, not_false_eq_true] at hc5
     try have hst := hlo.1 (.inr (by omega)) hdm
     refine x_exit (look_here ?_)
     refine loop_back (m' := k2) (by simp only [clob, List.foldl, n1, n2, n3, n4]) ?_ ?_
     · try simp only [opv, n1, n2, n3, n4, Value.cells]
       first
       | (rw [← hst] at hS; exact ⟨_, _, k2, l2, ds ++ [(q : Int)], _, _, by omega, hpp, hl2, hH2, hsd2, hdl2, hS.sel (by repeat (first | exact Sel.nil | (refine Sel.cons (by repeat (first | exact Del.head | apply Del.tail)) ?_)))⟩)
       | (rw [← hst1, ← hst2, ← hst3] at hS; exact ⟨_, _, k2, l2, ds ++ [(q : Int)], _, _, by omega, hpp, hl2, hH2, hsd2, hdl2, hS.sel (by repeat (first | exact Sel.nil | (refine Sel.cons (by repeat (first | exact Del.head | apply Del.tail)) ?_)))⟩)
     · omega
    ·
     try simp only [decide_eq_true_eq, decide_eq_false_iff_not, Bool.not_eq_true', Bool.not_eq_false', Int.not_lt, Int.not_le, ne_eq, Decidable.not_not, bne_iff_ne, beq_iff_eq, not_true_eq_false, not_false_eq_true] at hc5
     have hgt : ¬ (s : Int) ≤ (ds.foldl stepD (x, [])).1.getD r 0 := by simpa using hc5
     refine x_skip ?_
     refine hK17 _ _ ?_
     refine x_seq fun K20 hK20 => ?_
     refine x_seq fun K21 hK21 => ?_
     refine x_region ?_
     refine s_go (s_move) ?_
     try simp only [opv, n1, n2, n3, n4, Value.cells]
     refine s_go (s_sub (hc := by first | exact wr_u32 (by omega) (by omega) | exact cv_u32 rfl | rfl)) ?_
     try simp only [opv, n1, n2, n3, n4, Value.cells]
     refine s_go (s_move) ?_
     try simp only [opv, n1, n2, n3, n4, Value.cells]
     first | refine s_go (m_fieldAddr Tryz.underlying29 (hi := ti26)) ?_ | refine s_go (m_fieldAddr_rd Tryz.underlying29 (hi := ti26) (hS := hS)) ?_ | refine s_go (m_fieldAddr_vec Tryz.underlying29 (hi := ti26) (hS := hS)) ?_
     try simp only [opv, n1, n2, n3, n4, Value.cells, Nat.zero_add, Nat.add_zero, List.getElem_toArray, List.getElem_cons_zero, List.getElem_cons_succ]
     refine s_go (m_indexAddr_arr Tryz.underlying26 ti24) ?_
     try simp only [opv, n1, n2, n3, n4, Value.cells, Nat.mul_one, Nat.zero_add, Int.toNat_natCast, Int.reduceToNat]
     refine s_go (m_load_obj Tryz.underlying24 (hS := hS) (hv := set_at hfl16 _ (by omega))) ?_
     try simp only [opv, n1, n2, n3, n4, Value.cells, List.getElem_toArray, List.getElem_cons_zero, List.getElem_cons_succ]
     refine s_go (s_eql) ?_
     try simp only [opv, n1, n2, n3, n4, Value.cells]
     refine x_nil ?_
     refine hK21 _ _ ?_
     refine x_cond (ht := fun hc6 => ?_) (hf := fun hc6 => ?_)
     ·
      try simp only [decide_eq_true_eq, decide_eq_false_iff_not, Bool.not_eq_true', Bool.not_eq_false', Int.not_lt, Int.not_le, ne_eq, Decidable.not_not, bne_iff_ne, beq_iff_eq, not_true_eq_false, not_false_eq_true] at hc6
      have hst0 := hlo.2.1 hnm hgt (by omega)
      have hst1 := congrArg Prod.fst hst0
      have hst2 := congrArg (fun z : List Int × List Int => z.2.length) hst0
      have hst3 := congrArg Prod.snd hst0
      simp only at hst1 hst2 hst3
      refine x_seq fun K22 hK22 => ?_
      refine x_region ?_
      refine s_go (s_move) ?_
      try simp only [opv, n1, n2, n3, n4, Value.cells]
      refine s_go (s_move) ?_
      try simp only [opv, n1, n2, n3, n4, Value.cells]
      first | refine s_go (m_fieldAddr Tryz.underlying29 (hi := ti26)) ?_ | refine s_go (m_fieldAddr_rd Tryz.underlying29 (hi := ti26) (hS := hS)) ?_ | refine s_go (m_fieldAddr_vec Tryz.underlying29 (hi := ti26) (hS := hS)) ?_
      try simp only [opv, n1, n2, n3, n4, Value.cells, Nat.zero_add, Nat.add_zero, List.getElem_toArray, List.getElem_cons_zero, List.getElem_cons_succ]
      refine s_go (m_indexAddr_arr Tryz.underlying26 ti24) ?_
      try simp only [opv, n1, n2, n3, n4, Value.cells, Nat.mul_one, Nat.zero_add, Int.toNat_natCast, Int.reduceToNat]
      refine m_store_obj ti24 (hS := hS) (hfit := by rw [setC_size (by assumption)]; omega) (hc := set_put hfl16 _ (by omega) _) (h := fun w16 hS => ?_)
      try simp only [opv, n1, n2, n3, n4, Value.cells, Array.toArray_toList] at hS ⊢
      refine x_nil ?_
      refine hK22 _ _ ?_
      refine x_exit (look_here ?_)
      refine loop_back (m' := k2) (by simp only [clob, List.foldl, n1, n2, n3, n4]) ?_ ?_
      · try simp only [opv, n1, n2, n3, n4, Value.cells]
        first
        | (rw [← hst] at hS; exact ⟨_, _, k2, l2, ds ++ [(q : Int)], _, _, by omega, hpp, hl2, hH2, hsd2, hdl2, hS.sel (by repeat (first | exact Sel.nil | (refine Sel.cons (by repeat (first | exact Del.head | apply Del.tail)) ?_)))⟩)
        | (rw [← hst1, ← hst2, ← hst3] at hS; exact ⟨_, _, k2, l2, ds ++ [(q : Int)], _, _, by omega, hpp, hl2, hH2, hsd2, hdl2, hS.sel (by repeat (first | exact Sel.nil | (refine Sel.cons (by repeat (first | exact Del.head | apply Del.tail)) ?_)))⟩)
      · omega
     ·
      try simp only [decide_eq_true_eq, decide_eq_false_iff_not, Bool.not_eq_true', Bool.not_eq_false', Int.not_lt, Int.not_le, ne_eq, Decidable.not_not, bne_iff_ne, beq_iff_eq, not_true_eq_false, not_false_eq_true] at hc6
      have hst0 := hlo.2.2 hnm hgt (by omega)
      have hst1 := congrArg Prod.fst hst0
      have hst2 := congrArg (fun z : List Int × List Int => z.2.length) hst0
      have hst3 := congrArg Prod.snd hst0
      simp only [List.length_append, List.length_cons, List.length_nil, Nat.zero_add] at hst1 hst2 hst3
      refine x_skip ?_
      refine hK20 _ _ ?_
      refine x_region ?_
      first | refine s_go (m_fieldAddr Tryz.underlying29 (hi := ti27)) ?_ | refine s_go (m_fieldAddr_rd Tryz.underlying29 (hi := ti27) (hS := hS)) ?_ | refine s_go (m_fieldAddr_vec Tryz.underlying29 (hi := ti27) (hS := hS)) ?_
      try simp only [opv, n1, n2, n3, n4, Value.cells, Nat.zero_add, Nat.add_zero, List.getElem_toArray, List.getElem_cons_zero, List.getElem_cons_succ]
      refine s_go (m_load_obj Tryz.underlying27 (hS := hS) (hv := set_sl (by assumption) _)) ?_
      try simp only [opv, n1, n2, n3, n4, Value.cells, List.getElem_toArray, List.getElem_cons_zero, List.getElem_cons_succ]
      refine s_go (s_move) ?_
      try simp only [opv, n1, n2, n3, n4, Value.cells]
      refine m_buildRow (cells := #[_]) Tryz.underlying27 ti84 (hc := by simp only [List.map_toArray, List.map_cons, List.map_nil, opv, n1, n2, n3, n4, Value.cells, List.toList_toArray]; (repeat (refine fill_cons rfl rfl (Nat.le_of_ble_eq_true rfl) ?_)); rfl) (hS := hS) (h := fun w17 g17 hS => ?_)
      try simp only [opv, n1, n2, n3, n4, Value.cells, Array.toArray_toList] at hS ⊢
      replace hS := hS.obj_rd (sz := 1) (n := 1) rfl .head
      refine m_append Tryz.underlying27 ti84 (hS := hS) (news := [(q : Int)].map (Value.int .u64)) (h := fun w18 A18 C18 hS => ?_)
      try simp only [← List.map_append, ← List.map_drop, ← List.map_take, Nat.mul_one, Nat.zero_mul, Nat.sub_zero, List.drop_zero, List.nil_append, Nat.zero_add] at hS ⊢
      try simp only [opv, n1, n2, n3, n4, Value.cells, Array.toArray_toList] at hS ⊢
      first | refine s_go (m_fieldAddr Tryz.underlying29 (hi := ti27)) ?_ | refine s_go (m_fieldAddr_rd Tryz.underlying29 (hi := ti27) (hS := hS)) ?_ | refine s_go (m_fieldAddr_vec Tryz.underlying29 (hi := ti27) (hS := hS)) ?_
      try simp only [opv, n1, n2, n3, n4, Value.cells, Nat.zero_add, Nat.add_zero, List.getElem_toArray, List.getElem_cons_zero, List.getElem_cons_succ]
      refine m_store_obj ti27 (hS := hS) (hfit := by rw [setC_size (by assumption)]; omega) (hc := set_put16 (by assumption) _ _) (h := fun w19 hS => ?_)
      try simp only [opv, n1, n2, n3, n4, Value.cells, Array.toArray_toList] at hS ⊢
      refine x_nil ?_
      refine loop_back (m' := k2) (by simp only [clob, List.foldl, n1, n2, n3, n4]) ?_ ?_
      · try simp only [opv, n1, n2, n3, n4, Value.cells]
        first
        | (rw [← hst] at hS; exact ⟨_, _, k2, l2, ds ++ [(q : Int)], _, _, by omega, hpp, hl2, hH2, hsd2, hdl2, hS.sel (by repeat (first | exact Sel.nil | (refine Sel.cons (by repeat (first | exact Del.head | apply Del.tail)) ?_)))⟩)
        | (rw [← hst1, ← hst2, ← hst3] at hS; exact ⟨_, _, k2, l2, ds ++ [(q : Int)], _, _, by omega, hpp, hl2, hH2, hsd2, hdl2, hS.sel (by repeat (first | exact Sel.nil | (refine Sel.cons (by repeat (first | exact Del.head | apply Del.tail)) ?_)))⟩)
      · omega
  ·
   try simp only [decide_eq_true_eq, decide_eq_false_iff_not, Bool.not_eq_true', Bool.not_eq_false', Int.not_lt, Int.not_le, ne_eq, Decidable.not_not, bne_iff_ne, beq_iff_eq, not_true_eq_false, not_false_eq_true] at hc3
   obtain rfl : n = 0 := by omega
   obtain rfl : hl = [] := List.eq_nil_of_length_eq_zero hln
   rw [List.nil_append] at hpm2
   have hfin := fold_add (l := cl ++ l) hx hpm2 hsd
   rw [hfin] at hS hfl16
   refine x_exit (look_here ?_)
   refine hK12 _ _ ?_
   refine x_seq fun K23 hK23 => ?_
   refine x_region ?_
   refine s_go (m_load_row Tryz.underlying29 (hi := ti29) (hS := hS) (hfit := by rw [setC_size (by assumption)])) ?_
   try simp only [opv, n1, n2, n3, n4, Value.cells, List.getElem_toArray, List.getElem_cons_zero, List.getElem_cons_succ]
   refine m_store_obj ti29 (hS := hS) (hv := setC_size (by assumption) _) (h1 := set_one _ _ _ _) (hfit := by rw [setC_size (by assumption)]; omega) (hc := set_whole (by assumption) (by assumption) _ _) (h := fun w20 hS => ?_)
   try simp only [opv, n1, n2, n3, n4, Value.cells, Array.toArray_toList] at hS ⊢
   refine x_nil ?_
   refine hK23 _ _ ?_
   refine x_ret ?_
   refine r_cell_agg rfl Tryz.underlying29 ti29 (hS := hS) (hfit := by rw [setC_size (by assumption)]) (hR := ?_)
   exact ⟨_, _, rfl, hS.sel (by repeat (first | exact Sel.nil | (refine Sel.cons (by repeat (first | exact Del.head | apply Del.tail)) ?_)))⟩
end Go.Proofs.YtffmanidnlbjjaaGreat
set_option linter.unusedSimpArgs false
set_option linter.unusedVariables false
set_option maxHeartbeats 2000000
set_option maxRecDepth 100000
namespace Go.Proofs.YtffmanidnlbjjaaGreat
open Go.RowKit

/-- what a call hands back to be read: new, or what it was handed -/
structure UBack (w0 w' : World) (A : Option Addr) (l : List Int) (B : Option Addr) (s : List Int) : Prop where
  ext : Ext w0 w'
  rd : Rd w' B 1 s.length (List.map (Value.int .u64) s)
  wh : ∀ b, (Res.rd B 1 s.length (List.map (Value.int .u64) s)).reads = some b → w0.heap.size ≤ b ∨ (Res.rd A 1 l.length (List.map (Value.int .u64) l)).reads = some b
theorem St.uback {S : Nat → Prop} {w0 w w' : World} {L : List Res} {A B : Option Addr} {l s : List Int} (h : St S w0 w L) (k : UBack w w' A l B s) (hm : Has L (.rd A 1 l.length (List.map (Value.int .u64) l)) := by repeat (first | exact Has.head | apply Has.tail)) : St S w0 w' (.rd B 1 s.length (List.map (Value.int .u64) s) :: L) := by
  refine (h.ext k.ext).add_rd k.rd fun r hr g hg e => ?_
  rcases k.wh g e with h1 | h1
  · have := own_lt (h.holds r hr) hg; omega
  · exact pair_apart hg rfl h1 h.apart hr hm.mem
theorem uback_self {w0 w' : World} {A : Option Addr} {l s : List Int} (hE : Ext w0 w') (hR : Rd w' A 1 l.length (List.map (Value.int .u64) l)) (e : s = l) : UBack w0 w' A l A s := by subst e; exact ⟨hE, hR, fun b hb => .inr hb⟩
theorem uback_vec {w0 w' : World} {A B : Option Addr} {c : Nat} {e : TypeId} {l s : List Int} {L : List Res} (h : St NoB w0 w' L) (hm : Has L (.vec B c e 1 s.length (List.map (Value.int .u64) s))) : UBack w0 w' A l B s :=
  ⟨h.ext_of, h.vecRd hm, fun b hb => .inl (by
    have : (Res.vec B c e 1 s.length (List.map (Value.int .u64) s)).own = some b := by
      simp only [Res.reads] at hb
      split at hb
      · cases hb
      · exact hb
    exact (h.own _ hm.mem b this).resolve_left (fun f => f))⟩
def insB (d : Int) : List Int → List Int
  | [] => [d]
  | x :: l => if d < x then d :: x :: l else x :: insB d l
def pI (d : Int) (p : List Int × Bool) (x : Int) : List Int × Bool := if p.2 = false ∧ d < x then ((p.1 ++ [d]) ++ [x], true) else (p.1 ++ [x], p.2)
theorem pI_true (d : Int) : ∀ (l o : List Int), l.foldl (pI d) (o, true) = (o ++ l, true)
  | [], o => by simp
  | x :: l, o => by rw [List.foldl_cons, pI, if_neg (by simp), pI_true d l]; simp
theorem pI_ins (d : Int) : ∀ (l o : List Int), (if (l.foldl (pI d) (o, false)).2 = true then (l.foldl (pI d) (o, false)).1 else (l.foldl (pI d) (o, false)).1 ++ [d]) = o ++ insB d l
  | [], o => by simp [insB]
  | x :: l, o => by
    rw [List.foldl_cons, insB]
    by_cases h : d < x
    · have e : pI d (o, false) x = ((o ++ [d]) ++ [x], true) := if_pos ⟨rfl, h⟩
      rw [e, pI_true, if_pos h]; simp
    · have e : pI d (o, false) x = (o ++ [x], false) := if_neg (fun q => h q.2)
      rw [e, if_neg h, pI_ins d l (o ++ [x])]; simp
theorem ins_filter {d : Int} : ∀ {cl : List Int}, cl.Pairwise (· < ·) → d ∉ cl → cl.filter (fun x => decide (x < d)) ++ d :: cl.filter (fun x => !decide (x < d)) = insB d cl
  | [], _, _ => rfl
  | x :: l, h, hd => by
    obtain ⟨h1, h2⟩ := List.pairwise_cons.1 h
    rw [List.mem_cons, not_or] at hd
    rw [insB]
    by_cases e : d < x
    · have e1 : (x :: l).filter (fun x => decide (x < d)) = [] := List.filter_eq_nil_iff.2 fun y hy => by
        rcases List.mem_cons.1 hy with rfl | hy
        · simp; omega
        · have := h1 y hy; simp; omega
      have e2 : (x :: l).filter (fun x => !decide (x < d)) = x :: l := List.filter_eq_self.2 fun y hy => by
        rcases List.mem_cons.1 hy with rfl | hy
        · simp; omega
        · have := h1 y hy; simp; omega
      rw [if_pos e, e1, e2]; rfl
    · have e3 : x < d := by omega
      rw [if_neg e, List.filter_cons_of_pos (by simpa using e3), List.filter_cons_of_neg (by simpa using e3), ← ins_filter h2 hd.2]; rfl
theorem put_yes {v cl : List Int} {d : Int} (h : PreS v cl) (hm : MayD d) (hn : ¬ HasD v cl d) : putC v cl d = insB d cl := by
  rw [putC, if_pos ⟨hm, hn⟩, ins_filter h.srt (fun q => hn ⟨hm, .inr q⟩)]
theorem put_no {v cl : List Int} {d : Int} (h : ¬ (MayD d ∧ ¬ HasD v cl d)) : putC v cl d = cl := if_neg h
theorem insB_len (d : Int) : ∀ l : List Int, (insB d l).length = l.length + 1
  | [] => rfl
  | x :: l => by rw [insB]; split <;> simp [insB_len d l]
theorem putC_len (v cl : List Int) (d : Int) (h : PreS v cl) : (putC v cl d).length ≤ cl.length + 1 := by
  by_cases q : MayD d ∧ ¬ HasD v cl d
  · rw [put_yes h q.1 q.2, insB_len]; omega
  · rw [put_no q]; omega
theorem puts_len {v : List Int} : ∀ {l cl : List Int}, PreS v cl → (l.foldl (putC v) cl).length ≤ cl.length + l.length
  | [], cl, h => Nat.le_refl _
  | d :: l, cl, h => by
    have h1 := puts_len (l := l) (putC_pre (d := d) h).1
    have h2 := putC_len v cl d h
    rw [List.foldl_cons, List.length_cons]; omega
theorem pre_nil {v : List Int} (hv : VOk v) : PreS v [] := ⟨hv, .nil, fun d h => by cases h⟩
theorem settle_end {v cl : List Int} (hv : VOk v) {v2 cl2 : List Int} (h : PreS v2 cl2) (hh : ∀ x, HasD v2 cl2 x ↔ HasD v cl x) (hl : (cl2.foldl setD (v2, [])).2.length = cl2.length) : cl2.foldl setD (v2, []) = addS v cl := by
  obtain ⟨h1, h2⟩ := set_end h hl
  rw [h1]
  exact (show Nrm (HasD v2 cl2) (v2, cl2) from ⟨h2, fun d => Iff.rfl⟩).uniq (add_nrm hv cl) hh
theorem refadd_end {v l : List Int} (hv : VOk v) : addS v (l.foldl (putC v) []) = addS v l := by
  obtain ⟨h1, h2⟩ := puts_pre (l := l) (pre_nil hv)
  refine (add_nrm hv _).uniq (add_nrm hv l) fun x => (h2 x).trans ?_
  unfold HasD
  constructor
  · rintro (⟨a, b | b⟩ | ⟨a, b⟩)
    · exact ⟨a, .inl b⟩
    · cases b
    · exact ⟨a, .inr b⟩
  · rintro ⟨a, b | b⟩
    · exact .inl ⟨a, .inl b⟩
    · exact .inr ⟨a, b⟩
theorem setD_vok : ∀ {l : List Int} {p : List Int × List Int}, VOk p.1 → (∀ d ∈ l, MayD d) → VOk (l.foldl setD p).1
  | [], _, h, _ => h
  | d :: l, p, h, hm => by
    refine setD_vok (l := l) ?_ fun x hx => hm x (by simp [hx])
    unfold setD
    split
    · exact h
    · split
      · exact h.set (by have := (hm d (by simp)).2.2; omega) (by omega)
      · exact h
theorem pre_u64 {v cl : List Int} (h : PreS v cl) : U64s cl := fun x hx => may_u64 (h.may x hx)
theorem foldl_take {α : Type} {f : α → Int → α} {l : List Int} {k : Nat} {a : α} (hk : k < l.length) : (l.take (k + 1)).foldl f a = f ((l.take k).foldl f a) (l.getD k 0) := by
  rw [List.take_succ_eq_append_getElem hk, List.foldl_append, ← getD_ltz hk]; rfl

theorem c_ref13Has (w0 : World) (x : List Int) (hx : VOk x) (A : Option Addr) (c : Nat) (cl : List Int) (hr : Rd w0 A 1 cl.length (List.map (Value.int .u64) cl)) (hu : U64s cl) (hn : cl.length ≤ 4000000000) (q : Nat) (hq : q < 18446744073709551616)  :
    CallR Tryz.prog 109 #[.agg (SetC x (.slice A cl.length c)), .int .u64 (q : Int)] w0 fun v w' => v = .bool (decide (HasD x cl (q : Int))) ∧ Ext w0 w' := by
 have hS := St.rd1 (S := NoB) hr
 have hxl := hx.len
 obtain ⟨r, hr0⟩ : ∃ r, r = q / 4294967296 := ⟨_, rfl⟩
 obtain ⟨s, hs0⟩ : ∃ s, s = q % 4294967296 := ⟨_, rfl⟩
 have hqs : (q : Int) % 4294967296 = (s : Int) := by omega
 have hfq : flo x (q : Int) = x.getD r 0 := by rw [flo, dR_nat, hr0]
 refine c_enter (l := [.agg (SetC x (.slice A cl.length c)), .int .u64 (q : Int), undef, undef, undef, undef, undef, undef, undef, undef, undef, undef, undef, undef, undef, undef, undef, undef, undef, undef, undef, undef, undef, undef, undef, undef, undef, undef, undef, undef, undef, undef]) Tryz.func109 rfl (by simp only [Tryz.ntmps109, List.size_toArray, List.length_cons, List.length_nil, Nat.reduceAdd, Nat.reduceSub, Array.replicate_succ, Array.replicate_zero, List.push_toArray, List.append_toArray, List.nil_append, List.cons_append]) ?_
 refine x_seq fun K1 hK1 => ?_
 refine x_region ?_
 refine m_box hS (fun w1 g1 hS => ?_)
 try simp only [opv, n1, n2, n3, n4, Value.cells, Array.toArray_toList] at hS ⊢
 obtain ⟨gba, hgba⟩ : ∃ z, z = g1 := ⟨_, rfl⟩
 rw [← hgba] at hS ⊢
 refine s_go (s_assign) ?_
 try simp only [opv, n1, n2, n3, n4, Value.cells]
 refine x_nil ?_
 refine hK1 _ _ ?_
 refine x_seq fun K2 hK2 => ?_
 refine x_seq fun K3 hK3 => ?_
 refine x_region ?_
 refine s_go (s_move) ?_
 try simp only [opv, n1, n2, n3, n4, Value.cells]
 refine s_call en108 ?_
 try simp only [opv, n1, n2, n3, n4, Value.cells, List.map_toArray, List.map_cons, List.map_nil, List.append_toArray, List.cons_append, List.nil_append, Array.append_empty]
 refine CallR.mono (c_ref13May q hq _) ?_
 rintro _ w2 ⟨rfl, hE2⟩
 replace hS := hS.ext hE2
 try simp only [opv, n1, n2, n3, n4, Value.cells]
 refine s_go (s_not) ?_
 try simp only [opv, n1, n2, n3, n4, Value.cells]
 refine x_nil ?_
 refine hK3 _ _ ?_
 refine x_cond (ht := fun hc1 => ?_) (hf := fun hc1 => ?_)
 ·
  try simp only [decide_eq_true_eq, decide_eq_false_iff_not, Bool.not_eq_true', Bool.not_eq_false', Int.not_lt, Int.not_le, ne_eq, Decidable.not_not, bne_iff_ne, beq_iff_eq, not_true_eq_false, not_false_eq_true] at hc1
  have hE : decide (HasD x cl (q : Int)) = false := decide_eq_false (fun h => by have h1 := h.1; first | exact hc1 h1 | (simp at hc1; exact hc1 h1) | (rw [decide_eq_true h1] at hc1; cases hc1))
  refine x_seq fun K4 hK4 => ?_
  refine x_region ?_
  refine s_go (s_assign) ?_
  try simp only [opv, n1, n2, n3, n4, Value.cells]
  refine x_nil ?_
  refine hK4 _ _ ?_
  refine x_ret ?_
  refine r_tmp rfl ?_
  exact ⟨by rw [hE]; rfl, hS.ext_of⟩
 ·
  try simp only [decide_eq_true_eq, decide_eq_false_iff_not, Bool.not_eq_true', Bool.not_eq_false', Int.not_lt, Int.not_le, ne_eq, Decidable.not_not, bne_iff_ne, beq_iff_eq, not_true_eq_false, not_false_eq_true] at hc1
  have hM : MayD (q : Int) := by simpa using hc1
  have hdn := may_nat.1 hM
  rw [← hr0, ← hs0] at hdn
  have hxr := hx.nat r
  refine x_skip ?_
  refine hK2 _ _ ?_
  refine x_seq fun K5 hK5 => ?_
  refine x_seq fun K6 hK6 => ?_
  refine x_region ?_
  refine s_go (s_move) ?_
  try simp only [opv, n1, n2, n3, n4, Value.cells]
  refine s_go (s_quo (hc := quo_u64 (p := 4294967296) (by omega))) ?_
  try simp only [opv, n1, n2, n3, n4, Value.cells]
  rw [← hr0]
  first | refine s_go (m_fieldAddr Tryz.underlying33 (hi := ti25)) ?_ | refine s_go (m_fieldAddr_rd Tryz.underlying33 (hi := ti25) (hS := hS)) ?_ | refine s_go (m_fieldAddr_vec Tryz.underlying33 (hi := ti25) (hS := hS)) ?_
  try simp only [opv, n1, n2, n3, n4, Value.cells, Nat.zero_add, Nat.add_zero, List.getElem_toArray, List.getElem_cons_zero, List.getElem_cons_succ]
  refine s_go (m_indexAddr_arr Tryz.underlying25 ti24) ?_
  try simp only [opv, n1, n2, n3, n4, Value.cells, Nat.mul_one, Nat.zero_add, Int.toNat_natCast, Int.reduceToNat]
  refine s_go (m_load_obj Tryz.underlying24 (hS := hS) (hv := set_at hxl _ (by omega))) ?_
  try simp only [opv, n1, n2, n3, n4, Value.cells, List.getElem_toArray, List.getElem_cons_zero, List.getElem_cons_succ]
  refine s_go (s_conv Tryz.underlying24 Tryz.underlying84 (hc := wr_u64 (by omega) (by omega))) ?_
  try simp only [opv, n1, n2, n3, n4, Value.cells]
  refine s_go (s_move) ?_
  try simp only [opv, n1, n2, n3, n4, Value.cells]
  refine s_go (s_rem (hc := rem_nat (p := 4294967296))) ?_
  try simp only [opv, n1, n2, n3, n4, Value.cells]
  rw [← hs0]
  refine s_go (s_geq) ?_
  try simp only [opv, n1, n2, n3, n4, Value.cells]
  refine x_nil ?_
  refine hK6 _ _ ?_
  refine x_cond (ht := fun hc2 => ?_) (hf := fun hc2 => ?_)
  ·
   try simp only [decide_eq_true_eq, decide_eq_false_iff_not, Bool.not_eq_true', Bool.not_eq_false', Int.not_lt, Int.not_le, ne_eq, Decidable.not_not, bne_iff_ne, beq_iff_eq, not_true_eq_false, not_false_eq_true] at hc2
   have hE : decide (HasD x cl (q : Int)) = true := decide_eq_true ⟨hM, .inl (by omega)⟩
   refine x_seq fun K7 hK7 => ?_
   refine x_region ?_
   refine s_go (s_assign) ?_
   try simp only [opv, n1, n2, n3, n4, Value.cells]
   refine x_nil ?_
   refine hK7 _ _ ?_
   refine x_ret ?_
   refine r_tmp rfl ?_
   exact ⟨by rw [hE]; rfl, hS.ext_of⟩
  ·
   try simp only [decide_eq_true_eq, decide_eq_false_iff_not, Bool.not_eq_true', Bool.not_eq_false', Int.not_lt, Int.not_le, ne_eq, Decidable.not_not, bne_iff_ne, beq_iff_eq, not_true_eq_false, not_false_eq_true] at hc2
   have hnf : ¬ (s : Int) ≤ x.getD r 0 := by simpa using hc2
   refine x_skip ?_
   refine hK5 _ _ ?_
   refine x_seq fun K8 hK8 => ?_
   refine x_seq fun K9 hK9 => ?_
   refine x_region ?_
   refine s_go (s_assign) ?_
   try simp only [opv, n1, n2, n3, n4, Value.cells]
   refine x_nil ?_
   refine hK9 _ _ ?_
   refine x_block ?_
   refine x_loop [4, 5, 18, 19, 20, 21, 22, 23, 24, 25, 26, 27, 28, 29, 30, 31] (fun m f w => ∃ k : Nat, k ≤ cl.length ∧ m = cl.length - k ∧ f 5 = .int .i64 (k : Int) ∧ (q : Int) ∉ cl.take k ∧ St NoB w0 w [.obj gba (.cells (SetC x (.slice A cl.length c)) 33 (0, 0)), .rd A 1 cl.length (List.map (Value.int .u64) cl)]) (cl.length) ?init1 (fun m1 f1 wl1 hI => ?_)
   case init1 =>
    try simp only [opv, n1, n2, n3, n4, Value.cells]
    exact ⟨0, by omega, rfl, rfl, (by simp), hS⟩
   obtain ⟨k, hk, hm, h5, hnx, hS⟩ := hI
   simp only [clob, List.foldl, n3, n4, h5]
   refine x_seq fun K10 hK10 => ?_
   refine x_seq fun K11 hK11 => ?_
   refine x_region ?_
   refine s_go (s_move) ?_
   try simp only [opv, n1, n2, n3, n4, Value.cells]
   first | refine s_go (m_fieldAddr Tryz.underlying33 (hi := ti27)) ?_ | refine s_go (m_fieldAddr_rd Tryz.underlying33 (hi := ti27) (hS := hS)) ?_ | refine s_go (m_fieldAddr_vec Tryz.underlying33 (hi := ti27) (hS := hS)) ?_
   try simp only [opv, n1, n2, n3, n4, Value.cells, Nat.zero_add, Nat.add_zero, List.getElem_toArray, List.getElem_cons_zero, List.getElem_cons_succ]
   refine s_go (m_load_obj Tryz.underlying27 (hS := hS) (hv := set_sl (by assumption) _)) ?_
   try simp only [opv, n1, n2, n3, n4, Value.cells, List.getElem_toArray, List.getElem_cons_zero, List.getElem_cons_succ]
   refine s_go (s_len_sl Tryz.underlying27) ?_
   try simp only [opv, n1, n2, n3, n4, Value.cells]
   refine s_go (s_lss) ?_
   try simp only [opv, n1, n2, n3, n4, Value.cells]
   refine x_nil ?_
   refine hK11 _ _ ?_
   refine x_cond (ht := fun hc3 => ?_) (hf := fun hc3 => ?_)
   ·
    try simp only [decide_eq_true_eq, decide_eq_false_iff_not, Bool.not_eq_true', Bool.not_eq_false', Int.not_lt, Int.not_le, ne_eq, Decidable.not_not, bne_iff_ne, beq_iff_eq, not_true_eq_false, not_false_eq_true] at hc3
    refine x_skip ?_
    refine hK10 _ _ ?_
    refine x_seq fun K12 hK12 => ?_
    refine x_block ?_
    refine x_seq fun K13 hK13 => ?_
    refine x_region ?_
    first | refine s_go (m_fieldAddr Tryz.underlying33 (hi := ti27)) ?_ | refine s_go (m_fieldAddr_rd Tryz.underlying33 (hi := ti27) (hS := hS)) ?_ | refine s_go (m_fieldAddr_vec Tryz.underlying33 (hi := ti27) (hS := hS)) ?_
    try simp only [opv, n1, n2, n3, n4, Value.cells, Nat.zero_add, Nat.add_zero, List.getElem_toArray, List.getElem_cons_zero, List.getElem_cons_succ]
    refine s_go (m_load_obj Tryz.underlying27 (hS := hS) (hv := set_sl (by assumption) _)) ?_
    try simp only [opv, n1, n2, n3, n4, Value.cells, List.getElem_toArray, List.getElem_cons_zero, List.getElem_cons_succ]
    refine s_go (s_move) ?_
    try simp only [opv, n1, n2, n3, n4, Value.cells]
    first | refine s_go (m_indexAddr_rd Tryz.underlying27 ti84 (hS := hS)) ?_ | refine s_go (m_indexAddr_vec Tryz.underlying27 ti84 (hS := hS)) ?_
    try simp only [opv, n1, n2, n3, n4, Value.cells, Nat.mul_one, Nat.zero_add, Int.toNat_natCast, Int.reduceToNat]
    first | refine s_go (m_load_obj Tryz.underlying84 (hS := hS)) ?_ | refine s_go (m_load_bx Tryz.underlying84 (hS := hS)) ?_ | refine s_go (m_load_rd Tryz.underlying84 (hS := hS)) ?_ | refine s_go (m_load_vec Tryz.underlying84 (hS := hS)) ?_
    try simp only [opv, n1, n2, n3, n4, Value.cells, List.getElem_toArray, List.getElem_cons_zero, List.getElem_cons_succ]
    refine s_go (s_move) ?_
    try simp only [opv, n1, n2, n3, n4, Value.cells]
    refine s_go (s_eql) ?_
    try simp only [opv, n1, n2, n3, n4, Value.cells]
    refine x_nil ?_
    refine hK13 _ _ ?_
    refine x_cond (ht := fun hc4 => ?_) (hf := fun hc4 => ?_)
    ·
     try simp only [decide_eq_true_eq, decide_eq_false_iff_not, Bool.not_eq_true', Bool.not_eq_false', Int.not_lt, Int.not_le, ne_eq, Decidable.not_not, bne_iff_ne, beq_iff_eq, not_true_eq_false, not_false_eq_true] at hc4
     have hE : decide (HasD x cl (q : Int)) = true := decide_eq_true ⟨hM, .inr (by rw [← hc4]; exact getD_mem' (by omega))⟩
     refine x_seq fun K14 hK14 => ?_
     refine x_region ?_
     refine s_go (s_assign) ?_
     try simp only [opv, n1, n2, n3, n4, Value.cells]
     refine x_nil ?_
     refine hK14 _ _ ?_
     refine x_ret ?_
     refine r_tmp rfl ?_
     exact ⟨by rw [hE]; rfl, hS.ext_of⟩
    ·
     try simp only [decide_eq_true_eq, decide_eq_false_iff_not, Bool.not_eq_true', Bool.not_eq_false', Int.not_lt, Int.not_le, ne_eq, Decidable.not_not, bne_iff_ne, beq_iff_eq, not_true_eq_false, not_false_eq_true] at hc4
     have hne : ¬ cl.getD k 0 = (q : Int) := hc4
     refine x_skip ?_
     refine hK12 _ _ ?_
     refine x_region ?_
     refine s_go (s_move) ?_
     try simp only [opv, n1, n2, n3, n4, Value.cells]
     refine s_go (s_add (hc := by first | exact wr_i64 (by omega) (by omega) | rfl)) ?_
     try simp only [opv, n1, n2, n3, n4, Value.cells]
     refine s_go (s_assign) ?_
     try simp only [opv, n1, n2, n3, n4, Value.cells]
     refine x_nil ?_
     refine loop_back (m' := cl.length - (k + 1)) (by simp only [clob, List.foldl, n1, n2, n3, n4]) ?_ ?_
     · try simp only [opv, n1, n2, n3, n4, Value.cells]
       exact ⟨k + 1, by omega, by omega, by rfl, (fun h => by rw [List.take_succ_eq_append_getElem (by omega)] at h; rcases List.mem_append.1 h with h | h; exact hnx h; rw [List.mem_singleton, ← getD_ltz (by omega)] at h; exact hne h.symm), hS⟩
     · omega
   ·
    try simp only [decide_eq_true_eq, decide_eq_false_iff_not, Bool.not_eq_true', Bool.not_eq_false', Int.not_lt, Int.not_le, ne_eq, Decidable.not_not, bne_iff_ne, beq_iff_eq, not_true_eq_false, not_false_eq_true] at hc3
    obtain rfl : k = cl.length := by omega
    rw [List.take_of_length_le (Nat.le_refl _)] at hnx
    have hE : decide (HasD x cl (q : Int)) = false := decide_eq_false (fun h => h.2.elim (fun a => by omega) hnx)
    refine x_exit (look_here ?_)
    refine hK8 _ _ ?_
    refine x_seq fun K15 hK15 => ?_
    refine x_region ?_
    refine s_go (s_assign) ?_
    try simp only [opv, n1, n2, n3, n4, Value.cells]
    refine x_nil ?_
    refine hK15 _ _ ?_
    refine x_ret ?_
    refine r_tmp rfl ?_
    exact ⟨by rw [hE]; rfl, hS.ext_of⟩
theorem c_ref13put (w0 : World) (x : List Int) (hx : VOk x) (A : Option Addr) (c : Nat) (cl : List Int) (hr : Rd w0 A 1 cl.length (List.map (Value.int .u64) cl)) (hu : U64s cl) (hn : cl.length ≤ 4000000000) (q : Nat) (hq : q < 18446744073709551616) (hP : PreS x cl)  :
    CallR Tryz.prog 54 #[.agg (SetC x (.slice A cl.length c)), .int .u64 (q : Int)] w0 fun v w' => ∃ (D : Option Addr) (e : Nat), v = .agg (SetC x (.slice D (putC x cl (q : Int)).length e)) ∧ UBack w0 w' A cl D (putC x cl (q : Int)) := by
 have hS := St.rd1 (S := NoB) hr
 have hxl := hx.len
 have h0l : (List.replicate 16 (0 : Int)).length = 16 := rfl
 refine c_enter (l := [.agg (SetC x (.slice A cl.length c)), .int .u64 (q : Int), undef, undef, undef, undef, undef, undef, undef, undef, undef, undef, undef, undef, undef, undef, undef, undef, undef, undef, undef, undef, undef, undef, undef, undef, undef, undef, undef, undef, undef, undef, undef, undef, undef, undef, undef, undef, undef, undef, undef, undef, undef, undef, undef, undef, undef, undef, undef, undef, undef, undef, undef, undef, undef, undef, undef, undef, undef, undef, undef, undef, undef]) Tryz.func54 rfl (by simp only [Tryz.ntmps54, List.size_toArray, List.length_cons, List.length_nil, Nat.reduceAdd, Nat.reduceSub, Array.replicate_succ, Array.replicate_zero, List.push_toArray, List.append_toArray, List.nil_append, List.cons_append]) ?_
 refine x_seq fun K1 hK1 => ?_
 refine x_region ?_
 refine m_box hS (fun w1 g1 hS => ?_)
 try simp only [opv, n1, n2, n3, n4, Value.cells, Array.toArray_toList] at hS ⊢
 obtain ⟨gba, hgba⟩ : ∃ z, z = g1 := ⟨_, rfl⟩
 rw [← hgba] at hS ⊢
 refine m_alloc ti33 hS (fun w2 g2 hS => ?_)
 try simp only [opv, n1, n2, n3, n4, Value.cells, Array.toArray_toList] at hS ⊢
 replace hS : St NoB w0 w2 (.obj g2 (.cells (SetC (List.replicate 16 0) (.slice none 0 0)) 33 (0, 0)) :: _) := hS
 obtain ⟨gbr, hgbr⟩ : ∃ z, z = g2 := ⟨_, rfl⟩
 rw [← hgbr] at hS ⊢
 refine x_nil ?_
 refine hK1 _ _ ?_
 refine x_seq fun K2 hK2 => ?_
 refine x_seq fun K3 hK3 => ?_
 refine x_region ?_
 refine s_go (s_move) ?_
 try simp only [opv, n1, n2, n3, n4, Value.cells]
 refine s_call en108 ?_
 try simp only [opv, n1, n2, n3, n4, Value.cells, List.map_toArray, List.map_cons, List.map_nil, List.append_toArray, List.cons_append, List.nil_append, Array.append_empty]
 refine CallR.mono (c_ref13May q hq _) ?_
 rintro _ w3 ⟨rfl, hE3⟩
 replace hS := hS.ext hE3
 try simp only [opv, n1, n2, n3, n4, Value.cells]
 refine s_go (s_not) ?_
 try simp only [opv, n1, n2, n3, n4, Value.cells]
 refine s_go (s_move) ?_
 try simp only [opv, n1, n2, n3, n4, Value.cells]
 refine s_part 11 rfl (fun hp1 => ?_) (fun hp1 => ?_)
 ·
  try simp only [n3, n4]
  try simp only [decide_eq_true_eq, decide_eq_false_iff_not, Bool.not_eq_true', Bool.not_eq_false', Int.not_lt, Int.not_le, ne_eq, Decidable.not_not] at hp1
  have hM : ¬ MayD (q : Int) := by simpa using hp1
  have hpe : putC x cl (q : Int) = cl := put_no (fun h => hM h.1)
  refine g_off (yi (t := 11) rfl rfl) ?_
  try simp only [opv, n1, n2, n3, n4, Value.cells]
  refine g_off (yi (t := 11) rfl rfl) ?_
  try simp only [opv, n1, n2, n3, n4, Value.cells]
  refine g_off (yi (t := 11) rfl rfl) ?_
  try simp only [opv, n1, n2, n3, n4, Value.cells]
  first | refine s_go (s_pick_t) ?_ | refine s_go (s_pick_f) ?_
  try simp only [opv, n1, n2, n3, n4, Value.cells]
  refine x_nil ?_
  refine hK3 _ _ ?_
  refine x_cond_t (h := ?_)
  try have hpe : putC x cl (q : Int) = cl := put_no (fun h => h.2 (by simpa using @c))
  refine x_seq fun K4 hK4 => ?_
  refine x_region ?_
  refine s_go (m_load_row Tryz.underlying33 (hi := ti33) (hS := hS) (hfit := by rw [setC_size (by assumption)])) ?_
  try simp only [opv, n1, n2, n3, n4, Value.cells, List.getElem_toArray, List.getElem_cons_zero, List.getElem_cons_succ]
  refine m_store_obj ti33 (hS := hS) (hv := setC_size (by assumption) _) (h1 := set_one _ _ _ _) (hfit := by rw [setC_size (by assumption)]; omega) (hc := set_whole (by assumption) (by assumption) _ _) (h := fun w4 hS => ?_)
  try simp only [opv, n1, n2, n3, n4, Value.cells, Array.toArray_toList] at hS ⊢
  refine x_nil ?_
  refine hK4 _ _ ?_
  refine x_ret ?_
  refine r_cell_agg rfl Tryz.underlying33 ti33 (hS := hS) (hfit := by rw [setC_size (by assumption)]) (hR := ?_)
  first
  | (rw [hpe]; exact ⟨_, _, rfl, uback_self hS.ext_of (hS.hasRd (by repeat (first | exact Has.head | apply Has.tail))) rfl⟩)
  | (rw [hpe, ← hpi, if_neg (by decide), show o.length + 1 = (o ++ [(q : Int)]).length by rw [List.length_append]; rfl]; rw [show o.length + 1 = (o ++ [(q : Int)]).length by rw [List.length_append]; rfl] at hS; exact ⟨_, _, rfl, uback_vec hS (by repeat (first | exact Has.head | apply Has.tail))⟩)
  | (rw [hpe, ← hpi, if_pos rfl]; exact ⟨_, _, rfl, uback_vec hS (by repeat (first | exact Has.head | apply Has.tail))⟩)
 ·
  try simp only [n3, n4]
  try simp only [decide_eq_true_eq, decide_eq_false_iff_not, Bool.not_eq_true', Bool.not_eq_false', Int.not_lt, Int.not_le, ne_eq, Decidable.not_not] at hp1
  have hM : MayD (q : Int) := by simpa using hp1
  refine g_on (yi (t := 11) rfl rfl) ?_
  refine s_go (m_load_row Tryz.underlying33 (hi := ti33) (hS := hS) (hfit := by rw [setC_size (by assumption)])) ?_
  try simp only [opv, n1, n2, n3, n4, Value.cells, List.getElem_toArray, List.getElem_cons_zero, List.getElem_cons_succ]
  refine g_on (yi (t := 11) rfl rfl) ?_
  refine s_go (s_move) ?_
  try simp only [opv, n1, n2, n3, n4, Value.cells]
  refine g_on (yi (t := 11) rfl rfl) ?_
  refine s_call en109 ?_
  try simp only [opv, n1, n2, n3, n4, Value.cells, List.map_toArray, List.map_cons, List.map_nil, List.append_toArray, List.cons_append, List.nil_append, Array.append_empty]
  refine CallR.mono (c_ref13Has _ x hx A c cl (hS.hasRd (by repeat (first | exact Has.head | apply Has.tail))) hu hn q hq) ?_
  rintro _ w5 ⟨rfl, hE5⟩
  replace hS := hS.ext hE5
  try simp only [opv, n1, n2, n3, n4, Value.cells]
  first | refine s_go (s_pick_t) ?_ | refine s_go (s_pick_f) ?_
  try simp only [opv, n1, n2, n3, n4, Value.cells]
  refine x_nil ?_
  refine hK3 _ _ ?_
  refine x_cond (ht := fun hc2 => ?_) (hf := fun hc2 => ?_)
  ·
   try simp only [decide_eq_true_eq, decide_eq_false_iff_not, Bool.not_eq_true', Bool.not_eq_false', Int.not_lt, Int.not_le, ne_eq, Decidable.not_not, bne_iff_ne, beq_iff_eq, not_true_eq_false, not_false_eq_true] at hc2
   try have hpe : putC x cl (q : Int) = cl := put_no (fun h => h.2 (by simpa using hc2))
   refine x_seq fun K5 hK5 => ?_
   refine x_region ?_
   refine s_go (m_load_row Tryz.underlying33 (hi := ti33) (hS := hS) (hfit := by rw [setC_size (by assumption)])) ?_
   try simp only [opv, n1, n2, n3, n4, Value.cells, List.getElem_toArray, List.getElem_cons_zero, List.getElem_cons_succ]
   refine m_store_obj ti33 (hS := hS) (hv := setC_size (by assumption) _) (h1 := set_one _ _ _ _) (hfit := by rw [setC_size (by assumption)]; omega) (hc := set_whole (by assumption) (by assumption) _ _) (h := fun w6 hS => ?_)
   try simp only [opv, n1, n2, n3, n4, Value.cells, Array.toArray_toList] at hS ⊢
   refine x_nil ?_
   refine hK5 _ _ ?_
   refine x_ret ?_
   refine r_cell_agg rfl Tryz.underlying33 ti33 (hS := hS) (hfit := by rw [setC_size (by assumption)]) (hR := ?_)
   first
   | (rw [hpe]; exact ⟨_, _, rfl, uback_self hS.ext_of (hS.hasRd (by repeat (first | exact Has.head | apply Has.tail))) rfl⟩)
   | (rw [hpe, ← hpi, if_neg (by decide), show o.length + 1 = (o ++ [(q : Int)]).length by rw [List.length_append]; rfl]; rw [show o.length + 1 = (o ++ [(q : Int)]).length by rw [List.length_append]; rfl] at hS; exact ⟨_, _, rfl, uback_vec hS (by repeat (first | exact Has.head | apply Has.tail))⟩)
   | (rw [hpe, ← hpi, if_pos rfl]; exact ⟨_, _, rfl, uback_vec hS (by repeat (first | exact Has.head | apply Has.tail))⟩)
  ·
   try simp only [decide_eq_true_eq, decide_eq_false_iff_not, Bool.not_eq_true', Bool.not_eq_false', Int.not_lt, Int.not_le, ne_eq, Decidable.not_not, bne_iff_ne, beq_iff_eq, not_true_eq_false, not_false_eq_true] at hc2
   have hpe := put_yes hP hM (by simpa using hc2)
   refine x_skip ?_
   refine hK2 _ _ ?_
   refine x_seq fun K6 hK6 => ?_
   refine x_region ?_
   first | refine s_go (m_fieldAddr Tryz.underlying33 (hi := ti25)) ?_ | refine s_go (m_fieldAddr_rd Tryz.underlying33 (hi := ti25) (hS := hS)) ?_ | refine s_go (m_fieldAddr_vec Tryz.underlying33 (hi := ti25) (hS := hS)) ?_
   try simp only [opv, n1, n2, n3, n4, Value.cells, Nat.zero_add, Nat.add_zero, List.getElem_toArray, List.getElem_cons_zero, List.getElem_cons_succ]
   refine s_go (m_loada_obj Tryz.underlying25 (hi := ti25) (hS := hS) (hfit := by rw [setC_size (by assumption)]; decide)) ?_
   try simp only [opv, n1, n2, n3, n4, Value.cells, List.getElem_toArray, List.getElem_cons_zero, List.getElem_cons_succ]
   rw [set_flo (by assumption)]
   refine s_go (s_build_struct (cells := (SetC x (.slice none 0 0))) Tryz.underlying33 ti33 bp33 (hc := by simp only [List.map_toArray, List.map_cons, List.map_nil, opv, n1, n2, n3, n4, Value.cells, List.toList_toArray]; exact fill_set (by rfl) hxl)) ?_
   try simp only [opv, n1, n2, n3, n4, Value.cells]
   refine m_alloc ti33 hS (fun w7 g7 hS => ?_)
   try simp only [opv, n1, n2, n3, n4, Value.cells, Array.toArray_toList] at hS ⊢
   replace hS : St NoB w0 w7 (.obj g7 (.cells (SetC (List.replicate 16 0) (.slice none 0 0)) 33 (0, 0)) :: _) := hS
   obtain ⟨gbo, hgbo⟩ : ∃ z, z = g7 := ⟨_, rfl⟩
   rw [← hgbo] at hS ⊢
   refine m_store_obj ti33 (hS := hS) (hv := setC_size (by assumption) _) (h1 := set_one _ _ _ _) (hfit := by rw [setC_size (by assumption)]; omega) (hc := set_whole (by assumption) (by assumption) _ _) (h := fun w8 hS => ?_)
   try simp only [opv, n1, n2, n3, n4, Value.cells, Array.toArray_toList] at hS ⊢
   refine x_nil ?_
   refine hK6 _ _ ?_
   refine x_seq fun K7 hK7 => ?_
   refine x_region ?_
   refine s_go (s_assign) ?_
   try simp only [opv, n1, n2, n3, n4, Value.cells]
   refine x_nil ?_
   refine hK7 _ _ ?_
   refine x_seq fun K8 hK8 => ?_
   refine x_seq fun K9 hK9 => ?_
   refine x_region ?_
   refine s_go (s_assign) ?_
   try simp only [opv, n1, n2, n3, n4, Value.cells]
   refine x_nil ?_
   refine hK9 _ _ ?_
   refine x_block ?_
   refine x_loop [6, 7, 20, 21, 22, 23, 24, 25, 26, 27, 28, 29, 30, 31, 32, 33, 34, 35, 36, 37, 38, 39, 40, 41, 42, 43, 44, 45, 46, 47, 48, 49, 50, 51, 52, 53] (fun m f w => ∃ (k : Nat) (E : Option Addr) (ec : Nat) (o : List Int) (dn : Bool), k ≤ cl.length ∧ m = cl.length - k ∧ f 7 = .int .i64 (k : Int) ∧ f 6 = .bool dn ∧ ((cl.take k).foldl (pI (q : Int)) ([], false)) = (o, dn) ∧ o.length ≤ 2 * k ∧ St NoB w0 w [.obj gbo (.cells (SetC x (.slice E o.length ec)) 33 (0, 0)), .vec E ec 84 1 o.length (List.map (Value.int .u64) o), .obj gbr (.cells (SetC (List.replicate 16 0) (.slice none 0 0)) 33 (0, 0)), .obj gba (.cells (SetC x (.slice A cl.length c)) 33 (0, 0)), .rd A 1 cl.length (List.map (Value.int .u64) cl)]) (cl.length) ?init1 (fun m1 f1 wl1 hI => ?_)
   case init1 =>
    try simp only [opv, n1, n2, n3, n4, Value.cells]
    replace hS := hS.nil_vec 84 1
    exact ⟨0, none, 0, [], false, by omega, rfl, rfl, rfl, rfl, by simp, hS.sel (by repeat (first | exact Sel.nil | (refine Sel.cons (by repeat (first | exact Del.head | apply Del.tail)) ?_)))⟩
   obtain ⟨k, E, ec, o, dn, hk, hm, h7, h6, hpo, hol, hS⟩ := hI
   simp only [clob, List.foldl, n3, n4, h7, h6]
   refine x_seq fun K10 hK10 => ?_
   refine x_seq fun K11 hK11 => ?_
   refine x_region ?_
   refine s_go (s_move) ?_
   try simp only [opv, n1, n2, n3, n4, Value.cells]
   first | refine s_go (m_fieldAddr Tryz.underlying33 (hi := ti27)) ?_ | refine s_go (m_fieldAddr_rd Tryz.underlying33 (hi := ti27) (hS := hS)) ?_ | refine s_go (m_fieldAddr_vec Tryz.underlying33 (hi := ti27) (hS := hS)) ?_
   try simp only [opv, n1, n2, n3, n4, Value.cells, Nat.zero_add, Nat.add_zero, List.getElem_toArray, List.getElem_cons_zero, List.getElem_cons_succ]
   refine s_go (m_load_obj Tryz.underlying27 (hS := hS) (hv := set_sl (by assumption) _)) ?_
   try simp only [opv, n1, n2, n3, n4, Value.cells, List.getElem_toArray, List.getElem_cons_zero, List.getElem_cons_succ]
   refine s_go (s_len_sl Tryz.underlying27) ?_
   try simp only [opv, n1, n2, n3, n4, Value.cells]
   refine s_go (s_lss) ?_
   try simp only [opv, n1, n2, n3, n4, Value.cells]
   refine x_nil ?_
   refine hK11 _ _ ?_
   refine x_cond (ht := fun hc3 => ?_) (hf := fun hc3 => ?_)
   ·
    try simp only [decide_eq_true_eq, decide_eq_false_iff_not, Bool.not_eq_true', Bool.not_eq_false', Int.not_lt, Int.not_le, ne_eq, Decidable.not_not, bne_iff_ne, beq_iff_eq, not_true_eq_false, not_false_eq_true] at hc3
    have hps := foldl_take (f := pI (q : Int)) (a := (([] : List Int), false)) (l := cl) (k := k) (by omega)
    rw [hpo] at hps
    obtain ⟨y, hy⟩ : ∃ y, cl.getD k 0 = y := ⟨_, rfl⟩
    rw [hy] at hps
    refine x_skip ?_
    refine hK10 _ _ ?_
    refine x_seq fun K12 hK12 => ?_
    refine x_block ?_
    refine x_seq fun K13 hK13 => ?_
    refine x_seq fun K14 hK14 => ?_
    refine x_region ?_
    refine s_go (s_move) ?_
    try simp only [opv, n1, n2, n3, n4, Value.cells]
    refine s_go (s_not) ?_
    try simp only [opv, n1, n2, n3, n4, Value.cells]
    refine s_go (s_move) ?_
    try simp only [opv, n1, n2, n3, n4, Value.cells]
    refine s_part 29 rfl (fun hp2 => ?_) (fun hp2 => ?_)
    ·
     try simp only [n3, n4]
     try simp only [decide_eq_true_eq, decide_eq_false_iff_not, Bool.not_eq_true', Bool.not_eq_false', Int.not_lt, Int.not_le, ne_eq, Decidable.not_not] at hp2
     obtain rfl : dn = false := by simpa using hp2
     refine g_on (yi (t := 29) rfl rfl) ?_
     refine s_go (s_move) ?_
     try simp only [opv, n1, n2, n3, n4, Value.cells]
     refine g_on (yi (t := 29) rfl rfl) ?_
     first | refine s_go (m_fieldAddr Tryz.underlying33 (hi := ti27)) ?_ | refine s_go (m_fieldAddr_rd Tryz.underlying33 (hi := ti27) (hS := hS)) ?_ | refine s_go (m_fieldAddr_vec Tryz.underlying33 (hi := ti27) (hS := hS)) ?_
     try simp only [opv, n1, n2, n3, n4, Value.cells, Nat.zero_add, Nat.add_zero, List.getElem_toArray, List.getElem_cons_zero, List.getElem_cons_succ]
     refine g_on (yi (t := 29) rfl rfl) ?_
     refine s_go (m_load_obj Tryz.underlying27 (hS := hS) (hv := set_sl (by assumption) _)) ?_
     try simp only [opv, n1, n2, n3, n4, Value.cells, List.getElem_toArray, List.getElem_cons_zero, List.getElem_cons_succ]
     refine g_on (yi (t := 29) rfl rfl) ?_
     refine s_go (s_move) ?_
     try simp only [opv, n1, n2, n3, n4, Value.cells]
     refine g_on (yi (t := 29) rfl rfl) ?_
     first | refine s_go (m_indexAddr_rd Tryz.underlying27 ti84 (hS := hS)) ?_ | refine s_go (m_indexAddr_vec Tryz.underlying27 ti84 (hS := hS)) ?_
     try simp only [opv, n1, n2, n3, n4, Value.cells, Nat.mul_one, Nat.zero_add, Int.toNat_natCast, Int.reduceToNat]
     refine g_on (yi (t := 29) rfl rfl) ?_
     first | refine s_go (m_load_obj Tryz.underlying84 (hS := hS)) ?_ | refine s_go (m_load_bx Tryz.underlying84 (hS := hS)) ?_ | refine s_go (m_load_rd Tryz.underlying84 (hS := hS)) ?_ | refine s_go (m_load_vec Tryz.underlying84 (hS := hS)) ?_
     try simp only [opv, n1, n2, n3, n4, Value.cells, List.getElem_toArray, List.getElem_cons_zero, List.getElem_cons_succ]
     rw [hy]
     refine g_on (yi (t := 29) rfl rfl) ?_
     refine s_go (s_lss) ?_
     try simp only [opv, n1, n2, n3, n4, Value.cells]
     first | refine s_go (s_pick_t) ?_ | refine s_go (s_pick_f) ?_
     try simp only [opv, n1, n2, n3, n4, Value.cells]
     refine x_nil ?_
     refine hK14 _ _ ?_
     refine x_cond (ht := fun hc4 => ?_) (hf := fun hc4 => ?_)
     ·
      try simp only [decide_eq_true_eq, decide_eq_false_iff_not, Bool.not_eq_true', Bool.not_eq_false', Int.not_lt, Int.not_le, ne_eq, Decidable.not_not, bne_iff_ne, beq_iff_eq, not_true_eq_false, not_false_eq_true] at hc4
      have hst2 := hps.trans (if_pos ⟨rfl, hc4⟩)
      obtain ⟨o2, ho2⟩ : ∃ z, z = o ++ [(q : Int)] := ⟨_, rfl⟩
      rw [← ho2] at hst2
      have hol2 : o2.length ≤ 2 * k + 1 := by rw [ho2, List.length_append]; simp only [List.length_cons, List.length_nil]; omega
      refine x_seq fun K15 hK15 => ?_
      refine x_region ?_
      first | refine s_go (m_fieldAddr Tryz.underlying33 (hi := ti27)) ?_ | refine s_go (m_fieldAddr_rd Tryz.underlying33 (hi := ti27) (hS := hS)) ?_ | refine s_go (m_fieldAddr_vec Tryz.underlying33 (hi := ti27) (hS := hS)) ?_
      try simp only [opv, n1, n2, n3, n4, Value.cells, Nat.zero_add, Nat.add_zero, List.getElem_toArray, List.getElem_cons_zero, List.getElem_cons_succ]
      refine s_go (m_load_obj Tryz.underlying27 (hS := hS) (hv := set_sl (by assumption) _)) ?_
      try simp only [opv, n1, n2, n3, n4, Value.cells, List.getElem_toArray, List.getElem_cons_zero, List.getElem_cons_succ]
      refine s_go (s_move) ?_
      try simp only [opv, n1, n2, n3, n4, Value.cells]
      refine m_buildRow (cells := #[_]) Tryz.underlying27 ti84 (hc := by simp only [List.map_toArray, List.map_cons, List.map_nil, opv, n1, n2, n3, n4, Value.cells, List.toList_toArray]; (repeat (refine fill_cons rfl rfl (Nat.le_of_ble_eq_true rfl) ?_)); rfl) (hS := hS) (h := fun w9 g9 hS => ?_)
      try simp only [opv, n1, n2, n3, n4, Value.cells, Array.toArray_toList] at hS ⊢
      replace hS := hS.obj_rd (sz := 1) (n := 1) rfl .head
      refine m_append Tryz.underlying27 ti84 (hS := hS) (news := [(q : Int)].map (Value.int .u64)) (h := fun w10 A10 C10 hS => ?_)
      try simp only [← List.map_append, ← List.map_drop, ← List.map_take, Nat.mul_one, Nat.zero_mul, Nat.sub_zero, List.drop_zero, List.nil_append, Nat.zero_add] at hS ⊢
      try simp only [opv, n1, n2, n3, n4, Value.cells, Array.toArray_toList] at hS ⊢
      obtain ⟨E9, hE9⟩ : ∃ z, z = A10 := ⟨_, rfl⟩
      obtain ⟨ec9, hec9⟩ : ∃ z, z = C10 := ⟨_, rfl⟩
      rw [← hE9, ← hec9] at hS ⊢
      first | refine s_go (m_fieldAddr Tryz.underlying33 (hi := ti27)) ?_ | refine s_go (m_fieldAddr_rd Tryz.underlying33 (hi := ti27) (hS := hS)) ?_ | refine s_go (m_fieldAddr_vec Tryz.underlying33 (hi := ti27) (hS := hS)) ?_
      try simp only [opv, n1, n2, n3, n4, Value.cells, Nat.zero_add, Nat.add_zero, List.getElem_toArray, List.getElem_cons_zero, List.getElem_cons_succ]
      refine m_store_obj ti27 (hS := hS) (hfit := by rw [setC_size (by assumption)]; omega) (hc := set_put16 (by assumption) _ _) (h := fun w11 hS => ?_)
      try simp only [opv, n1, n2, n3, n4, Value.cells, Array.toArray_toList] at hS ⊢
      try simp only [← List.map_append] at hS
      rw [← ho2, show o.length + 1 = o2.length by rw [ho2, List.length_append]; rfl] at hS
      refine x_nil ?_
      refine hK15 _ _ ?_
      refine x_region ?_
      refine s_go (s_assign) ?_
      try simp only [opv, n1, n2, n3, n4, Value.cells]
      refine x_nil ?_
      refine hK13 _ _ ?_
      refine x_mixed_c (Lc := [.obj gbo (.cells (SetC x (.slice E9 o2.length ec9)) 33 (0, 0)), .obj gbr (.cells (SetC (List.replicate 16 0) (.slice none 0 0)) 33 (0, 0)), .obj gba (.cells (SetC x (.slice A cl.length c)) 33 (0, 0)), .rd A 1 cl.length (List.map (Value.int .u64) cl)]) [10] 0 [44, 45, 46, 47, 48, 49, 50, 51, 52, 53] (fun f w => ∃ (E2 : Option Addr) (ec2 : Nat), St NoB w0 w [.obj gbo (.cells (SetC x (.slice E2 (o2 ++ [y]).length ec2)) 33 (0, 0)), .vec E2 ec2 84 1 (o2 ++ [y]).length (List.map (Value.int .u64) (o2 ++ [y])), .obj gbr (.cells (SetC (List.replicate 16 0) (.slice none 0 0)) 33 (0, 0)), .obj gba (.cells (SetC x (.slice A cl.length c)) 33 (0, 0)), .rd A 1 cl.length (List.map (Value.int .u64) cl)]) (by kernel_rfl) (by kernel_rfl) (by kernel_rfl) (by decide) hS (fun w12 hS => ?mixpre1101) ?mixrest1101
      case mixpre1101 =>
       refine p_nil ?_
       simp only [List.length_cons, List.length_nil, Nat.reduceAdd, Nat.reduceSub]
       first | refine any_go (i := 0) (by rfl) (by decide +kernel) (by decide +kernel) (by unfold noLate; decide) (go_yields w_none (fun w hS => m_fieldAddr Tryz.underlying33 (hi := ti27))) ?_ | refine any_go (i := 0) (by rfl) (by decide +kernel) (by decide +kernel) (by unfold noLate; decide) (go_yields w_none (fun w hS => m_fieldAddr_rd Tryz.underlying33 (hi := ti27) (hS := hS))) ?_ | refine any_go (i := 0) (by rfl) (by decide +kernel) (by decide +kernel) (by unfold noLate; decide) (go_yields w_none (fun w hS => m_fieldAddr_vec Tryz.underlying33 (hi := ti27) (hS := hS))) ?_
       try simp only [opv, n1, n2, n3, n4, Value.cells, Nat.zero_add, Nat.add_zero, List.getElem_toArray, List.getElem_cons_zero, List.getElem_cons_succ]
       refine any_go (i := 1) (by rfl) (by decide +kernel) (by decide +kernel) (by unfold noLate; decide) (go_yields w_none (fun w hS => m_load_obj Tryz.underlying27 (hS := hS) (hv := set_sl (by assumption) _))) ?_
       try simp only [opv, n1, n2, n3, n4, Value.cells, List.getElem_toArray, List.getElem_cons_zero, List.getElem_cons_succ]
       first | refine any_go (i := 2) (by rfl) (by decide +kernel) (by decide +kernel) (by unfold noLate; decide) (go_yields w_none (fun w hS => m_fieldAddr Tryz.underlying33 (hi := ti27))) ?_ | refine any_go (i := 2) (by rfl) (by decide +kernel) (by decide +kernel) (by unfold noLate; decide) (go_yields w_none (fun w hS => m_fieldAddr_rd Tryz.underlying33 (hi := ti27) (hS := hS))) ?_ | refine any_go (i := 2) (by rfl) (by decide +kernel) (by decide +kernel) (by unfold noLate; decide) (go_yields w_none (fun w hS => m_fieldAddr_vec Tryz.underlying33 (hi := ti27) (hS := hS))) ?_
       try simp only [opv, n1, n2, n3, n4, Value.cells, Nat.zero_add, Nat.add_zero, List.getElem_toArray, List.getElem_cons_zero, List.getElem_cons_succ]
       refine any_go (i := 3) (by rfl) (by decide +kernel) (by decide +kernel) (by unfold noLate; decide) (go_yields w_none (fun w hS => m_load_obj Tryz.underlying27 (hS := hS) (hv := set_sl (by assumption) _))) ?_
       try simp only [opv, n1, n2, n3, n4, Value.cells, List.getElem_toArray, List.getElem_cons_zero, List.getElem_cons_succ]
       refine any_go (i := 4) (by rfl) (by decide +kernel) (by decide +kernel) (by unfold noLate; decide) (go_yields w_none (fun w hS => s_move)) ?_
       try simp only [opv, n1, n2, n3, n4, Value.cells]
       first | refine any_go (i := 5) (by rfl) (by decide +kernel) (by decide +kernel) (by unfold noLate; decide) (go_yields w_none (fun w hS => m_indexAddr_rd Tryz.underlying27 ti84 (hS := hS))) ?_ | refine any_go (i := 5) (by rfl) (by decide +kernel) (by decide +kernel) (by unfold noLate; decide) (go_yields w_none (fun w hS => m_indexAddr_vec Tryz.underlying27 ti84 (hS := hS))) ?_
       try simp only [opv, n1, n2, n3, n4, Value.cells, Nat.mul_one, Nat.zero_add, Int.toNat_natCast, Int.reduceToNat]
       first | refine any_go (i := 6) (by rfl) (by decide +kernel) (by decide +kernel) (by unfold noLate; decide) (go_yields w_none (fun w hS => m_load_obj Tryz.underlying84 (hS := hS))) ?_ | refine any_go (i := 6) (by rfl) (by decide +kernel) (by decide +kernel) (by unfold noLate; decide) (go_yields w_none (fun w hS => m_load_bx Tryz.underlying84 (hS := hS))) ?_ | refine any_go (i := 6) (by rfl) (by decide +kernel) (by decide +kernel) (by unfold noLate; decide) (go_yields w_none (fun w hS => m_load_rd Tryz.underlying84 (hS := hS))) ?_ | refine any_go (i := 6) (by rfl) (by decide +kernel) (by decide +kernel) (by unfold noLate; decide) (go_yields w_none (fun w hS => m_load_vec Tryz.underlying84 (hS := hS))) ?_
       try simp only [opv, n1, n2, n3, n4, Value.cells, List.getElem_toArray, List.getElem_cons_zero, List.getElem_cons_succ]
       rw [hy]
       refine any_step [7] (by kernel_rfl) (by decide) (fun w13 hE => ⟨fun _ => (hS.ext hE).sel (by repeat (first | exact Sel.nil | (refine Sel.cons (by repeat (first | exact Del.head | apply Del.tail)) ?_))), ?_⟩)
       replace hS := hS.ext hE
       intro i hi
       simp only [List.mem_cons, List.not_mem_nil, or_false] at hi
       subst hi
       ·
        refine any_op (by rfl) ?_
        refine m_buildRow (cells := #[_]) Tryz.underlying27 ti84 (hc := by simp only [List.map_toArray, List.map_cons, List.map_nil, opv, n1, n2, n3, n4, Value.cells, List.toList_toArray]; (repeat (refine fill_cons rfl rfl (Nat.le_of_ble_eq_true rfl) ?_)); rfl) (hS := hS) (h := fun w14 g14 hS => ?_)
        try simp only [opv, n1, n2, n3, n4, Value.cells, Array.toArray_toList] at hS ⊢
        replace hS := hS.obj_rd (sz := 1) (n := 1) rfl .head
        refine x_nil ?_
        refine any_step [8] (by kernel_rfl) (by decide) (fun w15 hE => ⟨fun _ => (hS.ext hE).sel (by repeat (first | exact Sel.nil | (refine Sel.cons (by repeat (first | exact Del.head | apply Del.tail)) ?_))), ?_⟩)
        replace hS := hS.ext hE
        intro i hi
        simp only [List.mem_cons, List.not_mem_nil, or_false] at hi
        subst hi
        ·
         refine any_op (by rfl) ?_
         refine m_append Tryz.underlying27 ti84 (hS := hS) (news := [y].map (Value.int .u64)) (h := fun w16 A16 C16 hS => ?_)
         try simp only [← List.map_append, ← List.map_drop, ← List.map_take, Nat.mul_one, Nat.zero_mul, Nat.sub_zero, List.drop_zero, List.nil_append, Nat.zero_add] at hS ⊢
         try simp only [opv, n1, n2, n3, n4, Value.cells, Array.toArray_toList] at hS ⊢
         refine x_nil ?_
         first | refine any_go (i := 9) (by rfl) (by decide +kernel) (by decide +kernel) (by unfold noLate; decide) (go_yields w_none (fun w hS => m_fieldAddr Tryz.underlying33 (hi := ti27))) ?_ | refine any_go (i := 9) (by rfl) (by decide +kernel) (by decide +kernel) (by unfold noLate; decide) (go_yields w_none (fun w hS => m_fieldAddr_rd Tryz.underlying33 (hi := ti27) (hS := hS))) ?_ | refine any_go (i := 9) (by rfl) (by decide +kernel) (by decide +kernel) (by unfold noLate; decide) (go_yields w_none (fun w hS => m_fieldAddr_vec Tryz.underlying33 (hi := ti27) (hS := hS))) ?_
         try simp only [opv, n1, n2, n3, n4, Value.cells, Nat.zero_add, Nat.add_zero, List.getElem_toArray, List.getElem_cons_zero, List.getElem_cons_succ]
         refine any_step [10] (by kernel_rfl) (by decide) (fun w17 hE => ⟨fun _ => (hS.ext hE).sel (by repeat (first | exact Sel.nil | (refine Sel.cons (by repeat (first | exact Del.head | apply Del.tail)) ?_))), ?_⟩)
         replace hS := hS.ext hE
         intro i hi
         simp only [List.mem_cons, List.not_mem_nil, or_false] at hi
         subst hi
         ·
          refine any_op (by rfl) ?_
          refine m_store_obj ti27 (hS := hS) (hfit := by rw [setC_size (by assumption)]; omega) (hc := set_put16 (by assumption) _ _) (h := fun w18 hS => ?_)
          try simp only [opv, n1, n2, n3, n4, Value.cells, Array.toArray_toList] at hS ⊢
          refine x_nil ?_
          refine any_nil (by kernel_rfl) (fun w19 hE => ?_)
          replace hS := hS.ext hE
          refine ⟨fun hl => absurd (hl 10 (by decide)) (by decide +kernel), ?_⟩
          refine mix_leaf (by simp only [clob, List.foldl, n1, n2, n3, n4]) ?_
          try simp only [n1, n2]
          rw [show o2.length + 1 = (o2 ++ [y]).length by rw [List.length_append]; rfl] at hS
          exact ⟨_, _, hS.sel (by repeat (first | exact Sel.nil | (refine Sel.cons (by repeat (first | exact Del.head | apply Del.tail)) ?_)))⟩
      intro fm1 w20 hM
      obtain ⟨E2, ec2, hS⟩ := hM
      simp only [clob, List.foldl, n3, n4]
      refine hK12 _ _ ?_
      refine x_region ?_
      refine s_go (s_move) ?_
      try simp only [opv, n1, n2, n3, n4, Value.cells]
      refine s_go (s_add (hc := by first | exact wr_i64 (by omega) (by omega) | rfl)) ?_
      try simp only [opv, n1, n2, n3, n4, Value.cells]
      refine s_go (s_assign) ?_
      try simp only [opv, n1, n2, n3, n4, Value.cells]
      refine x_nil ?_
      refine loop_back (m' := cl.length - (k + 1)) (by simp only [clob, List.foldl, n1, n2, n3, n4]) ?_ ?_
      · try simp only [opv, n1, n2, n3, n4, Value.cells]
        exact ⟨k + 1, _, _, o2 ++ [y], _, by omega, by omega, by rfl, by rfl, hst2, by simp only [List.length_append, List.length_cons, List.length_nil]; omega, hS.sel (by repeat (first | exact Sel.nil | (refine Sel.cons (by repeat (first | exact Del.head | apply Del.tail)) ?_)))⟩
      · omega
     ·
      try simp only [decide_eq_true_eq, decide_eq_false_iff_not, Bool.not_eq_true', Bool.not_eq_false', Int.not_lt, Int.not_le, ne_eq, Decidable.not_not, bne_iff_ne, beq_iff_eq, not_true_eq_false, not_false_eq_true] at hc4
      try have hst2 := hps.trans (if_neg (fun h => by have := h.2; omega))
      obtain ⟨o2, ho2⟩ : ∃ z, z = o := ⟨_, rfl⟩
      rw [← ho2] at hst2 hS
      have hol2 : o2.length ≤ 2 * k + 1 := by rw [ho2]; omega
      obtain ⟨E9, hE9⟩ : ∃ z, z = E := ⟨_, rfl⟩
      obtain ⟨ec9, hec9⟩ : ∃ z, z = ec := ⟨_, rfl⟩
      rw [← hE9, ← hec9] at hS
      refine x_skip ?_
      refine hK13 _ _ ?_
      refine x_mixed_c (Lc := [.obj gbo (.cells (SetC x (.slice E9 o2.length ec9)) 33 (0, 0)), .obj gbr (.cells (SetC (List.replicate 16 0) (.slice none 0 0)) 33 (0, 0)), .obj gba (.cells (SetC x (.slice A cl.length c)) 33 (0, 0)), .rd A 1 cl.length (List.map (Value.int .u64) cl)]) [10] 0 [44, 45, 46, 47, 48, 49, 50, 51, 52, 53] (fun f w => ∃ (E2 : Option Addr) (ec2 : Nat), St NoB w0 w [.obj gbo (.cells (SetC x (.slice E2 (o2 ++ [y]).length ec2)) 33 (0, 0)), .vec E2 ec2 84 1 (o2 ++ [y]).length (List.map (Value.int .u64) (o2 ++ [y])), .obj gbr (.cells (SetC (List.replicate 16 0) (.slice none 0 0)) 33 (0, 0)), .obj gba (.cells (SetC x (.slice A cl.length c)) 33 (0, 0)), .rd A 1 cl.length (List.map (Value.int .u64) cl)]) (by kernel_rfl) (by kernel_rfl) (by kernel_rfl) (by decide) hS (fun w21 hS => ?mixpre1102) ?mixrest1102
      case mixpre1102 =>
       refine p_nil ?_
       simp only [List.length_cons, List.length_nil, Nat.reduceAdd, Nat.reduceSub]
       first | refine any_go (i := 0) (by rfl) (by decide +kernel) (by decide +kernel) (by unfold noLate; decide) (go_yields w_none (fun w hS => m_fieldAddr Tryz.underlying33 (hi := ti27))) ?_ | refine any_go (i := 0) (by rfl) (by decide +kernel) (by decide +kernel) (by unfold noLate; decide) (go_yields w_none (fun w hS => m_fieldAddr_rd Tryz.underlying33 (hi := ti27) (hS := hS))) ?_ | refine any_go (i := 0) (by rfl) (by decide +kernel) (by decide +kernel) (by unfold noLate; decide) (go_yields w_none (fun w hS => m_fieldAddr_vec Tryz.underlying33 (hi := ti27) (hS := hS))) ?_
       try simp only [opv, n1, n2, n3, n4, Value.cells, Nat.zero_add, Nat.add_zero, List.getElem_toArray, List.getElem_cons_zero, List.getElem_cons_succ]
       refine any_go (i := 1) (by rfl) (by decide +kernel) (by decide +kernel) (by unfold noLate; decide) (go_yields w_none (fun w hS => m_load_obj Tryz.underlying27 (hS := hS) (hv := set_sl (by assumption) _))) ?_
       try simp only [opv, n1, n2, n3, n4, Value.cells, List.getElem_toArray, List.getElem_cons_zero, List.getElem_cons_succ]
       first | refine any_go (i := 2) (by rfl) (by decide +kernel) (by decide +kernel) (by unfold noLate; decide) (go_yields w_none (fun w hS => m_fieldAddr Tryz.underlying33 (hi := ti27))) ?_ | refine any_go (i := 2) (by rfl) (by decide +kernel) (by decide +kernel) (by unfold noLate; decide) (go_yields w_none (fun w hS => m_fieldAddr_rd Tryz.underlying33 (hi := ti27) (hS := hS))) ?_ | refine any_go (i := 2) (by rfl) (by decide +kernel) (by decide +kernel) (by unfold noLate; decide) (go_yields w_none (fun w hS => m_fieldAddr_vec Tryz.underlying33 (hi := ti27) (hS := hS))) ?_
       try simp only [opv, n1, n2, n3, n4, Value.cells, Nat.zero_add, Nat.add_zero, List.getElem_toArray, List.getElem_cons_zero, List.getElem_cons_succ]
       refine any_go (i := 3) (by rfl) (by decide +kernel) (by decide +kernel) (by unfold noLate; decide) (go_yields w_none (fun w hS => m_load_obj Tryz.underlying27 (hS := hS) (hv := set_sl (by assumption) _))) ?_
       try simp only [opv, n1, n2, n3, n4, Value.cells, List.getElem_toArray, List.getElem_cons_zero, List.getElem_cons_succ]
       refine any_go (i := 4) (by rfl) (by decide +kernel) (by decide +kernel) (by unfold noLate; decide) (go_yields w_none (fun w hS => s_move)) ?_
       try simp only [opv, n1, n2, n3, n4, Value.cells]
       first | refine any_go (i := 5) (by rfl) (by decide +kernel) (by decide +kernel) (by unfold noLate; decide) (go_yields w_none (fun w hS => m_indexAddr_rd Tryz.underlying27 ti84 (hS := hS))) ?_ | refine any_go (i := 5) (by rfl) (by decide +kernel) (by decide +kernel) (by unfold noLate; decide) (go_yields w_none (fun w hS => m_indexAddr_vec Tryz.underlying27 ti84 (hS := hS))) ?_
       try simp only [opv, n1, n2, n3, n4, Value.cells, Nat.mul_one, Nat.zero_add, Int.toNat_natCast, Int.reduceToNat]
       first | refine any_go (i := 6) (by rfl) (by decide +kernel) (by decide +kernel) (by unfold noLate; decide) (go_yields w_none (fun w hS => m_load_obj Tryz.underlying84 (hS := hS))) ?_ | refine any_go (i := 6) (by rfl) (by decide +kernel) (by decide +kernel) (by unfold noLate; decide) (go_yields w_none (fun w hS => m_load_bx Tryz.underlying84 (hS := hS))) ?_ | refine any_go (i := 6) (by rfl) (by decide +kernel) (by decide +kernel) (by unfold noLate; decide) (go_yields w_none (fun w hS => m_load_rd Tryz.underlying84 (hS := hS))) ?_ | refine any_go (i := 6) (by rfl) (by decide +kernel) (by decide +kernel) (by unfold noLate; decide) (go_yields w_none (fun w hS => m_load_vec Tryz.underlying84 (hS := hS))) ?_
       try simp only [opv, n1, n2, n3, n4, Value.cells, List.getElem_toArray, List.getElem_cons_zero, List.getElem_cons_succ]
       rw [hy]
       refine any_step [7] (by kernel_rfl) (by decide) (fun w22 hE => ⟨fun _ => (hS.ext hE).sel (by repeat (first | exact Sel.nil | (refine Sel.cons (by repeat (first | exact Del.head | apply Del.tail)) ?_))), ?_⟩)
       replace hS := hS.ext hE
       intro i hi
       simp only [List.mem_cons, List.not_mem_nil, or_false] at hi
       subst hi
       ·
        refine any_op (by rfl) ?_
        refine m_buildRow (cells := #[_]) Tryz.underlying27 ti84 (hc := by simp only [List.map_toArray, List.map_cons, List.map_nil, opv, n1, n2, n3, n4, Value.cells, List.toList_toArray]; (repeat (refine fill_cons rfl rfl (Nat.le_of_ble_eq_true rfl) ?_)); rfl) (hS := hS) (h := fun w23 g23 hS => ?_)
        try simp only [opv, n1, n2, n3, n4, Value.cells, Array.toArray_toList] at hS ⊢
        replace hS := hS.obj_rd (sz := 1) (n := 1) rfl .head
        refine x_nil ?_
        refine any_step [8] (by kernel_rfl) (by decide) (fun w24 hE => ⟨fun _ => (hS.ext hE).sel (by repeat (first | exact Sel.nil | (refine Sel.cons (by repeat (first | exact Del.head | apply Del.tail)) ?_))), ?_⟩)
        replace hS := hS.ext hE
        intro i hi
        simp only [List.mem_cons, List.not_mem_nil, or_false] at hi
        subst hi
        ·
         refine any_op (by rfl) ?_
         refine m_append Tryz.underlying27 ti84 (hS := hS) (news := [y].map (Value.int .u64)) (h := fun w25 A25 C25 hS => ?_)
         try simp only [← List.map_append, ← List.map_drop, ← List.map_take, Nat.mul_one, Nat.zero_mul, Nat.sub_zero, List.drop_zero, List.nil_append, Nat.zero_add] at hS ⊢
         try simp only [opv, n1, n2, n3, n4, Value.cells, Array.toArray_toList] at hS ⊢
         refine x_nil ?_
         first | refine any_go (i := 9) (by rfl) (by decide +kernel) (by decide +kernel) (by unfold noLate; decide) (go_yields w_none (fun w hS => m_fieldAddr Tryz.underlying33 (hi := ti27))) ?_ | refine any_go (i := 9) (by rfl) (by decide +kernel) (by decide +kernel) (by unfold noLate; decide) (go_yields w_none (fun w hS => m_fieldAddr_rd Tryz.underlying33 (hi := ti27) (hS := hS))) ?_ | refine any_go (i := 9) (by rfl) (by decide +kernel) (by decide +kernel) (by unfold noLate; decide) (go_yields w_none (fun w hS => m_fieldAddr_vec Tryz.underlying33 (hi := ti27) (hS := hS))) ?_
         try simp only [opv, n1, n2, n3, n4, Value.cells, Nat.zero_add, Nat.add_zero, List.getElem_toArray, List.getElem_cons_zero, List.getElem_cons_succ]
         refine any_step [10] (by kernel_rfl) (by decide) (fun w26 hE => ⟨fun _ => (hS.ext hE).sel (by repeat (first | exact Sel.nil | (refine Sel.cons (by repeat (first | exact Del.head | apply Del.tail)) ?_))), ?_⟩)
         replace hS := hS.ext hE
         intro i hi
         simp only [List.mem_cons, List.not_mem_nil, or_false] at hi
         subst hi
         ·
          refine any_op (by rfl) ?_
          refine m_store_obj ti27 (hS := hS) (hfit := by rw [setC_size (by assumption)]; omega) (hc := set_put16 (by assumption) _ _) (h := fun w27 hS => ?_)
          try simp only [opv, n1, n2, n3, n4, Value.cells, Array.toArray_toList] at hS ⊢
          refine x_nil ?_
          refine any_nil (by kernel_rfl) (fun w28 hE => ?_)
          replace hS := hS.ext hE
          refine ⟨fun hl => absurd (hl 10 (by decide)) (by decide +kernel), ?_⟩
          refine mix_leaf (by simp only [clob, List.foldl, n1, n2, n3, n4]) ?_
          try simp only [n1, n2]
          rw [show o2.length + 1 = (o2 ++ [y]).length by rw [List.length_append]; rfl] at hS
          exact ⟨_, _, hS.sel (by repeat (first | exact Sel.nil | (refine Sel.cons (by repeat (first | exact Del.head | apply Del.tail)) ?_)))⟩
      intro fm2 w29 hM
      obtain ⟨E2, ec2, hS⟩ := hM
      simp only [clob, List.foldl, n3, n4]
      refine hK12 _ _ ?_
      refine x_region ?_
      refine s_go (s_move) ?_
      try simp only [opv, n1, n2, n3, n4, Value.cells]
      refine s_go (s_add (hc := by first | exact wr_i64 (by omega) (by omega) | rfl)) ?_
      try simp only [opv, n1, n2, n3, n4, Value.cells]
      refine s_go (s_assign) ?_
      try simp only [opv, n1, n2, n3, n4, Value.cells]
      refine x_nil ?_
      refine loop_back (m' := cl.length - (k + 1)) (by simp only [clob, List.foldl, n1, n2, n3, n4]) ?_ ?_
      · try simp only [opv, n1, n2, n3, n4, Value.cells]
        exact ⟨k + 1, _, _, o2 ++ [y], _, by omega, by omega, by rfl, by rfl, hst2, by simp only [List.length_append, List.length_cons, List.length_nil]; omega, hS.sel (by repeat (first | exact Sel.nil | (refine Sel.cons (by repeat (first | exact Del.head | apply Del.tail)) ?_)))⟩
      · omega
    ·
     try simp only [n3, n4]
     try simp only [decide_eq_true_eq, decide_eq_false_iff_not, Bool.not_eq_true', Bool.not_eq_false', Int.not_lt, Int.not_le, ne_eq, Decidable.not_not] at hp2
     obtain rfl : dn = true := by simpa using hp2
     have hst2 := hps.trans (if_neg (by simp))
     refine g_off (yi (t := 29) rfl rfl) ?_
     try simp only [opv, n1, n2, n3, n4, Value.cells]
     refine g_off (yi (t := 29) rfl rfl) ?_
     try simp only [opv, n1, n2, n3, n4, Value.cells]
     refine g_off (yi (t := 29) rfl rfl) ?_
     try simp only [opv, n1, n2, n3, n4, Value.cells]
     refine g_off (yi (t := 29) rfl rfl) ?_
     try simp only [opv, n1, n2, n3, n4, Value.cells]
     refine g_off (yi (t := 29) rfl rfl) ?_
     try simp only [opv, n1, n2, n3, n4, Value.cells]
     refine g_off (yi (t := 29) rfl rfl) ?_
     try simp only [opv, n1, n2, n3, n4, Value.cells]
     refine g_off (yi (t := 29) rfl rfl) ?_
     try simp only [opv, n1, n2, n3, n4, Value.cells]
     first | refine s_go (s_pick_t) ?_ | refine s_go (s_pick_f) ?_
     try simp only [opv, n1, n2, n3, n4, Value.cells]
     refine x_nil ?_
     refine hK14 _ _ ?_
     refine x_cond_f (h := ?_)
     try have hst2 := hps.trans (if_neg (fun h => by have := h.2; omega))
     obtain ⟨o2, ho2⟩ : ∃ z, z = o := ⟨_, rfl⟩
     rw [← ho2] at hst2 hS
     have hol2 : o2.length ≤ 2 * k + 1 := by rw [ho2]; omega
     obtain ⟨E9, hE9⟩ : ∃ z, z = E := ⟨_, rfl⟩
     obtain ⟨ec9, hec9⟩ : ∃ z, z = ec := ⟨_, rfl⟩
     rw [← hE9, ← hec9] at hS
     refine x_skip ?_
     refine hK13 _ _ ?_
     refine x_mixed_c (Lc := [.obj gbo (.cells (SetC x (.slice E9 o2.length ec9)) 33 (0, 0)), .obj gbr (.cells (SetC (List.replicate 16 0) (.slice none 0 0)) 33 (0, 0)), .obj gba (.cells (SetC x (.slice A cl.length c)) 33 (0, 0)), .rd A 1 cl.length (List.map (Value.int .u64) cl)]) [10] 0 [44, 45, 46, 47, 48, 49, 50, 51, 52, 53] (fun f w => ∃ (E2 : Option Addr) (ec2 : Nat), St NoB w0 w [.obj gbo (.cells (SetC x (.slice E2 (o2 ++ [y]).length ec2)) 33 (0, 0)), .vec E2 ec2 84 1 (o2 ++ [y]).length (List.map (Value.int .u64) (o2 ++ [y])), .obj gbr (.cells (SetC (List.replicate 16 0) (.slice none 0 0)) 33 (0, 0)), .obj gba (.cells (SetC x (.slice A cl.length c)) 33 (0, 0)), .rd A 1 cl.length (List.map (Value.int .u64) cl)]) (by kernel_rfl) (by kernel_rfl) (by kernel_rfl) (by decide) hS (fun w30 hS => ?mixpre1103) ?mixrest1103
     case mixpre1103 =>
      refine p_nil ?_
      simp only [List.length_cons, List.length_nil, Nat.reduceAdd, Nat.reduceSub]
      first | refine any_go (i := 0) (by rfl) (by decide +kernel) (by decide +kernel) (by unfold noLate; decide) (go_yields w_none (fun w hS => m_fieldAddr Tryz.underlying33 (hi := ti27))) ?_ | refine any_go (i := 0) (by rfl) (by decide +kernel) (by decide +kernel) (by unfold noLate; decide) (go_yields w_none (fun w hS => m_fieldAddr_rd Tryz.underlying33 (hi := ti27) (hS := hS))) ?_ | refine any_go (i := 0) (by rfl) (by decide +kernel) (by decide +kernel) (by unfold noLate; decide) (go_yields w_none (fun w hS => m_fieldAddr_vec Tryz.underlying33 (hi := ti27) (hS := hS))) ?_
      try simp only [opv, n1, n2, n3, n4, Value.cells, Nat.zero_add, Nat.add_zero, List.getElem_toArray, List.getElem_cons_zero, List.getElem_cons_succ]
      refine any_go (i := 1) (by rfl) (by decide +kernel) (by decide +kernel) (by unfold noLate; decide) (go_yields w_none (fun w hS => m_load_obj Tryz.underlying27 (hS := hS) (hv := set_sl (by assumption) _))) ?_
      try simp only [opv, n1, n2, n3, n4, Value.cells, List.getElem_toArray, List.getElem_cons_zero, List.getElem_cons_succ]
      first | refine any_go (i := 2) (by rfl) (by decide +kernel) (by decide +kernel) (by unfold noLate; decide) (go_yields w_none (fun w hS => m_fieldAddr Tryz.underlying33 (hi := ti27))) ?_ | refine any_go (i := 2) (by rfl) (by decide +kernel) (by decide +kernel) (by unfold noLate; decide) (go_yields w_none (fun w hS => m_fieldAddr_rd Tryz.underlying33 (hi := ti27) (hS := hS))) ?_ | refine any_go (i := 2) (by rfl) (by decide +kernel) (by decide +kernel) (by unfold noLate; decide) (go_yields w_none (fun w hS => m_fieldAddr_vec Tryz.underlying33 (hi := ti27) (hS := hS))) ?_
      try simp only [opv, n1, n2, n3, n4, Value.cells, Nat.zero_add, Nat.add_zero, List.getElem_toArray, List.getElem_cons_zero, List.getElem_cons_succ]
      refine any_go (i := 3) (by rfl) (by decide +kernel) (by decide +kernel) (by unfold noLate; decide) (go_yields w_none (fun w hS => m_load_obj Tryz.underlying27 (hS := hS) (hv := set_sl (by assumption) _))) ?_
      try simp only [opv, n1, n2, n3, n4, Value.cells, List.getElem_toArray, List.getElem_cons_zero, List.getElem_cons_succ]
      refine any_go (i := 4) (by rfl) (by decide +kernel) (by decide +kernel) (by unfold noLate; decide) (go_yields w_none (fun w hS => s_move)) ?_
      try simp only [opv, n1, n2, n3, n4, Value.cells]
      first | refine any_go (i := 5) (by rfl) (by decide +kernel) (by decide +kernel) (by unfold noLate; decide) (go_yields w_none (fun w hS => m_indexAddr_rd Tryz.underlying27 ti84 (hS := hS))) ?_ | refine any_go (i := 5) (by rfl) (by decide +kernel) (by decide +kernel) (by unfold noLate; decide) (go_yields w_none (fun w hS => m_indexAddr_vec Tryz.underlying27 ti84 (hS := hS))) ?_
      try simp only [opv, n1, n2, n3, n4, Value.cells, Nat.mul_one, Nat.zero_add, Int.toNat_natCast, Int.reduceToNat]
      first | refine any_go (i := 6) (by rfl) (by decide +kernel) (by decide +kernel) (by unfold noLate; decide) (go_yields w_none (fun w hS => m_load_obj Tryz.underlying84 (hS := hS))) ?_ | refine any_go (i := 6) (by rfl) (by decide +kernel) (by decide +kernel) (by unfold noLate; decide) (go_yields w_none (fun w hS => m_load_bx Tryz.underlying84 (hS := hS))) ?_ | refine any_go (i := 6) (by rfl) (by decide +kernel) (by decide +kernel) (by unfold noLate; decide) (go_yields w_none (fun w hS => m_load_rd Tryz.underlying84 (hS := hS))) ?_ | refine any_go (i := 6) (by rfl) (by decide +kernel) (by decide +kernel) (by unfold noLate; decide) (go_yields w_none (fun w hS => m_load_vec Tryz.underlying84 (hS := hS))) ?_
      try simp only [opv, n1, n2, n3, n4, Value.cells, List.getElem_toArray, List.getElem_cons_zero, List.getElem_cons_succ]
      rw [hy]
      refine any_step [7] (by kernel_rfl) (by decide) (fun w31 hE => ⟨fun _ => (hS.ext hE).sel (by repeat (first | exact Sel.nil | (refine Sel.cons (by repeat (first | exact Del.head | apply Del.tail)) ?_))), ?_⟩)
      replace hS := hS.ext hE
      intro i hi
      simp only [List.mem_cons, List.not_mem_nil, or_false] at hi
      subst hi
      ·
       refine any_op (by rfl) ?_
       refine m_buildRow (cells := #[_]) Tryz.underlying27 ti84 (hc := by simp only [List.map_toArray, List.map_cons, List.map_nil, opv, n1, n2, n3, n4, Value.cells, List.toList_toArray]; (repeat (refine fill_cons rfl rfl (Nat.le_of_ble_eq_true rfl) ?_)); rfl) (hS := hS) (h := fun w32 g32 hS => ?_)
       try simp only [opv, n1, n2, n3, n4, Value.cells, Array.toArray_toList] at hS ⊢
       replace hS := hS.obj_rd (sz := 1) (n := 1) rfl .head
       refine x_nil ?_
       refine any_step [8] (by kernel_rfl) (by decide) (fun w33 hE => ⟨fun _ => (hS.ext hE).sel (by repeat (first | exact Sel.nil | (refine Sel.cons (by repeat (first | exact Del.head | apply Del.tail)) ?_))), ?_⟩)
       replace hS := hS.ext hE
       intro i hi
       simp only [List.mem_cons, List.not_mem_nil, or_false] at hi
       subst hi
       ·
        refine any_op (by rfl) ?_
        refine m_append Tryz.underlying27 ti84 (hS := hS) (news := [y].map (Value.int .u64)) (h := fun w34 A34 C34 hS => ?_)
        try simp only [← List.map_append, ← List.map_drop, ← List.map_take, Nat.mul_one, Nat.zero_mul, Nat.sub_zero, List.drop_zero, List.nil_append, Nat.zero_add] at hS ⊢
        try simp only [opv, n1, n2, n3, n4, Value.cells, Array.toArray_toList] at hS ⊢
        refine x_nil ?_
        first | refine any_go (i := 9) (by rfl) (by decide +kernel) (by decide +kernel) (by unfold noLate; decide) (go_yields w_none (fun w hS => m_fieldAddr Tryz.underlying33 (hi := ti27))) ?_ | refine any_go (i := 9) (by rfl) (by decide +kernel) (by decide +kernel) (by unfold noLate; decide) (go_yields w_none (fun w hS => m_fieldAddr_rd Tryz.underlying33 (hi := ti27) (hS := hS))) ?_ | refine any_go (i := 9) (by rfl) (by decide +kernel) (by decide +kernel) (by unfold noLate; decide) (go_yields w_none (fun w hS => m_fieldAddr_vec Tryz.underlying33 (hi := ti27) (hS := hS))) ?_
        try simp only [opv, n1, n2, n3, n4, Value.cells, Nat.zero_add, Nat.add_zero, List.getElem_toArray, List.getElem_cons_zero, List.getElem_cons_succ]
        refine any_step [10] (by kernel_rfl) (by decide) (fun w35 hE => ⟨fun _ => (hS.ext hE).sel (by repeat (first | exact Sel.nil | (refine Sel.cons (by repeat (first | exact Del.head | apply Del.tail)) ?_))), ?_⟩)
        replace hS := hS.ext hE
        intro i hi
        simp only [List.mem_cons, List.not_mem_nil, or_false] at hi
        subst hi
        ·
         refine any_op (by rfl) ?_
         refine m_store_obj ti27 (hS := hS) (hfit := by rw [setC_size (by assumption)]; omega) (hc := set_put16 (by assumption) _ _) (h := fun w36 hS => ?_)
         try simp only [opv, n1, n2, n3, n4, Value.cells, Array.toArray_toList] at hS ⊢
         refine x_nil ?_
         refine any_nil (by kernel_rfl) (fun w37 hE => ?_)
         replace hS := hS.ext hE
         refine ⟨fun hl => absurd (hl 10 (by decide)) (by decide +kernel), ?_⟩
         refine mix_leaf (by simp only [clob, List.foldl, n1, n2, n3, n4]) ?_
         try simp only [n1, n2]
         rw [show o2.length + 1 = (o2 ++ [y]).length by rw [List.length_append]; rfl] at hS
         exact ⟨_, _, hS.sel (by repeat (first | exact Sel.nil | (refine Sel.cons (by repeat (first | exact Del.head | apply Del.tail)) ?_)))⟩
     intro fm3 w38 hM
     obtain ⟨E2, ec2, hS⟩ := hM
     simp only [clob, List.foldl, n3, n4]
     refine hK12 _ _ ?_
     refine x_region ?_
     refine s_go (s_move) ?_
     try simp only [opv, n1, n2, n3, n4, Value.cells]
     refine s_go (s_add (hc := by first | exact wr_i64 (by omega) (by omega) | rfl)) ?_
     try simp only [opv, n1, n2, n3, n4, Value.cells]
     refine s_go (s_assign) ?_
     try simp only [opv, n1, n2, n3, n4, Value.cells]
     refine x_nil ?_
     refine loop_back (m' := cl.length - (k + 1)) (by simp only [clob, List.foldl, n1, n2, n3, n4]) ?_ ?_
     · try simp only [opv, n1, n2, n3, n4, Value.cells]
       exact ⟨k + 1, _, _, o2 ++ [y], _, by omega, by omega, by rfl, by rfl, hst2, by simp only [List.length_append, List.length_cons, List.length_nil]; omega, hS.sel (by repeat (first | exact Sel.nil | (refine Sel.cons (by repeat (first | exact Del.head | apply Del.tail)) ?_)))⟩
     · omega
   ·
    try simp only [decide_eq_true_eq, decide_eq_false_iff_not, Bool.not_eq_true', Bool.not_eq_false', Int.not_lt, Int.not_le, ne_eq, Decidable.not_not, bne_iff_ne, beq_iff_eq, not_true_eq_false, not_false_eq_true] at hc3
    obtain rfl : k = cl.length := by omega
    rw [List.take_of_length_le (Nat.le_refl _)] at hpo
    have hpi := pI_ins (q : Int) cl []
    rw [hpo] at hpi
    simp only [List.nil_append] at hpi
    refine x_exit (look_here ?_)
    refine hK8 _ _ ?_
    refine x_seq fun K16 hK16 => ?_
    refine x_seq fun K17 hK17 => ?_
    refine x_region ?_
    refine s_go (s_move) ?_
    try simp only [opv, n1, n2, n3, n4, Value.cells]
    refine s_go (s_not) ?_
    try simp only [opv, n1, n2, n3, n4, Value.cells]
    refine x_nil ?_
    refine hK17 _ _ ?_
    refine x_cond (ht := fun hc6 => ?_) (hf := fun hc6 => ?_)
    ·
     try simp only [decide_eq_true_eq, decide_eq_false_iff_not, Bool.not_eq_true', Bool.not_eq_false', Int.not_lt, Int.not_le, ne_eq, Decidable.not_not, bne_iff_ne, beq_iff_eq, not_true_eq_false, not_false_eq_true] at hc6
     obtain rfl : dn = false := by simpa using hc6
     refine x_region ?_
     first | refine s_go (m_fieldAddr Tryz.underlying33 (hi := ti27)) ?_ | refine s_go (m_fieldAddr_rd Tryz.underlying33 (hi := ti27) (hS := hS)) ?_ | refine s_go (m_fieldAddr_vec Tryz.underlying33 (hi := ti27) (hS := hS)) ?_
     try simp only [opv, n1, n2, n3, n4, Value.cells, Nat.zero_add, Nat.add_zero, List.getElem_toArray, List.getElem_cons_zero, List.getElem_cons_succ]
     refine s_go (m_load_obj Tryz.underlying27 (hS := hS) (hv := set_sl (by assumption) _)) ?_
     try simp only [opv, n1, n2, n3, n4, Value.cells, List.getElem_toArray, List.getElem_cons_zero, List.getElem_cons_succ]
     refine s_go (s_move) ?_
     try simp only [opv, n1, n2, n3, n4, Value.cells]
     refine m_buildRow (cells := #[_]) Tryz.underlying27 ti84 (hc := by simp only [List.map_toArray, List.map_cons, List.map_nil, opv, n1, n2, n3, n4, Value.cells, List.toList_toArray]; (repeat (refine fill_cons rfl rfl (Nat.le_of_ble_eq_true rfl) ?_)); rfl) (hS := hS) (h := fun w39 g39 hS => ?_)
     try simp only [opv, n1, n2, n3, n4, Value.cells, Array.toArray_toList] at hS ⊢
     replace hS := hS.obj_rd (sz := 1) (n := 1) rfl .head
     refine m_append Tryz.underlying27 ti84 (hS := hS) (news := [(q : Int)].map (Value.int .u64)) (h := fun w40 A40 C40 hS => ?_)
     try simp only [← List.map_append, ← List.map_drop, ← List.map_take, Nat.mul_one, Nat.zero_mul, Nat.sub_zero, List.drop_zero, List.nil_append, Nat.zero_add] at hS ⊢
     try simp only [opv, n1, n2, n3, n4, Value.cells, Array.toArray_toList] at hS ⊢
     first | refine s_go (m_fieldAddr Tryz.underlying33 (hi := ti27)) ?_ | refine s_go (m_fieldAddr_rd Tryz.underlying33 (hi := ti27) (hS := hS)) ?_ | refine s_go (m_fieldAddr_vec Tryz.underlying33 (hi := ti27) (hS := hS)) ?_
     try simp only [opv, n1, n2, n3, n4, Value.cells, Nat.zero_add, Nat.add_zero, List.getElem_toArray, List.getElem_cons_zero, List.getElem_cons_succ]
     refine m_store_obj ti27 (hS := hS) (hfit := by rw [setC_size (by assumption)]; omega) (hc := set_put16 (by assumption) _ _) (h := fun w41 hS => ?_)
     try simp only [opv, n1, n2, n3, n4, Value.cells, Array.toArray_toList] at hS ⊢
     refine x_nil ?_
     refine hK16 _ _ ?_
     refine x_seq fun K18 hK18 => ?_
     refine x_region ?_
     refine s_go (m_load_row Tryz.underlying33 (hi := ti33) (hS := hS) (hfit := by rw [setC_size (by assumption)])) ?_
     try simp only [opv, n1, n2, n3, n4, Value.cells, List.getElem_toArray, List.getElem_cons_zero, List.getElem_cons_succ]
     refine m_store_obj ti33 (hS := hS) (hv := setC_size (by assumption) _) (h1 := set_one _ _ _ _) (hfit := by rw [setC_size (by assumption)]; omega) (hc := set_whole (by assumption) (by assumption) _ _) (h := fun w42 hS => ?_)
     try simp only [opv, n1, n2, n3, n4, Value.cells, Array.toArray_toList] at hS ⊢
     refine x_nil ?_
     refine hK18 _ _ ?_
     refine x_ret ?_
     refine r_cell_agg rfl Tryz.underlying33 ti33 (hS := hS) (hfit := by rw [setC_size (by assumption)]) (hR := ?_)
     first
     | (rw [hpe]; exact ⟨_, _, rfl, uback_self hS.ext_of (hS.hasRd (by repeat (first | exact Has.head | apply Has.tail))) rfl⟩)
     | (rw [hpe, ← hpi, if_neg (by decide), show o.length + 1 = (o ++ [(q : Int)]).length by rw [List.length_append]; rfl]; rw [show o.length + 1 = (o ++ [(q : Int)]).length by rw [List.length_append]; rfl] at hS; exact ⟨_, _, rfl, uback_vec hS (by repeat (first | exact Has.head | apply Has.tail))⟩)
     | (rw [hpe, ← hpi, if_pos rfl]; exact ⟨_, _, rfl, uback_vec hS (by repeat (first | exact Has.head | apply Has.tail))⟩)
    ·
     try simp only [decide_eq_true_eq, decide_eq_false_iff_not, Bool.not_eq_true', Bool.not_eq_false', Int.not_lt, Int.not_le, ne_eq, Decidable.not_not, bne_iff_ne, beq_iff_eq, not_true_eq_false, not_false_eq_true] at hc6
     obtain rfl : dn = true := by simpa using hc6
     refine x_skip ?_
     refine hK16 _ _ ?_
     refine x_seq fun K19 hK19 => ?_
     refine x_region ?_
     refine s_go (m_load_row Tryz.underlying33 (hi := ti33) (hS := hS) (hfit := by rw [setC_size (by assumption)])) ?_
     try simp only [opv, n1, n2, n3, n4, Value.cells, List.getElem_toArray, List.getElem_cons_zero, List.getElem_cons_succ]
     refine m_store_obj ti33 (hS := hS) (hv := setC_size (by assumption) _) (h1 := set_one _ _ _ _) (hfit := by rw [setC_size (by assumption)]; omega) (hc := set_whole (by assumption) (by assumption) _ _) (h := fun w43 hS => ?_)
     try simp only [opv, n1, n2, n3, n4, Value.cells, Array.toArray_toList] at hS ⊢
     refine x_nil ?_
     refine hK19 _ _ ?_
     refine x_ret ?_
     refine r_cell_agg rfl Tryz.underlying33 ti33 (hS := hS) (hfit := by rw [setC_size (by assumption)]) (hR := ?_)
     first
     | (rw [hpe]; exact ⟨_, _, rfl, uback_self hS.ext_of (hS.hasRd (by repeat (first | exact Has.head | apply Has.tail))) rfl⟩)
     | (rw [hpe, ← hpi, if_neg (by decide), show o.length + 1 = (o ++ [(q : Int)]).length by rw [List.length_append]; rfl]; rw [show o.length + 1 = (o ++ [(q : Int)]).length by rw [List.length_append]; rfl] at hS; exact ⟨_, _, rfl, uback_vec hS (by repeat (first | exact Has.head | apply Has.tail))⟩)
     | (rw [hpe, ← hpi, if_pos rfl]; exact ⟨_, _, rfl, uback_vec hS (by repeat (first | exact Has.head | apply Has.tail))⟩)
theorem c_ref13settle (w0 : World) (x : List Int) (hx : VOk x) (A : Option Addr) (c : Nat) (cl : List Int) (hr : Rd w0 A 1 cl.length (List.map (Value.int .u64) cl)) (hu : U64s cl) (hn : cl.length ≤ 4000000000) (hP : PreS x cl)  :
    CallR Tryz.prog 56 #[.agg (SetC x (.slice A cl.length c))] w0 fun v w' => ∃ (D : Option Addr) (e : Nat), v = .agg (SetC (addS x cl).1 (.slice D (addS x cl).2.length e)) ∧ St NoB w0 w' [.vec D e 84 1 (addS x cl).2.length (List.map (Value.int .u64) (addS x cl).2)] := by
 have hS := St.rd1 (S := NoB) hr
 have hxl := hx.len
 have h0l : (List.replicate 16 (0 : Int)).length = 16 := rfl
 refine c_enter (l := [.agg (SetC x (.slice A cl.length c)), undef, undef, undef, undef, undef, undef, undef, undef, undef, undef, undef, undef, undef, undef, undef, undef, undef, undef, undef, undef, undef, undef, undef, undef, undef, undef, undef, undef, undef, undef, undef, undef, undef, undef, undef, undef, undef, undef, undef, undef, undef, undef, undef, undef, undef, undef, undef, undef, undef, undef, undef, undef, undef, undef, undef, undef, undef, undef, undef, undef, undef, undef, undef]) Tryz.func56 rfl (by simp only [Tryz.ntmps56, List.size_toArray, List.length_cons, List.length_nil, Nat.reduceAdd, Nat.reduceSub, Array.replicate_succ, Array.replicate_zero, List.push_toArray, List.append_toArray, List.nil_append, List.cons_append]) ?_
 refine x_seq fun K1 hK1 => ?_
 refine x_region ?_
 refine m_box hS (fun w1 g1 hS => ?_)
 try simp only [opv, n1, n2, n3, n4, Value.cells, Array.toArray_toList] at hS ⊢
 obtain ⟨gba, hgba⟩ : ∃ z, z = g1 := ⟨_, rfl⟩
 rw [← hgba] at hS ⊢
 refine m_alloc ti33 hS (fun w2 g2 hS => ?_)
 try simp only [opv, n1, n2, n3, n4, Value.cells, Array.toArray_toList] at hS ⊢
 replace hS : St NoB w0 w2 (.obj g2 (.cells (SetC (List.replicate 16 0) (.slice none 0 0)) 33 (0, 0)) :: _) := hS
 obtain ⟨gbr, hgbr⟩ : ∃ z, z = g2 := ⟨_, rfl⟩
 rw [← hgbr] at hS ⊢
 refine x_nil ?_
 refine hK1 _ _ ?_
 refine x_block ?_
 refine x_loop [3, 4, 5, 6, 7, 8, 9, 10, 11, 12, 13, 14, 15, 16, 17, 18, 19, 20, 21, 22, 23, 24, 25, 26, 27, 28, 29, 30, 31, 32, 33, 34, 35, 36, 37, 38, 39, 40, 41, 42, 43, 44, 45, 46, 47, 48, 49, 50, 51, 52, 53, 54, 55, 56, 57, 58, 59, 60, 61, 62, 63] (fun m f w => ∃ (x2 cl2 : List Int) (A2 : Option Addr) (ca : Nat), PreS x2 cl2 ∧ (∀ y, HasD x2 cl2 y ↔ HasD x cl y) ∧ cl2.length ≤ cl.length ∧ m = cl2.length ∧ St NoB w0 w [.obj gbr (.cells (SetC (List.replicate 16 0) (.slice none 0 0)) 33 (0, 0)), .obj gba (.cells (SetC x2 (.slice A2 cl2.length ca)) 33 (0, 0)), .rd A2 1 cl2.length (List.map (Value.int .u64) cl2)]) (cl.length) ?init1 (fun m1 f1 wl1 hI => ?_)
 case init1 =>
  try simp only [opv, n1, n2, n3, n4, Value.cells]
  exact ⟨x, cl, A, c, hP, (fun y => Iff.rfl), Nat.le_refl _, rfl, hS.sel (by repeat (first | exact Sel.nil | (refine Sel.cons (by repeat (first | exact Del.head | apply Del.tail)) ?_)))⟩
 obtain ⟨x2, cl2, A2, ca, hP2, hh2, hcl2, hm, hS⟩ := hI
 simp only [clob, List.foldl, n3, n4]
 have hx2 := hP2.vok
 have hx2l := hx2.len
 have hu2 := pre_u64 hP2
 refine x_block ?_
 refine x_seq fun K2 hK2 => ?_
 refine x_region ?_
 first | refine s_go (m_fieldAddr Tryz.underlying33 (hi := ti25)) ?_ | refine s_go (m_fieldAddr_rd Tryz.underlying33 (hi := ti25) (hS := hS)) ?_ | refine s_go (m_fieldAddr_vec Tryz.underlying33 (hi := ti25) (hS := hS)) ?_
 try simp only [opv, n1, n2, n3, n4, Value.cells, Nat.zero_add, Nat.add_zero, List.getElem_toArray, List.getElem_cons_zero, List.getElem_cons_succ]
 refine s_go (m_loada_obj Tryz.underlying25 (hi := ti25) (hS := hS) (hfit := by rw [setC_size (by assumption)]; decide)) ?_
 try simp only [opv, n1, n2, n3, n4, Value.cells, List.getElem_toArray, List.getElem_cons_zero, List.getElem_cons_succ]
 rw [set_flo (by assumption)]
 refine s_go (s_build_struct (cells := (SetC x2 (.slice none 0 0))) Tryz.underlying33 ti33 bp33 (hc := by simp only [List.map_toArray, List.map_cons, List.map_nil, opv, n1, n2, n3, n4, Value.cells, List.toList_toArray]; exact fill_set (by rfl) hx2l)) ?_
 try simp only [opv, n1, n2, n3, n4, Value.cells]
 refine m_alloc ti33 hS (fun w3 g3 hS => ?_)
 try simp only [opv, n1, n2, n3, n4, Value.cells, Array.toArray_toList] at hS ⊢
 replace hS : St NoB w0 w3 (.obj g3 (.cells (SetC (List.replicate 16 0) (.slice none 0 0)) 33 (0, 0)) :: _) := hS
 obtain ⟨gbo, hgbo⟩ : ∃ z, z = g3 := ⟨_, rfl⟩
 rw [← hgbo] at hS ⊢
 refine m_store_obj ti33 (hS := hS) (hv := setC_size (by assumption) _) (h1 := set_one _ _ _ _) (hfit := by rw [setC_size (by assumption)]; omega) (hc := set_whole (by assumption) (by assumption) _ _) (h := fun w4 hS => ?_)
 try simp only [opv, n1, n2, n3, n4, Value.cells, Array.toArray_toList] at hS ⊢
 refine x_nil ?_
 refine hK2 _ _ ?_
 refine x_seq fun K3 hK3 => ?_
 refine x_seq fun K4 hK4 => ?_
 refine x_region ?_
 refine s_go (s_assign) ?_
 try simp only [opv, n1, n2, n3, n4, Value.cells]
 refine x_nil ?_
 refine hK4 _ _ ?_
 refine x_block ?_
 refine x_loop [4, 5, 6, 7, 11, 12, 13, 14, 15, 16, 17, 18, 19, 20, 21, 22, 23, 24, 25, 26, 27, 28, 29, 30, 31, 32, 33, 34, 35, 36, 37, 38, 39, 40, 41, 42, 43, 44, 45, 46, 47, 48, 49, 50, 51, 52, 53, 54] (fun m f w => ∃ (k : Nat) (E : Option Addr) (ec : Nat), k ≤ cl2.length ∧ m = cl2.length - k ∧ f 4 = .int .i64 (k : Int) ∧ St NoB w0 w [.obj gbo (.cells (SetC ((cl2.take k).foldl setD (x2, [])).1 (.slice E ((cl2.take k).foldl setD (x2, [])).2.length ec)) 33 (0, 0)), .vec E ec 84 1 ((cl2.take k).foldl setD (x2, [])).2.length (List.map (Value.int .u64) ((cl2.take k).foldl setD (x2, [])).2), .obj gbr (.cells (SetC (List.replicate 16 0) (.slice none 0 0)) 33 (0, 0)), .obj gba (.cells (SetC x2 (.slice A2 cl2.length ca)) 33 (0, 0)), .rd A2 1 cl2.length (List.map (Value.int .u64) cl2)]) (cl2.length) ?init2 (fun m2 f2 wl2 hI => ?_)
 case init2 =>
  try simp only [opv, n1, n2, n3, n4, Value.cells]
  replace hS := hS.nil_vec 84 1
  exact ⟨0, none, 0, by omega, rfl, rfl, hS.sel (by repeat (first | exact Sel.nil | (refine Sel.cons (by repeat (first | exact Del.head | apply Del.tail)) ?_)))⟩
 obtain ⟨k, E, ec, hk, hmk, h4, hS⟩ := hI
 simp only [clob, List.foldl, n3, n4, h4]
 obtain ⟨p, hp⟩ : ∃ p, ((cl2.take k).foldl setD (x2, [])) = p := ⟨_, rfl⟩
 rw [hp] at hS
 have hpv : VOk p.1 := by rw [← hp]; exact setD_vok hx2 (fun d hd => hP2.may d (List.mem_of_mem_take hd))
 have hpl := hpv.len
 have hpn := set_len (cl2.take k) (x2, [])
 rw [hp, List.length_take] at hpn
 simp only [List.length_nil] at hpn
 refine x_seq fun K5 hK5 => ?_
 refine x_seq fun K6 hK6 => ?_
 refine x_region ?_
 refine s_go (s_move) ?_
 try simp only [opv, n1, n2, n3, n4, Value.cells]
 first | refine s_go (m_fieldAddr Tryz.underlying33 (hi := ti27)) ?_ | refine s_go (m_fieldAddr_rd Tryz.underlying33 (hi := ti27) (hS := hS)) ?_ | refine s_go (m_fieldAddr_vec Tryz.underlying33 (hi := ti27) (hS := hS)) ?_
 try simp only [opv, n1, n2, n3, n4, Value.cells, Nat.zero_add, Nat.add_zero, List.getElem_toArray, List.getElem_cons_zero, List.getElem_cons_succ]
 refine s_go (m_load_obj Tryz.underlying27 (hS := hS) (hv := set_sl (by assumption) _)) ?_
 try simp only [opv, n1, n2, n3, n4, Value.cells, List.getElem_toArray, List.getElem_cons_zero, List.getElem_cons_succ]
 refine s_go (s_len_sl Tryz.underlying27) ?_
 try simp only [opv, n1, n2, n3, n4, Value.cells]
 refine s_go (s_lss) ?_
 try simp only [opv, n1, n2, n3, n4, Value.cells]
 refine x_nil ?_
 refine hK6 _ _ ?_
 refine x_cond (ht := fun hc1 => ?_) (hf := fun hc1 => ?_)
 ·
  try simp only [decide_eq_true_eq, decide_eq_false_iff_not, Bool.not_eq_true', Bool.not_eq_false', Int.not_lt, Int.not_le, ne_eq, Decidable.not_not, bne_iff_ne, beq_iff_eq, not_true_eq_false, not_false_eq_true] at hc1
  have hmd := hP2.may _ (getD_mem' (l := cl2) (k := k) (d := 0) (by omega))
  have hxr := may_u64 hmd
  obtain ⟨q, hq⟩ : ∃ q : Nat, cl2.getD k 0 = (q : Int) := ⟨(cl2.getD k 0).toNat, by omega⟩
  have hft := foldl_take (f := setD) (a := (x2, ([] : List Int))) (l := cl2) (k := k) (by omega)
  rw [hq] at hmd hxr hft
  rw [hp] at hft
  obtain ⟨r, hr0⟩ : ∃ r, r = q / 4294967296 := ⟨_, rfl⟩
  obtain ⟨s, hs0⟩ : ∃ s, s = q % 4294967296 := ⟨_, rfl⟩
  have hdn := may_nat.1 hmd
  rw [← hr0, ← hs0] at hdn
  have hqs : (q : Int) % 4294967296 = (s : Int) := by omega
  have hfq : flo p.1 (q : Int) = p.1.getD r 0 := by rw [flo, dR_nat, hr0]
  have hdr : dR (q : Int) = r := by rw [dR_nat, hr0]
  have hpr := hpv.nat r
  refine x_skip ?_
  refine hK5 _ _ ?_
  refine x_seq fun K7 hK7 => ?_
  refine x_block ?_
  refine x_seq fun K8 hK8 => ?_
  refine x_region ?_
  first | refine s_go (m_fieldAddr Tryz.underlying33 (hi := ti27)) ?_ | refine s_go (m_fieldAddr_rd Tryz.underlying33 (hi := ti27) (hS := hS)) ?_ | refine s_go (m_fieldAddr_vec Tryz.underlying33 (hi := ti27) (hS := hS)) ?_
  try simp only [opv, n1, n2, n3, n4, Value.cells, Nat.zero_add, Nat.add_zero, List.getElem_toArray, List.getElem_cons_zero, List.getElem_cons_succ]
  refine s_go (m_load_obj Tryz.underlying27 (hS := hS) (hv := set_sl (by assumption) _)) ?_
  try simp only [opv, n1, n2, n3, n4, Value.cells, List.getElem_toArray, List.getElem_cons_zero, List.getElem_cons_succ]
  refine s_go (s_move) ?_
  try simp only [opv, n1, n2, n3, n4, Value.cells]
  first | refine s_go (m_indexAddr_rd Tryz.underlying27 ti84 (hS := hS)) ?_ | refine s_go (m_indexAddr_vec Tryz.underlying27 ti84 (hS := hS)) ?_
  try simp only [opv, n1, n2, n3, n4, Value.cells, Nat.mul_one, Nat.zero_add, Int.toNat_natCast, Int.reduceToNat]
  first | refine s_go (m_load_obj Tryz.underlying84 (hS := hS)) ?_ | refine s_go (m_load_bx Tryz.underlying84 (hS := hS)) ?_ | refine s_go (m_load_rd Tryz.underlying84 (hS := hS)) ?_ | refine s_go (m_load_vec Tryz.underlying84 (hS := hS)) ?_
  try simp only [opv, n1, n2, n3, n4, Value.cells, List.getElem_toArray, List.getElem_cons_zero, List.getElem_cons_succ]
  rw [hq]
  refine s_go (s_assign) ?_
  try simp only [opv, n1, n2, n3, n4, Value.cells]
  refine x_nil ?_
  refine hK8 _ _ ?_
  refine x_seq fun K9 hK9 => ?_
  refine x_region ?_
  refine s_go (s_move) ?_
  try simp only [opv, n1, n2, n3, n4, Value.cells]
  refine s_go (s_quo (hc := quo_u64 (p := 4294967296) (by omega))) ?_
  try simp only [opv, n1, n2, n3, n4, Value.cells]
  rw [← hr0]
  refine s_go (s_move) ?_
  try simp only [opv, n1, n2, n3, n4, Value.cells]
  refine s_go (s_rem (hc := rem_nat (p := 4294967296))) ?_
  try simp only [opv, n1, n2, n3, n4, Value.cells]
  rw [← hs0]
  refine s_go (s_assign) ?_
  try simp only [opv, n1, n2, n3, n4, Value.cells]
  refine s_go (s_assign) ?_
  try simp only [opv, n1, n2, n3, n4, Value.cells]
  refine x_nil ?_
  refine hK9 _ _ ?_
  refine x_block ?_
  refine x_seq fun K10 hK10 => ?_
  refine x_region ?_
  refine s_go (s_move) ?_
  try simp only [opv, n1, n2, n3, n4, Value.cells]
  refine s_go (s_move) ?_
  try simp only [opv, n1, n2, n3, n4, Value.cells]
  first | refine s_go (m_fieldAddr Tryz.underlying33 (hi := ti25)) ?_ | refine s_go (m_fieldAddr_rd Tryz.underlying33 (hi := ti25) (hS := hS)) ?_ | refine s_go (m_fieldAddr_vec Tryz.underlying33 (hi := ti25) (hS := hS)) ?_
  try simp only [opv, n1, n2, n3, n4, Value.cells, Nat.zero_add, Nat.add_zero, List.getElem_toArray, List.getElem_cons_zero, List.getElem_cons_succ]
  refine s_go (m_indexAddr_arr Tryz.underlying25 ti24) ?_
  try simp only [opv, n1, n2, n3, n4, Value.cells, Nat.mul_one, Nat.zero_add, Int.toNat_natCast, Int.reduceToNat]
  refine s_go (m_load_obj Tryz.underlying24 (hS := hS) (hv := set_at hpl _ (by omega))) ?_
  try simp only [opv, n1, n2, n3, n4, Value.cells, List.getElem_toArray, List.getElem_cons_zero, List.getElem_cons_succ]
  refine s_go (s_conv Tryz.underlying24 Tryz.underlying84 (hc := wr_u64 (by omega) (by omega))) ?_
  try simp only [opv, n1, n2, n3, n4, Value.cells]
  refine s_go (s_leq) ?_
  try simp only [opv, n1, n2, n3, n4, Value.cells]
  refine s_go (s_assign) ?_
  try simp only [opv, n1, n2, n3, n4, Value.cells]
  refine x_nil ?_
  refine hK10 _ _ ?_
  refine x_cond (ht := fun hc2 => ?_) (hf := fun hc2 => ?_)
  ·
   try simp only [decide_eq_true_eq, decide_eq_false_iff_not, Bool.not_eq_true', Bool.not_eq_false', Int.not_lt, Int.not_le, ne_eq, Decidable.not_not, bne_iff_ne, beq_iff_eq, not_true_eq_false, not_false_eq_true] at hc2
   have hst := hft.trans (if_pos (by rw [hqs, hfq]; exact hc2))
   refine x_skip ?_
   refine hK7 _ _ ?_
   refine x_region ?_
   refine s_go (s_move) ?_
   try simp only [opv, n1, n2, n3, n4, Value.cells]
   refine s_go (s_add (hc := by first | exact wr_i64 (by omega) (by omega) | rfl)) ?_
   try simp only [opv, n1, n2, n3, n4, Value.cells]
   refine s_go (s_assign) ?_
   try simp only [opv, n1, n2, n3, n4, Value.cells]
   refine x_nil ?_
   refine loop_back (m' := cl2.length - (k + 1)) (by simp only [clob, List.foldl, n1, n2, n3, n4]) ?_ ?_
   · try simp only [opv, n1, n2, n3, n4, Value.cells]
     first
     | exact ⟨k + 1, _, _, by omega, by omega, by rfl, by rw [hst]; exact hS.sel (by repeat (first | exact Sel.nil | (refine Sel.cons (by repeat (first | exact Del.head | apply Del.tail)) ?_)))⟩
     | exact ⟨k + 1, _, _, by omega, by omega, by rfl, by rw [hst]; simp only [List.length_append, List.length_cons, List.length_nil, Nat.zero_add]; exact hS.sel (by repeat (first | exact Sel.nil | (refine Sel.cons (by repeat (first | exact Del.head | apply Del.tail)) ?_)))⟩
   · omega
  ·
   try simp only [decide_eq_true_eq, decide_eq_false_iff_not, Bool.not_eq_true', Bool.not_eq_false', Int.not_lt, Int.not_le, ne_eq, Decidable.not_not, bne_iff_ne, beq_iff_eq, not_true_eq_false, not_false_eq_true] at hc2
   refine x_seq fun K11 hK11 => ?_
   refine x_region ?_
   refine s_go (s_move) ?_
   try simp only [opv, n1, n2, n3, n4, Value.cells]
   refine s_go (s_move) ?_
   try simp only [opv, n1, n2, n3, n4, Value.cells]
   first | refine s_go (m_fieldAddr Tryz.underlying33 (hi := ti25)) ?_ | refine s_go (m_fieldAddr_rd Tryz.underlying33 (hi := ti25) (hS := hS)) ?_ | refine s_go (m_fieldAddr_vec Tryz.underlying33 (hi := ti25) (hS := hS)) ?_
   try simp only [opv, n1, n2, n3, n4, Value.cells, Nat.zero_add, Nat.add_zero, List.getElem_toArray, List.getElem_cons_zero, List.getElem_cons_succ]
   refine s_go (m_indexAddr_arr Tryz.underlying25 ti24) ?_
   try simp only [opv, n1, n2, n3, n4, Value.cells, Nat.mul_one, Nat.zero_add, Int.toNat_natCast, Int.reduceToNat]
   refine s_go (m_load_obj Tryz.underlying24 (hS := hS) (hv := set_at hpl _ (by omega))) ?_
   try simp only [opv, n1, n2, n3, n4, Value.cells, List.getElem_toArray, List.getElem_cons_zero, List.getElem_cons_succ]
   refine s_go (s_conv Tryz.underlying24 Tryz.underlying84 (hc := wr_u64 (by omega) (by omega))) ?_
   try simp only [opv, n1, n2, n3, n4, Value.cells]
   refine s_go (s_add (hc := wr_u64 (by omega) (by omega))) ?_
   try simp only [opv, n1, n2, n3, n4, Value.cells]
   refine s_go (s_eql) ?_
   try simp only [opv, n1, n2, n3, n4, Value.cells]
   refine s_go (s_assign) ?_
   try simp only [opv, n1, n2, n3, n4, Value.cells]
   refine x_nil ?_
   refine hK11 _ _ ?_
   refine x_cond (ht := fun hc3 => ?_) (hf := fun hc3 => ?_)
   ·
    try simp only [decide_eq_true_eq, decide_eq_false_iff_not, Bool.not_eq_true', Bool.not_eq_false', Int.not_lt, Int.not_le, ne_eq, Decidable.not_not, bne_iff_ne, beq_iff_eq, not_true_eq_false, not_false_eq_true] at hc3
    have hst := hft.trans ((if_neg (by rw [hqs, hfq]; omega)).trans (if_pos (by rw [hqs, hfq]; exact hc3)))
    rw [hqs, hdr] at hst
    refine x_region ?_
    refine s_go (s_move) ?_
    try simp only [opv, n1, n2, n3, n4, Value.cells]
    refine s_go (s_move) ?_
    try simp only [opv, n1, n2, n3, n4, Value.cells]
    refine s_go (s_conv Tryz.underlying84 Tryz.underlying24 (hc := cv_u32 (Nat.mod_eq_of_lt (by omega)))) ?_
    try simp only [opv, n1, n2, n3, n4, Value.cells]
    first | refine s_go (m_fieldAddr Tryz.underlying33 (hi := ti25)) ?_ | refine s_go (m_fieldAddr_rd Tryz.underlying33 (hi := ti25) (hS := hS)) ?_ | refine s_go (m_fieldAddr_vec Tryz.underlying33 (hi := ti25) (hS := hS)) ?_
    try simp only [opv, n1, n2, n3, n4, Value.cells, Nat.zero_add, Nat.add_zero, List.getElem_toArray, List.getElem_cons_zero, List.getElem_cons_succ]
    refine s_go (m_indexAddr_arr Tryz.underlying25 ti24) ?_
    try simp only [opv, n1, n2, n3, n4, Value.cells, Nat.mul_one, Nat.zero_add, Int.toNat_natCast, Int.reduceToNat]
    refine m_store_obj ti24 (hS := hS) (hfit := by rw [setC_size (by assumption)]; omega) (hc := set_put hpl _ (by omega) _) (h := fun w5 hS => ?_)
    try simp only [opv, n1, n2, n3, n4, Value.cells, Array.toArray_toList] at hS ⊢
    refine x_nil ?_
    refine hK7 _ _ ?_
    refine x_region ?_
    refine s_go (s_move) ?_
    try simp only [opv, n1, n2, n3, n4, Value.cells]
    refine s_go (s_add (hc := by first | exact wr_i64 (by omega) (by omega) | rfl)) ?_
    try simp only [opv, n1, n2, n3, n4, Value.cells]
    refine s_go (s_assign) ?_
    try simp only [opv, n1, n2, n3, n4, Value.cells]
    refine x_nil ?_
    refine loop_back (m' := cl2.length - (k + 1)) (by simp only [clob, List.foldl, n1, n2, n3, n4]) ?_ ?_
    · try simp only [opv, n1, n2, n3, n4, Value.cells]
      first
      | exact ⟨k + 1, _, _, by omega, by omega, by rfl, by rw [hst]; exact hS.sel (by repeat (first | exact Sel.nil | (refine Sel.cons (by repeat (first | exact Del.head | apply Del.tail)) ?_)))⟩
      | exact ⟨k + 1, _, _, by omega, by omega, by rfl, by rw [hst]; simp only [List.length_append, List.length_cons, List.length_nil, Nat.zero_add]; exact hS.sel (by repeat (first | exact Sel.nil | (refine Sel.cons (by repeat (first | exact Del.head | apply Del.tail)) ?_)))⟩
    · omega
   ·
    try simp only [decide_eq_true_eq, decide_eq_false_iff_not, Bool.not_eq_true', Bool.not_eq_false', Int.not_lt, Int.not_le, ne_eq, Decidable.not_not, bne_iff_ne, beq_iff_eq, not_true_eq_false, not_false_eq_true] at hc3
    have hst := hft.trans ((if_neg (by rw [hqs, hfq]; omega)).trans (if_neg (by rw [hqs, hfq]; exact hc3)))
    refine x_region ?_
    first | refine s_go (m_fieldAddr Tryz.underlying33 (hi := ti27)) ?_ | refine s_go (m_fieldAddr_rd Tryz.underlying33 (hi := ti27) (hS := hS)) ?_ | refine s_go (m_fieldAddr_vec Tryz.underlying33 (hi := ti27) (hS := hS)) ?_
    try simp only [opv, n1, n2, n3, n4, Value.cells, Nat.zero_add, Nat.add_zero, List.getElem_toArray, List.getElem_cons_zero, List.getElem_cons_succ]
    refine s_go (m_load_obj Tryz.underlying27 (hS := hS) (hv := set_sl (by assumption) _)) ?_
    try simp only [opv, n1, n2, n3, n4, Value.cells, List.getElem_toArray, List.getElem_cons_zero, List.getElem_cons_succ]
    refine s_go (s_move) ?_
    try simp only [opv, n1, n2, n3, n4, Value.cells]
    refine m_buildRow (cells := #[_]) Tryz.underlying27 ti84 (hc := by simp only [List.map_toArray, List.map_cons, List.map_nil, opv, n1, n2, n3, n4, Value.cells, List.toList_toArray]; (repeat (refine fill_cons rfl rfl (Nat.le_of_ble_eq_true rfl) ?_)); rfl) (hS := hS) (h := fun w6 g6 hS => ?_)
    try simp only [opv, n1, n2, n3, n4, Value.cells, Array.toArray_toList] at hS ⊢
    replace hS := hS.obj_rd (sz := 1) (n := 1) rfl .head
    refine m_append Tryz.underlying27 ti84 (hS := hS) (news := [(q : Int)].map (Value.int .u64)) (h := fun w7 A7 C7 hS => ?_)
    try simp only [← List.map_append, ← List.map_drop, ← List.map_take, Nat.mul_one, Nat.zero_mul, Nat.sub_zero, List.drop_zero, List.nil_append, Nat.zero_add] at hS ⊢
    try simp only [opv, n1, n2, n3, n4, Value.cells, Array.toArray_toList] at hS ⊢
    first | refine s_go (m_fieldAddr Tryz.underlying33 (hi := ti27)) ?_ | refine s_go (m_fieldAddr_rd Tryz.underlying33 (hi := ti27) (hS := hS)) ?_ | refine s_go (m_fieldAddr_vec Tryz.underlying33 (hi := ti27) (hS := hS)) ?_
    try simp only [opv, n1, n2, n3, n4, Value.cells, Nat.zero_add, Nat.add_zero, List.getElem_toArray, List.getElem_cons_zero, List.getElem_cons_succ]
    refine m_store_obj ti27 (hS := hS) (hfit := by rw [setC_size (by assumption)]; omega) (hc := set_put16 (by assumption) _ _) (h := fun w8 hS => ?_)
    try simp only [opv, n1, n2, n3, n4, Value.cells, Array.toArray_toList] at hS ⊢
    refine x_nil ?_
    refine hK7 _ _ ?_
    refine x_region ?_
    refine s_go (s_move) ?_
    try simp only [opv, n1, n2, n3, n4, Value.cells]
    refine s_go (s_add (hc := by first | exact wr_i64 (by omega) (by omega) | rfl)) ?_
    try simp only [opv, n1, n2, n3, n4, Value.cells]
    refine s_go (s_assign) ?_
    try simp only [opv, n1, n2, n3, n4, Value.cells]
    refine x_nil ?_
    refine loop_back (m' := cl2.length - (k + 1)) (by simp only [clob, List.foldl, n1, n2, n3, n4]) ?_ ?_
    · try simp only [opv, n1, n2, n3, n4, Value.cells]
      first
      | exact ⟨k + 1, _, _, by omega, by omega, by rfl, by rw [hst]; exact hS.sel (by repeat (first | exact Sel.nil | (refine Sel.cons (by repeat (first | exact Del.head | apply Del.tail)) ?_)))⟩
      | exact ⟨k + 1, _, _, by omega, by omega, by rfl, by rw [hst]; simp only [List.length_append, List.length_cons, List.length_nil, Nat.zero_add]; exact hS.sel (by repeat (first | exact Sel.nil | (refine Sel.cons (by repeat (first | exact Del.head | apply Del.tail)) ?_)))⟩
    · omega
 ·
  try simp only [decide_eq_true_eq, decide_eq_false_iff_not, Bool.not_eq_true', Bool.not_eq_false', Int.not_lt, Int.not_le, ne_eq, Decidable.not_not, bne_iff_ne, beq_iff_eq, not_true_eq_false, not_false_eq_true] at hc1
  obtain rfl : k = cl2.length := by omega
  rw [List.take_of_length_le (Nat.le_refl _)] at hp
  have hsp := set_pre (l := cl2) (v := x2) (o := []) (by rw [List.nil_append]; exact hP2)
  rw [hp, List.nil_append] at hsp
  refine x_exit (look_here ?_)
  refine hK3 _ _ ?_
  refine x_seq fun K12 hK12 => ?_
  refine x_seq fun K13 hK13 => ?_
  refine x_region ?_
  first | refine s_go (m_fieldAddr Tryz.underlying33 (hi := ti27)) ?_ | refine s_go (m_fieldAddr_rd Tryz.underlying33 (hi := ti27) (hS := hS)) ?_ | refine s_go (m_fieldAddr_vec Tryz.underlying33 (hi := ti27) (hS := hS)) ?_
  try simp only [opv, n1, n2, n3, n4, Value.cells, Nat.zero_add, Nat.add_zero, List.getElem_toArray, List.getElem_cons_zero, List.getElem_cons_succ]
  refine s_go (m_load_obj Tryz.underlying27 (hS := hS) (hv := set_sl (by assumption) _)) ?_
  try simp only [opv, n1, n2, n3, n4, Value.cells, List.getElem_toArray, List.getElem_cons_zero, List.getElem_cons_succ]
  refine s_go (s_len_sl Tryz.underlying27) ?_
  try simp only [opv, n1, n2, n3, n4, Value.cells]
  first | refine s_go (m_fieldAddr Tryz.underlying33 (hi := ti27)) ?_ | refine s_go (m_fieldAddr_rd Tryz.underlying33 (hi := ti27) (hS := hS)) ?_ | refine s_go (m_fieldAddr_vec Tryz.underlying33 (hi := ti27) (hS := hS)) ?_
  try simp only [opv, n1, n2, n3, n4, Value.cells, Nat.zero_add, Nat.add_zero, List.getElem_toArray, List.getElem_cons_zero, List.getElem_cons_succ]
  refine s_go (m_load_obj Tryz.underlying27 (hS := hS) (hv := set_sl (by assumption) _)) ?_
  try simp only [opv, n1, n2, n3, n4, Value.cells, List.getElem_toArray, List.getElem_cons_zero, List.getElem_cons_succ]
  refine s_go (s_len_sl Tryz.underlying27) ?_
  try simp only [opv, n1, n2, n3, n4, Value.cells]
  refine s_go (s_eql) ?_
  try simp only [opv, n1, n2, n3, n4, Value.cells]
  refine x_nil ?_
  refine hK13 _ _ ?_
  refine x_cond (ht := fun hc4 => ?_) (hf := fun hc4 => ?_)
  ·
   try simp only [decide_eq_true_eq, decide_eq_false_iff_not, Bool.not_eq_true', Bool.not_eq_false', Int.not_lt, Int.not_le, ne_eq, Decidable.not_not, bne_iff_ne, beq_iff_eq, not_true_eq_false, not_false_eq_true] at hc4
   have hend := settle_end hx hP2 hh2 (by rw [hp]; omega)
   rw [hp] at hend
   refine x_seq fun K14 hK14 => ?_
   refine x_region ?_
   refine s_go (m_load_row Tryz.underlying33 (hi := ti33) (hS := hS) (hfit := by rw [setC_size (by assumption)])) ?_
   try simp only [opv, n1, n2, n3, n4, Value.cells, List.getElem_toArray, List.getElem_cons_zero, List.getElem_cons_succ]
   refine m_store_obj ti33 (hS := hS) (hv := setC_size (by assumption) _) (h1 := set_one _ _ _ _) (hfit := by rw [setC_size (by assumption)]; omega) (hc := set_whole (by assumption) (by assumption) _ _) (h := fun w9 hS => ?_)
   try simp only [opv, n1, n2, n3, n4, Value.cells, Array.toArray_toList] at hS ⊢
   refine x_nil ?_
   refine hK14 _ _ ?_
   refine x_ret ?_
   refine r_cell_agg rfl Tryz.underlying33 ti33 (hS := hS) (hfit := by rw [setC_size (by assumption)]) (hR := ?_)
   rw [← hend]
   exact ⟨_, _, rfl, hS.sel (by repeat (first | exact Sel.nil | (refine Sel.cons (by repeat (first | exact Del.head | apply Del.tail)) ?_)))⟩
  ·
   try simp only [decide_eq_true_eq, decide_eq_false_iff_not, Bool.not_eq_true', Bool.not_eq_false', Int.not_lt, Int.not_le, ne_eq, Decidable.not_not, bne_iff_ne, beq_iff_eq, not_true_eq_false, not_false_eq_true] at hc4
   have hnl : ¬ p.2.length = cl2.length := by omega
   refine x_skip ?_
   refine hK12 _ _ ?_
   refine x_region ?_
   refine s_go (m_load_row Tryz.underlying33 (hi := ti33) (hS := hS) (hfit := by rw [setC_size (by assumption)])) ?_
   try simp only [opv, n1, n2, n3, n4, Value.cells, List.getElem_toArray, List.getElem_cons_zero, List.getElem_cons_succ]
   refine m_store_obj ti33 (hS := hS) (hv := setC_size (by assumption) _) (h1 := set_one _ _ _ _) (hfit := by rw [setC_size (by assumption)]; omega) (hc := set_whole (by assumption) (by assumption) _ _) (h := fun w10 hS => ?_)
   try simp only [opv, n1, n2, n3, n4, Value.cells, Array.toArray_toList] at hS ⊢
   refine x_nil ?_
   refine loop_back (m' := p.2.length) (by simp only [clob, List.foldl, n1, n2, n3, n4]) ?_ ?_
   · try simp only [opv, n1, n2, n3, n4, Value.cells]
     exact ⟨_, _, _, _, hsp.1, (fun y => (hsp.2 y).trans (hh2 y)), by omega, rfl, (hS.vec_rd (by repeat (first | exact Upd.head | apply Upd.tail))).sel (by repeat (first | exact Sel.nil | (refine Sel.cons (by repeat (first | exact Del.head | apply Del.tail)) ?_)))⟩
   · omega
end Go.Proofs.YtffmanidnlbjjaaGreat
set_option linter.unusedSimpArgs false
set_option linter.unusedVariables false
set_option maxHeartbeats 800000
set_option maxRecDepth 100000
namespace Go.Proofs.YtffmanidnlbjjaaGreat
open Go.RowKit
/-- a row that is turned, number by number, up to place k -/
def mixv (op : Int → Int → Int) (a b : List Int) (k : Nat) : List Int := List.zipWith op (a.take k) (b.take k) ++ a.drop k
section
variable {op : Int → Int → Int} {a b : List Int} {k : Nat}
theorem mixv_len (h : b.length = a.length) : (mixv op a b k).length = a.length := by simp [mixv, h]; omega
theorem mixv_zero : mixv op a b 0 = a := by simp [mixv]
theorem mixv_all (h : b.length = a.length) : mixv op a b a.length = List.zipWith op a b := by
  have e : b.take a.length = b := by rw [← h, List.take_length]
  simp [mixv, e]
theorem mixv_get (h : b.length = a.length) (hk : k < a.length) : (mixv op a b k).getD k 0 = a.getD k 0 := by
  have hl : (List.zipWith op (a.take k) (b.take k)).length = k := by simp [h]; omega
  simp only [mixv, List.getD_eq_getElem?_getD]
  rw [List.getElem?_append_right (by omega), hl, Nat.sub_self, List.getElem?_drop]; simp
theorem mixv_set (h : b.length = a.length) (hk : k < a.length) : (mixv op a b k).set k (op (a.getD k 0) (b.getD k 0)) = mixv op a b (k + 1) := by
  have hl : (List.zipWith op (a.take k) (b.take k)).length = k := by simp [h]; omega
  simp only [mixv]
  rw [List.set_append_right _ _ (by omega), hl, Nat.sub_self, List.drop_eq_getElem_cons hk, List.set_cons_zero]
  have hk' : k < b.length := by omega
  rw [List.take_succ_eq_append_getElem hk, List.take_succ_eq_append_getElem hk', List.zipWith_append (by simp [h])]
  simp [List.getD_eq_getElem?_getD, List.getElem?_eq_getElem hk, List.getElem?_eq_getElem hk']
end

theorem c_vecJoin1 (x y : Int) (w0 : World) :
    CallR Tryz.prog 113 #[.int .u32 x, .int .u32 y] w0 fun v w' => v = .int .u32 (max x y) ∧ w0 = w' := by
 have hS : St NoB w0 w0 [] := St.start w0
 refine c_enter (l := [.int .u32 x, .int .u32 y, undef, undef, undef, undef, undef, undef]) Tryz.func113 rfl (by simp only [Tryz.ntmps113, List.size_toArray, List.length_cons, List.length_nil, Nat.reduceAdd, Nat.reduceSub, Array.replicate_succ, Array.replicate_zero, List.push_toArray, List.append_toArray, List.nil_append, List.cons_append]) ?_
 refine x_seq fun K1 hK1 => ?_
 refine x_region ?_
 refine s_go (s_assign) ?_
 try simp only [opv, n1, n2, n3, n4, Value.cells]
 refine x_nil ?_
 refine hK1 _ _ ?_
 refine x_seq fun K2 hK2 => ?_
 refine x_region ?_
 refine s_go (s_move) ?_
 try simp only [opv, n1, n2, n3, n4, Value.cells]
 refine s_go (s_move) ?_
 try simp only [opv, n1, n2, n3, n4, Value.cells]
 refine s_go (s_max) ?_
 try simp only [opv, n1, n2, n3, n4, Value.cells]
 refine s_go (s_assign) ?_
 try simp only [opv, n1, n2, n3, n4, Value.cells]
 refine x_nil ?_
 refine hK2 _ _ ?_
 refine x_ret ?_
 refine r_tmp rfl ?_
 exact ⟨rfl, rfl⟩
theorem c_vecBothJoin (a b : List Int) (ha : a.length = 16) (hb : b.length = 16) (w0 : World) :
    CallR Tryz.prog 112 #[.agg (ic .u32 a), .agg (ic .u32 b), .func (.func 113) #[] #[]] w0 fun v w' => v = .agg (ic .u32 (List.zipWith max a b)) ∧ Ext w0 w' := by
 have hS : St NoB w0 w0 [] := St.start w0
 refine c_enter (l := [.agg (ic .u32 a), .agg (ic .u32 b), .func (.func 113) #[] #[], undef, undef, undef, undef, undef, undef, undef, undef, undef, undef, undef, undef, undef, undef, undef, undef, undef, undef, undef, undef, undef]) Tryz.func112 rfl (by simp only [Tryz.ntmps112, List.size_toArray, List.length_cons, List.length_nil, Nat.reduceAdd, Nat.reduceSub, Array.replicate_succ, Array.replicate_zero, List.push_toArray, List.append_toArray, List.nil_append, List.cons_append]) ?_
 refine x_seq fun K1 hK1 => ?_
 refine x_region ?_
 refine m_box hS (fun w1 g1 hS => ?_)
 try simp only [opv, n1, n2, n3, n4, Value.cells, Array.toArray_toList] at hS ⊢
 refine m_box hS (fun w2 g2 hS => ?_)
 try simp only [opv, n1, n2, n3, n4, Value.cells, Array.toArray_toList] at hS ⊢
 refine m_alloc ti26 hS (fun w3 g3 hS => ?_)
 try simp only [opv, n1, n2, n3, n4, Value.cells, Array.toArray_toList] at hS ⊢
 refine x_nil ?_
 refine hK1 _ _ ?_
 refine x_seq fun K2 hK2 => ?_
 refine x_seq fun K3 hK3 => ?_
 refine x_region ?_
 refine s_go (m_load_row Tryz.underlying26 (hi := ti26) (hS := hS)) ?_
 try simp only [opv, n1, n2, n3, n4, Value.cells, List.getElem_toArray, List.getElem_cons_zero, List.getElem_cons_succ]
 refine s_go (s_move) ?_
 try simp only [opv, n1, n2, n3, n4, Value.cells]
 refine x_nil ?_
 refine hK3 _ _ ?_
 refine x_block ?_
 refine x_loop [7, 8, 10, 11, 12, 13, 14, 15, 16, 17, 18, 19, 20, 21, 22] (fun m f w => ∃ k : Nat, k ≤ 16 ∧ m = 16 - k ∧ f 10 = .int .i64 (k : Int) ∧ St NoB w0 w [.obj g3 (.cells (ic .u32 (List.replicate 16 0)) 26 (0, 0)), .obj g2 (.cells (ic .u32 b) 26 (0, 0)), .obj g1 (.cells (ic .u32 (mixv max a b k)) 26 (0, 0))]) (16) ?init1 (fun m1 f1 wl1 hI => ?_)
 case init1 =>
  try simp only [opv, n1, n2, n3, n4, Value.cells]
  exact ⟨0, by omega, rfl, rfl, by rw [mixv_zero]; exact hS⟩
 obtain ⟨k, hk, hm, h10, hS⟩ := hI
 simp only [clob, List.foldl, n3, n4, h10]
 have hml : (mixv max a b k).length = 16 := by rw [mixv_len (by omega), ha]
 refine x_seq fun K4 hK4 => ?_
 refine x_region ?_
 refine s_go (s_lss) ?_
 try simp only [opv, n1, n2, n3, n4, Value.cells]
 refine x_nil ?_
 refine hK4 _ _ ?_
 refine x_seq fun K5 hK5 => ?_
 refine x_cond (ht := fun hc1 => ?_) (hf := fun hc1 => ?_)
 ·
  try simp only [decide_eq_true_eq, decide_eq_false_iff_not, Bool.not_eq_true', Bool.not_eq_false', Int.not_lt, Int.not_le, ne_eq, Decidable.not_not, bne_iff_ne, beq_iff_eq, not_true_eq_false, not_false_eq_true] at hc1
  refine x_skip ?_
  refine hK5 _ _ ?_
  refine x_seq fun K6 hK6 => ?_
  refine x_block ?_
  refine x_seq fun K7 hK7 => ?_
  refine x_region ?_
  refine s_go (s_move) ?_
  try simp only [opv, n1, n2, n3, n4, Value.cells]
  refine s_go (s_index_one Tryz.underlying26 ti24 Tryz.underlying24) ?_
  try simp only [opv, n1, n2, n3, n4, Value.cells, Nat.mul_one, Nat.zero_add, Int.toNat_natCast, Int.reduceToNat]
  refine s_go (s_assign) ?_
  try simp only [opv, n1, n2, n3, n4, Value.cells]
  refine s_go (s_assign) ?_
  try simp only [opv, n1, n2, n3, n4, Value.cells]
  refine x_nil ?_
  refine hK7 _ _ ?_
  refine x_region ?_
  refine s_go (s_move) ?_
  try simp only [opv, n1, n2, n3, n4, Value.cells]
  refine s_go (s_move) ?_
  try simp only [opv, n1, n2, n3, n4, Value.cells]
  refine s_go (s_move) ?_
  try simp only [opv, n1, n2, n3, n4, Value.cells]
  refine s_go (m_indexAddr_arr Tryz.underlying26 ti24) ?_
  try simp only [opv, n1, n2, n3, n4, Value.cells, Nat.mul_one, Nat.zero_add, Int.toNat_natCast, Int.reduceToNat]
  refine s_go (m_load_obj Tryz.underlying24 (hS := hS)) ?_
  try simp only [opv, n1, n2, n3, n4, Value.cells, List.getElem_toArray, List.getElem_cons_zero, List.getElem_cons_succ]
  refine s_go (s_move) ?_
  try simp only [opv, n1, n2, n3, n4, Value.cells]
  refine s_callv (hv := rfl) en113 ?_
  try simp only [opv, n1, n2, n3, n4, Value.cells, List.map_toArray, List.map_cons, List.map_nil, List.append_toArray, List.cons_append, List.nil_append, Array.append_empty]
  refine CallR.mono (c_vecJoin1 _ _ _) ?_
  rintro _ _ ⟨rfl, rfl⟩
  try simp only [opv, n1, n2, n3, n4, Value.cells]
  refine s_go (m_indexAddr_arr Tryz.underlying26 ti24) ?_
  try simp only [opv, n1, n2, n3, n4, Value.cells, Nat.mul_one, Nat.zero_add, Int.toNat_natCast, Int.reduceToNat]
  refine m_store_obj ti24 (hS := hS) (h := fun w5 hS => ?_)
  try simp only [opv, n1, n2, n3, n4, Value.cells, Array.toArray_toList] at hS ⊢
  refine x_nil ?_
  refine hK6 _ _ ?_
  refine x_region ?_
  refine s_go (s_add (hc := by exact wr_i64 (by omega) (by omega))) ?_
  try simp only [opv, n1, n2, n3, n4, Value.cells]
  refine s_go (s_move) ?_
  try simp only [opv, n1, n2, n3, n4, Value.cells]
  refine x_nil ?_
  refine loop_back (m' := 16 - (k + 1)) (by simp only [clob, List.foldl, n1, n2, n3, n4]) ?_ ?_
  · try simp only [opv, n1, n2, n3, n4, Value.cells]
    exact ⟨k + 1, by omega, by omega, by rfl, by rw [← mixv_set (by omega) (by omega), ← mixv_get (op := max) (b := b) (k := k) (by omega) (by omega)]; exact hS⟩
  · omega
 ·
  try simp only [decide_eq_true_eq, decide_eq_false_iff_not, Bool.not_eq_true', Bool.not_eq_false', Int.not_lt, Int.not_le, ne_eq, Decidable.not_not, bne_iff_ne, beq_iff_eq, not_true_eq_false, not_false_eq_true] at hc1
  obtain rfl : k = 16 := by omega
  refine x_exit (look_here ?_)
  refine hK2 _ _ ?_
  refine x_seq fun K8 hK8 => ?_
  refine x_region ?_
  refine s_go (m_load_row Tryz.underlying26 (hi := ti26) (hS := hS)) ?_
  try simp only [opv, n1, n2, n3, n4, Value.cells, List.getElem_toArray, List.getElem_cons_zero, List.getElem_cons_succ]
  refine m_store_obj ti26 (hS := hS) (h := fun w6 hS => ?_)
  try simp only [opv, n1, n2, n3, n4, Value.cells, Array.toArray_toList] at hS ⊢
  refine x_nil ?_
  refine hK8 _ _ ?_
  refine x_ret ?_
  refine r_cell_agg rfl Tryz.underlying26 ti26 (hS := hS) (hR := ?_)
  exact ⟨by rw [← mixv_all (by omega), ha], hS.ext_of⟩

def vjoin (a b : List Int) : List Int := List.zipWith max a b
def vmeet (a b : List Int) : List Int := List.zipWith min a b
@[simp] theorem vjoin_len (a b : List Int) : (vjoin a b).length = min a.length b.length := by simp [vjoin]
@[simp] theorem vmeet_len (a b : List Int) : (vmeet a b).length = min a.length b.length := by simp [vmeet]
theorem c_vecJoin (a b : List Int) (ha : a.length = 16) (hb : b.length = 16) (w0 : World) :
    CallR Tryz.prog 58 #[.agg (ic .u32 a), .agg (ic .u32 b)] w0 fun v w' => v = .agg (ic .u32 (vjoin a b)) ∧ Ext w0 w' := by
 have hS : St NoB w0 w0 [] := St.start w0
 refine c_enter (l := [.agg (ic .u32 a), .agg (ic .u32 b), undef, undef, undef, undef, undef, undef]) Tryz.func58 rfl (by simp only [Tryz.ntmps58, List.size_toArray, List.length_cons, List.length_nil, Nat.reduceAdd, Nat.reduceSub, Array.replicate_succ, Array.replicate_zero, List.push_toArray, List.append_toArray, List.nil_append, List.cons_append]) ?_
 refine x_seq fun K1 hK1 => ?_
 refine x_region ?_
 refine m_box hS (fun w1 g1 hS => ?_)
 try simp only [opv, n1, n2, n3, n4, Value.cells, Array.toArray_toList] at hS ⊢
 refine m_box hS (fun w2 g2 hS => ?_)
 try simp only [opv, n1, n2, n3, n4, Value.cells, Array.toArray_toList] at hS ⊢
 refine m_alloc ti26 hS (fun w3 g3 hS => ?_)
 try simp only [opv, n1, n2, n3, n4, Value.cells, Array.toArray_toList] at hS ⊢
 refine x_nil ?_
 refine hK1 _ _ ?_
 refine x_seq fun K2 hK2 => ?_
 refine x_region ?_
 refine s_go (m_load_row Tryz.underlying26 (hi := ti26) (hS := hS)) ?_
 try simp only [opv, n1, n2, n3, n4, Value.cells, List.getElem_toArray, List.getElem_cons_zero, List.getElem_cons_succ]
 refine s_go (m_load_row Tryz.underlying26 (hi := ti26) (hS := hS)) ?_
 try simp only [opv, n1, n2, n3, n4, Value.cells, List.getElem_toArray, List.getElem_cons_zero, List.getElem_cons_succ]
 refine s_call en112 ?_
 try simp only [opv, n1, n2, n3, n4, Value.cells, List.map_toArray, List.map_cons, List.map_nil, List.append_toArray, List.cons_append, List.nil_append, Array.append_empty]
 refine CallR.mono (c_vecBothJoin a b ha hb _) ?_
 rintro _ w4 ⟨rfl, hE4⟩
 replace hS := hS.ext hE4
 try simp only [opv, n1, n2, n3, n4, Value.cells]
 refine m_store_obj ti26 (hS := hS) (h := fun w5 hS => ?_)
 try simp only [opv, n1, n2, n3, n4, Value.cells, Array.toArray_toList] at hS ⊢
 refine x_nil ?_
 refine hK2 _ _ ?_
 refine x_ret ?_
 refine r_cell_agg rfl Tryz.underlying26 ti26 (hS := hS) (hR := ?_)
 exact ⟨rfl, hS.ext_of⟩

end Go.Proofs.YtffmanidnlbjjaaGreat
set_option linter.unusedSimpArgs false
set_option linter.unusedVariables false
set_option maxHeartbeats 3000000
set_option maxRecDepth 100000
namespace Go.Proofs.YtffmanidnlbjjaaGreat
open Go.RowKit

theorem vok_join {a b : List Int} (ha : VOk a) (hb : VOk b) : VOk (vjoin a b) := ⟨by rw [vjoin_len, ha.len, hb.len]; rfl, fun i => by
  by_cases h : i < 16
  · have h1 := ha.len; have h2 := hb.len
    have e : (vjoin a b).getD i 0 = max (a.getD i 0) (b.getD i 0) := by
      rw [List.getD_eq_getElem?_getD, vjoin, List.getElem?_zipWith, List.getElem?_eq_getElem (by omega), List.getElem?_eq_getElem (by omega), List.getD_eq_getElem?_getD, List.getD_eq_getElem?_getD, List.getElem?_eq_getElem (by omega), List.getElem?_eq_getElem (by omega)]; rfl
    have h3 := ha.nat i; have h4 := hb.nat i
    rw [e]; omega
  · rw [List.getD_eq_getElem?_getD, List.getElem?_eq_none (by rw [vjoin_len, ha.len, hb.len]; omega)]; simp⟩
theorem flo_join {a b : List Int} (ha : VOk a) (hb : VOk b) {d : Int} (hd : MayD d) : flo (vjoin a b) d = max (flo a d) (flo b d) := by
  have h1 := ha.len; have h2 := hb.len
  have h : dR d < 16 := by obtain ⟨x, y, z⟩ := hd; unfold dR; omega
  unfold flo
  rw [List.getD_eq_getElem?_getD, vjoin, List.getElem?_zipWith, List.getElem?_eq_getElem (by omega), List.getElem?_eq_getElem (by omega), List.getD_eq_getElem?_getD, List.getD_eq_getElem?_getD, List.getElem?_eq_getElem (by omega), List.getElem?_eq_getElem (by omega)]; rfl
theorem ns_add {p : List Int × List Int} (h : NS p.1 p.2) : addS p.1 p.2 = p := (add_nrm h.vok p.2).uniq (show Nrm (HasD p.1 p.2) p from ⟨h, fun d => Iff.rfl⟩) fun _ => Iff.rfl
theorem flo_zero (d : Int) : flo (List.replicate 16 0) d = 0 := by
  unfold flo
  rw [List.getD_eq_getElem?_getD, List.getElem?_replicate]; split <;> rfl
theorem has_zero {l : List Int} {x : Int} : HasD (List.replicate 16 0) l x ↔ MayD x ∧ x ∈ l := by
  unfold HasD
  rw [flo_zero]
  constructor
  · rintro ⟨h, h2 | h2⟩
    · obtain ⟨a, b, c⟩ := h; omega
    · exact ⟨h, h2⟩
  · rintro ⟨h, h2⟩; exact ⟨h, .inr h2⟩
theorem has_join {a b : List Int × List Int} (ha : NS a.1 a.2) (hb : NS b.1 b.2) {x : Int} : HasD (vjoin a.1 b.1) (a.2 ++ b.2) x ↔ HasD a.1 a.2 x ∨ HasD b.1 b.2 x := by
  unfold HasD
  rw [List.mem_append]
  constructor
  · rintro ⟨h, h2⟩
    rw [flo_join ha.vok hb.vok h] at h2
    rcases h2 with h2 | h2 | h2
    · by_cases q : x % 4294967296 ≤ flo a.1 x
      · exact .inl ⟨h, .inl q⟩
      · exact .inr ⟨h, .inl (by omega)⟩
    · exact .inl ⟨h, .inr h2⟩
    · exact .inr ⟨h, .inr h2⟩
  · rintro (⟨h, h2⟩ | ⟨h, h2⟩) <;> rw [flo_join ha.vok hb.vok h]
    · exact ⟨h, h2.elim (fun q => .inl (by omega)) (fun q => .inr (.inl q))⟩
    · exact ⟨h, h2.elim (fun q => .inl (by omega)) (fun q => .inr (.inr q))⟩
def joinS (a b : List Int × List Int) : List Int × List Int := addS (vjoin a.1 b.1) (a.2 ++ b.2)
theorem ns_join {a b : List Int × List Int} (ha : NS a.1 a.2) (hb : NS b.1 b.2) : NS (joinS a b).1 (joinS a b).2 := (add_nrm (vok_join ha.vok hb.vok) _).ns
theorem step_join {l m : List Int} : addS (List.replicate 16 0) (m.reverse ++ l) = joinS (addS (List.replicate 16 0) l) (addS (List.replicate 16 0) m) := by
  have ha := add_nrm VOk.zero l
  have hb := add_nrm VOk.zero m
  refine (add_nrm VOk.zero _).uniq (add_nrm (vok_join ha.ns.vok hb.ns.vok) _) fun x => ?_
  rw [has_join ha.ns hb.ns, ha.has, hb.has, has_zero, has_zero, has_zero, List.mem_append, List.mem_reverse]
  constructor
  · rintro ⟨h, h2 | h2⟩
    · exact .inr ⟨h, h2⟩
    · exact .inl ⟨h, h2⟩
  · rintro (⟨h, h2⟩ | ⟨h, h2⟩)
    · exact ⟨h, .inr h2⟩
    · exact ⟨h, .inl h2⟩
theorem sum_take {v : List Int} {k : Nat} (hk : k < v.length) : (v.take (k + 1)).sum = (v.take k).sum + v.getD k 0 := by
  rw [List.take_succ_eq_append_getElem hk, List.sum_append, ← getD_ltz hk]; simp
theorem sum_bd : ∀ {v : List Int} {k : Nat}, (∀ i : Nat, 0 ≤ v.getD i 0 ∧ v.getD i 0 ≤ 4294967295) → k ≤ v.length → 0 ≤ (v.take k).sum ∧ (v.take k).sum ≤ 4294967295 * k
  | v, 0, _, _ => by simp
  | v, k + 1, h, hk => by
    have ih := sum_bd (v := v) (k := k) h (by omega)
    have h2 := h k
    rw [sum_take (by omega)]
    omega
end Go.Proofs.YtffmanidnlbjjaaGreat
set_option linter.unusedSimpArgs false
set_option linter.unusedVariables false
set_option maxHeartbeats 3000000
set_option maxRecDepth 100000
namespace Go.Proofs.YtffmanidnlbjjaaGreat
open Go.RowKit
theorem c_from13 (x : List Int) (hx : x.length = 16) (A : Option Addr) (n c : Nat)  (w0 : World) :
    CallR Tryz.prog 15 #[.agg (SetC x (.slice A n c))] w0 fun v w' => v = .agg (SetC x (.slice A n c)) ∧ Ext w0 w' := by
 have hS : St NoB w0 w0 [] := St.start w0
 have h0l : (List.replicate 16 (0 : Int)).length = 16 := rfl
 refine c_enter (l := [.agg (SetC x (.slice A n c)), undef, undef, undef, undef, undef, undef, undef]) Tryz.func15 rfl (by simp only [Tryz.ntmps15, List.size_toArray, List.length_cons, List.length_nil, Nat.reduceAdd, Nat.reduceSub, Array.replicate_succ, Array.replicate_zero, List.push_toArray, List.append_toArray, List.nil_append, List.cons_append]) ?_
 refine x_seq fun K1 hK1 => ?_
 refine x_region ?_
 refine m_box hS (fun w1 g1 hS => ?_)
 try simp only [opv, n1, n2, n3, n4, Value.cells, Array.toArray_toList] at hS ⊢
 refine m_alloc ti33 hS (fun w2 g2 hS => ?_)
 try simp only [opv, n1, n2, n3, n4, Value.cells, Array.toArray_toList] at hS ⊢
 replace hS : St NoB w0 w2 (.obj g2 (.cells (SetC (List.replicate 16 0) (.slice none 0 0)) 33 (0, 0)) :: _) := hS
 refine x_nil ?_
 refine hK1 _ _ ?_
 refine x_seq fun K2 hK2 => ?_
 refine x_region ?_
 first | refine s_go (m_fieldAddr Tryz.underlying29 (hi := ti26)) ?_ | refine s_go (m_fieldAddr_rd Tryz.underlying29 (hi := ti26) (hS := hS)) ?_ | refine s_go (m_fieldAddr_vec Tryz.underlying29 (hi := ti26) (hS := hS)) ?_
 try simp only [opv, n1, n2, n3, n4, Value.cells, Nat.zero_add, Nat.add_zero, List.getElem_toArray, List.getElem_cons_zero, List.getElem_cons_succ]
 refine s_go (m_loada_obj Tryz.underlying26 (hi := ti26) (hS := hS) (hfit := by rw [setC_size (by assumption)]; decide)) ?_
 try simp only [opv, n1, n2, n3, n4, Value.cells, List.getElem_toArray, List.getElem_cons_zero, List.getElem_cons_succ]
 rw [set_flo (by assumption)]
 first | refine s_go (m_fieldAddr Tryz.underlying29 (hi := ti27)) ?_ | refine s_go (m_fieldAddr_rd Tryz.underlying29 (hi := ti27) (hS := hS)) ?_ | refine s_go (m_fieldAddr_vec Tryz.underlying29 (hi := ti27) (hS := hS)) ?_
 try simp only [opv, n1, n2, n3, n4, Value.cells, Nat.zero_add, Nat.add_zero, List.getElem_toArray, List.getElem_cons_zero, List.getElem_cons_succ]
 refine s_go (m_load_obj Tryz.underlying27 (hS := hS) (hv := set_sl (by assumption) _)) ?_
 try simp only [opv, n1, n2, n3, n4, Value.cells, List.getElem_toArray, List.getElem_cons_zero, List.getElem_cons_succ]
 refine s_go (s_build_struct (cells := (SetC x (.slice A n c))) Tryz.underlying33 ti33 bp33 (hc := by simp only [List.map_toArray, List.map_cons, List.map_nil, opv, n1, n2, n3, n4, Value.cells, List.toList_toArray]; exact fill_set2 (by rfl) (by rfl) hx)) ?_
 try simp only [opv, n1, n2, n3, n4, Value.cells]
 refine m_store_obj ti33 (hS := hS) (hv := setC_size (by assumption) _) (h1 := set_one _ _ _ _) (hfit := by rw [setC_size (by assumption)]; omega) (hc := set_whole (by assumption) (by assumption) _ _) (h := fun w3 hS => ?_)
 try simp only [opv, n1, n2, n3, n4, Value.cells, Array.toArray_toList] at hS ⊢
 refine x_nil ?_
 refine hK2 _ _ ?_
 refine x_ret ?_
 refine r_cell_agg rfl Tryz.underlying33 ti33 (hS := hS) (hfit := by rw [setC_size (by assumption)]) (hR := ?_)
 exact ⟨rfl, hS.ext_of⟩
theorem c_dotsOf (w0 : World) (B : Option Addr) (d : Nat) (l : List Int) (hr2 : Rd w0 B 1 l.length (List.map (Value.int .u64) l)) (hu2 : U64s l) (hn : l.length ≤ 4000000000)  :
    CallR Tryz.prog 49 #[.slice B l.length d] w0 fun v w' => ∃ (D : Option Addr) (e : Nat), v = .agg (SetC (addS (List.replicate 16 0) l).1 (.slice D (addS (List.replicate 16 0) l).2.length e)) ∧ St NoB w0 w' [.vec D e 84 1 (addS (List.replicate 16 0) l).2.length (List.map (Value.int .u64) (addS (List.replicate 16 0) l).2)] := by
 have hS := St.rd1 (S := NoB) hr2
 have h0l : (List.replicate 16 (0 : Int)).length = 16 := rfl
 have hps := addS_ok VOk.zero l
 have hpl := hps.1.len
 refine c_enter (l := [.slice B l.length d, undef, undef, undef, undef, undef]) Tryz.func49 rfl (by simp only [Tryz.ntmps49, List.size_toArray, List.length_cons, List.length_nil, Nat.reduceAdd, Nat.reduceSub, Array.replicate_succ, Array.replicate_zero, List.push_toArray, List.append_toArray, List.nil_append, List.cons_append]) ?_
 refine x_seq fun K1 hK1 => ?_
 refine x_region ?_
 refine m_alloc ti29 hS (fun w1 g1 hS => ?_)
 try simp only [opv, n1, n2, n3, n4, Value.cells, Array.toArray_toList] at hS ⊢
 replace hS : St NoB w0 w1 (.obj g1 (.cells (SetC (List.replicate 16 0) (.slice none 0 0)) 29 (0, 0)) :: _) := hS
 refine x_nil ?_
 refine hK1 _ _ ?_
 refine x_seq fun K2 hK2 => ?_
 refine x_region ?_
 refine s_go (s_build_struct (cells := #[.int .u32 0, .int .u32 0, .int .u32 0, .int .u32 0, .int .u32 0, .int .u32 0, .int .u32 0, .int .u32 0, .int .u32 0, .int .u32 0, .int .u32 0, .int .u32 0, .int .u32 0, .int .u32 0, .int .u32 0, .int .u32 0, .slice none 0 0]) Tryz.underlying29 ti29 bp29 (hc := by simp only [List.map_toArray, List.map_cons, List.map_nil, opv, n1, n2, n3, n4, Value.cells, List.toList_toArray]; (repeat (refine fill_cons rfl rfl (Nat.le_of_ble_eq_true rfl) ?_)); rfl)) ?_
 try simp only [opv, n1, n2, n3, n4, Value.cells]
 rw [show (#[.int .u32 0, .int .u32 0, .int .u32 0, .int .u32 0, .int .u32 0, .int .u32 0, .int .u32 0, .int .u32 0, .int .u32 0, .int .u32 0, .int .u32 0, .int .u32 0, .int .u32 0, .int .u32 0, .int .u32 0, .int .u32 0, .slice none 0 0] : Array Value) = SetC (List.replicate 16 0) (.slice none 0 0) from rfl]
 replace hS := hS.rd_none none 1
 refine s_go (s_move) ?_
 try simp only [opv, n1, n2, n3, n4, Value.cells]
 refine s_call en50 ?_
 try simp only [opv, n1, n2, n3, n4, Value.cells, List.map_toArray, List.map_cons, List.map_nil, List.append_toArray, List.cons_append, List.nil_append, Array.append_empty]
 refine CallR.mono (c_dotsAdd _ (List.replicate 16 0) VOk.zero none 0 [] (hS.hasRd (by repeat (first | exact Has.head | apply Has.tail))) U64s.nil B d l (hS.hasRd (by repeat (first | exact Has.head | apply Has.tail))) hu2 (by simpa using hn)) ?_
 rintro _ w2 ⟨D, e, rfl, hC2⟩
 replace hS := hS.call hC2
 simp only [List.cons_append, List.nil_append, List.append_nil] at hS ⊢
 try simp only [opv, n1, n2, n3, n4, Value.cells]
 refine m_store_obj ti29 (hS := hS) (hv := setC_size (by assumption) _) (h1 := set_one _ _ _ _) (hfit := by rw [setC_size (by assumption)]; omega) (hc := set_whole (by assumption) (by assumption) _ _) (h := fun w3 hS => ?_)
 try simp only [opv, n1, n2, n3, n4, Value.cells, Array.toArray_toList] at hS ⊢
 refine x_nil ?_
 refine hK2 _ _ ?_
 refine x_ret ?_
 refine r_cell_agg rfl Tryz.underlying29 ti29 (hS := hS) (hfit := by rw [setC_size (by assumption)]) (hR := ?_)
 exact ⟨_, _, rfl, hS.sel (by repeat (first | exact Sel.nil | (refine Sel.cons (by repeat (first | exact Del.head | apply Del.tail)) ?_)))⟩
theorem c_dotsRight (w0 : World) (x : List Int) (hx : VOk x) (A : Option Addr) (c : Nat) (cl : List Int) (hr : Rd w0 A 1 cl.length (List.map (Value.int .u64) cl)) (hu : U64s cl) (hn : cl.length ≤ 4000000000)  :
    CallR Tryz.prog 17 #[.agg (SetC x (.slice A cl.length c))] w0 fun v w' => v = .bool (decide ((x, cl) = addS x cl)) ∧ Ext w0 w' := by
 have hS := St.rd1 (S := NoB) hr
 have hxl := hx.len
 have hps := addS_ok hx cl
 obtain ⟨hpv, hpu, hpn⟩ := hps
 have hpl := hpv.len
 refine c_enter (l := [.agg (SetC x (.slice A cl.length c)), undef, undef, undef, undef, undef, undef]) Tryz.func17 rfl (by simp only [Tryz.ntmps17, List.size_toArray, List.length_cons, List.length_nil, Nat.reduceAdd, Nat.reduceSub, Array.replicate_succ, Array.replicate_zero, List.push_toArray, List.append_toArray, List.nil_append, List.cons_append]) ?_
 refine x_seq fun K1 hK1 => ?_
 refine x_region ?_
 refine m_box hS (fun w1 g1 hS => ?_)
 try simp only [opv, n1, n2, n3, n4, Value.cells, Array.toArray_toList] at hS ⊢
 obtain ⟨gba, hgba⟩ : ∃ z, z = g1 := ⟨_, rfl⟩
 rw [← hgba] at hS ⊢
 replace hS := hS.rd_none none 1
 refine s_go (s_assign) ?_
 try simp only [opv, n1, n2, n3, n4, Value.cells]
 refine x_nil ?_
 refine hK1 _ _ ?_
 refine x_seq fun K2 hK2 => ?_
 refine x_mixed_c (Lc := [.obj gba (.cells (SetC x (.slice A cl.length c)) 29 (0, 0)), .rd A 1 cl.length (List.map (Value.int .u64) cl)]) [] 0 [2, 3, 4, 5, 6] (fun f w => f 2 = .bool (decide ((x, cl) = addS x cl)) ∧ Ext w0 w) (by kernel_rfl) (by kernel_rfl) (by kernel_rfl) (by decide) hS (fun w2 hS => ?mixpre101) ?mixrest101
 case mixpre101 =>
  refine p_nil ?_
  simp only [List.length_cons, List.length_nil, Nat.reduceAdd, Nat.reduceSub]
  refine any_go (i := 0) (by rfl) (by decide +kernel) (by decide +kernel) noLate_nil (go_yields w_none (fun w hS => m_load_row Tryz.underlying29 (hi := ti29) (hS := hS) (hfit := by rw [setC_size (by assumption)]))) ?_
  try simp only [opv, n1, n2, n3, n4, Value.cells, List.getElem_toArray, List.getElem_cons_zero, List.getElem_cons_succ]
  refine any_go (i := 1) (by rfl) (by decide +kernel) (by decide +kernel) noLate_nil (go_yields w_none (fun w hS => m_load_row Tryz.underlying29 (hi := ti29) (hS := hS) (hfit := by rw [setC_size (by assumption)]))) ?_
  try simp only [opv, n1, n2, n3, n4, Value.cells, List.getElem_toArray, List.getElem_cons_zero, List.getElem_cons_succ]
  refine any_step [2] (by kernel_rfl) (by decide) (fun w3 hE => ⟨fun _ => (hS.ext hE).sel (by repeat (first | exact Sel.nil | (refine Sel.cons (by repeat (first | exact Del.head | apply Del.tail)) ?_))), ?_⟩)
  replace hS := hS.ext hE
  intro i hi
  simp only [List.mem_cons, List.not_mem_nil, or_false] at hi
  subst hi
  ·
   refine any_op (by rfl) ?_
   refine s_call en50 ?_
   try simp only [opv, n1, n2, n3, n4, Value.cells, List.map_toArray, List.map_cons, List.map_nil, List.append_toArray, List.cons_append, List.nil_append, Array.append_empty]
   refine CallR.mono (c_dotsAdd _ x hx A c cl (hS.hasRd (by repeat (first | exact Has.head | apply Has.tail))) hu none 0 [] (hS.hasRd (by repeat (first | exact Has.head | apply Has.tail))) U64s.nil (by rw [List.length_nil]; omega)) ?_
   rintro _ w4 ⟨D, e, rfl, hC4⟩
   replace hS := hS.call hC4
   simp only [List.cons_append, List.nil_append, List.append_nil] at hS ⊢
   try simp only [opv, n1, n2, n3, n4, Value.cells]
   refine x_nil ?_
   refine any_step [3] (by kernel_rfl) (by decide) (fun w5 hE => ⟨fun _ => (hS.ext hE).sel (by repeat (first | exact Sel.nil | (refine Sel.cons (by repeat (first | exact Del.head | apply Del.tail)) ?_))), ?_⟩)
   replace hS := hS.ext hE
   intro i hi
   simp only [List.mem_cons, List.not_mem_nil, or_false] at hi
   subst hi
   ·
    refine any_op (by rfl) ?_
    refine s_call en57 ?_
    try simp only [opv, n1, n2, n3, n4, Value.cells, List.map_toArray, List.map_cons, List.map_nil, List.append_toArray, List.cons_append, List.nil_append, Array.append_empty]
    refine CallR.mono (c_dotsAlike _ x _ hxl hpl A c cl (hS.hasRd (by repeat (first | exact Has.head | apply Has.tail))) hu D e _ (hS.vecRd (by repeat (first | exact Has.head | apply Has.tail))) hpu (by omega)) ?_
    rintro _ w6 ⟨rfl, hE6⟩
    replace hS := hS.ext hE6
    try simp only [opv, n1, n2, n3, n4, Value.cells]
    refine x_nil ?_
    refine any_go (i := 4) (by rfl) (by decide +kernel) (by decide +kernel) noLate_nil (go_yields w_none (fun w hS => s_assign)) ?_
    try simp only [opv, n1, n2, n3, n4, Value.cells]
    refine any_nil (by kernel_rfl) (fun w7 hE => ?_)
    replace hS := hS.ext hE
    refine ⟨fun _ => hS.sel (by repeat (first | exact Sel.nil | (refine Sel.cons (by repeat (first | exact Del.head | apply Del.tail)) ?_))), ?_⟩
    refine mix_leaf (by simp only [clob, List.foldl, n1, n2, n3, n4]) ?_
    try simp only [n1, n2]
    exact ⟨by first | trivial | rfl, hS.ext_of⟩
 intro fm1 w8 hM
 obtain ⟨h2, hEE⟩ := hM
 simp only [clob, List.foldl, n3, n4, h2]
 refine hK2 _ _ ?_
 refine x_ret ?_
 refine r_tmp rfl ?_
 exact ⟨rfl, hEE⟩
theorem c_dotsCount (w0 : World) (x : List Int) (hx : VOk x) (A : Option Addr) (c : Nat) (cl : List Int) (hr : Rd w0 A 1 cl.length (List.map (Value.int .u64) cl)) (hu : U64s cl) (hn : cl.length ≤ 4000000000)  :
    CallR Tryz.prog 51 #[.agg (SetC x (.slice A cl.length c))] w0 fun v w' => v = .int .u64 (cntS (addS x cl)) ∧ Ext w0 w' := by
 have hS := St.rd1 (S := NoB) hr
 have hxl := hx.len
 have hps := addS_ok hx cl
 obtain ⟨hpv, hpu, hpn⟩ := hps
 have hpl := hpv.len
 have hpnat := hpv.nat
 refine c_enter (l := [.agg (SetC x (.slice A cl.length c)), undef, undef, undef, undef, undef, undef, undef, undef, undef, undef, undef, undef, undef, undef, undef, undef, undef, undef, undef, undef, undef, undef]) Tryz.func51 rfl (by simp only [Tryz.ntmps51, List.size_toArray, List.length_cons, List.length_nil, Nat.reduceAdd, Nat.reduceSub, Array.replicate_succ, Array.replicate_zero, List.push_toArray, List.append_toArray, List.nil_append, List.cons_append]) ?_
 refine x_seq fun K1 hK1 => ?_
 refine x_region ?_
 refine m_box hS (fun w1 g1 hS => ?_)
 try simp only [opv, n1, n2, n3, n4, Value.cells, Array.toArray_toList] at hS ⊢
 obtain ⟨gba, hgba⟩ : ∃ z, z = g1 := ⟨_, rfl⟩
 rw [← hgba] at hS ⊢
 replace hS := hS.rd_none none 1
 refine s_go (s_assign) ?_
 try simp only [opv, n1, n2, n3, n4, Value.cells]
 refine x_nil ?_
 refine hK1 _ _ ?_
 refine x_seq fun K2 hK2 => ?_
 refine x_region ?_
 refine s_go (m_load_row Tryz.underlying29 (hi := ti29) (hS := hS) (hfit := by rw [setC_size (by assumption)])) ?_
 try simp only [opv, n1, n2, n3, n4, Value.cells, List.getElem_toArray, List.getElem_cons_zero, List.getElem_cons_succ]
 refine s_call en50 ?_
 try simp only [opv, n1, n2, n3, n4, Value.cells, List.map_toArray, List.map_cons, List.map_nil, List.append_toArray, List.cons_append, List.nil_append, Array.append_empty]
 refine CallR.mono (c_dotsAdd _ x hx A c cl (hS.hasRd (by repeat (first | exact Has.head | apply Has.tail))) hu none 0 [] (hS.hasRd (by repeat (first | exact Has.head | apply Has.tail))) U64s.nil (by rw [List.length_nil]; omega)) ?_
 rintro _ w2 ⟨D, e, rfl, hC2⟩
 replace hS := hS.call hC2
 simp only [List.cons_append, List.nil_append, List.append_nil] at hS ⊢
 try simp only [opv, n1, n2, n3, n4, Value.cells]
 refine m_store_obj ti29 (hS := hS) (hv := setC_size (by assumption) _) (h1 := set_one _ _ _ _) (hfit := by rw [setC_size (by assumption)]; omega) (hc := set_whole (by assumption) (by assumption) _ _) (h := fun w3 hS => ?_)
 try simp only [opv, n1, n2, n3, n4, Value.cells, Array.toArray_toList] at hS ⊢
 refine x_nil ?_
 refine hK2 _ _ ?_
 refine x_seq fun K3 hK3 => ?_
 refine x_region ?_
 first | refine s_go (m_fieldAddr Tryz.underlying29 (hi := ti27)) ?_ | refine s_go (m_fieldAddr_rd Tryz.underlying29 (hi := ti27) (hS := hS)) ?_ | refine s_go (m_fieldAddr_vec Tryz.underlying29 (hi := ti27) (hS := hS)) ?_
 try simp only [opv, n1, n2, n3, n4, Value.cells, Nat.zero_add, Nat.add_zero, List.getElem_toArray, List.getElem_cons_zero, List.getElem_cons_succ]
 refine s_go (m_load_obj Tryz.underlying27 (hS := hS) (hv := set_sl (by assumption) _)) ?_
 try simp only [opv, n1, n2, n3, n4, Value.cells, List.getElem_toArray, List.getElem_cons_zero, List.getElem_cons_succ]
 refine s_go (s_len_sl Tryz.underlying27) ?_
 try simp only [opv, n1, n2, n3, n4, Value.cells]
 refine s_go (s_conv Tryz.underlying3 Tryz.underlying84 (hc := wr_u64 (by omega) (by omega))) ?_
 try simp only [opv, n1, n2, n3, n4, Value.cells]
 refine s_go (s_assign) ?_
 try simp only [opv, n1, n2, n3, n4, Value.cells]
 refine x_nil ?_
 refine hK3 _ _ ?_
 refine x_seq fun K4 hK4 => ?_
 refine x_seq fun K5 hK5 => ?_
 refine x_region ?_
 first | refine s_go (m_fieldAddr Tryz.underlying29 (hi := ti26)) ?_ | refine s_go (m_fieldAddr_rd Tryz.underlying29 (hi := ti26) (hS := hS)) ?_ | refine s_go (m_fieldAddr_vec Tryz.underlying29 (hi := ti26) (hS := hS)) ?_
 try simp only [opv, n1, n2, n3, n4, Value.cells, Nat.zero_add, Nat.add_zero, List.getElem_toArray, List.getElem_cons_zero, List.getElem_cons_succ]
 refine s_go (m_loada_obj Tryz.underlying26 (hi := ti26) (hS := hS) (hfit := by rw [setC_size (by assumption)]; decide)) ?_
 try simp only [opv, n1, n2, n3, n4, Value.cells, List.getElem_toArray, List.getElem_cons_zero, List.getElem_cons_succ]
 rw [set_flo (by assumption)]
 refine s_go (s_move) ?_
 try simp only [opv, n1, n2, n3, n4, Value.cells]
 refine x_nil ?_
 refine hK5 _ _ ?_
 refine x_block ?_
 refine x_loop [3, 5, 14, 15, 16, 17, 18, 19, 20, 21] (fun m f w => ∃ k : Nat, k ≤ 16 ∧ m = 16 - k ∧ f 14 = .int .i64 (k : Int) ∧ f 3 = .int .u64 (((addS x cl).2.length : Int) + ((addS x cl).1.take k).sum) ∧ St NoB w0 w [.obj gba (.cells (SetC (addS x cl).1 (.slice D (addS x cl).2.length e)) 29 (0, 0)), .vec D e 84 1 (addS x cl).2.length (List.map (Value.int .u64) (addS x cl).2)]) (16) ?init1 (fun m1 f1 wl1 hI => ?_)
 case init1 =>
  try simp only [opv, n1, n2, n3, n4, Value.cells]
  exact ⟨0, by omega, rfl, rfl, by simp, hS.sel (by repeat (first | exact Sel.nil | (refine Sel.cons (by repeat (first | exact Del.head | apply Del.tail)) ?_)))⟩
 obtain ⟨k, hk, hmk, hfi, h3, hS⟩ := hI
 simp only [clob, List.foldl, n3, n4, hfi, h3]
 have hsb := sum_bd hpnat (k := k) (by omega)
 have hkn := hpnat k
 refine x_seq fun K6 hK6 => ?_
 refine x_region ?_
 refine s_go (s_lss) ?_
 try simp only [opv, n1, n2, n3, n4, Value.cells]
 refine x_nil ?_
 refine hK6 _ _ ?_
 refine x_seq fun K7 hK7 => ?_
 refine x_cond (ht := fun hc1 => ?_) (hf := fun hc1 => ?_)
 ·
  try simp only [decide_eq_true_eq, decide_eq_false_iff_not, Bool.not_eq_true', Bool.not_eq_false', Int.not_lt, Int.not_le, ne_eq, Decidable.not_not, bne_iff_ne, beq_iff_eq, not_true_eq_false, not_false_eq_true] at hc1
  refine x_skip ?_
  refine hK7 _ _ ?_
  refine x_seq fun K8 hK8 => ?_
  refine x_block ?_
  refine x_seq fun K9 hK9 => ?_
  refine x_region ?_
  refine s_go (s_index_one Tryz.underlying26 ti24 Tryz.underlying24 (hv := ic_get (by omega))) ?_
  try simp only [opv, n1, n2, n3, n4, Value.cells, Nat.mul_one, Nat.zero_add, Int.toNat_natCast, Int.reduceToNat]
  refine s_go (s_assign) ?_
  try simp only [opv, n1, n2, n3, n4, Value.cells]
  refine x_nil ?_
  refine hK9 _ _ ?_
  refine x_region ?_
  refine s_go (s_move) ?_
  try simp only [opv, n1, n2, n3, n4, Value.cells]
  refine s_go (s_move) ?_
  try simp only [opv, n1, n2, n3, n4, Value.cells]
  refine s_go (s_conv Tryz.underlying24 Tryz.underlying84 (hc := wr_u64 (by omega) (by omega))) ?_
  try simp only [opv, n1, n2, n3, n4, Value.cells]
  refine s_go (s_add (hc := wr_u64 (by omega) (by omega))) ?_
  try simp only [opv, n1, n2, n3, n4, Value.cells]
  refine s_go (s_assign) ?_
  try simp only [opv, n1, n2, n3, n4, Value.cells]
  refine x_nil ?_
  refine hK8 _ _ ?_
  refine x_region ?_
  refine s_go (s_add (hc := by first | exact wr_i64 (by omega) (by omega) | rfl)) ?_
  try simp only [opv, n1, n2, n3, n4, Value.cells]
  refine s_go (s_move) ?_
  try simp only [opv, n1, n2, n3, n4, Value.cells]
  refine x_nil ?_
  refine loop_back (m' := 16 - (k + 1)) (by simp only [clob, List.foldl, n1, n2, n3, n4]) ?_ ?_
  · try simp only [opv, n1, n2, n3, n4, Value.cells]
    exact ⟨k + 1, by omega, by omega, by rfl, by rw [sum_take (by omega), Int.add_assoc], hS⟩
  · omega
 ·
  try simp only [decide_eq_true_eq, decide_eq_false_iff_not, Bool.not_eq_true', Bool.not_eq_false', Int.not_lt, Int.not_le, ne_eq, Decidable.not_not, bne_iff_ne, beq_iff_eq, not_true_eq_false, not_false_eq_true] at hc1
  obtain rfl : k = 16 := by omega
  rw [List.take_of_length_le (by omega)]
  refine x_exit (look_here ?_)
  refine hK4 _ _ ?_
  refine x_seq fun K10 hK10 => ?_
  refine x_region ?_
  refine s_go (s_move) ?_
  try simp only [opv, n1, n2, n3, n4, Value.cells]
  refine s_go (s_assign) ?_
  try simp only [opv, n1, n2, n3, n4, Value.cells]
  refine x_nil ?_
  refine hK10 _ _ ?_
  refine x_ret ?_
  refine r_tmp rfl ?_
  exact ⟨rfl, hS.ext_of⟩
theorem c_dotsJoin (w0 : World) (x y : List Int) (hx : VOk x) (hy : VOk y) (A : Option Addr) (c : Nat) (cl : List Int) (hr : Rd w0 A 1 cl.length (List.map (Value.int .u64) cl)) (hu : U64s cl) (B : Option Addr) (d : Nat) (cm : List Int) (hr2 : Rd w0 B 1 cm.length (List.map (Value.int .u64) cm)) (hu2 : U64s cm) (hn : cl.length + cm.length ≤ 4000000000)  :
    CallR Tryz.prog 18 #[.agg (SetC x (.slice A cl.length c)), .agg (SetC y (.slice B cm.length d))] w0 fun v w' => ∃ (D : Option Addr) (e : Nat), v = .agg (SetC (joinS (x, cl) (y, cm)).1 (.slice D (joinS (x, cl) (y, cm)).2.length e)) ∧ St NoB w0 w' [.vec D e 84 1 (joinS (x, cl) (y, cm)).2.length (List.map (Value.int .u64) (joinS (x, cl) (y, cm)).2)] := by
 have hS := St.rd2 (S := NoB) hr hr2
 have hxl := hx.len
 have hyl := hy.len
 have h0l : (List.replicate 16 (0 : Int)).length = 16 := rfl
 have hpx := addS_ok hx cl
 have hpy := addS_ok hy cm
 have hpxl := hpx.1.len
 have hpyl := hpy.1.len
 have hpxu := hpx.2.1
 have hpyu := hpy.2.1
 have hpxn := hpx.2.2
 have hpyn := hpy.2.2
 have hvj := vok_join hx hy
 have hvjl := hvj.len
 have hjo := addS_ok hvj (cl ++ cm)
 have hjl := hjo.1.len
 have hucm := hu.app hu2
 have hlcm : (cl ++ cm).length = cl.length + cm.length := List.length_append ..
 refine c_enter (l := [.agg (SetC x (.slice A cl.length c)), .agg (SetC y (.slice B cm.length d)), undef, undef, undef, undef, undef, undef, undef, undef, undef, undef, undef, undef, undef, undef, undef, undef]) Tryz.func18 rfl (by simp only [Tryz.ntmps18, List.size_toArray, List.length_cons, List.length_nil, Nat.reduceAdd, Nat.reduceSub, Array.replicate_succ, Array.replicate_zero, List.push_toArray, List.append_toArray, List.nil_append, List.cons_append]) ?_
 refine x_seq fun K1 hK1 => ?_
 refine x_region ?_
 refine m_box hS (fun w1 g1 hS => ?_)
 try simp only [opv, n1, n2, n3, n4, Value.cells, Array.toArray_toList] at hS ⊢
 obtain ⟨gx, hgx⟩ : ∃ z, z = g1 := ⟨_, rfl⟩
 rw [← hgx] at hS ⊢
 refine m_box hS (fun w2 g2 hS => ?_)
 try simp only [opv, n1, n2, n3, n4, Value.cells, Array.toArray_toList] at hS ⊢
 obtain ⟨gy, hgy⟩ : ∃ z, z = g2 := ⟨_, rfl⟩
 rw [← hgy] at hS ⊢
 refine m_alloc ti29 hS (fun w3 g3 hS => ?_)
 try simp only [opv, n1, n2, n3, n4, Value.cells, Array.toArray_toList] at hS ⊢
 replace hS : St NoB w0 w3 (.obj g3 (.cells (SetC (List.replicate 16 0) (.slice none 0 0)) 29 (0, 0)) :: _) := hS
 obtain ⟨gbr, hgbr⟩ : ∃ z, z = g3 := ⟨_, rfl⟩
 rw [← hgbr] at hS ⊢
 replace hS := hS.rd_none none 1
 refine x_nil ?_
 refine hK1 _ _ ?_
 refine x_seq fun K2 hK2 => ?_
 refine x_mixed_c (Lc := [.obj gx (.cells (SetC x (.slice A cl.length c)) 29 (0, 0)), .obj gy (.cells (SetC y (.slice B cm.length d)) 29 (0, 0)), .rd A 1 cl.length (List.map (Value.int .u64) cl), .rd B 1 cm.length (List.map (Value.int .u64) cm), .rd none 1 0 []]) [] 0 [5, 6, 7, 8, 9, 10, 11, 12, 13, 14, 15, 16, 17] (fun f w => ∃ (D : Option Addr) (e : Nat), St NoB w0 w [.obj gbr (.cells (SetC (joinS (x, cl) (y, cm)).1 (.slice D (joinS (x, cl) (y, cm)).2.length e)) 29 (0, 0)), .vec D e 84 1 (joinS (x, cl) (y, cm)).2.length (List.map (Value.int .u64) (joinS (x, cl) (y, cm)).2)]) (by kernel_rfl) (by kernel_rfl) (by kernel_rfl) (by decide) hS (fun w4 hS => ?mixpre101) ?mixrest101
 case mixpre101 =>
  refine p_nil ?_
  simp only [List.length_cons, List.length_nil, Nat.reduceAdd, Nat.reduceSub]
  first | refine any_go (i := 0) (by rfl) (by decide +kernel) (by decide +kernel) noLate_nil (go_yields w_none (fun w hS => m_fieldAddr Tryz.underlying29 (hi := ti26))) ?_ | refine any_go (i := 0) (by rfl) (by decide +kernel) (by decide +kernel) noLate_nil (go_yields w_none (fun w hS => m_fieldAddr_rd Tryz.underlying29 (hi := ti26) (hS := hS))) ?_ | refine any_go (i := 0) (by rfl) (by decide +kernel) (by decide +kernel) noLate_nil (go_yields w_none (fun w hS => m_fieldAddr_vec Tryz.underlying29 (hi := ti26) (hS := hS))) ?_
  try simp only [opv, n1, n2, n3, n4, Value.cells, Nat.zero_add, Nat.add_zero, List.getElem_toArray, List.getElem_cons_zero, List.getElem_cons_succ]
  refine any_go (i := 1) (by rfl) (by decide +kernel) (by decide +kernel) noLate_nil (go_yields w_none (fun w hS => m_loada_obj Tryz.underlying26 (hi := ti26) (hS := hS) (hfit := by rw [setC_size (by assumption)]; decide))) ?_
  try simp only [opv, n1, n2, n3, n4, Value.cells, List.getElem_toArray, List.getElem_cons_zero, List.getElem_cons_succ]
  rw [set_flo (by assumption)]
  first | refine any_go (i := 2) (by rfl) (by decide +kernel) (by decide +kernel) noLate_nil (go_yields w_none (fun w hS => m_fieldAddr Tryz.underlying29 (hi := ti26))) ?_ | refine any_go (i := 2) (by rfl) (by decide +kernel) (by decide +kernel) noLate_nil (go_yields w_none (fun w hS => m_fieldAddr_rd Tryz.underlying29 (hi := ti26) (hS := hS))) ?_ | refine any_go (i := 2) (by rfl) (by decide +kernel) (by decide +kernel) noLate_nil (go_yields w_none (fun w hS => m_fieldAddr_vec Tryz.underlying29 (hi := ti26) (hS := hS))) ?_
  try simp only [opv, n1, n2, n3, n4, Value.cells, Nat.zero_add, Nat.add_zero, List.getElem_toArray, List.getElem_cons_zero, List.getElem_cons_succ]
  refine any_go (i := 3) (by rfl) (by decide +kernel) (by decide +kernel) noLate_nil (go_yields w_none (fun w hS => m_loada_obj Tryz.underlying26 (hi := ti26) (hS := hS) (hfit := by rw [setC_size (by assumption)]; decide))) ?_
  try simp only [opv, n1, n2, n3, n4, Value.cells, List.getElem_toArray, List.getElem_cons_zero, List.getElem_cons_succ]
  rw [set_flo (by assumption)]
  apply any_go (i := 4) (by rfl) (by decide +kernel) (by decide +kernel) noLate_nil (call_yields w_none en58 ?H1) ?K1
  case H1 =>
    intro w hS
    try simp only [opv, n1, n2, n3, n4, List.map_toArray, List.map_cons, List.map_nil, List.append_toArray, List.cons_append, List.nil_append, Array.append_empty]
    refine CallR.mono (c_vecJoin x y hxl hyl _) ?_
    rintro _ w1 ⟨rfl, hE⟩; exact ⟨rfl, hE⟩
  try simp only [opv, n1, n2, n3, n4, Value.cells]
  refine any_go (i := 5) (by rfl) (by decide +kernel) (by decide +kernel) noLate_nil (go_yields w_none (fun w hS => s_build_struct (cells := (SetC (vjoin x y) (.slice none 0 0))) Tryz.underlying29 ti29 bp29 (hc := by simp only [List.map_toArray, List.map_cons, List.map_nil, opv, n1, n2, n3, n4, Value.cells, List.toList_toArray]; exact fill_set (by rfl) hvjl))) ?_
  try simp only [opv, n1, n2, n3, n4, Value.cells]
  first | refine any_go (i := 6) (by rfl) (by decide +kernel) (by decide +kernel) noLate_nil (go_yields w_none (fun w hS => m_fieldAddr Tryz.underlying29 (hi := ti27))) ?_ | refine any_go (i := 6) (by rfl) (by decide +kernel) (by decide +kernel) noLate_nil (go_yields w_none (fun w hS => m_fieldAddr_rd Tryz.underlying29 (hi := ti27) (hS := hS))) ?_ | refine any_go (i := 6) (by rfl) (by decide +kernel) (by decide +kernel) noLate_nil (go_yields w_none (fun w hS => m_fieldAddr_vec Tryz.underlying29 (hi := ti27) (hS := hS))) ?_
  try simp only [opv, n1, n2, n3, n4, Value.cells, Nat.zero_add, Nat.add_zero, List.getElem_toArray, List.getElem_cons_zero, List.getElem_cons_succ]
  refine any_go (i := 7) (by rfl) (by decide +kernel) (by decide +kernel) noLate_nil (go_yields w_none (fun w hS => m_load_obj Tryz.underlying27 (hS := hS) (hv := set_sl (by assumption) _))) ?_
  try simp only [opv, n1, n2, n3, n4, Value.cells, List.getElem_toArray, List.getElem_cons_zero, List.getElem_cons_succ]
  first | refine any_go (i := 8) (by rfl) (by decide +kernel) (by decide +kernel) noLate_nil (go_yields w_none (fun w hS => m_fieldAddr Tryz.underlying29 (hi := ti27))) ?_ | refine any_go (i := 8) (by rfl) (by decide +kernel) (by decide +kernel) noLate_nil (go_yields w_none (fun w hS => m_fieldAddr_rd Tryz.underlying29 (hi := ti27) (hS := hS))) ?_ | refine any_go (i := 8) (by rfl) (by decide +kernel) (by decide +kernel) noLate_nil (go_yields w_none (fun w hS => m_fieldAddr_vec Tryz.underlying29 (hi := ti27) (hS := hS))) ?_
  try simp only [opv, n1, n2, n3, n4, Value.cells, Nat.zero_add, Nat.add_zero, List.getElem_toArray, List.getElem_cons_zero, List.getElem_cons_succ]
  refine any_go (i := 9) (by rfl) (by decide +kernel) (by decide +kernel) noLate_nil (go_yields w_none (fun w hS => m_load_obj Tryz.underlying27 (hS := hS) (hv := set_sl (by assumption) _))) ?_
  try simp only [opv, n1, n2, n3, n4, Value.cells, List.getElem_toArray, List.getElem_cons_zero, List.getElem_cons_succ]
  refine any_step [10] (by kernel_rfl) (by decide) (fun w5 hE => ⟨fun _ => (hS.ext hE).sel (by repeat (first | exact Sel.nil | (refine Sel.cons (by repeat (first | exact Del.head | apply Del.tail)) ?_))), ?_⟩)
  replace hS := hS.ext hE
  intro i hi
  simp only [List.mem_cons, List.not_mem_nil, or_false] at hi
  subst hi
  ·
   refine any_op (by rfl) ?_
   refine m_buildRow (cells := #[_, _]) Tryz.underlying170 ti27 (hc := by simp only [List.map_toArray, List.map_cons, List.map_nil, opv, n1, n2, n3, n4, Value.cells, List.toList_toArray]; (repeat (refine fill_cons rfl rfl (Nat.le_of_ble_eq_true rfl) ?_)); rfl) (hS := hS) (h := fun w6 g6 hS => ?_)
   try simp only [opv, n1, n2, n3, n4, Value.cells, Array.toArray_toList] at hS ⊢
   replace hS := hS.obj_rd (sz := 1) (n := 2) rfl .head
   refine x_nil ?_
   refine any_step [11] (by kernel_rfl) (by decide) (fun w7 hE => ⟨fun _ => (hS.ext hE).sel (by repeat (first | exact Sel.nil | (refine Sel.cons (by repeat (first | exact Del.head | apply Del.tail)) ?_))), ?_⟩)
   replace hS := hS.ext hE
   intro i hi
   simp only [List.mem_cons, List.not_mem_nil, or_false] at hi
   subst hi
   ·
    refine any_op (by rfl) ?_
    refine s_call en59 ?_
    try simp only [opv, n1, n2, n3, n4, Value.cells, List.map_toArray, List.map_cons, List.map_nil, List.append_toArray, List.cons_append, List.nil_append, Array.append_empty]
    refine CallR.mono (c_slConcat _ _ _ A c cl (hS.hasRd (by repeat (first | exact Has.head | apply Has.tail))) hu B d cm (hS.hasRd (by repeat (first | exact Has.head | apply Has.tail))) hu2 (hS.hasRd (by repeat (first | exact Has.head | apply Has.tail))) hn) ?_
    rintro _ w8 ⟨D1, e1, rfl, hC8⟩
    replace hS := hS.call hC8
    simp only [List.cons_append, List.nil_append] at hS
    try simp only [opv, n1, n2, n3, n4, Value.cells]
    refine x_nil ?_
    refine any_step [12] (by kernel_rfl) (by decide) (fun w9 hE => ⟨fun _ => (hS.ext hE).sel (by repeat (first | exact Sel.nil | (refine Sel.cons (by repeat (first | exact Del.head | apply Del.tail)) ?_))), ?_⟩)
    replace hS := hS.ext hE
    intro i hi
    simp only [List.mem_cons, List.not_mem_nil, or_false] at hi
    subst hi
    ·
     refine any_op (by rfl) ?_
     refine s_call en50 ?_
     try simp only [opv, n1, n2, n3, n4, Value.cells, List.map_toArray, List.map_cons, List.map_nil, List.append_toArray, List.cons_append, List.nil_append, Array.append_empty]
     refine CallR.mono (c_dotsAdd _ (vjoin x y) hvj none 0 [] (hS.hasRd (by repeat (first | exact Has.head | apply Has.tail))) U64s.nil D1 e1 (cl ++ cm) (hS.vecRd (by repeat (first | exact Has.head | apply Has.tail))) hucm (by rw [List.length_nil]; omega)) ?_
     rintro _ w10 ⟨D, e, rfl, hC10⟩
     replace hS := hS.call hC10
     simp only [List.cons_append, List.nil_append, List.append_nil] at hS ⊢
     try simp only [opv, n1, n2, n3, n4, Value.cells]
     refine x_nil ?_
     refine any_step [13] (by kernel_rfl) (by decide) (fun w11 hE => ⟨fun _ => (hS.ext hE).sel (by repeat (first | exact Sel.nil | (refine Sel.cons (by repeat (first | exact Del.head | apply Del.tail)) ?_))), ?_⟩)
     replace hS := hS.ext hE
     intro i hi
     simp only [List.mem_cons, List.not_mem_nil, or_false] at hi
     subst hi
     ·
      refine any_op (by rfl) ?_
      refine m_store_obj ti29 (hS := hS) (hv := setC_size (by assumption) _) (h1 := set_one _ _ _ _) (hfit := by rw [setC_size (by assumption)]; omega) (hc := set_whole (by assumption) (by assumption) _ _) (h := fun w12 hS => ?_)
      try simp only [opv, n1, n2, n3, n4, Value.cells, Array.toArray_toList] at hS ⊢
      refine x_nil ?_
      refine any_nil (by kernel_rfl) (fun w13 hE => ?_)
      replace hS := hS.ext hE
      refine ⟨fun _ => hS.sel (by repeat (first | exact Sel.nil | (refine Sel.cons (by repeat (first | exact Del.head | apply Del.tail)) ?_))), ?_⟩
      refine mix_leaf (by simp only [clob, List.foldl, n1, n2, n3, n4]) ?_
      try simp only [n1, n2]
      exact ⟨_, _, hS.sel (by repeat (first | exact Sel.nil | (refine Sel.cons (by repeat (first | exact Del.head | apply Del.tail)) ?_)))⟩
 intro fm1 w14 hM
 obtain ⟨D, e, hS⟩ := hM
 simp only [clob, List.foldl, n3, n4]
 refine hK2 _ _ ?_
 refine x_ret ?_
 refine r_cell_agg rfl Tryz.underlying29 ti29 (hS := hS) (hfit := by rw [setC_size (by assumption)]) (hR := ?_)
 exact ⟨_, _, rfl, hS.sel (by repeat (first | exact Sel.nil | (refine Sel.cons (by repeat (first | exact Del.head | apply Del.tail)) ?_)))⟩
end Go.Proofs.YtffmanidnlbjjaaGreat
set_option linter.unusedSimpArgs false
set_option linter.unusedVariables false
set_option maxHeartbeats 3000000
set_option maxRecDepth 100000
namespace Go.Proofs.YtffmanidnlbjjaaGreat
open Go.RowKit

def fl2 : List Int := (List.replicate 16 (0 : Int)).set 0 2
def fl4 : List Int := (List.replicate 16 (0 : Int)).set 0 4
theorem set_ext {v : List Int} (h : v.length = 16) (s : Value) : (SetC v s).extract 0 (0 + 16) = ic .u32 v := by
  rw [← set_flo h s]; apply Array.ext'; simp
theorem dal_1 : addS (List.replicate 16 0) [1, 2, 4] = (fl2, [4]) := by decide +kernel
theorem dal_2 : addS fl2 [4, 3] = (fl4, []) := by decide +kernel
theorem dal_3 : cntS (addS fl2 [4]) = 3 := by decide +kernel
theorem fl2_ok : VOk fl2 := VOk.zero.set (by decide) (by decide)
theorem u_one {x : Int} (h : 0 ≤ x ∧ x < 18446744073709551616) : U64s [x] := fun y hy => by rw [List.mem_singleton] at hy; rw [hy]; exact h

theorem c_law13alive  (w0 : World) :
    CallR Tryz.prog 12 #[] w0 fun v w' => v = .bool true ∧ Ext w0 w' := by
 have hS : St NoB w0 w0 [] := St.start w0
 have h2l : fl2.length = 16 := rfl
 have h4l : fl4.length = 16 := rfl
 refine c_enter (l := [undef, undef, undef, undef, undef, undef, undef, undef, undef, undef, undef, undef, undef, undef, undef, undef, undef, undef, undef, undef, undef, undef, undef, undef, undef, undef, undef]) Tryz.func12 rfl (by simp only [Tryz.ntmps12, List.size_toArray, List.length_cons, List.length_nil, Nat.reduceAdd, Nat.reduceSub, Array.replicate_succ, Array.replicate_zero, List.push_toArray, List.append_toArray, List.nil_append, List.cons_append]) ?_
 refine x_seq fun K1 hK1 => ?_
 refine x_region ?_
 refine s_go (s_assign) ?_
 try simp only [opv, n1, n2, n3, n4, Value.cells]
 refine x_nil ?_
 refine hK1 _ _ ?_
 refine x_seq fun K2 hK2 => ?_
 refine x_region ?_
 refine m_buildRow (cells := #[_, _, _]) Tryz.underlying27 ti84 (hc := by simp only [List.map_toArray, List.map_cons, List.map_nil, opv, n1, n2, n3, n4, Value.cells, List.toList_toArray]; (repeat (refine fill_cons rfl rfl (Nat.le_of_ble_eq_true rfl) ?_)); rfl) (hS := hS) (h := fun w1 g1 hS => ?_)
 try simp only [opv, n1, n2, n3, n4, Value.cells, Array.toArray_toList] at hS ⊢
 replace hS := hS.obj_rd (sz := 1) (n := 3) rfl .head
 refine s_call en49 ?_
 try simp only [opv, n1, n2, n3, n4, Value.cells, List.map_toArray, List.map_cons, List.map_nil, List.append_toArray, List.cons_append, List.nil_append, Array.append_empty]
 refine CallR.mono (c_dotsOf _ _ _ [1, 2, 4] (hS.hasRd (by repeat (first | exact Has.head | apply Has.tail))) (by unfold U64s; decide) (by decide)) ?_
 rintro _ w2 ⟨D, e, rfl, hC2⟩
 replace hS := hS.call hC2
 simp only [List.cons_append, List.nil_append, List.append_nil] at hS ⊢
 rw [dal_1] at hS ⊢
 try simp only [opv, n1, n2, n3, n4, Value.cells]
 refine m_alloc ti29 hS (fun w3 g3 hS => ?_)
 try simp only [opv, n1, n2, n3, n4, Value.cells, Array.toArray_toList] at hS ⊢
 replace hS : St NoB w0 w3 (.obj g3 (.cells (SetC (List.replicate 16 0) (.slice none 0 0)) 29 (0, 0)) :: _) := hS
 have h0l : (List.replicate 16 (0 : Int)).length = 16 := rfl
 refine m_store_obj ti29 (hS := hS) (hv := setC_size (by assumption) _) (h1 := set_one _ _ _ _) (hfit := by rw [setC_size (by assumption)]; omega) (hc := set_whole (by assumption) (by assumption) _ _) (h := fun w4 hS => ?_)
 try simp only [opv, n1, n2, n3, n4, Value.cells, Array.toArray_toList] at hS ⊢
 refine x_nil ?_
 refine hK2 _ _ ?_
 refine x_seq fun K3 hK3 => ?_
 refine x_region ?_
 first | refine s_go (m_fieldAddr Tryz.underlying29 (hi := ti26)) ?_ | refine s_go (m_fieldAddr_rd Tryz.underlying29 (hi := ti26) (hS := hS)) ?_ | refine s_go (m_fieldAddr_vec Tryz.underlying29 (hi := ti26) (hS := hS)) ?_
 try simp only [opv, n1, n2, n3, n4, Value.cells, Nat.zero_add, Nat.add_zero, List.getElem_toArray, List.getElem_cons_zero, List.getElem_cons_succ]
 refine s_go (m_loada_obj Tryz.underlying26 (hi := ti26) (hS := hS) (hfit := by rw [setC_size (by assumption)]; decide)) ?_
 try simp only [opv, n1, n2, n3, n4, Value.cells, List.getElem_toArray, List.getElem_cons_zero, List.getElem_cons_succ]
 rw [set_flo (by assumption)]
 refine s_go (s_build_arr (cells := #[_, .int .u32 0, .int .u32 0, .int .u32 0, .int .u32 0, .int .u32 0, .int .u32 0, .int .u32 0, .int .u32 0, .int .u32 0, .int .u32 0, .int .u32 0, .int .u32 0, .int .u32 0, .int .u32 0, .int .u32 0]) Tryz.underlying26 ti26 ti24 (hc := by simp only [List.map_toArray, List.map_cons, List.map_nil, opv, n1, n2, n3, n4, Value.cells, List.toList_toArray]; (repeat (refine fill_cons rfl rfl (Nat.le_of_ble_eq_true rfl) ?_)); rfl)) ?_
 try simp only [opv, n1, n2, n3, n4, Value.cells]
 rw [show (#[.int .u32 2, .int .u32 0, .int .u32 0, .int .u32 0, .int .u32 0, .int .u32 0, .int .u32 0, .int .u32 0, .int .u32 0, .int .u32 0, .int .u32 0, .int .u32 0, .int .u32 0, .int .u32 0, .int .u32 0, .int .u32 0] : Array Value) = ic .u32 fl2 from rfl]
 refine s_go (s_eql_agg eqv26 (hg := eg26) (hX := zi_ic (by assumption)) (hY := zi_ic (by assumption)) (h1 := by assumption) (h2 := by assumption)) ?_
 try simp only [opv, n1, n2, n3, n4, Value.cells]
 try simp only [eq_self, decide_true, beq_self_eq_true, Bool.and_self]
 refine s_go (s_move) ?_
 try simp only [opv, n1, n2, n3, n4, Value.cells]
 refine g_on (yi (t := 8) rfl rfl) ?_
 first | refine s_go (m_fieldAddr Tryz.underlying29 (hi := ti27)) ?_ | refine s_go (m_fieldAddr_rd Tryz.underlying29 (hi := ti27) (hS := hS)) ?_ | refine s_go (m_fieldAddr_vec Tryz.underlying29 (hi := ti27) (hS := hS)) ?_
 try simp only [opv, n1, n2, n3, n4, Value.cells, Nat.zero_add, Nat.add_zero, List.getElem_toArray, List.getElem_cons_zero, List.getElem_cons_succ]
 refine g_on (yi (t := 8) rfl rfl) ?_
 refine s_go (m_load_obj Tryz.underlying27 (hS := hS) (hv := set_sl (by assumption) _)) ?_
 try simp only [opv, n1, n2, n3, n4, Value.cells, List.getElem_toArray, List.getElem_cons_zero, List.getElem_cons_succ]
 refine g_on (yi (t := 8) rfl rfl) ?_
 refine s_go (s_len_sl Tryz.underlying27) ?_
 try simp only [opv, n1, n2, n3, n4, Value.cells]
 refine g_on (yi (t := 8) rfl rfl) ?_
 refine s_go (s_eql) ?_
 try simp only [opv, n1, n2, n3, n4, Value.cells]
 try simp only [eq_self, decide_true, beq_self_eq_true, Bool.and_self]
 first | refine s_go (s_pick_t) ?_ | refine s_go (s_pick_f) ?_
 try simp only [opv, n1, n2, n3, n4, Value.cells]
 refine s_go (s_move) ?_
 try simp only [opv, n1, n2, n3, n4, Value.cells]
 refine g_on (yi (t := 14) rfl rfl) ?_
 refine s_go (m_load_row Tryz.underlying29 (hi := ti29) (hS := hS) (hfit := by rw [setC_size (by assumption)])) ?_
 try simp only [opv, n1, n2, n3, n4, Value.cells, List.getElem_toArray, List.getElem_cons_zero, List.getElem_cons_succ]
 refine g_on (yi (t := 14) rfl rfl) ?_
 refine m_buildRow (cells := #[_]) Tryz.underlying27 ti84 (hc := by simp only [List.map_toArray, List.map_cons, List.map_nil, opv, n1, n2, n3, n4, Value.cells, List.toList_toArray]; (repeat (refine fill_cons rfl rfl (Nat.le_of_ble_eq_true rfl) ?_)); rfl) (hS := hS) (h := fun w5 g5 hS => ?_)
 try simp only [opv, n1, n2, n3, n4, Value.cells, Array.toArray_toList] at hS ⊢
 replace hS := hS.obj_rd (sz := 1) (n := 1) rfl .head
 refine g_on (yi (t := 14) rfl rfl) ?_
 refine s_call en50 ?_
 try simp only [opv, n1, n2, n3, n4, Value.cells, List.map_toArray, List.map_cons, List.map_nil, List.append_toArray, List.cons_append, List.nil_append, Array.append_empty]
 refine CallR.mono (c_dotsAdd _ fl2 fl2_ok D e [4] (hS.vecRd (by repeat (first | exact Has.head | apply Has.tail))) (u_one (by decide)) _ _ [3] (hS.hasRd (by repeat (first | exact Has.head | apply Has.tail))) (u_one (by decide)) (by decide)) ?_
 rintro _ w6 ⟨D2, e2, rfl, hC6⟩
 replace hS := hS.call hC6
 simp only [List.cons_append, List.nil_append, List.append_nil] at hS ⊢
 rw [dal_2] at hS ⊢
 try simp only [opv, n1, n2, n3, n4, Value.cells]
 refine g_on (yi (t := 14) rfl rfl) ?_
 refine s_go (s_field_agg Tryz.underlying29 (hu := Tryz.underlying26) (hi := ti26)) ?_
 try simp only [opv, n1, n2, n3, n4, Value.cells, List.getElem_toArray, List.getElem_cons_zero, List.getElem_cons_succ]
 rw [set_ext (by assumption)]
 refine g_on (yi (t := 14) rfl rfl) ?_
 refine s_go (s_build_arr (cells := #[_, .int .u32 0, .int .u32 0, .int .u32 0, .int .u32 0, .int .u32 0, .int .u32 0, .int .u32 0, .int .u32 0, .int .u32 0, .int .u32 0, .int .u32 0, .int .u32 0, .int .u32 0, .int .u32 0, .int .u32 0]) Tryz.underlying26 ti26 ti24 (hc := by simp only [List.map_toArray, List.map_cons, List.map_nil, opv, n1, n2, n3, n4, Value.cells, List.toList_toArray]; (repeat (refine fill_cons rfl rfl (Nat.le_of_ble_eq_true rfl) ?_)); rfl)) ?_
 try simp only [opv, n1, n2, n3, n4, Value.cells]
 rw [show (#[.int .u32 4, .int .u32 0, .int .u32 0, .int .u32 0, .int .u32 0, .int .u32 0, .int .u32 0, .int .u32 0, .int .u32 0, .int .u32 0, .int .u32 0, .int .u32 0, .int .u32 0, .int .u32 0, .int .u32 0, .int .u32 0] : Array Value) = ic .u32 fl4 from rfl]
 refine g_on (yi (t := 14) rfl rfl) ?_
 refine s_go (s_eql_agg eqv26 (hg := eg26) (hX := zi_ic (by assumption)) (hY := zi_ic (by assumption)) (h1 := by assumption) (h2 := by assumption)) ?_
 try simp only [opv, n1, n2, n3, n4, Value.cells]
 try simp only [eq_self, decide_true, beq_self_eq_true, Bool.and_self]
 first | refine s_go (s_pick_t) ?_ | refine s_go (s_pick_f) ?_
 try simp only [opv, n1, n2, n3, n4, Value.cells]
 refine s_go (s_move) ?_
 try simp only [opv, n1, n2, n3, n4, Value.cells]
 refine g_on (yi (t := 22) rfl rfl) ?_
 refine s_go (m_load_row Tryz.underlying29 (hi := ti29) (hS := hS) (hfit := by rw [setC_size (by assumption)])) ?_
 try simp only [opv, n1, n2, n3, n4, Value.cells, List.getElem_toArray, List.getElem_cons_zero, List.getElem_cons_succ]
 refine g_on (yi (t := 22) rfl rfl) ?_
 refine s_call en51 ?_
 try simp only [opv, n1, n2, n3, n4, Value.cells, List.map_toArray, List.map_cons, List.map_nil, List.append_toArray, List.cons_append, List.nil_append, Array.append_empty]
 refine CallR.mono (c_dotsCount _ fl2 fl2_ok D e [4] (hS.vecRd (by repeat (first | exact Has.head | apply Has.tail))) (u_one (by decide)) (by decide)) ?_
 rintro _ w7 ⟨rfl, hE7⟩
 replace hS := hS.ext hE7
 try simp only [opv, n1, n2, n3, n4, Value.cells]
 rw [dal_3]
 refine g_on (yi (t := 22) rfl rfl) ?_
 refine s_go (s_eql) ?_
 try simp only [opv, n1, n2, n3, n4, Value.cells]
 try simp only [eq_self, decide_true, beq_self_eq_true, Bool.and_self]
 first | refine s_go (s_pick_t) ?_ | refine s_go (s_pick_f) ?_
 try simp only [opv, n1, n2, n3, n4, Value.cells]
 refine s_go (s_assign) ?_
 try simp only [opv, n1, n2, n3, n4, Value.cells]
 refine x_nil ?_
 refine hK3 _ _ ?_
 refine x_ret ?_
 refine r_tmp rfl ?_
 exact ⟨rfl, hS.ext_of⟩
end Go.Proofs.YtffmanidnlbjjaaGreat
