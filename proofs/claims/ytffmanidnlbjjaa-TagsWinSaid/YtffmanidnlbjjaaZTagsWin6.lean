/- Rules, plain words and walks that the claim leans on: Qf, Qg, Qh, Oa, Oc, Qi, Qj, Pheap, Rk, Rl. -/
import Derived.Test.YtffmanidnlbjjaaZTagsWin5
set_option linter.unusedSimpArgs false
set_option linter.unusedVariables false
set_option linter.unusedSimpArgs false
set_option linter.unusedVariables false
set_option maxHeartbeats 2000000
set_option maxRecDepth 100000
namespace Go.Proofs.Ytffmanidnlbjjaa
open Go.RowKit

abbrev krows (l : List (List Int)) : List Value := rowsZ keyKs l
theorem krow_one {x : List Int} (h : x.length = 12) : (KA x).toList = krows [x] := by
  show (zi keyKs x).toArray.toList = rowsZ keyKs [x]
  rw [rowsZ_one, padL_zi (by simpa using h)]
theorem kadd_one {o : List (List Int)} {y : List Int} : krows o ++ krows [y] = krows (o ++ [y]) := (rowsZ_app _ _ _).symm
/-- does a tag lie at an item (and is it live, if that is asked)? -/
def ofQ (c : Nat) (it : List Int) (b : Bool) (k v : List Int) : Bool := decide (kn k 1 = c) && decide (kitem k = it) && (!b || decide (kn v 0 = 1))

theorem c_tagsOf1 (w0 : World) (gc gi gl ct : Nat) (it : List Int) (h8 : it.length = 8) (fl : Bool) (x y : List Int) (hx : KeyOk x) (hy : ValOk y) (hM : St (OwnB [.obj gc (.cells #[.int .u16 (ct : Int)] 23 (0, 0)), .obj gi (.cells (ic .u8 it) 25 (0, 0)), .obj gl (.cells #[.bool fl] 4 (0, 0))]) w0 w0 [.obj gc (.cells #[.int .u16 (ct : Int)] 23 (0, 0)), .obj gi (.cells (ic .u8 it) 25 (0, 0)), .obj gl (.cells #[.bool fl] 4 (0, 0))])  :
    CallR Try.prog 96 #[.agg (KA x), .agg (VA y), .pointer (some ⟨gc, 0, none⟩), .pointer (some ⟨gi, 0, none⟩), .pointer (some ⟨gl, 0, none⟩)] w0 fun v w' => v = .bool (ofQ ct it fl x y) ∧ St (OwnB [.obj gc (.cells #[.int .u16 (ct : Int)] 23 (0, 0)), .obj gi (.cells (ic .u8 it) 25 (0, 0)), .obj gl (.cells #[.bool fl] 4 (0, 0))]) w0 w' [.obj gc (.cells #[.int .u16 (ct : Int)] 23 (0, 0)), .obj gi (.cells (ic .u8 it) 25 (0, 0)), .obj gl (.cells #[.bool fl] 4 (0, 0))] := by
 have hS := hM
 have hxl := hx.len
 have hyl := hy.len
 have hil := kitem_len hxl
 refine c_enter (l := [.agg (KA x), .agg (VA y), .pointer (some ⟨gc, 0, none⟩), .pointer (some ⟨gi, 0, none⟩), .pointer (some ⟨gl, 0, none⟩), undef, undef, undef, undef, undef, undef, undef, undef, undef, undef, undef, undef, undef, undef, undef, undef, undef, undef, undef, undef, undef, undef]) Try.func96 rfl (by simp only [Try.ntmps96, List.size_toArray, List.length_cons, List.length_nil, Nat.reduceAdd, Nat.reduceSub, Array.replicate_succ, Array.replicate_zero, List.push_toArray, List.append_toArray, List.nil_append, List.cons_append]) ?_
 refine x_seq fun K1 hK1 => ?_
 refine x_region ?_
 refine m_box hS (fun w1 g1 hS => ?_)
 try simp only [opv, nZ, Value.cells, Array.toArray_toList] at hS ⊢
 refine m_box hS (fun w2 g2 hS => ?_)
 try simp only [opv, nZ, Value.cells, Array.toArray_toList] at hS ⊢
 refine s_go (s_assign) ?_
 try simp only [opv, nZ, Value.cells]
 refine x_nil ?_
 refine hK1 _ _ ?_
 refine x_seq fun K2 hK2 => ?_
 refine x_region ?_
 first | refine s_go (m_fieldAddr Try.underlying43 (hi := ti23)) ?_ | refine s_go (m_fieldAddr_rd Try.underlying43 (hi := ti23) (hS := hS)) ?_ | refine s_go (m_fieldAddr_vec Try.underlying43 (hi := ti23) (hS := hS)) ?_
 try simp only [opv, nZ, Value.cells, Nat.zero_add, Nat.add_zero, List.getElem_toArray, List.getElem_cons_zero, List.getElem_cons_succ]
 first | refine s_go (m_load_obj Try.underlying23 (hS := hS) (hv := by first | rfl | exact zi_get rfl (by omega) | exact ic_get (by omega) | exact il_get (by omega))) ?_ | refine s_go (m_load_bx Try.underlying23 (hS := hS) (hv := by first | rfl | exact zi_get rfl (by omega) | exact ic_get (by omega) | exact il_get (by omega))) ?_ | refine s_go (m_load_rd Try.underlying23 (hS := hS) (hv := by first | rfl | exact zi_get rfl (by omega) | exact ic_get (by omega) | exact il_get (by omega))) ?_ | refine s_go (m_load_vec Try.underlying23 (hS := hS) (hv := by first | rfl | exact zi_get rfl (by omega) | exact ic_get (by omega) | exact il_get (by omega))) ?_
 try simp only [opv, nZ, Value.cells, List.getElem_toArray, List.getElem_cons_zero, List.getElem_cons_succ]
 rw [hx.e1]
 first | refine s_go (m_load_obj Try.underlying23 (hS := hS) (hv := by first | rfl | exact zi_get rfl (by omega) | exact ic_get (by omega) | exact il_get (by omega))) ?_ | refine s_go (m_load_bx Try.underlying23 (hS := hS) (hv := by first | rfl | exact zi_get rfl (by omega) | exact ic_get (by omega) | exact il_get (by omega))) ?_ | refine s_go (m_load_rd Try.underlying23 (hS := hS) (hv := by first | rfl | exact zi_get rfl (by omega) | exact ic_get (by omega) | exact il_get (by omega))) ?_ | refine s_go (m_load_vec Try.underlying23 (hS := hS) (hv := by first | rfl | exact zi_get rfl (by omega) | exact ic_get (by omega) | exact il_get (by omega))) ?_
 try simp only [opv, nZ, Value.cells, List.getElem_toArray, List.getElem_cons_zero, List.getElem_cons_succ]
 refine s_go (s_eql) ?_
 try simp only [opv, nZ, Value.cells]
 refine s_go (s_move) ?_
 try simp only [opv, nZ, Value.cells]
 refine s_part 12 rfl (fun hp1 => ?_) (fun hp1 => ?_)
 ·
  try simp only [n3, n4]
  try simp only [decide_eq_true_eq, decide_eq_false_iff_not, Bool.not_eq_true', Bool.not_eq_false', Int.not_lt, Int.not_le, ne_eq, Decidable.not_not] at hp1
  have q1 : decide (kn x 1 = ct) = true := decide_eq_true (by omega)
  refine g_on (yi (t := 12) rfl rfl) ?_
  first | refine s_go (m_fieldAddr Try.underlying43 (hi := ti25)) ?_ | refine s_go (m_fieldAddr_rd Try.underlying43 (hi := ti25) (hS := hS)) ?_ | refine s_go (m_fieldAddr_vec Try.underlying43 (hi := ti25) (hS := hS)) ?_
  try simp only [opv, nZ, Value.cells, Nat.zero_add, Nat.add_zero, List.getElem_toArray, List.getElem_cons_zero, List.getElem_cons_succ]
  refine g_on (yi (t := 12) rfl rfl) ?_
  first | refine s_go (m_load_row Try.underlying25 (hi := ti25) (hS := hS) (hfit := by first | omega | (rw [zi_size (by omega)]; first | rfl | decide) | (simp only [ic_size, List.length_map, List.size_toArray]; first | omega | decide) | rfl | (simp [*]; done) | (simp [*]; omega))) ?_ | refine s_go (m_loada_obj Try.underlying25 (hi := ti25) (hS := hS) (hfit := by first | omega | (rw [zi_size (by omega)]; first | rfl | decide) | (simp only [ic_size, List.length_map, List.size_toArray]; first | omega | decide) | rfl | (simp [*]; done) | (simp [*]; omega))) ?_ | refine s_go (m_loada_bx Try.underlying25 (hi := ti25) (hS := hS) (hfit := by first | omega | (rw [zi_size (by omega)]; first | rfl | decide) | (simp only [ic_size, List.length_map, List.size_toArray]; first | omega | decide) | rfl | (simp [*]; done) | (simp [*]; omega))) ?_ | refine s_go (m_loada_rd Try.underlying25 (hi := ti25) (hS := hS) (hfit := by first | omega | (rw [zi_size (by omega)]; first | rfl | decide) | (simp only [ic_size, List.length_map, List.size_toArray]; first | omega | decide) | rfl | (simp [*]; done) | (simp [*]; omega))) ?_ | refine s_go (m_loada_vec Try.underlying25 (hi := ti25) (hS := hS) (hfit := by first | omega | (rw [zi_size (by omega)]; first | rfl | decide) | (simp only [ic_size, List.length_map, List.size_toArray]; first | omega | decide) | rfl | (simp [*]; done) | (simp [*]; omega))) ?_
  try simp only [opv, nZ, Value.cells, List.getElem_toArray, List.getElem_cons_zero, List.getElem_cons_succ]
  rw [key_item hxl]
  refine g_on (yi (t := 12) rfl rfl) ?_
  first | refine s_go (m_load_row Try.underlying25 (hi := ti25) (hS := hS) (hfit := by first | omega | (rw [zi_size (by omega)]; first | rfl | decide) | (simp only [ic_size, List.length_map, List.size_toArray]; first | omega | decide) | rfl | (simp [*]; done) | (simp [*]; omega))) ?_ | refine s_go (m_loada_obj Try.underlying25 (hi := ti25) (hS := hS) (hfit := by first | omega | (rw [zi_size (by omega)]; first | rfl | decide) | (simp only [ic_size, List.length_map, List.size_toArray]; first | omega | decide) | rfl | (simp [*]; done) | (simp [*]; omega))) ?_ | refine s_go (m_loada_bx Try.underlying25 (hi := ti25) (hS := hS) (hfit := by first | omega | (rw [zi_size (by omega)]; first | rfl | decide) | (simp only [ic_size, List.length_map, List.size_toArray]; first | omega | decide) | rfl | (simp [*]; done) | (simp [*]; omega))) ?_ | refine s_go (m_loada_rd Try.underlying25 (hi := ti25) (hS := hS) (hfit := by first | omega | (rw [zi_size (by omega)]; first | rfl | decide) | (simp only [ic_size, List.length_map, List.size_toArray]; first | omega | decide) | rfl | (simp [*]; done) | (simp [*]; omega))) ?_ | refine s_go (m_loada_vec Try.underlying25 (hi := ti25) (hS := hS) (hfit := by first | omega | (rw [zi_size (by omega)]; first | rfl | decide) | (simp only [ic_size, List.length_map, List.size_toArray]; first | omega | decide) | rfl | (simp [*]; done) | (simp [*]; omega))) ?_
  try simp only [opv, nZ, Value.cells, List.getElem_toArray, List.getElem_cons_zero, List.getElem_cons_succ]
  refine g_on (yi (t := 12) rfl rfl) ?_
  refine s_go (s_eql_agg eqv25 (hg := eg25) (hX := zi_ic (by assumption)) (hY := zi_ic (by assumption)) (h1 := by assumption) (h2 := by assumption)) ?_
  try simp only [opv, nZ, Value.cells]
  first | refine s_go (s_pick_t) ?_ | refine s_go (s_pick_f) ?_
  try simp only [opv, nZ, Value.cells]
  refine s_go (s_move) ?_
  try simp only [opv, nZ, Value.cells]
  refine s_part 18 rfl (fun hp2 => ?_) (fun hp2 => ?_)
  ·
   try simp only [n3, n4]
   try simp only [decide_eq_true_eq, decide_eq_false_iff_not, Bool.not_eq_true', Bool.not_eq_false', Int.not_lt, Int.not_le, ne_eq, Decidable.not_not] at hp2
   have q2 : decide (kitem x = it) = true := by simpa using hp2
   refine g_on (yi (t := 18) rfl rfl) ?_
   first | refine s_go (m_load_obj Try.underlying4 (hS := hS) (hv := by first | rfl | exact zi_get rfl (by omega) | exact ic_get (by omega) | exact il_get (by omega))) ?_ | refine s_go (m_load_bx Try.underlying4 (hS := hS) (hv := by first | rfl | exact zi_get rfl (by omega) | exact ic_get (by omega) | exact il_get (by omega))) ?_ | refine s_go (m_load_rd Try.underlying4 (hS := hS) (hv := by first | rfl | exact zi_get rfl (by omega) | exact ic_get (by omega) | exact il_get (by omega))) ?_ | refine s_go (m_load_vec Try.underlying4 (hS := hS) (hv := by first | rfl | exact zi_get rfl (by omega) | exact ic_get (by omega) | exact il_get (by omega))) ?_
   try simp only [opv, nZ, Value.cells, List.getElem_toArray, List.getElem_cons_zero, List.getElem_cons_succ]
   refine g_on (yi (t := 18) rfl rfl) ?_
   refine s_go (s_not) ?_
   try simp only [opv, nZ, Value.cells]
   refine g_on (yi (t := 18) rfl rfl) ?_
   refine s_go (s_move) ?_
   try simp only [opv, nZ, Value.cells]
   refine s_part 21 rfl (fun hp3 => ?_) (fun hp3 => ?_)
   ·
    try simp only [n3, n4]
    try simp only [decide_eq_true_eq, decide_eq_false_iff_not, Bool.not_eq_true', Bool.not_eq_false', Int.not_lt, Int.not_le, ne_eq, Decidable.not_not] at hp3
    have hfl : fl = false := by simpa using hp3
    have hQ : ofQ ct it fl x y = true := by rw [ofQ, q1, q2, hfl]; rfl
    refine g_off (yi (t := 21) rfl rfl) ?_
    try simp only [opv, nZ, Value.cells]
    refine g_off (yi (t := 21) rfl rfl) ?_
    try simp only [opv, nZ, Value.cells]
    refine g_off (yi (t := 21) rfl rfl) ?_
    try simp only [opv, nZ, Value.cells]
    refine g_on (yi (t := 18) rfl rfl) ?_
    first | refine s_go (s_pick_t) ?_ | refine s_go (s_pick_f) ?_
    try simp only [opv, nZ, Value.cells]
    first | refine s_go (s_pick_t) ?_ | refine s_go (s_pick_f) ?_
    try simp only [opv, nZ, Value.cells]
    refine s_go (s_assign) ?_
    try simp only [opv, nZ, Value.cells]
    refine x_nil ?_
    refine hK2 _ _ ?_
    refine x_ret ?_
    refine r_tmp rfl ?_
    exact ⟨by rw [hQ]; rfl, hS.selA⟩
   ·
    try simp only [n3, n4]
    try simp only [decide_eq_true_eq, decide_eq_false_iff_not, Bool.not_eq_true', Bool.not_eq_false', Int.not_lt, Int.not_le, ne_eq, Decidable.not_not] at hp3
    have hfl : fl = true := by simpa using hp3
    have hQ : ofQ ct it fl x y = decide ((kn y 0 : Int) = 1) := by rw [ofQ, q1, q2, hfl]; simp; omega
    refine g_on (yi (t := 21) rfl rfl) ?_
    first | refine s_go (m_fieldAddr Try.underlying50 (hi := ti48)) ?_ | refine s_go (m_fieldAddr_rd Try.underlying50 (hi := ti48) (hS := hS)) ?_ | refine s_go (m_fieldAddr_vec Try.underlying50 (hi := ti48) (hS := hS)) ?_
    try simp only [opv, nZ, Value.cells, Nat.zero_add, Nat.add_zero, List.getElem_toArray, List.getElem_cons_zero, List.getElem_cons_succ]
    refine g_on (yi (t := 21) rfl rfl) ?_
    first | refine s_go (m_load_obj Try.underlying48 (hS := hS) (hv := by first | rfl | exact zi_get rfl (by omega) | exact ic_get (by omega) | exact il_get (by omega))) ?_ | refine s_go (m_load_bx Try.underlying48 (hS := hS) (hv := by first | rfl | exact zi_get rfl (by omega) | exact ic_get (by omega) | exact il_get (by omega))) ?_ | refine s_go (m_load_rd Try.underlying48 (hS := hS) (hv := by first | rfl | exact zi_get rfl (by omega) | exact ic_get (by omega) | exact il_get (by omega))) ?_ | refine s_go (m_load_vec Try.underlying48 (hS := hS) (hv := by first | rfl | exact zi_get rfl (by omega) | exact ic_get (by omega) | exact il_get (by omega))) ?_
    try simp only [opv, nZ, Value.cells, List.getElem_toArray, List.getElem_cons_zero, List.getElem_cons_succ]
    rw [hy.e0]
    refine g_on (yi (t := 21) rfl rfl) ?_
    refine s_go (s_eql) ?_
    try simp only [opv, nZ, Value.cells]
    refine g_on (yi (t := 18) rfl rfl) ?_
    first | refine s_go (s_pick_t) ?_ | refine s_go (s_pick_f) ?_
    try simp only [opv, nZ, Value.cells]
    first | refine s_go (s_pick_t) ?_ | refine s_go (s_pick_f) ?_
    try simp only [opv, nZ, Value.cells]
    refine s_go (s_assign) ?_
    try simp only [opv, nZ, Value.cells]
    refine x_nil ?_
    refine hK2 _ _ ?_
    refine x_ret ?_
    refine r_tmp rfl ?_
    exact ⟨by rw [hQ]; rfl, hS.selA⟩
  ·
   try simp only [n3, n4]
   try simp only [decide_eq_true_eq, decide_eq_false_iff_not, Bool.not_eq_true', Bool.not_eq_false', Int.not_lt, Int.not_le, ne_eq, Decidable.not_not] at hp2
   try have hQ : ofQ ct it fl x y = false := by rw [ofQ, q1, show decide (kitem x = it) = false by simpa using hp2]; rfl
   refine g_off (yi (t := 18) rfl rfl) ?_
   try simp only [opv, nZ, Value.cells]
   refine g_off (yi (t := 18) rfl rfl) ?_
   try simp only [opv, nZ, Value.cells]
   refine g_off (yi (t := 18) rfl rfl) ?_
   try simp only [opv, nZ, Value.cells]
   refine g_un (yn (t := 21) rfl rfl) ?_
   try simp only [opv, nZ, Value.cells]
   refine g_un (yn (t := 21) rfl rfl) ?_
   try simp only [opv, nZ, Value.cells]
   refine g_un (yn (t := 21) rfl rfl) ?_
   try simp only [opv, nZ, Value.cells]
   refine g_off (yi (t := 18) rfl rfl) ?_
   try simp only [opv, nZ, Value.cells]
   first | refine s_go (s_pick_t) ?_ | refine s_go (s_pick_f) ?_
   try simp only [opv, nZ, Value.cells]
   refine s_go (s_assign) ?_
   try simp only [opv, nZ, Value.cells]
   refine x_nil ?_
   refine hK2 _ _ ?_
   refine x_ret ?_
   refine r_tmp rfl ?_
   exact ⟨by rw [hQ]; rfl, hS.selA⟩
 ·
  try simp only [n3, n4]
  try simp only [decide_eq_true_eq, decide_eq_false_iff_not, Bool.not_eq_true', Bool.not_eq_false', Int.not_lt, Int.not_le, ne_eq, Decidable.not_not] at hp1
  have hQ : ofQ ct it fl x y = false := by rw [ofQ, decide_eq_false (show ¬ kn x 1 = ct by omega)]; rfl
  refine g_off (yi (t := 12) rfl rfl) ?_
  try simp only [opv, nZ, Value.cells]
  refine g_off (yi (t := 12) rfl rfl) ?_
  try simp only [opv, nZ, Value.cells]
  refine g_off (yi (t := 12) rfl rfl) ?_
  try simp only [opv, nZ, Value.cells]
  refine g_off (yi (t := 12) rfl rfl) ?_
  try simp only [opv, nZ, Value.cells]
  first | refine s_go (s_pick_t) ?_ | refine s_go (s_pick_f) ?_
  try simp only [opv, nZ, Value.cells]
  refine s_go (s_move) ?_
  try simp only [opv, nZ, Value.cells]
  refine g_off (yi (t := 18) rfl rfl) ?_
  try simp only [opv, nZ, Value.cells]
  refine g_off (yi (t := 18) rfl rfl) ?_
  try simp only [opv, nZ, Value.cells]
  refine g_off (yi (t := 18) rfl rfl) ?_
  try simp only [opv, nZ, Value.cells]
  refine g_un (yn (t := 21) rfl rfl) ?_
  try simp only [opv, nZ, Value.cells]
  refine g_un (yn (t := 21) rfl rfl) ?_
  try simp only [opv, nZ, Value.cells]
  refine g_un (yn (t := 21) rfl rfl) ?_
  try simp only [opv, nZ, Value.cells]
  refine g_off (yi (t := 18) rfl rfl) ?_
  try simp only [opv, nZ, Value.cells]
  first | refine s_go (s_pick_t) ?_ | refine s_go (s_pick_f) ?_
  try simp only [opv, nZ, Value.cells]
  refine s_go (s_assign) ?_
  try simp only [opv, nZ, Value.cells]
  refine x_nil ?_
  refine hK2 _ _ ?_
  refine x_ret ?_
  refine r_tmp rfl ?_
  exact ⟨by rw [hQ]; rfl, hS.selA⟩
theorem c_tagsLive1 (w0 : World) (gs : Nat) (O : Option Addr) (oc : Nat) (ks : List (List Int)) (hk : ks.length ≤ 1000000000) (x : List Int) (hx : KeyOk x) (hM : St (OwnB [.vec O oc 43 12 (ks).length (krows (ks)), .obj gs (.cells #[.slice O (ks).length oc] 40 (0, 0))]) w0 w0 [.vec O oc 43 12 (ks).length (krows (ks)), .obj gs (.cells #[.slice O (ks).length oc] 40 (0, 0))])  :
    CallR Try.prog 60 #[.agg (KA x), .pointer (some ⟨gs, 0, none⟩)] w0 fun v w' => ∃ (O2 : Option Addr) (oc2 : Nat), v = .tuple #[] ∧ St (OwnB [.vec O oc 43 12 (ks).length (krows (ks)), .obj gs (.cells #[.slice O (ks).length oc] 40 (0, 0))]) w0 w' [.vec O2 oc2 43 12 (ks ++ [x]).length (krows (ks ++ [x])), .obj gs (.cells #[.slice O2 (ks ++ [x]).length oc2] 40 (0, 0))] := by
 have hS := hM
 have hxl := hx.len
 refine c_enter (l := [.agg (KA x), .pointer (some ⟨gs, 0, none⟩), undef, undef, undef, undef, undef]) Try.func60 rfl (by simp only [Try.ntmps60, List.size_toArray, List.length_cons, List.length_nil, Nat.reduceAdd, Nat.reduceSub, Array.replicate_succ, Array.replicate_zero, List.push_toArray, List.append_toArray, List.nil_append, List.cons_append]) ?_
 refine x_seq fun K1 hK1 => ?_
 refine x_region ?_
 refine m_box hS (fun w1 g1 hS => ?_)
 try simp only [opv, nZ, Value.cells, Array.toArray_toList] at hS ⊢
 refine x_nil ?_
 refine hK1 _ _ ?_
 refine x_region ?_
 first | refine s_go (m_load_obj Try.underlying40 (hS := hS) (hv := by first | rfl | exact zi_get rfl (by omega) | exact ic_get (by omega) | exact il_get (by omega))) ?_ | refine s_go (m_load_bx Try.underlying40 (hS := hS) (hv := by first | rfl | exact zi_get rfl (by omega) | exact ic_get (by omega) | exact il_get (by omega))) ?_ | refine s_go (m_load_rd Try.underlying40 (hS := hS) (hv := by first | rfl | exact zi_get rfl (by omega) | exact ic_get (by omega) | exact il_get (by omega))) ?_ | refine s_go (m_load_vec Try.underlying40 (hS := hS) (hv := by first | rfl | exact zi_get rfl (by omega) | exact ic_get (by omega) | exact il_get (by omega))) ?_
 try simp only [opv, nZ, Value.cells, List.getElem_toArray, List.getElem_cons_zero, List.getElem_cons_succ]
 first | refine s_go (m_load_row Try.underlying43 (hi := ti43) (hS := hS) (hfit := by first | omega | (rw [zi_size (by omega)]; first | rfl | decide) | (simp only [ic_size, List.length_map, List.size_toArray]; first | omega | decide) | rfl | (simp [*]; done) | (simp [*]; omega))) ?_ | refine s_go (m_loada_obj Try.underlying43 (hi := ti43) (hS := hS) (hfit := by first | omega | (rw [zi_size (by omega)]; first | rfl | decide) | (simp only [ic_size, List.length_map, List.size_toArray]; first | omega | decide) | rfl | (simp [*]; done) | (simp [*]; omega))) ?_ | refine s_go (m_loada_bx Try.underlying43 (hi := ti43) (hS := hS) (hfit := by first | omega | (rw [zi_size (by omega)]; first | rfl | decide) | (simp only [ic_size, List.length_map, List.size_toArray]; first | omega | decide) | rfl | (simp [*]; done) | (simp [*]; omega))) ?_ | refine s_go (m_loada_rd Try.underlying43 (hi := ti43) (hS := hS) (hfit := by first | omega | (rw [zi_size (by omega)]; first | rfl | decide) | (simp only [ic_size, List.length_map, List.size_toArray]; first | omega | decide) | rfl | (simp [*]; done) | (simp [*]; omega))) ?_ | refine s_go (m_loada_vec Try.underlying43 (hi := ti43) (hS := hS) (hfit := by first | omega | (rw [zi_size (by omega)]; first | rfl | decide) | (simp only [ic_size, List.length_map, List.size_toArray]; first | omega | decide) | rfl | (simp [*]; done) | (simp [*]; omega))) ?_
 try simp only [opv, nZ, Value.cells, List.getElem_toArray, List.getElem_cons_zero, List.getElem_cons_succ]
 refine m_buildRow (cells := (KA x)) Try.underlying40 ti43 (hc := by simp only [List.map_toArray, List.map_cons, List.map_nil, opv, nZ, Value.cells, List.toList_toArray]; exact fill_one (by rfl) (zi_size12 hxl) (by rfl)) (hS := hS) (h := fun w2 g2 hS => ?_)
 try simp only [opv, nZ, Value.cells, Array.toArray_toList] at hS ⊢
 replace hS := hS.obj_rd (sz := 12) (n := 1) (by exact zi_size12 hxl) .head
 rw [krow_one hxl] at hS
 refine m_append Try.underlying40 ti43 (hS := hS) (h1 := rowsZ_cells _ _) (h := fun w3 A3 C3 hS => ?_)
 try simp only [← List.map_append, ← List.map_drop, ← List.map_take, Nat.mul_one, Nat.zero_mul, Nat.sub_zero, List.drop_zero, List.nil_append, Nat.zero_add] at hS ⊢
 try simp only [opv, nZ, Value.cells, Array.toArray_toList] at hS ⊢
 rw [kadd_one] at hS
 first | refine m_store_obj ti40 (hS := hS) (hc := by first | exact zi_set rfl (by omega) | exact zi_whole (by omega) (by omega) | (first | exact splice_ic (by first | omega | (simp [*]; done) | (simp [*]; omega)) | exact splice_il (by first | omega | (simp [*]; done) | (simp [*]; omega)) | exact splice_whole (by first | (simp [opv, Value.cells, *]; done) | rfl) | (simp only [opv, n1, n2, Value.cells, splice, List.take_succ_cons, List.take_zero, List.drop_succ_cons, List.drop_zero, List.length_cons, List.length_nil, Nat.zero_add, Nat.reduceAdd, List.append_assoc, List.cons_append, List.nil_append]; rfl))) (hv := by first | rfl | (show (zi _ _).toArray.size = _; rw [zi_size (by omega)]; rfl) | (simp [opv, Value.cells, *]; done)) (hfit := by first | omega | (rw [zi_size (by omega)]; first | rfl | decide) | (simp only [ic_size, List.length_map, List.size_toArray]; first | omega | decide) | rfl | (simp [*]; done) | (simp [*]; omega)) (h1 := by first | exact zi_one _ _ | exact ic_one _ _ | simp [opv, Value.cells, Value.oneCell']) (h := fun w4 hS => ?_) | refine m_store_vec ti40 (hS := hS) (hc := by first | exact zi_set rfl (by omega) | exact zi_whole (by omega) (by omega) | (first | exact splice_ic (by first | omega | (simp [*]; done) | (simp [*]; omega)) | exact splice_il (by first | omega | (simp [*]; done) | (simp [*]; omega)) | exact splice_whole (by first | (simp [opv, Value.cells, *]; done) | rfl) | (simp only [opv, n1, n2, Value.cells, splice, List.take_succ_cons, List.take_zero, List.drop_succ_cons, List.drop_zero, List.length_cons, List.length_nil, Nat.zero_add, Nat.reduceAdd, List.append_assoc, List.cons_append, List.nil_append]; rfl))) (hv := by first | rfl | (show (zi _ _).toArray.size = _; rw [zi_size (by omega)]; rfl) | (simp [opv, Value.cells, *]; done)) (hfit := by first | omega | (rw [zi_size (by omega)]; first | rfl | decide) | (simp only [ic_size, List.length_map, List.size_toArray]; first | omega | decide) | rfl | (simp [*]; done) | (simp [*]; omega)) (h1 := by first | exact zi_one _ _ | exact ic_one _ _ | simp [opv, Value.cells, Value.oneCell']) (h := fun w4 hS => ?_)
 try simp only [opv, nZ, Value.cells, Array.toArray_toList] at hS ⊢
 refine x_nil ?_
 refine r_none rfl ?_
 rw [show ks.length + 1 = (ks ++ [x]).length by rw [List.length_append]; rfl] at hS
 exact ⟨_, _, rfl, hS.selA⟩
theorem c_tagsSeen1 (w0 : World) (gs : Nat) (O : Option Addr) (oc : Nat) (ks : List (List Int)) (hk : ks.length ≤ 1000000000) (x : List Int) (hx : KeyOk x) (hM : St (OwnB [.vec O oc 43 12 (ks).length (krows (ks)), .obj gs (.cells #[.slice O (ks).length oc] 40 (0, 0))]) w0 w0 [.vec O oc 43 12 (ks).length (krows (ks)), .obj gs (.cells #[.slice O (ks).length oc] 40 (0, 0))])  :
    CallR Try.prog 61 #[.agg (KA x), .pointer (some ⟨gs, 0, none⟩)] w0 fun v w' => ∃ (O2 : Option Addr) (oc2 : Nat), v = .tuple #[] ∧ St (OwnB [.vec O oc 43 12 (ks).length (krows (ks)), .obj gs (.cells #[.slice O (ks).length oc] 40 (0, 0))]) w0 w' [.vec O2 oc2 43 12 (ks ++ [x]).length (krows (ks ++ [x])), .obj gs (.cells #[.slice O2 (ks ++ [x]).length oc2] 40 (0, 0))] := by
 have hS := hM
 have hxl := hx.len
 refine c_enter (l := [.agg (KA x), .pointer (some ⟨gs, 0, none⟩), undef, undef, undef, undef, undef]) Try.func61 rfl (by simp only [Try.ntmps61, List.size_toArray, List.length_cons, List.length_nil, Nat.reduceAdd, Nat.reduceSub, Array.replicate_succ, Array.replicate_zero, List.push_toArray, List.append_toArray, List.nil_append, List.cons_append]) ?_
 refine x_seq fun K1 hK1 => ?_
 refine x_region ?_
 refine m_box hS (fun w1 g1 hS => ?_)
 try simp only [opv, nZ, Value.cells, Array.toArray_toList] at hS ⊢
 refine x_nil ?_
 refine hK1 _ _ ?_
 refine x_region ?_
 first | refine s_go (m_load_obj Try.underlying40 (hS := hS) (hv := by first | rfl | exact zi_get rfl (by omega) | exact ic_get (by omega) | exact il_get (by omega))) ?_ | refine s_go (m_load_bx Try.underlying40 (hS := hS) (hv := by first | rfl | exact zi_get rfl (by omega) | exact ic_get (by omega) | exact il_get (by omega))) ?_ | refine s_go (m_load_rd Try.underlying40 (hS := hS) (hv := by first | rfl | exact zi_get rfl (by omega) | exact ic_get (by omega) | exact il_get (by omega))) ?_ | refine s_go (m_load_vec Try.underlying40 (hS := hS) (hv := by first | rfl | exact zi_get rfl (by omega) | exact ic_get (by omega) | exact il_get (by omega))) ?_
 try simp only [opv, nZ, Value.cells, List.getElem_toArray, List.getElem_cons_zero, List.getElem_cons_succ]
 first | refine s_go (m_load_row Try.underlying43 (hi := ti43) (hS := hS) (hfit := by first | omega | (rw [zi_size (by omega)]; first | rfl | decide) | (simp only [ic_size, List.length_map, List.size_toArray]; first | omega | decide) | rfl | (simp [*]; done) | (simp [*]; omega))) ?_ | refine s_go (m_loada_obj Try.underlying43 (hi := ti43) (hS := hS) (hfit := by first | omega | (rw [zi_size (by omega)]; first | rfl | decide) | (simp only [ic_size, List.length_map, List.size_toArray]; first | omega | decide) | rfl | (simp [*]; done) | (simp [*]; omega))) ?_ | refine s_go (m_loada_bx Try.underlying43 (hi := ti43) (hS := hS) (hfit := by first | omega | (rw [zi_size (by omega)]; first | rfl | decide) | (simp only [ic_size, List.length_map, List.size_toArray]; first | omega | decide) | rfl | (simp [*]; done) | (simp [*]; omega))) ?_ | refine s_go (m_loada_rd Try.underlying43 (hi := ti43) (hS := hS) (hfit := by first | omega | (rw [zi_size (by omega)]; first | rfl | decide) | (simp only [ic_size, List.length_map, List.size_toArray]; first | omega | decide) | rfl | (simp [*]; done) | (simp [*]; omega))) ?_ | refine s_go (m_loada_vec Try.underlying43 (hi := ti43) (hS := hS) (hfit := by first | omega | (rw [zi_size (by omega)]; first | rfl | decide) | (simp only [ic_size, List.length_map, List.size_toArray]; first | omega | decide) | rfl | (simp [*]; done) | (simp [*]; omega))) ?_
 try simp only [opv, nZ, Value.cells, List.getElem_toArray, List.getElem_cons_zero, List.getElem_cons_succ]
 refine m_buildRow (cells := (KA x)) Try.underlying40 ti43 (hc := by simp only [List.map_toArray, List.map_cons, List.map_nil, opv, nZ, Value.cells, List.toList_toArray]; exact fill_one (by rfl) (zi_size12 hxl) (by rfl)) (hS := hS) (h := fun w2 g2 hS => ?_)
 try simp only [opv, nZ, Value.cells, Array.toArray_toList] at hS ⊢
 replace hS := hS.obj_rd (sz := 12) (n := 1) (by exact zi_size12 hxl) .head
 rw [krow_one hxl] at hS
 refine m_append Try.underlying40 ti43 (hS := hS) (h1 := rowsZ_cells _ _) (h := fun w3 A3 C3 hS => ?_)
 try simp only [← List.map_append, ← List.map_drop, ← List.map_take, Nat.mul_one, Nat.zero_mul, Nat.sub_zero, List.drop_zero, List.nil_append, Nat.zero_add] at hS ⊢
 try simp only [opv, nZ, Value.cells, Array.toArray_toList] at hS ⊢
 rw [kadd_one] at hS
 first | refine m_store_obj ti40 (hS := hS) (hc := by first | exact zi_set rfl (by omega) | exact zi_whole (by omega) (by omega) | (first | exact splice_ic (by first | omega | (simp [*]; done) | (simp [*]; omega)) | exact splice_il (by first | omega | (simp [*]; done) | (simp [*]; omega)) | exact splice_whole (by first | (simp [opv, Value.cells, *]; done) | rfl) | (simp only [opv, n1, n2, Value.cells, splice, List.take_succ_cons, List.take_zero, List.drop_succ_cons, List.drop_zero, List.length_cons, List.length_nil, Nat.zero_add, Nat.reduceAdd, List.append_assoc, List.cons_append, List.nil_append]; rfl))) (hv := by first | rfl | (show (zi _ _).toArray.size = _; rw [zi_size (by omega)]; rfl) | (simp [opv, Value.cells, *]; done)) (hfit := by first | omega | (rw [zi_size (by omega)]; first | rfl | decide) | (simp only [ic_size, List.length_map, List.size_toArray]; first | omega | decide) | rfl | (simp [*]; done) | (simp [*]; omega)) (h1 := by first | exact zi_one _ _ | exact ic_one _ _ | simp [opv, Value.cells, Value.oneCell']) (h := fun w4 hS => ?_) | refine m_store_vec ti40 (hS := hS) (hc := by first | exact zi_set rfl (by omega) | exact zi_whole (by omega) (by omega) | (first | exact splice_ic (by first | omega | (simp [*]; done) | (simp [*]; omega)) | exact splice_il (by first | omega | (simp [*]; done) | (simp [*]; omega)) | exact splice_whole (by first | (simp [opv, Value.cells, *]; done) | rfl) | (simp only [opv, n1, n2, Value.cells, splice, List.take_succ_cons, List.take_zero, List.drop_succ_cons, List.drop_zero, List.length_cons, List.length_nil, Nat.zero_add, Nat.reduceAdd, List.append_assoc, List.cons_append, List.nil_append]; rfl))) (hv := by first | rfl | (show (zi _ _).toArray.size = _; rw [zi_size (by omega)]; rfl) | (simp [opv, Value.cells, *]; done)) (hfit := by first | omega | (rw [zi_size (by omega)]; first | rfl | decide) | (simp only [ic_size, List.length_map, List.size_toArray]; first | omega | decide) | rfl | (simp [*]; done) | (simp [*]; omega)) (h1 := by first | exact zi_one _ _ | exact ic_one _ _ | simp [opv, Value.cells, Value.oneCell']) (h := fun w4 hS => ?_)
 try simp only [opv, nZ, Value.cells, Array.toArray_toList] at hS ⊢
 refine x_nil ?_
 refine r_none rfl ?_
 rw [show ks.length + 1 = (ks ++ [x]).length by rw [List.length_append]; rfl] at hS
 exact ⟨_, _, rfl, hS.selA⟩
end Go.Proofs.Ytffmanidnlbjjaa
set_option linter.unusedSimpArgs false
set_option linter.unusedVariables false
set_option maxHeartbeats 2000000
set_option maxRecDepth 100000
namespace Go.Proofs.Ytffmanidnlbjjaa
open Go.RowKit

theorem tag_of {a : List Int} (ha : AtomOk a) (c : Nat) (it : List Int) (fl : Bool) : tagQ c it (if fl = true then 1 else 0) a = (decide (kn a 0 = 1) && ofQ c it fl (akey a) (aval a)) := by
  have h1 := (akey_k ha.len).2
  unfold tagQ ofQ
  rw [h1]
  cases fl
  · simp [Bool.and_assoc]
  · simp [Bool.and_assoc]
theorem key_take {s : List (List Int)} {c n : Nat} {it : List Int} {k : Nat} {x : List Int} (hk : k < s.length) (hx : s.getD k [] = x) : (tagQ c it n x = true → (tagS (s.take (k + 1)) c it n).map akey = (tagS (s.take k) c it n).map akey ++ [akey x]) ∧ (tagQ c it n x = false → (tagS (s.take (k + 1)) c it n).map akey = (tagS (s.take k) c it n).map akey) := by
  obtain ⟨h1, h2⟩ := tag_take (c := c) (n := n) (it := it) hk hx
  exact ⟨fun h => by rw [h1 h, List.map_append]; rfl, fun h => by rw [h2 h]⟩

theorem c_tagsOf (ct : Nat) (hct : ct < 65536) (it : List Int) (h8 : it.length = 8) (fl : Bool)  (w0 : World) :
    CallR Try.prog 59 #[.int .u16 (ct : Int), .agg (ic .u8 it), .bool fl] w0 fun v w' => ∃ gc gi gl : Nat, v = .func (.func 96) #[] #[.pointer (some ⟨gc, 0, none⟩), .pointer (some ⟨gi, 0, none⟩), .pointer (some ⟨gl, 0, none⟩)] ∧ St NoB w0 w' [.obj gc (.cells #[.int .u16 (ct : Int)] 23 (0, 0)), .obj gi (.cells (ic .u8 it) 25 (0, 0)), .obj gl (.cells #[.bool fl] 4 (0, 0))] := by
 have hS : St NoB w0 w0 [] := St.start w0
 refine c_enter (l := [.int .u16 (ct : Int), .agg (ic .u8 it), .bool fl, undef, undef, undef, undef, undef]) Try.func59 rfl (by simp only [Try.ntmps59, List.size_toArray, List.length_cons, List.length_nil, Nat.reduceAdd, Nat.reduceSub, Array.replicate_succ, Array.replicate_zero, List.push_toArray, List.append_toArray, List.nil_append, List.cons_append]) ?_
 refine x_seq fun K1 hK1 => ?_
 refine x_region ?_
 refine m_box hS (fun w1 g1 hS => ?_)
 try simp only [opv, nZ, Value.cells, Array.toArray_toList] at hS ⊢
 refine m_box hS (fun w2 g2 hS => ?_)
 try simp only [opv, nZ, Value.cells, Array.toArray_toList] at hS ⊢
 refine m_box hS (fun w3 g3 hS => ?_)
 try simp only [opv, nZ, Value.cells, Array.toArray_toList] at hS ⊢
 refine s_go (s_assign) ?_
 try simp only [opv, nZ, Value.cells]
 refine x_nil ?_
 refine hK1 _ _ ?_
 refine x_seq fun K2 hK2 => ?_
 refine x_region ?_
 refine s_go (s_makeFunc) ?_
 try simp only [opv, nZ, Value.cells, List.map_toArray, List.map_cons, List.map_nil]
 refine s_go (s_assign) ?_
 try simp only [opv, nZ, Value.cells]
 refine x_nil ?_
 refine hK2 _ _ ?_
 refine x_ret ?_
 refine r_tmp rfl ?_
 exact ⟨_, _, _, rfl, hS.selA⟩
theorem c_tagsEachLive (w0 : World) (A : Option Addr) (c : Nat) (l : List (List Int)) (hr : Rd w0 A 21 l.length (arows l)) (hv : AOks l) (hn : l.length ≤ 1000000000) (gs : Nat) (gc gi gl ct : Nat) (it : List Int) (h8 : it.length = 8) (fl : Bool) (hM : St (OwnB [.obj gs (.cells #[.slice none 0 0] 40 (0, 0)), .obj gc (.cells #[.int .u16 (ct : Int)] 23 (0, 0)), .obj gi (.cells (ic .u8 it) 25 (0, 0)), .obj gl (.cells #[.bool fl] 4 (0, 0)), .rd A 21 (l).length (arows (l))]) w0 w0 [.obj gs (.cells #[.slice none 0 0] 40 (0, 0)), .obj gc (.cells #[.int .u16 (ct : Int)] 23 (0, 0)), .obj gi (.cells (ic .u8 it) 25 (0, 0)), .obj gl (.cells #[.bool fl] 4 (0, 0)), .rd A 21 (l).length (arows (l))])  :
    CallR Try.prog 58 #[.slice A l.length c, .func (.func 96) #[] #[.pointer (some ⟨gc, 0, none⟩), .pointer (some ⟨gi, 0, none⟩), .pointer (some ⟨gl, 0, none⟩)], .func (.func 60) #[] #[.pointer (some ⟨gs, 0, none⟩)]] w0 fun v w' => ∃ (O : Option Addr) (oc : Nat), v = .tuple #[] ∧ St (OwnB [.obj gs (.cells #[.slice none 0 0] 40 (0, 0)), .obj gc (.cells #[.int .u16 (ct : Int)] 23 (0, 0)), .obj gi (.cells (ic .u8 it) 25 (0, 0)), .obj gl (.cells #[.bool fl] 4 (0, 0)), .rd A 21 (l).length (arows (l))]) w0 w' [.vec O oc 43 12 (((tagS (normP l) ct it (if fl = true then 1 else 0)).map akey)).length (krows (((tagS (normP l) ct it (if fl = true then 1 else 0)).map akey))), .obj gs (.cells #[.slice O (((tagS (normP l) ct it (if fl = true then 1 else 0)).map akey)).length oc] 40 (0, 0))] := by
 have hS := hM
 have hno := (norm_sta hv).ok
 have hkn := (norm_sta hv).knd
 have hnl := arows_len (normP l)
 have hnb := norm_len l
 have hsn := norm_sta hv
 refine y_enter (l := [.slice A l.length c, .func (.func 96) #[] #[.pointer (some ⟨gc, 0, none⟩), .pointer (some ⟨gi, 0, none⟩), .pointer (some ⟨gl, 0, none⟩)], .func (.func 60) #[] #[.pointer (some ⟨gs, 0, none⟩)], undef, undef, undef, undef, undef, undef, undef, undef, undef, undef, undef, undef, undef, undef, undef, undef, undef, undef, undef, undef, undef]) Try.func58 rfl (by simp only [Try.ntmps58, List.size_toArray, List.length_cons, List.length_nil, Nat.reduceAdd, Nat.reduceSub, Array.replicate_succ, Array.replicate_zero, List.push_toArray, List.append_toArray, List.nil_append, List.cons_append]) ?_
 refine y_seq fun K1 hK1 => ?_
 refine y_region (by kernel_rfl) ?_
 refine m_box hS (fun w1 g1 hS => ?_)
 try simp only [opv, nZ, Value.cells, Array.toArray_toList] at hS ⊢
 obtain ⟨gf, hgf⟩ : ∃ z, z = g1 := ⟨_, rfl⟩
 rw [← hgf] at hS ⊢
 refine m_box hS (fun w2 g2 hS => ?_)
 try simp only [opv, nZ, Value.cells, Array.toArray_toList] at hS ⊢
 obtain ⟨gd, hgd⟩ : ∃ z, z = g2 := ⟨_, rfl⟩
 rw [← hgd] at hS ⊢
 replace hS := hS.nil_vec 43 12
 refine y_nilf ?_
 refine hK1 _ _ ?_
 refine y_seq fun K2 hK2 => ?_
 refine y_region (by kernel_rfl) ?_
 refine s_go (s_move) ?_
 try simp only [opv, nZ, Value.cells]
 refine s_call en88 ?_
 try simp only [opv, nZ, Value.cells, List.map_toArray, List.map_cons, List.map_nil, List.append_toArray, List.cons_append, List.nil_append, Array.append_empty]
 refine CallR.mono (c_latEach A c l _) ?_
 rintro _ w3 ⟨b, rfl, hC3⟩
 replace hS := hS.call hC3
 simp only [List.cons_append, List.nil_append] at hS
 try simp only [opv, nZ, Value.cells]
 refine y_nilf ?_
 refine hK2 _ _ ?_
 refine y_block ?_
 replace hS : St (OwnB [.obj gs (.cells #[.slice none 0 0] 40 (0, 0)), .obj gc (.cells #[.int .u16 (ct : Int)] 23 (0, 0)), .obj gi (.cells (ic .u8 it) 25 (0, 0)), .obj gl (.cells #[.bool fl] 4 (0, 0)), .rd A 21 (l).length (arows (l))]) w0 w3 [.obj b (.cells #[.slice A l.length c] 22 (0, 0)), .rd A 21 (l).length (arows (l)), .vec none 0 43 12 0 [], .obj gs (.cells #[.slice none 0 0] 40 (0, 0)), .obj gf (.cells #[.func (.func 96) #[] #[.pointer (some ⟨gc, 0, none⟩), .pointer (some ⟨gi, 0, none⟩), .pointer (some ⟨gl, 0, none⟩)]] 100 (0, 0)), .obj gd (.cells #[.func (.func 60) #[] #[.pointer (some ⟨gs, 0, none⟩)]] 102 (0, 0)), .obj gc (.cells #[.int .u16 (ct : Int)] 23 (0, 0)), .obj gi (.cells (ic .u8 it) 25 (0, 0)), .obj gl (.cells #[.bool fl] 4 (0, 0))] := hS.selA
 refine y_range rfl en110 (i_latEach b A c l hv hn) (fun _ => rfl) hS (by repeat (first | exact Spl.nil | (apply Spl.cons (by repeat (first | exact Del.head | apply Del.tail))))) (fun k L => k ≤ (normP l).length ∧ ∃ (O : Option Addr) (oc : Nat), L = [.vec O oc 43 12 (((tagS ((normP l).take k) ct it (if fl = true then 1 else 0)).map akey)).length (krows (((tagS ((normP l).take k) ct it (if fl = true then 1 else 0)).map akey))), .obj gs (.cells #[.slice O (((tagS ((normP l).take k) ct it (if fl = true then 1 else 0)).map akey)).length oc] 40 (0, 0)), .obj gf (.cells #[.func (.func 96) #[] #[.pointer (some ⟨gc, 0, none⟩), .pointer (some ⟨gi, 0, none⟩), .pointer (some ⟨gl, 0, none⟩)]] 100 (0, 0)), .obj gd (.cells #[.func (.func 60) #[] #[.pointer (some ⟨gs, 0, none⟩)]] 102 (0, 0)), .obj gc (.cells #[.int .u16 (ct : Int)] 23 (0, 0)), .obj gi (.cells (ic .u8 it) 25 (0, 0)), .obj gl (.cells #[.bool fl] 4 (0, 0))]) (fun L => False) [] ?rfh1 ?rfr1 (fun D1 T1 w4 R1 hC hS => ?rfd1) (fun D1 T1 w5 R1 hX hS => ?rft1) ?rfe1
 case rfh1 =>
  exact ⟨Nat.zero_le _, none, 0, rfl⟩
 case rfr1 =>
  intro k1 w6 R1 T1 lr1 hk1 hC hS
  obtain ⟨hk0, O, oc, rfl⟩ := hC
  simp only [List.cons_append, List.nil_append] at hS
  simp only [List.toList_toArray, entL, List.zip_cons_cons, List.zip_nil_left, List.foldl_cons, List.foldl_nil, n3, n4]
  obtain ⟨x, hx⟩ : ∃ x, (normP l).getD k1 [] = x := ⟨_, rfl⟩
  have ha : AtomOk x := by rw [← hx]; exact hno.get (by omega)
  have hal := ha.len
  have hk12 := ha.key.len
  have hvx := ha.val
  have hx9 := hvx.len
  simp only [hx]
  have hkx := ha.key
  have hk01 := akey_k hal
  have hkt := key_take (c := ct) (n := (if fl = true then 1 else 0)) (it := it) hk1 hx
  have htq := tag_of ha ct it fl
  have htl := tag_len ((normP l).take k1) ct it (if fl = true then 1 else 0)
  have hlt : ((normP l).take k1).length ≤ (normP l).length := by rw [List.length_take]; omega
  have hml : ((tagS ((normP l).take k1) ct it (if fl = true then 1 else 0)).map akey).length ≤ 1000000000 := by rw [List.length_map]; omega
  refine y_seq fun K3 hK3 => ?_
  refine y_region (by kernel_rfl) ?_
  refine m_alloc ti43 hS (fun w7 g7 hS => ?_)
  try simp only [opv, nZ, Value.cells, Array.toArray_toList] at hS ⊢
  have h0l : key0.length = 12 := rfl
  replace hS : St _ _ w7 (.obj g7 (.cells (KA key0) 43 (0, 0)) :: _) := hS
  first | refine m_store_obj ti43 (hS := hS) (hc := by first | exact zi_set rfl (by omega) | exact zi_whole (by omega) (by omega) | (first | exact splice_ic (by first | omega | (simp [*]; done) | (simp [*]; omega)) | exact splice_il (by first | omega | (simp [*]; done) | (simp [*]; omega)) | exact splice_whole (by first | (simp [opv, Value.cells, *]; done) | rfl) | (simp only [opv, n1, n2, Value.cells, splice, List.take_succ_cons, List.take_zero, List.drop_succ_cons, List.drop_zero, List.length_cons, List.length_nil, Nat.zero_add, Nat.reduceAdd, List.append_assoc, List.cons_append, List.nil_append]; rfl))) (hv := by first | rfl | (show (zi _ _).toArray.size = _; rw [zi_size (by omega)]; rfl) | (simp [opv, Value.cells, *]; done)) (hfit := by first | omega | (rw [zi_size (by omega)]; first | rfl | decide) | (simp only [ic_size, List.length_map, List.size_toArray]; first | omega | decide) | rfl | (simp [*]; done) | (simp [*]; omega)) (h1 := by first | exact zi_one _ _ | exact ic_one _ _ | simp [opv, Value.cells, Value.oneCell']) (h := fun w8 hS => ?_) | refine m_store_vec ti43 (hS := hS) (hc := by first | exact zi_set rfl (by omega) | exact zi_whole (by omega) (by omega) | (first | exact splice_ic (by first | omega | (simp [*]; done) | (simp [*]; omega)) | exact splice_il (by first | omega | (simp [*]; done) | (simp [*]; omega)) | exact splice_whole (by first | (simp [opv, Value.cells, *]; done) | rfl) | (simp only [opv, n1, n2, Value.cells, splice, List.take_succ_cons, List.take_zero, List.drop_succ_cons, List.drop_zero, List.length_cons, List.length_nil, Nat.zero_add, Nat.reduceAdd, List.append_assoc, List.cons_append, List.nil_append]; rfl))) (hv := by first | rfl | (show (zi _ _).toArray.size = _; rw [zi_size (by omega)]; rfl) | (simp [opv, Value.cells, *]; done)) (hfit := by first | omega | (rw [zi_size (by omega)]; first | rfl | decide) | (simp only [ic_size, List.length_map, List.size_toArray]; first | omega | decide) | rfl | (simp [*]; done) | (simp [*]; omega)) (h1 := by first | exact zi_one _ _ | exact ic_one _ _ | simp [opv, Value.cells, Value.oneCell']) (h := fun w8 hS => ?_)
  try simp only [opv, nZ, Value.cells, Array.toArray_toList] at hS ⊢
  refine y_nilf ?_
  refine hK3 _ _ ?_
  refine y_region (by kernel_rfl) ?_
  refine m_alloc ti50 hS (fun w9 g9 hS => ?_)
  try simp only [opv, nZ, Value.cells, Array.toArray_toList] at hS ⊢
  have h9l : v9.length = 9 := rfl
  replace hS : St _ _ w9 (.obj g9 (.cells (VA v9) 50 (0, 0)) :: _) := hS
  first | refine m_store_obj ti50 (hS := hS) (hc := by first | exact zi_set rfl (by omega) | exact zi_whole (by omega) (by omega) | (first | exact splice_ic (by first | omega | (simp [*]; done) | (simp [*]; omega)) | exact splice_il (by first | omega | (simp [*]; done) | (simp [*]; omega)) | exact splice_whole (by first | (simp [opv, Value.cells, *]; done) | rfl) | (simp only [opv, n1, n2, Value.cells, splice, List.take_succ_cons, List.take_zero, List.drop_succ_cons, List.drop_zero, List.length_cons, List.length_nil, Nat.zero_add, Nat.reduceAdd, List.append_assoc, List.cons_append, List.nil_append]; rfl))) (hv := by first | rfl | (show (zi _ _).toArray.size = _; rw [zi_size (by omega)]; rfl) | (simp [opv, Value.cells, *]; done)) (hfit := by first | omega | (rw [zi_size (by omega)]; first | rfl | decide) | (simp only [ic_size, List.length_map, List.size_toArray]; first | omega | decide) | rfl | (simp [*]; done) | (simp [*]; omega)) (h1 := by first | exact zi_one _ _ | exact ic_one _ _ | simp [opv, Value.cells, Value.oneCell']) (h := fun w10 hS => ?_) | refine m_store_vec ti50 (hS := hS) (hc := by first | exact zi_set rfl (by omega) | exact zi_whole (by omega) (by omega) | (first | exact splice_ic (by first | omega | (simp [*]; done) | (simp [*]; omega)) | exact splice_il (by first | omega | (simp [*]; done) | (simp [*]; omega)) | exact splice_whole (by first | (simp [opv, Value.cells, *]; done) | rfl) | (simp only [opv, n1, n2, Value.cells, splice, List.take_succ_cons, List.take_zero, List.drop_succ_cons, List.drop_zero, List.length_cons, List.length_nil, Nat.zero_add, Nat.reduceAdd, List.append_assoc, List.cons_append, List.nil_append]; rfl))) (hv := by first | rfl | (show (zi _ _).toArray.size = _; rw [zi_size (by omega)]; rfl) | (simp [opv, Value.cells, *]; done)) (hfit := by first | omega | (rw [zi_size (by omega)]; first | rfl | decide) | (simp only [ic_size, List.length_map, List.size_toArray]; first | omega | decide) | rfl | (simp [*]; done) | (simp [*]; omega)) (h1 := by first | exact zi_one _ _ | exact ic_one _ _ | simp [opv, Value.cells, Value.oneCell']) (h := fun w10 hS => ?_)
  try simp only [opv, nZ, Value.cells, Array.toArray_toList] at hS ⊢
  refine y_nilf ?_
  refine round_open hS (by repeat (first | exact App.nil | apply App.cons)) (fun w11 T2 hS => ?_)
  simp only [List.cons_append, List.nil_append] at hS
  refine y_block ?_
  refine y_seq fun K4 hK4 => ?_
  refine y_region (by kernel_rfl) ?_
  first | refine s_go (m_fieldAddr Try.underlying43 (hi := ti5)) ?_ | refine s_go (m_fieldAddr_rd Try.underlying43 (hi := ti5) (hS := hS)) ?_ | refine s_go (m_fieldAddr_vec Try.underlying43 (hi := ti5) (hS := hS)) ?_
  try simp only [opv, nZ, Value.cells, Nat.zero_add, Nat.add_zero, List.getElem_toArray, List.getElem_cons_zero, List.getElem_cons_succ]
  first | refine s_go (m_load_obj Try.underlying5 (hS := hS) (hv := by first | rfl | exact zi_get rfl (by omega) | exact ic_get (by omega) | exact il_get (by omega))) ?_ | refine s_go (m_load_bx Try.underlying5 (hS := hS) (hv := by first | rfl | exact zi_get rfl (by omega) | exact ic_get (by omega) | exact il_get (by omega))) ?_ | refine s_go (m_load_rd Try.underlying5 (hS := hS) (hv := by first | rfl | exact zi_get rfl (by omega) | exact ic_get (by omega) | exact il_get (by omega))) ?_ | refine s_go (m_load_vec Try.underlying5 (hS := hS) (hv := by first | rfl | exact zi_get rfl (by omega) | exact ic_get (by omega) | exact il_get (by omega))) ?_
  try simp only [opv, nZ, Value.cells, List.getElem_toArray, List.getElem_cons_zero, List.getElem_cons_succ]
  rw [hkx.e0, hk01.1]
  refine s_go (s_eql) ?_
  try simp only [opv, nZ, Value.cells]
  refine s_go (s_move) ?_
  try simp only [opv, nZ, Value.cells]
  refine s_part 15 rfl (fun hp1 => ?_) (fun hp1 => ?_)
  ·
   try simp only [n3, n4]
   try simp only [decide_eq_true_eq, decide_eq_false_iff_not, Bool.not_eq_true', Bool.not_eq_false', Int.not_lt, Int.not_le, ne_eq, Decidable.not_not] at hp1
   have q1 : decide (kn x 0 = 1) = true := decide_eq_true (by omega)
   refine g_on (yi (t := 15) rfl rfl) ?_
   first | refine s_go (m_load_obj Try.underlying100 (hS := hS) (hv := by first | rfl | exact zi_get rfl (by omega) | exact ic_get (by omega) | exact il_get (by omega))) ?_ | refine s_go (m_load_bx Try.underlying100 (hS := hS) (hv := by first | rfl | exact zi_get rfl (by omega) | exact ic_get (by omega) | exact il_get (by omega))) ?_ | refine s_go (m_load_rd Try.underlying100 (hS := hS) (hv := by first | rfl | exact zi_get rfl (by omega) | exact ic_get (by omega) | exact il_get (by omega))) ?_ | refine s_go (m_load_vec Try.underlying100 (hS := hS) (hv := by first | rfl | exact zi_get rfl (by omega) | exact ic_get (by omega) | exact il_get (by omega))) ?_
   try simp only [opv, nZ, Value.cells, List.getElem_toArray, List.getElem_cons_zero, List.getElem_cons_succ]
   refine g_on (yi (t := 15) rfl rfl) ?_
   first | refine s_go (m_load_row Try.underlying43 (hi := ti43) (hS := hS) (hfit := by first | omega | (rw [zi_size (by omega)]; first | rfl | decide) | (simp only [ic_size, List.length_map, List.size_toArray]; first | omega | decide) | rfl | (simp [*]; done) | (simp [*]; omega))) ?_ | refine s_go (m_loada_obj Try.underlying43 (hi := ti43) (hS := hS) (hfit := by first | omega | (rw [zi_size (by omega)]; first | rfl | decide) | (simp only [ic_size, List.length_map, List.size_toArray]; first | omega | decide) | rfl | (simp [*]; done) | (simp [*]; omega))) ?_ | refine s_go (m_loada_bx Try.underlying43 (hi := ti43) (hS := hS) (hfit := by first | omega | (rw [zi_size (by omega)]; first | rfl | decide) | (simp only [ic_size, List.length_map, List.size_toArray]; first | omega | decide) | rfl | (simp [*]; done) | (simp [*]; omega))) ?_ | refine s_go (m_loada_rd Try.underlying43 (hi := ti43) (hS := hS) (hfit := by first | omega | (rw [zi_size (by omega)]; first | rfl | decide) | (simp only [ic_size, List.length_map, List.size_toArray]; first | omega | decide) | rfl | (simp [*]; done) | (simp [*]; omega))) ?_ | refine s_go (m_loada_vec Try.underlying43 (hi := ti43) (hS := hS) (hfit := by first | omega | (rw [zi_size (by omega)]; first | rfl | decide) | (simp only [ic_size, List.length_map, List.size_toArray]; first | omega | decide) | rfl | (simp [*]; done) | (simp [*]; omega))) ?_
   try simp only [opv, nZ, Value.cells, List.getElem_toArray, List.getElem_cons_zero, List.getElem_cons_succ]
   refine g_on (yi (t := 15) rfl rfl) ?_
   first | refine s_go (m_load_row Try.underlying50 (hi := ti50) (hS := hS) (hfit := by first | omega | (rw [zi_size (by omega)]; first | rfl | decide) | (simp only [ic_size, List.length_map, List.size_toArray]; first | omega | decide) | rfl | (simp [*]; done) | (simp [*]; omega))) ?_ | refine s_go (m_loada_obj Try.underlying50 (hi := ti50) (hS := hS) (hfit := by first | omega | (rw [zi_size (by omega)]; first | rfl | decide) | (simp only [ic_size, List.length_map, List.size_toArray]; first | omega | decide) | rfl | (simp [*]; done) | (simp [*]; omega))) ?_ | refine s_go (m_loada_bx Try.underlying50 (hi := ti50) (hS := hS) (hfit := by first | omega | (rw [zi_size (by omega)]; first | rfl | decide) | (simp only [ic_size, List.length_map, List.size_toArray]; first | omega | decide) | rfl | (simp [*]; done) | (simp [*]; omega))) ?_ | refine s_go (m_loada_rd Try.underlying50 (hi := ti50) (hS := hS) (hfit := by first | omega | (rw [zi_size (by omega)]; first | rfl | decide) | (simp only [ic_size, List.length_map, List.size_toArray]; first | omega | decide) | rfl | (simp [*]; done) | (simp [*]; omega))) ?_ | refine s_go (m_loada_vec Try.underlying50 (hi := ti50) (hS := hS) (hfit := by first | omega | (rw [zi_size (by omega)]; first | rfl | decide) | (simp only [ic_size, List.length_map, List.size_toArray]; first | omega | decide) | rfl | (simp [*]; done) | (simp [*]; omega))) ?_
   try simp only [opv, nZ, Value.cells, List.getElem_toArray, List.getElem_cons_zero, List.getElem_cons_succ]
   refine g_on (yi (t := 15) rfl rfl) ?_
   refine s_callv (hv := rfl) en96 ?_
   try simp only [opv, nZ, Value.cells, List.map_toArray, List.map_cons, List.map_nil, List.append_toArray, List.cons_append, List.nil_append, Array.append_empty]
   refine CallR.mono (c_tagsOf1 _ gc gi gl ct it h8 fl (akey x) (aval x) hkx hvx (hS.owns (by repeat (first | exact Spl.nil | (apply Spl.cons (by repeat (first | exact Del.head | apply Del.tail))))))) ?_
   rintro _ w12 ⟨rfl, hC12⟩
   replace hS := hS.frame (by repeat (first | exact Spl.nil | (apply Spl.cons (by repeat (first | exact Del.head | apply Del.tail))))) hC12 (by intro r hr g hg; simp only [List.mem_cons, List.not_mem_nil, or_false] at hr; rcases hr with rfl | rfl | rfl <;> first | (simp [Res.reads] at hg; done) | exact .inr ⟨_, by simp, .inr hg⟩)
   simp only [List.cons_append, List.nil_append] at hS
   try simp only [opv, nZ, Value.cells]
   first | refine s_go (s_pick_t) ?_ | refine s_go (s_pick_f) ?_
   try simp only [opv, nZ, Value.cells]
   refine y_nilf ?_
   refine hK4 _ _ ?_
   refine y_cond (ht := fun hc1 => ?_) (hf := fun hc1 => ?_)
   ·
    try simp only [decide_eq_true_eq, decide_eq_false_iff_not, Bool.not_eq_true', Bool.not_eq_false', Int.not_lt, Int.not_le, ne_eq, Decidable.not_not, bne_iff_ne, beq_iff_eq, not_true_eq_false, not_false_eq_true] at hc1
    have hst := hkt.1 (by rw [htq, q1, hc1]; rfl)
    refine y_region (by kernel_rfl) ?_
    first | refine s_go (m_load_obj Try.underlying102 (hS := hS) (hv := by first | rfl | exact zi_get rfl (by omega) | exact ic_get (by omega) | exact il_get (by omega))) ?_ | refine s_go (m_load_bx Try.underlying102 (hS := hS) (hv := by first | rfl | exact zi_get rfl (by omega) | exact ic_get (by omega) | exact il_get (by omega))) ?_ | refine s_go (m_load_rd Try.underlying102 (hS := hS) (hv := by first | rfl | exact zi_get rfl (by omega) | exact ic_get (by omega) | exact il_get (by omega))) ?_ | refine s_go (m_load_vec Try.underlying102 (hS := hS) (hv := by first | rfl | exact zi_get rfl (by omega) | exact ic_get (by omega) | exact il_get (by omega))) ?_
    try simp only [opv, nZ, Value.cells, List.getElem_toArray, List.getElem_cons_zero, List.getElem_cons_succ]
    first | refine s_go (m_load_row Try.underlying43 (hi := ti43) (hS := hS) (hfit := by first | omega | (rw [zi_size (by omega)]; first | rfl | decide) | (simp only [ic_size, List.length_map, List.size_toArray]; first | omega | decide) | rfl | (simp [*]; done) | (simp [*]; omega))) ?_ | refine s_go (m_loada_obj Try.underlying43 (hi := ti43) (hS := hS) (hfit := by first | omega | (rw [zi_size (by omega)]; first | rfl | decide) | (simp only [ic_size, List.length_map, List.size_toArray]; first | omega | decide) | rfl | (simp [*]; done) | (simp [*]; omega))) ?_ | refine s_go (m_loada_bx Try.underlying43 (hi := ti43) (hS := hS) (hfit := by first | omega | (rw [zi_size (by omega)]; first | rfl | decide) | (simp only [ic_size, List.length_map, List.size_toArray]; first | omega | decide) | rfl | (simp [*]; done) | (simp [*]; omega))) ?_ | refine s_go (m_loada_rd Try.underlying43 (hi := ti43) (hS := hS) (hfit := by first | omega | (rw [zi_size (by omega)]; first | rfl | decide) | (simp only [ic_size, List.length_map, List.size_toArray]; first | omega | decide) | rfl | (simp [*]; done) | (simp [*]; omega))) ?_ | refine s_go (m_loada_vec Try.underlying43 (hi := ti43) (hS := hS) (hfit := by first | omega | (rw [zi_size (by omega)]; first | rfl | decide) | (simp only [ic_size, List.length_map, List.size_toArray]; first | omega | decide) | rfl | (simp [*]; done) | (simp [*]; omega))) ?_
    try simp only [opv, nZ, Value.cells, List.getElem_toArray, List.getElem_cons_zero, List.getElem_cons_succ]
    refine s_callv (hv := rfl) en60 ?_
    try simp only [opv, nZ, Value.cells, List.map_toArray, List.map_cons, List.map_nil, List.append_toArray, List.cons_append, List.nil_append, Array.append_empty]
    refine CallR.mono (c_tagsLive1 _ gs O oc ((tagS ((normP l).take k1) ct it (if fl = true then 1 else 0)).map akey) hml (akey x) hkx (hS.owns (by repeat (first | exact Spl.nil | (apply Spl.cons (by repeat (first | exact Del.head | apply Del.tail))))))) ?_
    rintro _ w13 ⟨O2, oc2, rfl, hC13⟩
    replace hS := hS.frame (by repeat (first | exact Spl.nil | (apply Spl.cons (by repeat (first | exact Del.head | apply Del.tail))))) hC13 (by intro r hr g hg; simp only [List.mem_cons, List.not_mem_nil, or_false] at hr; rcases hr with rfl | rfl <;> first | (simp [Res.reads] at hg; done) | exact .inr ⟨_, by simp, .inr hg⟩)
    simp only [List.cons_append, List.nil_append] at hS
    try simp only [opv, nZ, Value.cells]
    refine y_nilf ?_
    rw [← hst] at hS
    exact ⟨_, ⟨by omega, _, _, rfl⟩, hS.sel (by repeat (first | exact Sel.self | (refine Sel.cons (by repeat (first | exact Del.head | apply Del.tail)) ?_) | apply Sel.skip))⟩
   ·
    try simp only [decide_eq_true_eq, decide_eq_false_iff_not, Bool.not_eq_true', Bool.not_eq_false', Int.not_lt, Int.not_le, ne_eq, Decidable.not_not, bne_iff_ne, beq_iff_eq, not_true_eq_false, not_false_eq_true] at hc1
    try have hst := hkt.2 (by rw [htq, q1, hc1]; rfl)
    refine y_skip ?_
    rw [← hst] at hS
    exact ⟨_, ⟨by omega, _, _, rfl⟩, hS.sel (by repeat (first | exact Sel.self | (refine Sel.cons (by repeat (first | exact Del.head | apply Del.tail)) ?_) | apply Sel.skip))⟩
  ·
   try simp only [n3, n4]
   try simp only [decide_eq_true_eq, decide_eq_false_iff_not, Bool.not_eq_true', Bool.not_eq_false', Int.not_lt, Int.not_le, ne_eq, Decidable.not_not] at hp1
   have hst := hkt.2 (by rw [htq, decide_eq_false (show ¬ kn x 0 = 1 by omega)]; rfl)
   refine g_off (yi (t := 15) rfl rfl) ?_
   try simp only [opv, nZ, Value.cells]
   refine g_off (yi (t := 15) rfl rfl) ?_
   try simp only [opv, nZ, Value.cells]
   refine g_off (yi (t := 15) rfl rfl) ?_
   try simp only [opv, nZ, Value.cells]
   refine g_off (yi (t := 15) rfl rfl) ?_
   try simp only [opv, nZ, Value.cells]
   first | refine s_go (s_pick_t) ?_ | refine s_go (s_pick_f) ?_
   try simp only [opv, nZ, Value.cells]
   refine y_nilf ?_
   refine hK4 _ _ ?_
   refine y_cond_f (h := ?_)
   try have hst := hkt.2 (by rw [htq, q1, @c]; rfl)
   refine y_skip ?_
   rw [← hst] at hS
   exact ⟨_, ⟨by omega, _, _, rfl⟩, hS.sel (by repeat (first | exact Sel.self | (refine Sel.cons (by repeat (first | exact Del.head | apply Del.tail)) ?_) | apply Sel.skip))⟩
 case rfd1 =>
  obtain ⟨hk0, O, oc, rfl⟩ := hC
  simp only [List.cons_append, List.nil_append] at hS
  refine rm_mark hS (by repeat (first | exact Upd.head | apply Upd.tail)) (fun w14 hS => ?_)
  refine rm_nil ?_
  refine r_none rfl ?_
  rw [List.take_of_length_le (Nat.le_refl _)] at hS
  exact ⟨_, _, rfl, hS.selA⟩
 case rft1 =>
  exact hX.elim
 case rfe1 =>
  exact y_ex_nil
theorem c_tagsEachSeen (w0 : World) (A : Option Addr) (c : Nat) (l : List (List Int)) (hr : Rd w0 A 21 l.length (arows l)) (hv : AOks l) (hn : l.length ≤ 1000000000) (gs : Nat) (gc gi gl ct : Nat) (it : List Int) (h8 : it.length = 8) (fl : Bool) (hM : St (OwnB [.obj gs (.cells #[.slice none 0 0] 40 (0, 0)), .obj gc (.cells #[.int .u16 (ct : Int)] 23 (0, 0)), .obj gi (.cells (ic .u8 it) 25 (0, 0)), .obj gl (.cells #[.bool fl] 4 (0, 0)), .rd A 21 (l).length (arows (l))]) w0 w0 [.obj gs (.cells #[.slice none 0 0] 40 (0, 0)), .obj gc (.cells #[.int .u16 (ct : Int)] 23 (0, 0)), .obj gi (.cells (ic .u8 it) 25 (0, 0)), .obj gl (.cells #[.bool fl] 4 (0, 0)), .rd A 21 (l).length (arows (l))])  :
    CallR Try.prog 58 #[.slice A l.length c, .func (.func 96) #[] #[.pointer (some ⟨gc, 0, none⟩), .pointer (some ⟨gi, 0, none⟩), .pointer (some ⟨gl, 0, none⟩)], .func (.func 61) #[] #[.pointer (some ⟨gs, 0, none⟩)]] w0 fun v w' => ∃ (O : Option Addr) (oc : Nat), v = .tuple #[] ∧ St (OwnB [.obj gs (.cells #[.slice none 0 0] 40 (0, 0)), .obj gc (.cells #[.int .u16 (ct : Int)] 23 (0, 0)), .obj gi (.cells (ic .u8 it) 25 (0, 0)), .obj gl (.cells #[.bool fl] 4 (0, 0)), .rd A 21 (l).length (arows (l))]) w0 w' [.vec O oc 43 12 (((tagS (normP l) ct it (if fl = true then 1 else 0)).map akey)).length (krows (((tagS (normP l) ct it (if fl = true then 1 else 0)).map akey))), .obj gs (.cells #[.slice O (((tagS (normP l) ct it (if fl = true then 1 else 0)).map akey)).length oc] 40 (0, 0))] := by
 have hS := hM
 have hno := (norm_sta hv).ok
 have hkn := (norm_sta hv).knd
 have hnl := arows_len (normP l)
 have hnb := norm_len l
 have hsn := norm_sta hv
 refine y_enter (l := [.slice A l.length c, .func (.func 96) #[] #[.pointer (some ⟨gc, 0, none⟩), .pointer (some ⟨gi, 0, none⟩), .pointer (some ⟨gl, 0, none⟩)], .func (.func 61) #[] #[.pointer (some ⟨gs, 0, none⟩)], undef, undef, undef, undef, undef, undef, undef, undef, undef, undef, undef, undef, undef, undef, undef, undef, undef, undef, undef, undef, undef]) Try.func58 rfl (by simp only [Try.ntmps58, List.size_toArray, List.length_cons, List.length_nil, Nat.reduceAdd, Nat.reduceSub, Array.replicate_succ, Array.replicate_zero, List.push_toArray, List.append_toArray, List.nil_append, List.cons_append]) ?_
 refine y_seq fun K1 hK1 => ?_
 refine y_region (by kernel_rfl) ?_
 refine m_box hS (fun w1 g1 hS => ?_)
 try simp only [opv, nZ, Value.cells, Array.toArray_toList] at hS ⊢
 obtain ⟨gf, hgf⟩ : ∃ z, z = g1 := ⟨_, rfl⟩
 rw [← hgf] at hS ⊢
 refine m_box hS (fun w2 g2 hS => ?_)
 try simp only [opv, nZ, Value.cells, Array.toArray_toList] at hS ⊢
 obtain ⟨gd, hgd⟩ : ∃ z, z = g2 := ⟨_, rfl⟩
 rw [← hgd] at hS ⊢
 replace hS := hS.nil_vec 43 12
 refine y_nilf ?_
 refine hK1 _ _ ?_
 refine y_seq fun K2 hK2 => ?_
 refine y_region (by kernel_rfl) ?_
 refine s_go (s_move) ?_
 try simp only [opv, nZ, Value.cells]
 refine s_call en88 ?_
 try simp only [opv, nZ, Value.cells, List.map_toArray, List.map_cons, List.map_nil, List.append_toArray, List.cons_append, List.nil_append, Array.append_empty]
 refine CallR.mono (c_latEach A c l _) ?_
 rintro _ w3 ⟨b, rfl, hC3⟩
 replace hS := hS.call hC3
 simp only [List.cons_append, List.nil_append] at hS
 try simp only [opv, nZ, Value.cells]
 refine y_nilf ?_
 refine hK2 _ _ ?_
 refine y_block ?_
 replace hS : St (OwnB [.obj gs (.cells #[.slice none 0 0] 40 (0, 0)), .obj gc (.cells #[.int .u16 (ct : Int)] 23 (0, 0)), .obj gi (.cells (ic .u8 it) 25 (0, 0)), .obj gl (.cells #[.bool fl] 4 (0, 0)), .rd A 21 (l).length (arows (l))]) w0 w3 [.obj b (.cells #[.slice A l.length c] 22 (0, 0)), .rd A 21 (l).length (arows (l)), .vec none 0 43 12 0 [], .obj gs (.cells #[.slice none 0 0] 40 (0, 0)), .obj gf (.cells #[.func (.func 96) #[] #[.pointer (some ⟨gc, 0, none⟩), .pointer (some ⟨gi, 0, none⟩), .pointer (some ⟨gl, 0, none⟩)]] 100 (0, 0)), .obj gd (.cells #[.func (.func 61) #[] #[.pointer (some ⟨gs, 0, none⟩)]] 102 (0, 0)), .obj gc (.cells #[.int .u16 (ct : Int)] 23 (0, 0)), .obj gi (.cells (ic .u8 it) 25 (0, 0)), .obj gl (.cells #[.bool fl] 4 (0, 0))] := hS.selA
 refine y_range rfl en110 (i_latEach b A c l hv hn) (fun _ => rfl) hS (by repeat (first | exact Spl.nil | (apply Spl.cons (by repeat (first | exact Del.head | apply Del.tail))))) (fun k L => k ≤ (normP l).length ∧ ∃ (O : Option Addr) (oc : Nat), L = [.vec O oc 43 12 (((tagS ((normP l).take k) ct it (if fl = true then 1 else 0)).map akey)).length (krows (((tagS ((normP l).take k) ct it (if fl = true then 1 else 0)).map akey))), .obj gs (.cells #[.slice O (((tagS ((normP l).take k) ct it (if fl = true then 1 else 0)).map akey)).length oc] 40 (0, 0)), .obj gf (.cells #[.func (.func 96) #[] #[.pointer (some ⟨gc, 0, none⟩), .pointer (some ⟨gi, 0, none⟩), .pointer (some ⟨gl, 0, none⟩)]] 100 (0, 0)), .obj gd (.cells #[.func (.func 61) #[] #[.pointer (some ⟨gs, 0, none⟩)]] 102 (0, 0)), .obj gc (.cells #[.int .u16 (ct : Int)] 23 (0, 0)), .obj gi (.cells (ic .u8 it) 25 (0, 0)), .obj gl (.cells #[.bool fl] 4 (0, 0))]) (fun L => False) [] ?rfh1 ?rfr1 (fun D1 T1 w4 R1 hC hS => ?rfd1) (fun D1 T1 w5 R1 hX hS => ?rft1) ?rfe1
 case rfh1 =>
  exact ⟨Nat.zero_le _, none, 0, rfl⟩
 case rfr1 =>
  intro k1 w6 R1 T1 lr1 hk1 hC hS
  obtain ⟨hk0, O, oc, rfl⟩ := hC
  simp only [List.cons_append, List.nil_append] at hS
  simp only [List.toList_toArray, entL, List.zip_cons_cons, List.zip_nil_left, List.foldl_cons, List.foldl_nil, n3, n4]
  obtain ⟨x, hx⟩ : ∃ x, (normP l).getD k1 [] = x := ⟨_, rfl⟩
  have ha : AtomOk x := by rw [← hx]; exact hno.get (by omega)
  have hal := ha.len
  have hk12 := ha.key.len
  have hvx := ha.val
  have hx9 := hvx.len
  simp only [hx]
  have hkx := ha.key
  have hk01 := akey_k hal
  have hkt := key_take (c := ct) (n := (if fl = true then 1 else 0)) (it := it) hk1 hx
  have htq := tag_of ha ct it fl
  have htl := tag_len ((normP l).take k1) ct it (if fl = true then 1 else 0)
  have hlt : ((normP l).take k1).length ≤ (normP l).length := by rw [List.length_take]; omega
  have hml : ((tagS ((normP l).take k1) ct it (if fl = true then 1 else 0)).map akey).length ≤ 1000000000 := by rw [List.length_map]; omega
  refine y_seq fun K3 hK3 => ?_
  refine y_region (by kernel_rfl) ?_
  refine m_alloc ti43 hS (fun w7 g7 hS => ?_)
  try simp only [opv, nZ, Value.cells, Array.toArray_toList] at hS ⊢
  have h0l : key0.length = 12 := rfl
  replace hS : St _ _ w7 (.obj g7 (.cells (KA key0) 43 (0, 0)) :: _) := hS
  first | refine m_store_obj ti43 (hS := hS) (hc := by first | exact zi_set rfl (by omega) | exact zi_whole (by omega) (by omega) | (first | exact splice_ic (by first | omega | (simp [*]; done) | (simp [*]; omega)) | exact splice_il (by first | omega | (simp [*]; done) | (simp [*]; omega)) | exact splice_whole (by first | (simp [opv, Value.cells, *]; done) | rfl) | (simp only [opv, n1, n2, Value.cells, splice, List.take_succ_cons, List.take_zero, List.drop_succ_cons, List.drop_zero, List.length_cons, List.length_nil, Nat.zero_add, Nat.reduceAdd, List.append_assoc, List.cons_append, List.nil_append]; rfl))) (hv := by first | rfl | (show (zi _ _).toArray.size = _; rw [zi_size (by omega)]; rfl) | (simp [opv, Value.cells, *]; done)) (hfit := by first | omega | (rw [zi_size (by omega)]; first | rfl | decide) | (simp only [ic_size, List.length_map, List.size_toArray]; first | omega | decide) | rfl | (simp [*]; done) | (simp [*]; omega)) (h1 := by first | exact zi_one _ _ | exact ic_one _ _ | simp [opv, Value.cells, Value.oneCell']) (h := fun w8 hS => ?_) | refine m_store_vec ti43 (hS := hS) (hc := by first | exact zi_set rfl (by omega) | exact zi_whole (by omega) (by omega) | (first | exact splice_ic (by first | omega | (simp [*]; done) | (simp [*]; omega)) | exact splice_il (by first | omega | (simp [*]; done) | (simp [*]; omega)) | exact splice_whole (by first | (simp [opv, Value.cells, *]; done) | rfl) | (simp only [opv, n1, n2, Value.cells, splice, List.take_succ_cons, List.take_zero, List.drop_succ_cons, List.drop_zero, List.length_cons, List.length_nil, Nat.zero_add, Nat.reduceAdd, List.append_assoc, List.cons_append, List.nil_append]; rfl))) (hv := by first | rfl | (show (zi _ _).toArray.size = _; rw [zi_size (by omega)]; rfl) | (simp [opv, Value.cells, *]; done)) (hfit := by first | omega | (rw [zi_size (by omega)]; first | rfl | decide) | (simp only [ic_size, List.length_map, List.size_toArray]; first | omega | decide) | rfl | (simp [*]; done) | (simp [*]; omega)) (h1 := by first | exact zi_one _ _ | exact ic_one _ _ | simp [opv, Value.cells, Value.oneCell']) (h := fun w8 hS => ?_)
  try simp only [opv, nZ, Value.cells, Array.toArray_toList] at hS ⊢
  refine y_nilf ?_
  refine hK3 _ _ ?_
  refine y_region (by kernel_rfl) ?_
  refine m_alloc ti50 hS (fun w9 g9 hS => ?_)
  try simp only [opv, nZ, Value.cells, Array.toArray_toList] at hS ⊢
  have h9l : v9.length = 9 := rfl
  replace hS : St _ _ w9 (.obj g9 (.cells (VA v9) 50 (0, 0)) :: _) := hS
  first | refine m_store_obj ti50 (hS := hS) (hc := by first | exact zi_set rfl (by omega) | exact zi_whole (by omega) (by omega) | (first | exact splice_ic (by first | omega | (simp [*]; done) | (simp [*]; omega)) | exact splice_il (by first | omega | (simp [*]; done) | (simp [*]; omega)) | exact splice_whole (by first | (simp [opv, Value.cells, *]; done) | rfl) | (simp only [opv, n1, n2, Value.cells, splice, List.take_succ_cons, List.take_zero, List.drop_succ_cons, List.drop_zero, List.length_cons, List.length_nil, Nat.zero_add, Nat.reduceAdd, List.append_assoc, List.cons_append, List.nil_append]; rfl))) (hv := by first | rfl | (show (zi _ _).toArray.size = _; rw [zi_size (by omega)]; rfl) | (simp [opv, Value.cells, *]; done)) (hfit := by first | omega | (rw [zi_size (by omega)]; first | rfl | decide) | (simp only [ic_size, List.length_map, List.size_toArray]; first | omega | decide) | rfl | (simp [*]; done) | (simp [*]; omega)) (h1 := by first | exact zi_one _ _ | exact ic_one _ _ | simp [opv, Value.cells, Value.oneCell']) (h := fun w10 hS => ?_) | refine m_store_vec ti50 (hS := hS) (hc := by first | exact zi_set rfl (by omega) | exact zi_whole (by omega) (by omega) | (first | exact splice_ic (by first | omega | (simp [*]; done) | (simp [*]; omega)) | exact splice_il (by first | omega | (simp [*]; done) | (simp [*]; omega)) | exact splice_whole (by first | (simp [opv, Value.cells, *]; done) | rfl) | (simp only [opv, n1, n2, Value.cells, splice, List.take_succ_cons, List.take_zero, List.drop_succ_cons, List.drop_zero, List.length_cons, List.length_nil, Nat.zero_add, Nat.reduceAdd, List.append_assoc, List.cons_append, List.nil_append]; rfl))) (hv := by first | rfl | (show (zi _ _).toArray.size = _; rw [zi_size (by omega)]; rfl) | (simp [opv, Value.cells, *]; done)) (hfit := by first | omega | (rw [zi_size (by omega)]; first | rfl | decide) | (simp only [ic_size, List.length_map, List.size_toArray]; first | omega | decide) | rfl | (simp [*]; done) | (simp [*]; omega)) (h1 := by first | exact zi_one _ _ | exact ic_one _ _ | simp [opv, Value.cells, Value.oneCell']) (h := fun w10 hS => ?_)
  try simp only [opv, nZ, Value.cells, Array.toArray_toList] at hS ⊢
  refine y_nilf ?_
  refine round_open hS (by repeat (first | exact App.nil | apply App.cons)) (fun w11 T2 hS => ?_)
  simp only [List.cons_append, List.nil_append] at hS
  refine y_block ?_
  refine y_seq fun K4 hK4 => ?_
  refine y_region (by kernel_rfl) ?_
  first | refine s_go (m_fieldAddr Try.underlying43 (hi := ti5)) ?_ | refine s_go (m_fieldAddr_rd Try.underlying43 (hi := ti5) (hS := hS)) ?_ | refine s_go (m_fieldAddr_vec Try.underlying43 (hi := ti5) (hS := hS)) ?_
  try simp only [opv, nZ, Value.cells, Nat.zero_add, Nat.add_zero, List.getElem_toArray, List.getElem_cons_zero, List.getElem_cons_succ]
  first | refine s_go (m_load_obj Try.underlying5 (hS := hS) (hv := by first | rfl | exact zi_get rfl (by omega) | exact ic_get (by omega) | exact il_get (by omega))) ?_ | refine s_go (m_load_bx Try.underlying5 (hS := hS) (hv := by first | rfl | exact zi_get rfl (by omega) | exact ic_get (by omega) | exact il_get (by omega))) ?_ | refine s_go (m_load_rd Try.underlying5 (hS := hS) (hv := by first | rfl | exact zi_get rfl (by omega) | exact ic_get (by omega) | exact il_get (by omega))) ?_ | refine s_go (m_load_vec Try.underlying5 (hS := hS) (hv := by first | rfl | exact zi_get rfl (by omega) | exact ic_get (by omega) | exact il_get (by omega))) ?_
  try simp only [opv, nZ, Value.cells, List.getElem_toArray, List.getElem_cons_zero, List.getElem_cons_succ]
  rw [hkx.e0, hk01.1]
  refine s_go (s_eql) ?_
  try simp only [opv, nZ, Value.cells]
  refine s_go (s_move) ?_
  try simp only [opv, nZ, Value.cells]
  refine s_part 15 rfl (fun hp1 => ?_) (fun hp1 => ?_)
  ·
   try simp only [n3, n4]
   try simp only [decide_eq_true_eq, decide_eq_false_iff_not, Bool.not_eq_true', Bool.not_eq_false', Int.not_lt, Int.not_le, ne_eq, Decidable.not_not] at hp1
   have q1 : decide (kn x 0 = 1) = true := decide_eq_true (by omega)
   refine g_on (yi (t := 15) rfl rfl) ?_
   first | refine s_go (m_load_obj Try.underlying100 (hS := hS) (hv := by first | rfl | exact zi_get rfl (by omega) | exact ic_get (by omega) | exact il_get (by omega))) ?_ | refine s_go (m_load_bx Try.underlying100 (hS := hS) (hv := by first | rfl | exact zi_get rfl (by omega) | exact ic_get (by omega) | exact il_get (by omega))) ?_ | refine s_go (m_load_rd Try.underlying100 (hS := hS) (hv := by first | rfl | exact zi_get rfl (by omega) | exact ic_get (by omega) | exact il_get (by omega))) ?_ | refine s_go (m_load_vec Try.underlying100 (hS := hS) (hv := by first | rfl | exact zi_get rfl (by omega) | exact ic_get (by omega) | exact il_get (by omega))) ?_
   try simp only [opv, nZ, Value.cells, List.getElem_toArray, List.getElem_cons_zero, List.getElem_cons_succ]
   refine g_on (yi (t := 15) rfl rfl) ?_
   first | refine s_go (m_load_row Try.underlying43 (hi := ti43) (hS := hS) (hfit := by first | omega | (rw [zi_size (by omega)]; first | rfl | decide) | (simp only [ic_size, List.length_map, List.size_toArray]; first | omega | decide) | rfl | (simp [*]; done) | (simp [*]; omega))) ?_ | refine s_go (m_loada_obj Try.underlying43 (hi := ti43) (hS := hS) (hfit := by first | omega | (rw [zi_size (by omega)]; first | rfl | decide) | (simp only [ic_size, List.length_map, List.size_toArray]; first | omega | decide) | rfl | (simp [*]; done) | (simp [*]; omega))) ?_ | refine s_go (m_loada_bx Try.underlying43 (hi := ti43) (hS := hS) (hfit := by first | omega | (rw [zi_size (by omega)]; first | rfl | decide) | (simp only [ic_size, List.length_map, List.size_toArray]; first | omega | decide) | rfl | (simp [*]; done) | (simp [*]; omega))) ?_ | refine s_go (m_loada_rd Try.underlying43 (hi := ti43) (hS := hS) (hfit := by first | omega | (rw [zi_size (by omega)]; first | rfl | decide) | (simp only [ic_size, List.length_map, List.size_toArray]; first | omega | decide) | rfl | (simp [*]; done) | (simp [*]; omega))) ?_ | refine s_go (m_loada_vec Try.underlying43 (hi := ti43) (hS := hS) (hfit := by first | omega | (rw [zi_size (by omega)]; first | rfl | decide) | (simp only [ic_size, List.length_map, List.size_toArray]; first | omega | decide) | rfl | (simp [*]; done) | (simp [*]; omega))) ?_
   try simp only [opv, nZ, Value.cells, List.getElem_toArray, List.getElem_cons_zero, List.getElem_cons_succ]
   refine g_on (yi (t := 15) rfl rfl) ?_
   first | refine s_go (m_load_row Try.underlying50 (hi := ti50) (hS := hS) (hfit := by first | omega | (rw [zi_size (by omega)]; first | rfl | decide) | (simp only [ic_size, List.length_map, List.size_toArray]; first | omega | decide) | rfl | (simp [*]; done) | (simp [*]; omega))) ?_ | refine s_go (m_loada_obj Try.underlying50 (hi := ti50) (hS := hS) (hfit := by first | omega | (rw [zi_size (by omega)]; first | rfl | decide) | (simp only [ic_size, List.length_map, List.size_toArray]; first | omega | decide) | rfl | (simp [*]; done) | (simp [*]; omega))) ?_ | refine s_go (m_loada_bx Try.underlying50 (hi := ti50) (hS := hS) (hfit := by first | omega | (rw [zi_size (by omega)]; first | rfl | decide) | (simp only [ic_size, List.length_map, List.size_toArray]; first | omega | decide) | rfl | (simp [*]; done) | (simp [*]; omega))) ?_ | refine s_go (m_loada_rd Try.underlying50 (hi := ti50) (hS := hS) (hfit := by first | omega | (rw [zi_size (by omega)]; first | rfl | decide) | (simp only [ic_size, List.length_map, List.size_toArray]; first | omega | decide) | rfl | (simp [*]; done) | (simp [*]; omega))) ?_ | refine s_go (m_loada_vec Try.underlying50 (hi := ti50) (hS := hS) (hfit := by first | omega | (rw [zi_size (by omega)]; first | rfl | decide) | (simp only [ic_size, List.length_map, List.size_toArray]; first | omega | decide) | rfl | (simp [*]; done) | (simp [*]; omega))) ?_
   try simp only [opv, nZ, Value.cells, List.getElem_toArray, List.getElem_cons_zero, List.getElem_cons_succ]
   refine g_on (yi (t := 15) rfl rfl) ?_
   refine s_callv (hv := rfl) en96 ?_
   try simp only [opv, nZ, Value.cells, List.map_toArray, List.map_cons, List.map_nil, List.append_toArray, List.cons_append, List.nil_append, Array.append_empty]
   refine CallR.mono (c_tagsOf1 _ gc gi gl ct it h8 fl (akey x) (aval x) hkx hvx (hS.owns (by repeat (first | exact Spl.nil | (apply Spl.cons (by repeat (first | exact Del.head | apply Del.tail))))))) ?_
   rintro _ w12 ⟨rfl, hC12⟩
   replace hS := hS.frame (by repeat (first | exact Spl.nil | (apply Spl.cons (by repeat (first | exact Del.head | apply Del.tail))))) hC12 (by intro r hr g hg; simp only [List.mem_cons, List.not_mem_nil, or_false] at hr; rcases hr with rfl | rfl | rfl <;> first | (simp [Res.reads] at hg; done) | exact .inr ⟨_, by simp, .inr hg⟩)
   simp only [List.cons_append, List.nil_append] at hS
   try simp only [opv, nZ, Value.cells]
   first | refine s_go (s_pick_t) ?_ | refine s_go (s_pick_f) ?_
   try simp only [opv, nZ, Value.cells]
   refine y_nilf ?_
   refine hK4 _ _ ?_
   refine y_cond (ht := fun hc1 => ?_) (hf := fun hc1 => ?_)
   ·
    try simp only [decide_eq_true_eq, decide_eq_false_iff_not, Bool.not_eq_true', Bool.not_eq_false', Int.not_lt, Int.not_le, ne_eq, Decidable.not_not, bne_iff_ne, beq_iff_eq, not_true_eq_false, not_false_eq_true] at hc1
    have hst := hkt.1 (by rw [htq, q1, hc1]; rfl)
    refine y_region (by kernel_rfl) ?_
    first | refine s_go (m_load_obj Try.underlying102 (hS := hS) (hv := by first | rfl | exact zi_get rfl (by omega) | exact ic_get (by omega) | exact il_get (by omega))) ?_ | refine s_go (m_load_bx Try.underlying102 (hS := hS) (hv := by first | rfl | exact zi_get rfl (by omega) | exact ic_get (by omega) | exact il_get (by omega))) ?_ | refine s_go (m_load_rd Try.underlying102 (hS := hS) (hv := by first | rfl | exact zi_get rfl (by omega) | exact ic_get (by omega) | exact il_get (by omega))) ?_ | refine s_go (m_load_vec Try.underlying102 (hS := hS) (hv := by first | rfl | exact zi_get rfl (by omega) | exact ic_get (by omega) | exact il_get (by omega))) ?_
    try simp only [opv, nZ, Value.cells, List.getElem_toArray, List.getElem_cons_zero, List.getElem_cons_succ]
    first | refine s_go (m_load_row Try.underlying43 (hi := ti43) (hS := hS) (hfit := by first | omega | (rw [zi_size (by omega)]; first | rfl | decide) | (simp only [ic_size, List.length_map, List.size_toArray]; first | omega | decide) | rfl | (simp [*]; done) | (simp [*]; omega))) ?_ | refine s_go (m_loada_obj Try.underlying43 (hi := ti43) (hS := hS) (hfit := by first | omega | (rw [zi_size (by omega)]; first | rfl | decide) | (simp only [ic_size, List.length_map, List.size_toArray]; first | omega | decide) | rfl | (simp [*]; done) | (simp [*]; omega))) ?_ | refine s_go (m_loada_bx Try.underlying43 (hi := ti43) (hS := hS) (hfit := by first | omega | (rw [zi_size (by omega)]; first | rfl | decide) | (simp only [ic_size, List.length_map, List.size_toArray]; first | omega | decide) | rfl | (simp [*]; done) | (simp [*]; omega))) ?_ | refine s_go (m_loada_rd Try.underlying43 (hi := ti43) (hS := hS) (hfit := by first | omega | (rw [zi_size (by omega)]; first | rfl | decide) | (simp only [ic_size, List.length_map, List.size_toArray]; first | omega | decide) | rfl | (simp [*]; done) | (simp [*]; omega))) ?_ | refine s_go (m_loada_vec Try.underlying43 (hi := ti43) (hS := hS) (hfit := by first | omega | (rw [zi_size (by omega)]; first | rfl | decide) | (simp only [ic_size, List.length_map, List.size_toArray]; first | omega | decide) | rfl | (simp [*]; done) | (simp [*]; omega))) ?_
    try simp only [opv, nZ, Value.cells, List.getElem_toArray, List.getElem_cons_zero, List.getElem_cons_succ]
    refine s_callv (hv := rfl) en61 ?_
    try simp only [opv, nZ, Value.cells, List.map_toArray, List.map_cons, List.map_nil, List.append_toArray, List.cons_append, List.nil_append, Array.append_empty]
    refine CallR.mono (c_tagsSeen1 _ gs O oc ((tagS ((normP l).take k1) ct it (if fl = true then 1 else 0)).map akey) hml (akey x) hkx (hS.owns (by repeat (first | exact Spl.nil | (apply Spl.cons (by repeat (first | exact Del.head | apply Del.tail))))))) ?_
    rintro _ w13 ⟨O2, oc2, rfl, hC13⟩
    replace hS := hS.frame (by repeat (first | exact Spl.nil | (apply Spl.cons (by repeat (first | exact Del.head | apply Del.tail))))) hC13 (by intro r hr g hg; simp only [List.mem_cons, List.not_mem_nil, or_false] at hr; rcases hr with rfl | rfl <;> first | (simp [Res.reads] at hg; done) | exact .inr ⟨_, by simp, .inr hg⟩)
    simp only [List.cons_append, List.nil_append] at hS
    try simp only [opv, nZ, Value.cells]
    refine y_nilf ?_
    rw [← hst] at hS
    exact ⟨_, ⟨by omega, _, _, rfl⟩, hS.sel (by repeat (first | exact Sel.self | (refine Sel.cons (by repeat (first | exact Del.head | apply Del.tail)) ?_) | apply Sel.skip))⟩
   ·
    try simp only [decide_eq_true_eq, decide_eq_false_iff_not, Bool.not_eq_true', Bool.not_eq_false', Int.not_lt, Int.not_le, ne_eq, Decidable.not_not, bne_iff_ne, beq_iff_eq, not_true_eq_false, not_false_eq_true] at hc1
    try have hst := hkt.2 (by rw [htq, q1, hc1]; rfl)
    refine y_skip ?_
    rw [← hst] at hS
    exact ⟨_, ⟨by omega, _, _, rfl⟩, hS.sel (by repeat (first | exact Sel.self | (refine Sel.cons (by repeat (first | exact Del.head | apply Del.tail)) ?_) | apply Sel.skip))⟩
  ·
   try simp only [n3, n4]
   try simp only [decide_eq_true_eq, decide_eq_false_iff_not, Bool.not_eq_true', Bool.not_eq_false', Int.not_lt, Int.not_le, ne_eq, Decidable.not_not] at hp1
   have hst := hkt.2 (by rw [htq, decide_eq_false (show ¬ kn x 0 = 1 by omega)]; rfl)
   refine g_off (yi (t := 15) rfl rfl) ?_
   try simp only [opv, nZ, Value.cells]
   refine g_off (yi (t := 15) rfl rfl) ?_
   try simp only [opv, nZ, Value.cells]
   refine g_off (yi (t := 15) rfl rfl) ?_
   try simp only [opv, nZ, Value.cells]
   refine g_off (yi (t := 15) rfl rfl) ?_
   try simp only [opv, nZ, Value.cells]
   first | refine s_go (s_pick_t) ?_ | refine s_go (s_pick_f) ?_
   try simp only [opv, nZ, Value.cells]
   refine y_nilf ?_
   refine hK4 _ _ ?_
   refine y_cond_f (h := ?_)
   try have hst := hkt.2 (by rw [htq, q1, @c]; rfl)
   refine y_skip ?_
   rw [← hst] at hS
   exact ⟨_, ⟨by omega, _, _, rfl⟩, hS.sel (by repeat (first | exact Sel.self | (refine Sel.cons (by repeat (first | exact Del.head | apply Del.tail)) ?_) | apply Sel.skip))⟩
 case rfd1 =>
  obtain ⟨hk0, O, oc, rfl⟩ := hC
  simp only [List.cons_append, List.nil_append] at hS
  refine rm_mark hS (by repeat (first | exact Upd.head | apply Upd.tail)) (fun w14 hS => ?_)
  refine rm_nil ?_
  refine r_none rfl ?_
  rw [List.take_of_length_le (Nat.le_refl _)] at hS
  exact ⟨_, _, rfl, hS.selA⟩
 case rft1 =>
  exact hX.elim
 case rfe1 =>
  exact y_ex_nil
end Go.Proofs.Ytffmanidnlbjjaa
set_option linter.unusedSimpArgs false
set_option linter.unusedVariables false
set_option maxHeartbeats 2000000
set_option maxRecDepth 100000
namespace Go.Proofs.Ytffmanidnlbjjaa
open Go.RowKit

theorem krow_get {l : List (List Int)} {k : Nat} (hk : k < l.length) (hv : ∀ x ∈ l, KeyOk x) : (((krows l).drop (k * 12)).take 12).toArray = KA (l.getD k []) := by
  have := rowsZ_get (ks := keyKs) hk (by simpa using (hv _ (getD_mem' hk)).len)
  rw [show keyKs.length = 12 from rfl] at this
  rw [this]
theorem krows_len (l : List (List Int)) : (krows l).length = l.length * 12 := rowsZ_len _ _
theorem keys_ok {s : List (List Int)} (h : AOks s) (c : Nat) (it : List Int) (n : Nat) : ∀ x ∈ (tagS s c it n).map akey, KeyOk x := fun x hx => by
  obtain ⟨a, ha, rfl⟩ := List.mem_map.1 hx
  exact (tag_ok h c it n a ha).key

theorem c_tagsLive (w0 : World) (A : Option Addr) (c : Nat) (l : List (List Int)) (hr : Rd w0 A 21 l.length (arows l)) (hv : AOks l) (hn : l.length ≤ 1000000000) (ct : Nat) (hct : ct < 65536) (it : List Int) (h8 : it.length = 8)  :
    CallR Try.prog 19 #[.slice A l.length c, .int .u16 (ct : Int), .agg (ic .u8 it)] w0 fun v w' => ∃ (O : Option Addr) (oc : Nat), v = .slice O ((tagS (normP l) ct it 1).map akey).length oc ∧ St NoB w0 w' [.vec O oc 43 12 (((tagS (normP l) ct it 1).map akey)).length (krows (((tagS (normP l) ct it 1).map akey)))] := by
 have hS := St.rd1 (S := NoB) hr
 refine c_enter (l := [.slice A l.length c, .int .u16 (ct : Int), .agg (ic .u8 it), undef, undef, undef, undef, undef, undef, undef, undef, undef, undef, undef]) Try.func19 rfl (by simp only [Try.ntmps19, List.size_toArray, List.length_cons, List.length_nil, Nat.reduceAdd, Nat.reduceSub, Array.replicate_succ, Array.replicate_zero, List.push_toArray, List.append_toArray, List.nil_append, List.cons_append]) ?_
 refine x_seq fun K1 hK1 => ?_
 refine x_region ?_
 refine m_box hS (fun w1 g1 hS => ?_)
 try simp only [opv, nZ, Value.cells, Array.toArray_toList] at hS ⊢
 obtain ⟨gn, hgn⟩ : ∃ z, z = g1 := ⟨_, rfl⟩
 rw [← hgn] at hS ⊢
 refine m_alloc ti40 hS (fun w2 g2 hS => ?_)
 try simp only [opv, nZ, Value.cells, Array.toArray_toList] at hS ⊢
 obtain ⟨gs, hgs⟩ : ∃ z, z = g2 := ⟨_, rfl⟩
 rw [← hgs] at hS ⊢
 refine x_nil ?_
 refine hK1 _ _ ?_
 refine x_seq fun K2 hK2 => ?_
 refine x_region ?_
 refine s_go (s_move) ?_
 try simp only [opv, nZ, Value.cells]
 refine s_go (s_move) ?_
 try simp only [opv, nZ, Value.cells]
 first | refine s_go (m_load_row Try.underlying25 (hi := ti25) (hS := hS) (hfit := by first | omega | (rw [zi_size (by omega)]; first | rfl | decide) | (simp only [ic_size, List.length_map, List.size_toArray]; first | omega | decide) | rfl | (simp [*]; done) | (simp [*]; omega))) ?_ | refine s_go (m_loada_obj Try.underlying25 (hi := ti25) (hS := hS) (hfit := by first | omega | (rw [zi_size (by omega)]; first | rfl | decide) | (simp only [ic_size, List.length_map, List.size_toArray]; first | omega | decide) | rfl | (simp [*]; done) | (simp [*]; omega))) ?_ | refine s_go (m_loada_bx Try.underlying25 (hi := ti25) (hS := hS) (hfit := by first | omega | (rw [zi_size (by omega)]; first | rfl | decide) | (simp only [ic_size, List.length_map, List.size_toArray]; first | omega | decide) | rfl | (simp [*]; done) | (simp [*]; omega))) ?_ | refine s_go (m_loada_rd Try.underlying25 (hi := ti25) (hS := hS) (hfit := by first | omega | (rw [zi_size (by omega)]; first | rfl | decide) | (simp only [ic_size, List.length_map, List.size_toArray]; first | omega | decide) | rfl | (simp [*]; done) | (simp [*]; omega))) ?_ | refine s_go (m_loada_vec Try.underlying25 (hi := ti25) (hS := hS) (hfit := by first | omega | (rw [zi_size (by omega)]; first | rfl | decide) | (simp only [ic_size, List.length_map, List.size_toArray]; first | omega | decide) | rfl | (simp [*]; done) | (simp [*]; omega))) ?_
 try simp only [opv, nZ, Value.cells, List.getElem_toArray, List.getElem_cons_zero, List.getElem_cons_succ]
 refine s_call en59 ?_
 try simp only [opv, nZ, Value.cells, List.map_toArray, List.map_cons, List.map_nil, List.append_toArray, List.cons_append, List.nil_append, Array.append_empty]
 refine CallR.mono (c_tagsOf ct hct it h8 true _) ?_
 rintro _ w3 ⟨gc, gi, gl, rfl, hC3⟩
 replace hS := hS.call hC3
 simp only [List.cons_append, List.nil_append] at hS
 try simp only [opv, nZ, Value.cells]
 refine s_go (s_makeFunc) ?_
 try simp only [opv, nZ, Value.cells, List.map_toArray, List.map_cons, List.map_nil]
 refine s_call en58 ?_
 try simp only [opv, nZ, Value.cells, List.map_toArray, List.map_cons, List.map_nil, List.append_toArray, List.cons_append, List.nil_append, Array.append_empty]
 refine CallR.mono (c_tagsEachLive _ A c l (hS.hasRd (by repeat (first | exact Has.head | apply Has.tail))) hv hn gs gc gi gl ct it h8 true (hS.owns (by repeat (first | exact Spl.nil | (apply Spl.cons (by repeat (first | exact Del.head | apply Del.tail))))))) ?_
 rintro _ w4 ⟨O, oc, rfl, hC4⟩
 replace hS := hS.frame (by repeat (first | exact Spl.nil | (apply Spl.cons (by repeat (first | exact Del.head | apply Del.tail))))) hC4 (by intro r hr g hg; simp only [List.mem_cons, List.not_mem_nil, or_false] at hr; rcases hr with rfl | rfl <;> first | (simp [Res.reads] at hg; done) | exact .inr ⟨_, by simp, .inr hg⟩)
 simp only [List.cons_append, List.nil_append] at hS
 try simp only [opv, nZ, Value.cells]
 refine x_nil ?_
 refine hK2 _ _ ?_
 refine x_seq fun K3 hK3 => ?_
 refine x_region ?_
 first | refine s_go (m_load_obj Try.underlying40 (hS := hS) (hv := by first | rfl | exact zi_get rfl (by omega) | exact ic_get (by omega) | exact il_get (by omega))) ?_ | refine s_go (m_load_bx Try.underlying40 (hS := hS) (hv := by first | rfl | exact zi_get rfl (by omega) | exact ic_get (by omega) | exact il_get (by omega))) ?_ | refine s_go (m_load_rd Try.underlying40 (hS := hS) (hv := by first | rfl | exact zi_get rfl (by omega) | exact ic_get (by omega) | exact il_get (by omega))) ?_ | refine s_go (m_load_vec Try.underlying40 (hS := hS) (hv := by first | rfl | exact zi_get rfl (by omega) | exact ic_get (by omega) | exact il_get (by omega))) ?_
 try simp only [opv, nZ, Value.cells, List.getElem_toArray, List.getElem_cons_zero, List.getElem_cons_succ]
 first | refine m_store_obj ti40 (hS := hS) (hc := by first | exact zi_set rfl (by omega) | exact zi_whole (by omega) (by omega) | (first | exact splice_ic (by first | omega | (simp [*]; done) | (simp [*]; omega)) | exact splice_il (by first | omega | (simp [*]; done) | (simp [*]; omega)) | exact splice_whole (by first | (simp [opv, Value.cells, *]; done) | rfl) | (simp only [opv, n1, n2, Value.cells, splice, List.take_succ_cons, List.take_zero, List.drop_succ_cons, List.drop_zero, List.length_cons, List.length_nil, Nat.zero_add, Nat.reduceAdd, List.append_assoc, List.cons_append, List.nil_append]; rfl))) (hv := by first | rfl | (show (zi _ _).toArray.size = _; rw [zi_size (by omega)]; rfl) | (simp [opv, Value.cells, *]; done)) (hfit := by first | omega | (rw [zi_size (by omega)]; first | rfl | decide) | (simp only [ic_size, List.length_map, List.size_toArray]; first | omega | decide) | rfl | (simp [*]; done) | (simp [*]; omega)) (h1 := by first | exact zi_one _ _ | exact ic_one _ _ | simp [opv, Value.cells, Value.oneCell']) (h := fun w5 hS => ?_) | refine m_store_vec ti40 (hS := hS) (hc := by first | exact zi_set rfl (by omega) | exact zi_whole (by omega) (by omega) | (first | exact splice_ic (by first | omega | (simp [*]; done) | (simp [*]; omega)) | exact splice_il (by first | omega | (simp [*]; done) | (simp [*]; omega)) | exact splice_whole (by first | (simp [opv, Value.cells, *]; done) | rfl) | (simp only [opv, n1, n2, Value.cells, splice, List.take_succ_cons, List.take_zero, List.drop_succ_cons, List.drop_zero, List.length_cons, List.length_nil, Nat.zero_add, Nat.reduceAdd, List.append_assoc, List.cons_append, List.nil_append]; rfl))) (hv := by first | rfl | (show (zi _ _).toArray.size = _; rw [zi_size (by omega)]; rfl) | (simp [opv, Value.cells, *]; done)) (hfit := by first | omega | (rw [zi_size (by omega)]; first | rfl | decide) | (simp only [ic_size, List.length_map, List.size_toArray]; first | omega | decide) | rfl | (simp [*]; done) | (simp [*]; omega)) (h1 := by first | exact zi_one _ _ | exact ic_one _ _ | simp [opv, Value.cells, Value.oneCell']) (h := fun w5 hS => ?_)
 try simp only [opv, nZ, Value.cells, Array.toArray_toList] at hS ⊢
 refine x_nil ?_
 refine hK3 _ _ ?_
 refine x_ret ?_
 refine r_cell_one rfl Try.underlying40 (hS := hS) (hR := ?_)
 exact ⟨_, _, rfl, hS.selA⟩
theorem c_tagsSeen (w0 : World) (A : Option Addr) (c : Nat) (l : List (List Int)) (hr : Rd w0 A 21 l.length (arows l)) (hv : AOks l) (hn : l.length ≤ 1000000000) (ct : Nat) (hct : ct < 65536) (it : List Int) (h8 : it.length = 8)  :
    CallR Try.prog 20 #[.slice A l.length c, .int .u16 (ct : Int), .agg (ic .u8 it)] w0 fun v w' => ∃ (O : Option Addr) (oc : Nat), v = .slice O ((tagS (normP l) ct it 0).map akey).length oc ∧ St NoB w0 w' [.vec O oc 43 12 (((tagS (normP l) ct it 0).map akey)).length (krows (((tagS (normP l) ct it 0).map akey)))] := by
 have hS := St.rd1 (S := NoB) hr
 refine c_enter (l := [.slice A l.length c, .int .u16 (ct : Int), .agg (ic .u8 it), undef, undef, undef, undef, undef, undef, undef, undef, undef, undef, undef]) Try.func20 rfl (by simp only [Try.ntmps20, List.size_toArray, List.length_cons, List.length_nil, Nat.reduceAdd, Nat.reduceSub, Array.replicate_succ, Array.replicate_zero, List.push_toArray, List.append_toArray, List.nil_append, List.cons_append]) ?_
 refine x_seq fun K1 hK1 => ?_
 refine x_region ?_
 refine m_box hS (fun w1 g1 hS => ?_)
 try simp only [opv, nZ, Value.cells, Array.toArray_toList] at hS ⊢
 obtain ⟨gn, hgn⟩ : ∃ z, z = g1 := ⟨_, rfl⟩
 rw [← hgn] at hS ⊢
 refine m_alloc ti40 hS (fun w2 g2 hS => ?_)
 try simp only [opv, nZ, Value.cells, Array.toArray_toList] at hS ⊢
 obtain ⟨gs, hgs⟩ : ∃ z, z = g2 := ⟨_, rfl⟩
 rw [← hgs] at hS ⊢
 refine x_nil ?_
 refine hK1 _ _ ?_
 refine x_seq fun K2 hK2 => ?_
 refine x_region ?_
 refine s_go (s_move) ?_
 try simp only [opv, nZ, Value.cells]
 refine s_go (s_move) ?_
 try simp only [opv, nZ, Value.cells]
 first | refine s_go (m_load_row Try.underlying25 (hi := ti25) (hS := hS) (hfit := by first | omega | (rw [zi_size (by omega)]; first | rfl | decide) | (simp only [ic_size, List.length_map, List.size_toArray]; first | omega | decide) | rfl | (simp [*]; done) | (simp [*]; omega))) ?_ | refine s_go (m_loada_obj Try.underlying25 (hi := ti25) (hS := hS) (hfit := by first | omega | (rw [zi_size (by omega)]; first | rfl | decide) | (simp only [ic_size, List.length_map, List.size_toArray]; first | omega | decide) | rfl | (simp [*]; done) | (simp [*]; omega))) ?_ | refine s_go (m_loada_bx Try.underlying25 (hi := ti25) (hS := hS) (hfit := by first | omega | (rw [zi_size (by omega)]; first | rfl | decide) | (simp only [ic_size, List.length_map, List.size_toArray]; first | omega | decide) | rfl | (simp [*]; done) | (simp [*]; omega))) ?_ | refine s_go (m_loada_rd Try.underlying25 (hi := ti25) (hS := hS) (hfit := by first | omega | (rw [zi_size (by omega)]; first | rfl | decide) | (simp only [ic_size, List.length_map, List.size_toArray]; first | omega | decide) | rfl | (simp [*]; done) | (simp [*]; omega))) ?_ | refine s_go (m_loada_vec Try.underlying25 (hi := ti25) (hS := hS) (hfit := by first | omega | (rw [zi_size (by omega)]; first | rfl | decide) | (simp only [ic_size, List.length_map, List.size_toArray]; first | omega | decide) | rfl | (simp [*]; done) | (simp [*]; omega))) ?_
 try simp only [opv, nZ, Value.cells, List.getElem_toArray, List.getElem_cons_zero, List.getElem_cons_succ]
 refine s_call en59 ?_
 try simp only [opv, nZ, Value.cells, List.map_toArray, List.map_cons, List.map_nil, List.append_toArray, List.cons_append, List.nil_append, Array.append_empty]
 refine CallR.mono (c_tagsOf ct hct it h8 false _) ?_
 rintro _ w3 ⟨gc, gi, gl, rfl, hC3⟩
 replace hS := hS.call hC3
 simp only [List.cons_append, List.nil_append] at hS
 try simp only [opv, nZ, Value.cells]
 refine s_go (s_makeFunc) ?_
 try simp only [opv, nZ, Value.cells, List.map_toArray, List.map_cons, List.map_nil]
 refine s_call en58 ?_
 try simp only [opv, nZ, Value.cells, List.map_toArray, List.map_cons, List.map_nil, List.append_toArray, List.cons_append, List.nil_append, Array.append_empty]
 refine CallR.mono (c_tagsEachSeen _ A c l (hS.hasRd (by repeat (first | exact Has.head | apply Has.tail))) hv hn gs gc gi gl ct it h8 false (hS.owns (by repeat (first | exact Spl.nil | (apply Spl.cons (by repeat (first | exact Del.head | apply Del.tail))))))) ?_
 rintro _ w4 ⟨O, oc, rfl, hC4⟩
 replace hS := hS.frame (by repeat (first | exact Spl.nil | (apply Spl.cons (by repeat (first | exact Del.head | apply Del.tail))))) hC4 (by intro r hr g hg; simp only [List.mem_cons, List.not_mem_nil, or_false] at hr; rcases hr with rfl | rfl <;> first | (simp [Res.reads] at hg; done) | exact .inr ⟨_, by simp, .inr hg⟩)
 simp only [List.cons_append, List.nil_append] at hS
 try simp only [opv, nZ, Value.cells]
 refine x_nil ?_
 refine hK2 _ _ ?_
 refine x_seq fun K3 hK3 => ?_
 refine x_region ?_
 first | refine s_go (m_load_obj Try.underlying40 (hS := hS) (hv := by first | rfl | exact zi_get rfl (by omega) | exact ic_get (by omega) | exact il_get (by omega))) ?_ | refine s_go (m_load_bx Try.underlying40 (hS := hS) (hv := by first | rfl | exact zi_get rfl (by omega) | exact ic_get (by omega) | exact il_get (by omega))) ?_ | refine s_go (m_load_rd Try.underlying40 (hS := hS) (hv := by first | rfl | exact zi_get rfl (by omega) | exact ic_get (by omega) | exact il_get (by omega))) ?_ | refine s_go (m_load_vec Try.underlying40 (hS := hS) (hv := by first | rfl | exact zi_get rfl (by omega) | exact ic_get (by omega) | exact il_get (by omega))) ?_
 try simp only [opv, nZ, Value.cells, List.getElem_toArray, List.getElem_cons_zero, List.getElem_cons_succ]
 first | refine m_store_obj ti40 (hS := hS) (hc := by first | exact zi_set rfl (by omega) | exact zi_whole (by omega) (by omega) | (first | exact splice_ic (by first | omega | (simp [*]; done) | (simp [*]; omega)) | exact splice_il (by first | omega | (simp [*]; done) | (simp [*]; omega)) | exact splice_whole (by first | (simp [opv, Value.cells, *]; done) | rfl) | (simp only [opv, n1, n2, Value.cells, splice, List.take_succ_cons, List.take_zero, List.drop_succ_cons, List.drop_zero, List.length_cons, List.length_nil, Nat.zero_add, Nat.reduceAdd, List.append_assoc, List.cons_append, List.nil_append]; rfl))) (hv := by first | rfl | (show (zi _ _).toArray.size = _; rw [zi_size (by omega)]; rfl) | (simp [opv, Value.cells, *]; done)) (hfit := by first | omega | (rw [zi_size (by omega)]; first | rfl | decide) | (simp only [ic_size, List.length_map, List.size_toArray]; first | omega | decide) | rfl | (simp [*]; done) | (simp [*]; omega)) (h1 := by first | exact zi_one _ _ | exact ic_one _ _ | simp [opv, Value.cells, Value.oneCell']) (h := fun w5 hS => ?_) | refine m_store_vec ti40 (hS := hS) (hc := by first | exact zi_set rfl (by omega) | exact zi_whole (by omega) (by omega) | (first | exact splice_ic (by first | omega | (simp [*]; done) | (simp [*]; omega)) | exact splice_il (by first | omega | (simp [*]; done) | (simp [*]; omega)) | exact splice_whole (by first | (simp [opv, Value.cells, *]; done) | rfl) | (simp only [opv, n1, n2, Value.cells, splice, List.take_succ_cons, List.take_zero, List.drop_succ_cons, List.drop_zero, List.length_cons, List.length_nil, Nat.zero_add, Nat.reduceAdd, List.append_assoc, List.cons_append, List.nil_append]; rfl))) (hv := by first | rfl | (show (zi _ _).toArray.size = _; rw [zi_size (by omega)]; rfl) | (simp [opv, Value.cells, *]; done)) (hfit := by first | omega | (rw [zi_size (by omega)]; first | rfl | decide) | (simp only [ic_size, List.length_map, List.size_toArray]; first | omega | decide) | rfl | (simp [*]; done) | (simp [*]; omega)) (h1 := by first | exact zi_one _ _ | exact ic_one _ _ | simp [opv, Value.cells, Value.oneCell']) (h := fun w5 hS => ?_)
 try simp only [opv, nZ, Value.cells, Array.toArray_toList] at hS ⊢
 refine x_nil ?_
 refine hK3 _ _ ?_
 refine x_ret ?_
 refine r_cell_one rfl Try.underlying40 (hS := hS) (hR := ?_)
 exact ⟨_, _, rfl, hS.selA⟩
theorem c_tagsPresent (w0 : World) (A : Option Addr) (c : Nat) (l : List (List Int)) (hr : Rd w0 A 21 l.length (arows l)) (hv : AOks l) (hn : l.length ≤ 1000000000) (ct : Nat) (hct : ct < 65536) (it : List Int) (h8 : it.length = 8)  :
    CallR Try.prog 18 #[.slice A l.length c, .int .u16 (ct : Int), .agg (ic .u8 it)] w0 fun v w' => v = .bool (decide (0 < (((tagS (normP l) ct it 1).map akey).length : Int))) ∧ Ext w0 w' := by
 have hS := St.rd1 (S := NoB) hr
 refine c_enter (l := [.slice A l.length c, .int .u16 (ct : Int), .agg (ic .u8 it), undef, undef, undef, undef, undef, undef, undef, undef, undef, undef]) Try.func18 rfl (by simp only [Try.ntmps18, List.size_toArray, List.length_cons, List.length_nil, Nat.reduceAdd, Nat.reduceSub, Array.replicate_succ, Array.replicate_zero, List.push_toArray, List.append_toArray, List.nil_append, List.cons_append]) ?_
 refine x_seq fun K1 hK1 => ?_
 refine x_region ?_
 refine m_box hS (fun w1 g1 hS => ?_)
 try simp only [opv, nZ, Value.cells, Array.toArray_toList] at hS ⊢
 refine s_go (s_assign) ?_
 try simp only [opv, nZ, Value.cells]
 refine x_nil ?_
 refine hK1 _ _ ?_
 refine x_seq fun K2 hK2 => ?_
 refine x_region ?_
 refine s_go (s_move) ?_
 try simp only [opv, nZ, Value.cells]
 refine s_go (s_move) ?_
 try simp only [opv, nZ, Value.cells]
 first | refine s_go (m_load_row Try.underlying25 (hi := ti25) (hS := hS) (hfit := by first | omega | (rw [zi_size (by omega)]; first | rfl | decide) | (simp only [ic_size, List.length_map, List.size_toArray]; first | omega | decide) | rfl | (simp [*]; done) | (simp [*]; omega))) ?_ | refine s_go (m_loada_obj Try.underlying25 (hi := ti25) (hS := hS) (hfit := by first | omega | (rw [zi_size (by omega)]; first | rfl | decide) | (simp only [ic_size, List.length_map, List.size_toArray]; first | omega | decide) | rfl | (simp [*]; done) | (simp [*]; omega))) ?_ | refine s_go (m_loada_bx Try.underlying25 (hi := ti25) (hS := hS) (hfit := by first | omega | (rw [zi_size (by omega)]; first | rfl | decide) | (simp only [ic_size, List.length_map, List.size_toArray]; first | omega | decide) | rfl | (simp [*]; done) | (simp [*]; omega))) ?_ | refine s_go (m_loada_rd Try.underlying25 (hi := ti25) (hS := hS) (hfit := by first | omega | (rw [zi_size (by omega)]; first | rfl | decide) | (simp only [ic_size, List.length_map, List.size_toArray]; first | omega | decide) | rfl | (simp [*]; done) | (simp [*]; omega))) ?_ | refine s_go (m_loada_vec Try.underlying25 (hi := ti25) (hS := hS) (hfit := by first | omega | (rw [zi_size (by omega)]; first | rfl | decide) | (simp only [ic_size, List.length_map, List.size_toArray]; first | omega | decide) | rfl | (simp [*]; done) | (simp [*]; omega))) ?_
 try simp only [opv, nZ, Value.cells, List.getElem_toArray, List.getElem_cons_zero, List.getElem_cons_succ]
 refine s_call en19 ?_
 try simp only [opv, nZ, Value.cells, List.map_toArray, List.map_cons, List.map_nil, List.append_toArray, List.cons_append, List.nil_append, Array.append_empty]
 refine CallR.mono (c_tagsLive _ A c l (hS.hasRd (by repeat (first | exact Has.head | apply Has.tail))) hv hn ct hct it h8) ?_
 rintro _ w2 ⟨O, oc, rfl, hC2⟩
 replace hS := hS.call hC2
 simp only [List.cons_append, List.nil_append] at hS
 try simp only [opv, nZ, Value.cells]
 refine s_go (s_len_sl Try.underlying40) ?_
 try simp only [opv, nZ, Value.cells]
 refine s_go (s_gtr) ?_
 try simp only [opv, nZ, Value.cells]
 refine s_go (s_assign) ?_
 try simp only [opv, nZ, Value.cells]
 refine x_nil ?_
 refine hK2 _ _ ?_
 refine x_ret ?_
 refine r_tmp rfl ?_
 exact ⟨rfl, hS.ext_of⟩
theorem c_tagsDrop (w0 : World) (A : Option Addr) (c : Nat) (l : List (List Int)) (hr : Rd w0 A 21 l.length (arows l)) (hv : AOks l) (hn : l.length ≤ 1000000000) (ct : Nat) (hct : ct < 65536) (it : List Int) (h8 : it.length = 8)  :
    CallR Try.prog 15 #[.slice A l.length c, .int .u16 (ct : Int), .agg (ic .u8 it)] w0 fun v w' => ∃ D e, v = .slice D (drpS (normP l) ct it).length e ∧ St NoB w0 w' [.vec D e 54 21 (drpS (normP l) ct it).length (arows (drpS (normP l) ct it))] := by
 have hS := St.rd1 (S := NoB) hr
 have hno := (norm_sta hv).ok
 have hnb := norm_len l
 have hn0l : nm0.length = 8 := rfl
 refine c_enter (l := [.slice A l.length c, .int .u16 (ct : Int), .agg (ic .u8 it), undef, undef, undef, undef, undef, undef, undef, undef, undef, undef, undef, undef, undef, undef, undef, undef, undef, undef, undef, undef, undef, undef, undef]) Try.func15 rfl (by simp only [Try.ntmps15, List.size_toArray, List.length_cons, List.length_nil, Nat.reduceAdd, Nat.reduceSub, Array.replicate_succ, Array.replicate_zero, List.push_toArray, List.append_toArray, List.nil_append, List.cons_append]) ?_
 refine x_seq fun K1 hK1 => ?_
 refine x_region ?_
 refine m_box hS (fun w1 g1 hS => ?_)
 try simp only [opv, nZ, Value.cells, Array.toArray_toList] at hS ⊢
 refine s_go (s_assign) ?_
 try simp only [opv, nZ, Value.cells]
 refine x_nil ?_
 refine hK1 _ _ ?_
 refine x_seq fun K2 hK2 => ?_
 refine x_seq fun K3 hK3 => ?_
 refine x_region ?_
 refine s_go (s_move) ?_
 try simp only [opv, nZ, Value.cells]
 refine s_go (s_move) ?_
 try simp only [opv, nZ, Value.cells]
 first | refine s_go (m_load_row Try.underlying25 (hi := ti25) (hS := hS) (hfit := by first | omega | (rw [zi_size (by omega)]; first | rfl | decide) | (simp only [ic_size, List.length_map, List.size_toArray]; first | omega | decide) | rfl | (simp [*]; done) | (simp [*]; omega))) ?_ | refine s_go (m_loada_obj Try.underlying25 (hi := ti25) (hS := hS) (hfit := by first | omega | (rw [zi_size (by omega)]; first | rfl | decide) | (simp only [ic_size, List.length_map, List.size_toArray]; first | omega | decide) | rfl | (simp [*]; done) | (simp [*]; omega))) ?_ | refine s_go (m_loada_bx Try.underlying25 (hi := ti25) (hS := hS) (hfit := by first | omega | (rw [zi_size (by omega)]; first | rfl | decide) | (simp only [ic_size, List.length_map, List.size_toArray]; first | omega | decide) | rfl | (simp [*]; done) | (simp [*]; omega))) ?_ | refine s_go (m_loada_rd Try.underlying25 (hi := ti25) (hS := hS) (hfit := by first | omega | (rw [zi_size (by omega)]; first | rfl | decide) | (simp only [ic_size, List.length_map, List.size_toArray]; first | omega | decide) | rfl | (simp [*]; done) | (simp [*]; omega))) ?_ | refine s_go (m_loada_vec Try.underlying25 (hi := ti25) (hS := hS) (hfit := by first | omega | (rw [zi_size (by omega)]; first | rfl | decide) | (simp only [ic_size, List.length_map, List.size_toArray]; first | omega | decide) | rfl | (simp [*]; done) | (simp [*]; omega))) ?_
 try simp only [opv, nZ, Value.cells, List.getElem_toArray, List.getElem_cons_zero, List.getElem_cons_succ]
 refine s_call en19 ?_
 try simp only [opv, nZ, Value.cells, List.map_toArray, List.map_cons, List.map_nil, List.append_toArray, List.cons_append, List.nil_append, Array.append_empty]
 refine CallR.mono (c_tagsLive _ A c l (hS.hasRd (by repeat (first | exact Has.head | apply Has.tail))) hv hn ct hct it h8) ?_
 rintro _ w2 ⟨O, oc, rfl, hC2⟩
 replace hS := hS.call hC2
 simp only [List.cons_append, List.nil_append] at hS
 replace hS := hS.vec_rd (by exact Upd.head)
 have hto := tag_ok hno ct it 1
 have hko := keys_ok hno ct it 1
 have htl := tag_len (normP l) ct it 1
 obtain ⟨t, ht⟩ : ∃ t, tagS (normP l) ct it 1 = t := ⟨_, rfl⟩
 rw [ht] at hS hto htl hko ⊢
 have hal0 := krows_len (t.map akey)
 have hml0 : (t.map akey).length = t.length := List.length_map ..
 try simp only [opv, nZ, Value.cells]
 refine s_go (s_len_sl Try.underlying40) ?_
 try simp only [opv, nZ, Value.cells]
 refine s_go (s_move) ?_
 try simp only [opv, nZ, Value.cells]
 refine x_nil ?_
 refine hK3 _ _ ?_
 refine x_block ?_
 refine x_loop [6, 8, 14, 15, 16, 17, 18, 19, 20, 21, 22, 23, 24] (fun m f w => ∃ (k : Nat) (D : Option Addr) (e : Nat), k ≤ t.length ∧ m = t.length - k ∧ f 14 = .int .i64 (k : Int) ∧ f 6 = .slice D ((t.take k).map dropA).length e ∧ St NoB w0 w [.vec D e 54 21 (((t.take k).map dropA)).length (arows (((t.take k).map dropA))), .rd O 12 (t.map akey).length (krows (t.map akey))]) (t.length) ?init1 (fun m1 f1 wl1 hI => ?_)
 case init1 =>
  try simp only [opv, nZ, Value.cells]
  replace hS := hS.nil_vec 54 21
  exact ⟨0, none, 0, by omega, rfl, rfl, rfl, hS.selA⟩
 obtain ⟨k, D, e, hk0, hmk, hfi, hfo, hS⟩ := hI
 simp only [clob, List.foldl, n3, n4, hfi, hfo]
 obtain ⟨x, hx⟩ : ∃ x, t.getD k [] = x := ⟨_, rfl⟩
 have hml : ((t.take k).map dropA).length = k := by rw [List.length_map, List.length_take]; omega
 refine x_seq fun K4 hK4 => ?_
 refine x_region ?_
 refine s_go (s_lss) ?_
 try simp only [opv, nZ, Value.cells]
 refine x_nil ?_
 refine hK4 _ _ ?_
 refine x_seq fun K5 hK5 => ?_
 refine x_cond (ht := fun hc1 => ?_) (hf := fun hc1 => ?_)
 ·
  try simp only [decide_eq_true_eq, decide_eq_false_iff_not, Bool.not_eq_true', Bool.not_eq_false', Int.not_lt, Int.not_le, ne_eq, Decidable.not_not, bne_iff_ne, beq_iff_eq, not_true_eq_false, not_false_eq_true] at hc1
  have ha : AtomOk x := by rw [← hx]; exact hto.get (by omega)
  have hk12 := ha.key.len
  have hdl := (dropA_ok ha).len
  have hst := drop_take (by omega) hx
  have hkg : (t.map akey).getD k [] = akey x := by rw [← hx, List.getD_eq_getElem?_getD, List.getElem?_map, List.getElem?_eq_getElem (by omega), getD_lt (by omega)]; rfl
  refine x_skip ?_
  refine hK5 _ _ ?_
  refine x_seq fun K6 hK6 => ?_
  refine x_block ?_
  refine x_seq fun K7 hK7 => ?_
  refine x_region ?_
  first | refine s_go (m_indexAddr_rd Try.underlying40 ti43 (hS := hS)) ?_ | refine s_go (m_indexAddr_vec Try.underlying40 ti43 (hS := hS)) ?_
  try simp only [opv, nZ, Value.cells, Nat.mul_one, Nat.zero_add, Int.toNat_natCast, Int.reduceToNat]
  first | refine s_go (m_load_row Try.underlying43 (hi := ti43) (hS := hS) (hfit := by rw [krows_len]; omega)) ?_ | refine s_go (m_loada_obj Try.underlying43 (hi := ti43) (hS := hS) (hfit := by rw [krows_len]; omega)) ?_ | refine s_go (m_loada_bx Try.underlying43 (hi := ti43) (hS := hS) (hfit := by rw [krows_len]; omega)) ?_ | refine s_go (m_loada_rd Try.underlying43 (hi := ti43) (hS := hS) (hfit := by rw [krows_len]; omega)) ?_ | refine s_go (m_loada_vec Try.underlying43 (hi := ti43) (hS := hS) (hfit := by rw [krows_len]; omega)) ?_
  try simp only [opv, nZ, Value.cells, List.getElem_toArray, List.getElem_cons_zero, List.getElem_cons_succ]
  rw [krow_get (by omega) hko, hkg]
  refine m_alloc ti43 hS (fun w3 g3 hS => ?_)
  try simp only [opv, nZ, Value.cells, Array.toArray_toList] at hS ⊢
  have h0l : key0.length = 12 := rfl
  replace hS : St _ _ w3 (.obj g3 (.cells (KA key0) 43 (0, 0)) :: _) := hS
  first | refine m_store_obj ti43 (hS := hS) (hc := by first | exact zi_set rfl (by omega) | exact zi_whole (by omega) (by omega) | (first | exact splice_ic (by first | omega | (simp [*]; done) | (simp [*]; omega)) | exact splice_il (by first | omega | (simp [*]; done) | (simp [*]; omega)) | exact splice_whole (by first | (simp [opv, Value.cells, *]; done) | rfl) | (simp only [opv, n1, n2, Value.cells, splice, List.take_succ_cons, List.take_zero, List.drop_succ_cons, List.drop_zero, List.length_cons, List.length_nil, Nat.zero_add, Nat.reduceAdd, List.append_assoc, List.cons_append, List.nil_append]; rfl))) (hv := by first | rfl | (show (zi _ _).toArray.size = _; rw [zi_size (by omega)]; rfl) | (simp [opv, Value.cells, *]; done)) (hfit := by first | omega | (rw [zi_size (by omega)]; first | rfl | decide) | (simp only [ic_size, List.length_map, List.size_toArray]; first | omega | decide) | rfl | (simp [*]; done) | (simp [*]; omega)) (h1 := by first | exact zi_one _ _ | exact ic_one _ _ | simp [opv, Value.cells, Value.oneCell']) (h := fun w4 hS => ?_) | refine m_store_vec ti43 (hS := hS) (hc := by first | exact zi_set rfl (by omega) | exact zi_whole (by omega) (by omega) | (first | exact splice_ic (by first | omega | (simp [*]; done) | (simp [*]; omega)) | exact splice_il (by first | omega | (simp [*]; done) | (simp [*]; omega)) | exact splice_whole (by first | (simp [opv, Value.cells, *]; done) | rfl) | (simp only [opv, n1, n2, Value.cells, splice, List.take_succ_cons, List.take_zero, List.drop_succ_cons, List.drop_zero, List.length_cons, List.length_nil, Nat.zero_add, Nat.reduceAdd, List.append_assoc, List.cons_append, List.nil_append]; rfl))) (hv := by first | rfl | (show (zi _ _).toArray.size = _; rw [zi_size (by omega)]; rfl) | (simp [opv, Value.cells, *]; done)) (hfit := by first | omega | (rw [zi_size (by omega)]; first | rfl | decide) | (simp only [ic_size, List.length_map, List.size_toArray]; first | omega | decide) | rfl | (simp [*]; done) | (simp [*]; omega)) (h1 := by first | exact zi_one _ _ | exact ic_one _ _ | simp [opv, Value.cells, Value.oneCell']) (h := fun w4 hS => ?_)
  try simp only [opv, nZ, Value.cells, Array.toArray_toList] at hS ⊢
  refine x_nil ?_
  refine hK7 _ _ ?_
  refine x_region ?_
  refine s_go (s_move) ?_
  try simp only [opv, nZ, Value.cells]
  first | refine s_go (m_load_row Try.underlying43 (hi := ti43) (hS := hS) (hfit := by first | omega | (rw [zi_size (by omega)]; first | rfl | decide) | (simp only [ic_size, List.length_map, List.size_toArray]; first | omega | decide) | rfl | (simp [*]; done) | (simp [*]; omega))) ?_ | refine s_go (m_loada_obj Try.underlying43 (hi := ti43) (hS := hS) (hfit := by first | omega | (rw [zi_size (by omega)]; first | rfl | decide) | (simp only [ic_size, List.length_map, List.size_toArray]; first | omega | decide) | rfl | (simp [*]; done) | (simp [*]; omega))) ?_ | refine s_go (m_loada_bx Try.underlying43 (hi := ti43) (hS := hS) (hfit := by first | omega | (rw [zi_size (by omega)]; first | rfl | decide) | (simp only [ic_size, List.length_map, List.size_toArray]; first | omega | decide) | rfl | (simp [*]; done) | (simp [*]; omega))) ?_ | refine s_go (m_loada_rd Try.underlying43 (hi := ti43) (hS := hS) (hfit := by first | omega | (rw [zi_size (by omega)]; first | rfl | decide) | (simp only [ic_size, List.length_map, List.size_toArray]; first | omega | decide) | rfl | (simp [*]; done) | (simp [*]; omega))) ?_ | refine s_go (m_loada_vec Try.underlying43 (hi := ti43) (hS := hS) (hfit := by first | omega | (rw [zi_size (by omega)]; first | rfl | decide) | (simp only [ic_size, List.length_map, List.size_toArray]; first | omega | decide) | rfl | (simp [*]; done) | (simp [*]; omega))) ?_
  try simp only [opv, nZ, Value.cells, List.getElem_toArray, List.getElem_cons_zero, List.getElem_cons_succ]
  refine s_go (s_build_struct (cells := (VA (mkV 2 nm0))) Try.underlying50 ti50 bp50 (hc := by simp only [List.map_toArray, List.map_cons, List.map_nil, opv, nZ, Value.cells, List.toList_toArray]; (repeat (refine fill_cons rfl rfl (Nat.le_of_ble_eq_true rfl) ?_)); rfl)) ?_
  try simp only [opv, nZ, Value.cells]
  refine s_go (s_build_struct (cells := (AA (dropA x))) Try.underlying54 ti54 bp54 (hc := by simp only [List.map_toArray, List.map_cons, List.map_nil, opv, nZ, Value.cells, List.toList_toArray]; exact fill_atom (by rfl) (by rfl) (by rfl) hk12 (mkV_len hn0l))) ?_
  try simp only [opv, nZ, Value.cells]
  refine m_buildRow (cells := (AA (dropA x))) Try.underlying22 ti54 (hc := by simp only [List.map_toArray, List.map_cons, List.map_nil, opv, nZ, Value.cells, List.toList_toArray]; exact fill_one (by rfl) (zi_size21 hdl) (by rfl)) (hS := hS) (h := fun w5 g5 hS => ?_)
  try simp only [opv, nZ, Value.cells, Array.toArray_toList] at hS ⊢
  replace hS := hS.obj_rd (sz := 21) (n := 1) (by exact zi_size21 hdl) .head
  rw [arow_one hdl] at hS
  refine m_append Try.underlying22 ti54 (hS := hS) (h1 := rowsZ_cells _ _) (h := fun w6 A6 C6 hS => ?_)
  try simp only [← List.map_append, ← List.map_drop, ← List.map_take, Nat.mul_one, Nat.zero_mul, Nat.sub_zero, List.drop_zero, List.nil_append, Nat.zero_add] at hS ⊢
  try simp only [opv, nZ, Value.cells, Array.toArray_toList] at hS ⊢
  rw [add_one] at hS
  refine s_go (s_assign) ?_
  try simp only [opv, nZ, Value.cells]
  refine x_nil ?_
  refine hK6 _ _ ?_
  refine x_region ?_
  refine s_go (s_add (hc := by first | exact wr_i64 (by omega) (by omega) | rfl)) ?_
  try simp only [opv, nZ, Value.cells]
  refine s_go (s_move) ?_
  try simp only [opv, nZ, Value.cells]
  refine x_nil ?_
  refine loop_back (m' := t.length - (k + 1)) (by simp only [clob, List.foldl, nZ]) ?_ ?_
  · try simp only [opv, nZ, Value.cells]
    exact ⟨k + 1, _, _, by omega, by omega, by rfl, by rw [hst, List.length_append]; rfl, by rw [hst, List.length_append]; exact hS.selA⟩
  · omega
 ·
  try simp only [decide_eq_true_eq, decide_eq_false_iff_not, Bool.not_eq_true', Bool.not_eq_false', Int.not_lt, Int.not_le, ne_eq, Decidable.not_not, bne_iff_ne, beq_iff_eq, not_true_eq_false, not_false_eq_true] at hc1
  obtain rfl : k = t.length := by omega
  rw [List.take_of_length_le (Nat.le_refl _)] at hS ⊢
  refine x_exit (look_here ?_)
  refine hK2 _ _ ?_
  refine x_seq fun K8 hK8 => ?_
  refine x_region ?_
  refine s_go (s_move) ?_
  try simp only [opv, nZ, Value.cells]
  refine s_go (s_assign) ?_
  try simp only [opv, nZ, Value.cells]
  refine x_nil ?_
  refine hK8 _ _ ?_
  refine x_ret ?_
  refine r_tmp rfl ?_
  unfold drpS
  rw [ht]
  exact ⟨_, _, rfl, hS.selA⟩
end Go.Proofs.Ytffmanidnlbjjaa
set_option linter.unusedSimpArgs false
set_option linter.unusedVariables false
set_option maxHeartbeats 1000000
set_option maxRecDepth 100000
namespace Go.Proofs.Ytffmanidnlbjjaa
open Go.RowKit

def halfB (x : List Int) : Bool := decide (kn x 0 = 2 ∨ kn x 0 = 3)
def halfN (l : List (List Int)) (x : List Int) : Nat := if halfB x = true then kn ((fnd x (normP l)).getD v9) 0 else 0
def turnK (s r c : Nat) (it : List Int) : List Int := mkKey s c it r 0
def turnE (l : List (List Int)) (s r c : Nat) (it : List Int) (n : Int) : Int := if 16 ≤ r ∨ n < 0 ∨ nright it = false then 1 else if 4294967295 < (halfN l (turnK s r c it) : Int) + n then 8 else 0
end Go.Proofs.Ytffmanidnlbjjaa
set_option linter.unusedSimpArgs false
set_option linter.unusedVariables false
set_option maxHeartbeats 1000000
set_option maxRecDepth 100000
namespace Go.Proofs.Ytffmanidnlbjjaa
open Go.RowKit

def cup8 : List Int := [99, 117, 112, 0, 0, 0, 0, 0]
theorem cup8_byt : Byt cup8 := by unfold Byt; decide
theorem ct2 : turnE [] 2 0 1 cup8 3 = 0 := by decide +kernel
end Go.Proofs.Ytffmanidnlbjjaa
set_option linter.unusedSimpArgs false
set_option linter.unusedVariables false
set_option maxHeartbeats 2000000
set_option maxRecDepth 100000
namespace Go.Proofs.Ytffmanidnlbjjaa
open Go.RowKit

def ta14 : List Int := addA [] 2 1 cup8
theorem ta14_ok : AtomOk ta14 := addA_ok AOks.nil (by decide) (by decide) rfl cup8_byt
theorem aok_one {a : List Int} (h : AtomOk a) : AOks [a] := fun b hb => by rw [List.mem_singleton] at hb; rw [hb]; exact h
theorem tg1 : addP [] 2 1 cup8 = [ta14] := by decide +kernel
theorem tg2 : addE [] 2 cup8 = 0 := by decide +kernel
theorem tg3 : ((tagS (normP [ta14]) 1 cup8 1).map akey).length = 1 := by decide +kernel
theorem tg4 : drpS (normP [ta14]) 1 cup8 = [dropA ta14] := by decide +kernel
theorem tg5 : ((tagS (normP [dropA ta14]) 1 cup8 1).map akey).length = 0 := by decide +kernel

theorem c_law14alive  (w0 : World) :
    CallR Try.prog 9 #[] w0 fun v w' => v = .bool true ∧ Ext w0 w' := by
 have hS : St NoB w0 w0 [] := St.start w0
 refine c_enter (l := [undef, undef, undef, undef, undef, undef, undef, undef, undef, undef, undef, undef, undef, undef, undef, undef, undef, undef, undef, undef, undef, undef, undef, undef, undef, undef, undef, undef, undef, undef, undef, undef]) Try.func9 rfl (by simp only [Try.ntmps9, List.size_toArray, List.length_cons, List.length_nil, Nat.reduceAdd, Nat.reduceSub, Array.replicate_succ, Array.replicate_zero, List.push_toArray, List.append_toArray, List.nil_append, List.cons_append]) ?_
 refine x_seq fun K1 hK1 => ?_
 refine x_region ?_
 refine s_go (s_assign) ?_
 try simp only [opv, nZ, Value.cells]
 refine x_nil ?_
 refine hK1 _ _ ?_
 refine x_seq fun K2 hK2 => ?_
 refine x_region ?_
 refine s_go (s_build_arr (cells := #[_, _, _, .int .u8 0, .int .u8 0, .int .u8 0, .int .u8 0, .int .u8 0]) Try.underlying25 ti25 ti5 (hc := by simp only [List.map_toArray, List.map_cons, List.map_nil, opv, nZ, Value.cells, List.toList_toArray]; (repeat (refine fill_cons rfl rfl (Nat.le_of_ble_eq_true rfl) ?_)); rfl)) ?_
 try simp only [opv, nZ, Value.cells]
 rw [show (#[.int .u8 99, .int .u8 117, .int .u8 112, .int .u8 0, .int .u8 0, .int .u8 0, .int .u8 0, .int .u8 0] : Array Value) = ic .u8 cup8 from rfl]
 refine m_alloc ti25 hS (fun w1 g1 hS => ?_)
 try simp only [opv, nZ, Value.cells, Array.toArray_toList] at hS ⊢
 have hn0l : nm0.length = 8 := rfl
 have hh8 : cup8.length = 8 := rfl
 replace hS : St _ _ w1 (.obj g1 (.cells (ic .u8 nm0) 25 (0, 0)) :: _) := hS
 first | refine m_store_obj ti25 (hS := hS) (hc := by first | exact zi_set rfl (by omega) | exact zi_whole (by omega) (by omega) | (first | exact splice_ic (by first | omega | (simp [*]; done) | (simp [*]; omega)) | exact splice_il (by first | omega | (simp [*]; done) | (simp [*]; omega)) | exact splice_whole (by first | (simp [opv, Value.cells, *]; done) | rfl) | (simp only [opv, n1, n2, Value.cells, splice, List.take_succ_cons, List.take_zero, List.drop_succ_cons, List.drop_zero, List.length_cons, List.length_nil, Nat.zero_add, Nat.reduceAdd, List.append_assoc, List.cons_append, List.nil_append]; rfl))) (hv := by first | rfl | (show (zi _ _).toArray.size = _; rw [zi_size (by omega)]; rfl) | (simp [opv, Value.cells, *]; done)) (hfit := by first | omega | (rw [zi_size (by omega)]; first | rfl | decide) | (simp only [ic_size, List.length_map, List.size_toArray]; first | omega | decide) | rfl | (simp [*]; done) | (simp [*]; omega)) (h1 := by first | exact zi_one _ _ | exact ic_one _ _ | simp [opv, Value.cells, Value.oneCell']) (h := fun w2 hS => ?_) | refine m_store_vec ti25 (hS := hS) (hc := by first | exact zi_set rfl (by omega) | exact zi_whole (by omega) (by omega) | (first | exact splice_ic (by first | omega | (simp [*]; done) | (simp [*]; omega)) | exact splice_il (by first | omega | (simp [*]; done) | (simp [*]; omega)) | exact splice_whole (by first | (simp [opv, Value.cells, *]; done) | rfl) | (simp only [opv, n1, n2, Value.cells, splice, List.take_succ_cons, List.take_zero, List.drop_succ_cons, List.drop_zero, List.length_cons, List.length_nil, Nat.zero_add, Nat.reduceAdd, List.append_assoc, List.cons_append, List.nil_append]; rfl))) (hv := by first | rfl | (show (zi _ _).toArray.size = _; rw [zi_size (by omega)]; rfl) | (simp [opv, Value.cells, *]; done)) (hfit := by first | omega | (rw [zi_size (by omega)]; first | rfl | decide) | (simp only [ic_size, List.length_map, List.size_toArray]; first | omega | decide) | rfl | (simp [*]; done) | (simp [*]; omega)) (h1 := by first | exact zi_one _ _ | exact ic_one _ _ | simp [opv, Value.cells, Value.oneCell']) (h := fun w2 hS => ?_)
 try simp only [opv, nZ, Value.cells, Array.toArray_toList] at hS ⊢
 refine x_nil ?_
 refine hK2 _ _ ?_
 refine x_seq fun K3 hK3 => ?_
 refine x_region ?_
 first | refine s_go (m_load_row Try.underlying25 (hi := ti25) (hS := hS) (hfit := by first | omega | (rw [zi_size (by omega)]; first | rfl | decide) | (simp only [ic_size, List.length_map, List.size_toArray]; first | omega | decide) | rfl | (simp [*]; done) | (simp [*]; omega))) ?_ | refine s_go (m_loada_obj Try.underlying25 (hi := ti25) (hS := hS) (hfit := by first | omega | (rw [zi_size (by omega)]; first | rfl | decide) | (simp only [ic_size, List.length_map, List.size_toArray]; first | omega | decide) | rfl | (simp [*]; done) | (simp [*]; omega))) ?_ | refine s_go (m_loada_bx Try.underlying25 (hi := ti25) (hS := hS) (hfit := by first | omega | (rw [zi_size (by omega)]; first | rfl | decide) | (simp only [ic_size, List.length_map, List.size_toArray]; first | omega | decide) | rfl | (simp [*]; done) | (simp [*]; omega))) ?_ | refine s_go (m_loada_rd Try.underlying25 (hi := ti25) (hS := hS) (hfit := by first | omega | (rw [zi_size (by omega)]; first | rfl | decide) | (simp only [ic_size, List.length_map, List.size_toArray]; first | omega | decide) | rfl | (simp [*]; done) | (simp [*]; omega))) ?_ | refine s_go (m_loada_vec Try.underlying25 (hi := ti25) (hS := hS) (hfit := by first | omega | (rw [zi_size (by omega)]; first | rfl | decide) | (simp only [ic_size, List.length_map, List.size_toArray]; first | omega | decide) | rfl | (simp [*]; done) | (simp [*]; omega))) ?_
 try simp only [opv, nZ, Value.cells, List.getElem_toArray, List.getElem_cons_zero, List.getElem_cons_succ]
 replace hS := hS.rd_none none 21
 refine s_call en12 ?_
 try simp only [opv, nZ, Value.cells, List.map_toArray, List.map_cons, List.map_nil, List.append_toArray, List.cons_append, List.nil_append, Array.append_empty]
 refine CallR.mono (c_tagsAdd _ none 0 [] (hS.hasRd (by repeat (first | exact Has.head | apply Has.tail))) AOks.nil (by decide) 2 (by decide) 1 (by decide) cup8 rfl cup8_byt) ?_
 rintro _ w3 ⟨Aa, ca, rfl, hC3⟩
 replace hS := hS.call hC3
 simp only [List.cons_append, List.nil_append] at hS
 rw [tg1] at hS ⊢
 rw [tg2]
 try simp only [opv, nZ, Value.cells]
 refine s_go (s_move) ?_
 try simp only [opv, nZ, Value.cells]
 refine s_go (s_extract (hv := rfl)) ?_
 try simp only [List.getElem_toArray, List.getElem_cons_zero, List.getElem_cons_succ]
 try simp only [opv, nZ, Value.cells]
 refine s_go (s_extract (hv := rfl)) ?_
 try simp only [List.getElem_toArray, List.getElem_cons_zero, List.getElem_cons_succ]
 try simp only [opv, nZ, Value.cells]
 refine s_go (s_assign) ?_
 try simp only [opv, nZ, Value.cells]
 refine s_go (s_assign) ?_
 try simp only [opv, nZ, Value.cells]
 refine x_nil ?_
 refine hK3 _ _ ?_
 refine x_seq fun K4 hK4 => ?_
 refine x_mixed_c (Lc := [.vec Aa ca 54 21 ([ta14]).length (arows ([ta14])), .obj g1 (.cells (ic .u8 cup8) 25 (0, 0))]) [] 0 [0, 10, 11, 12, 13, 14, 15, 16, 17, 18, 19, 20, 21, 22, 23, 24, 25, 26, 27, 28, 29, 30, 31] (fun f w => f 0 = .bool true ∧ Ext w0 w) (by kernel_rfl) (by kernel_rfl) (by kernel_rfl) (by decide) hS (fun w4 hS => ?mixpre301) ?mixrest301
 case mixpre301 =>
  refine p_nil ?_
  simp only [List.length_cons, List.length_nil, Nat.reduceAdd, Nat.reduceSub]
  refine any_go (i := 0) (by rfl) (by decide +kernel) (by decide +kernel) noLate_nil (go_yields w_none (fun w hS => s_move)) ?_
  try simp only [opv, nZ, Value.cells]
  refine any_go (i := 1) (by rfl) (by decide +kernel) (by decide +kernel) noLate_nil (go_yields w_none (fun w hS => s_eql)) ?_
  try simp only [opv, nZ, Value.cells]
  try simp only [eq_self, decide_true, beq_self_eq_true, Bool.and_self]
  refine any_go (i := 2) (by rfl) (by decide +kernel) (by decide +kernel) noLate_nil (go_yields w_none (fun w hS => s_move)) ?_
  try simp only [opv, nZ, Value.cells]
  refine any_go (i := 3) (by rfl) (by decide +kernel) (by decide +kernel) noLate_nil (go_yields (w_on (yi (t := 12) rfl rfl)) (fun w hS => s_move)) ?_
  try simp only [opv, nZ, Value.cells]
  first | refine any_go (i := 4) (by rfl) (by decide +kernel) (by decide +kernel) noLate_nil (go_yields (w_on (yi (t := 12) rfl rfl)) (fun w hS => m_load_row Try.underlying25 (hi := ti25) (hS := hS) (hfit := by first | omega | (rw [zi_size (by omega)]; first | rfl | decide) | (simp only [ic_size, List.length_map, List.size_toArray]; first | omega | decide) | rfl | (simp [*]; done) | (simp [*]; omega)))) ?_ | refine any_go (i := 4) (by rfl) (by decide +kernel) (by decide +kernel) noLate_nil (go_yields (w_on (yi (t := 12) rfl rfl)) (fun w hS => m_loada_obj Try.underlying25 (hi := ti25) (hS := hS) (hfit := by first | omega | (rw [zi_size (by omega)]; first | rfl | decide) | (simp only [ic_size, List.length_map, List.size_toArray]; first | omega | decide) | rfl | (simp [*]; done) | (simp [*]; omega)))) ?_ | refine any_go (i := 4) (by rfl) (by decide +kernel) (by decide +kernel) noLate_nil (go_yields (w_on (yi (t := 12) rfl rfl)) (fun w hS => m_loada_bx Try.underlying25 (hi := ti25) (hS := hS) (hfit := by first | omega | (rw [zi_size (by omega)]; first | rfl | decide) | (simp only [ic_size, List.length_map, List.size_toArray]; first | omega | decide) | rfl | (simp [*]; done) | (simp [*]; omega)))) ?_ | refine any_go (i := 4) (by rfl) (by decide +kernel) (by decide +kernel) noLate_nil (go_yields (w_on (yi (t := 12) rfl rfl)) (fun w hS => m_loada_rd Try.underlying25 (hi := ti25) (hS := hS) (hfit := by first | omega | (rw [zi_size (by omega)]; first | rfl | decide) | (simp only [ic_size, List.length_map, List.size_toArray]; first | omega | decide) | rfl | (simp [*]; done) | (simp [*]; omega)))) ?_ | refine any_go (i := 4) (by rfl) (by decide +kernel) (by decide +kernel) noLate_nil (go_yields (w_on (yi (t := 12) rfl rfl)) (fun w hS => m_loada_vec Try.underlying25 (hi := ti25) (hS := hS) (hfit := by first | omega | (rw [zi_size (by omega)]; first | rfl | decide) | (simp only [ic_size, List.length_map, List.size_toArray]; first | omega | decide) | rfl | (simp [*]; done) | (simp [*]; omega)))) ?_
  try simp only [opv, nZ, Value.cells, List.getElem_toArray, List.getElem_cons_zero, List.getElem_cons_succ]
  refine any_step [5] (by kernel_rfl) (by decide) (fun w5 hE => ⟨fun _ => (hS.ext hE).sel (by repeat (first | exact Sel.nil | (refine Sel.cons (by repeat (first | exact Del.head | apply Del.tail)) ?_))), ?_⟩)
  replace hS := hS.ext hE
  intro i hi
  simp only [List.mem_cons, List.not_mem_nil, or_false] at hi
  subst hi
  ·
   refine any_op (by rfl) ?_
   refine g_on (yi (t := 12) rfl rfl) ?_
   refine s_call en18 ?_
   try simp only [opv, nZ, Value.cells, List.map_toArray, List.map_cons, List.map_nil, List.append_toArray, List.cons_append, List.nil_append, Array.append_empty]
   refine CallR.mono (c_tagsPresent _ Aa ca [ta14] (hS.vecRd (by repeat (first | exact Has.head | apply Has.tail))) (aok_one ta14_ok) (by decide) 1 (by decide) cup8 rfl) ?_
   rintro _ w6 ⟨rfl, hE6⟩
   replace hS := hS.ext hE6
   try simp only [opv, nZ, Value.cells]
   rw [tg3, show decide (0 < ((1 : Nat) : Int)) = true from rfl]
   refine x_nil ?_
   first | refine any_go (i := 6) (by rfl) (by decide +kernel) (by decide +kernel) noLate_nil (go_yields w_none (fun w hS => s_pick_t)) ?_ | refine any_go (i := 6) (by rfl) (by decide +kernel) (by decide +kernel) noLate_nil (go_yields w_none (fun w hS => s_pick_f)) ?_
   try simp only [opv, nZ, Value.cells]
   refine any_go (i := 7) (by rfl) (by decide +kernel) (by decide +kernel) noLate_nil (go_yields w_none (fun w hS => s_move)) ?_
   try simp only [opv, nZ, Value.cells]
   refine any_go (i := 8) (by rfl) (by decide +kernel) (by decide +kernel) noLate_nil (go_yields (w_on (yi (t := 17) rfl rfl)) (fun w hS => s_move)) ?_
   try simp only [opv, nZ, Value.cells]
   first | refine any_go (i := 9) (by rfl) (by decide +kernel) (by decide +kernel) noLate_nil (go_yields (w_on (yi (t := 17) rfl rfl)) (fun w hS => m_load_row Try.underlying25 (hi := ti25) (hS := hS) (hfit := by first | omega | (rw [zi_size (by omega)]; first | rfl | decide) | (simp only [ic_size, List.length_map, List.size_toArray]; first | omega | decide) | rfl | (simp [*]; done) | (simp [*]; omega)))) ?_ | refine any_go (i := 9) (by rfl) (by decide +kernel) (by decide +kernel) noLate_nil (go_yields (w_on (yi (t := 17) rfl rfl)) (fun w hS => m_loada_obj Try.underlying25 (hi := ti25) (hS := hS) (hfit := by first | omega | (rw [zi_size (by omega)]; first | rfl | decide) | (simp only [ic_size, List.length_map, List.size_toArray]; first | omega | decide) | rfl | (simp [*]; done) | (simp [*]; omega)))) ?_ | refine any_go (i := 9) (by rfl) (by decide +kernel) (by decide +kernel) noLate_nil (go_yields (w_on (yi (t := 17) rfl rfl)) (fun w hS => m_loada_bx Try.underlying25 (hi := ti25) (hS := hS) (hfit := by first | omega | (rw [zi_size (by omega)]; first | rfl | decide) | (simp only [ic_size, List.length_map, List.size_toArray]; first | omega | decide) | rfl | (simp [*]; done) | (simp [*]; omega)))) ?_ | refine any_go (i := 9) (by rfl) (by decide +kernel) (by decide +kernel) noLate_nil (go_yields (w_on (yi (t := 17) rfl rfl)) (fun w hS => m_loada_rd Try.underlying25 (hi := ti25) (hS := hS) (hfit := by first | omega | (rw [zi_size (by omega)]; first | rfl | decide) | (simp only [ic_size, List.length_map, List.size_toArray]; first | omega | decide) | rfl | (simp [*]; done) | (simp [*]; omega)))) ?_ | refine any_go (i := 9) (by rfl) (by decide +kernel) (by decide +kernel) noLate_nil (go_yields (w_on (yi (t := 17) rfl rfl)) (fun w hS => m_loada_vec Try.underlying25 (hi := ti25) (hS := hS) (hfit := by first | omega | (rw [zi_size (by omega)]; first | rfl | decide) | (simp only [ic_size, List.length_map, List.size_toArray]; first | omega | decide) | rfl | (simp [*]; done) | (simp [*]; omega)))) ?_
   try simp only [opv, nZ, Value.cells, List.getElem_toArray, List.getElem_cons_zero, List.getElem_cons_succ]
   refine any_step [10] (by kernel_rfl) (by decide) (fun w7 hE => ⟨fun _ => (hS.ext hE).sel (by repeat (first | exact Sel.nil | (refine Sel.cons (by repeat (first | exact Del.head | apply Del.tail)) ?_))), ?_⟩)
   replace hS := hS.ext hE
   intro i hi
   simp only [List.mem_cons, List.not_mem_nil, or_false] at hi
   subst hi
   ·
    refine any_op (by rfl) ?_
    refine g_on (yi (t := 17) rfl rfl) ?_
    refine s_call en15 ?_
    try simp only [opv, nZ, Value.cells, List.map_toArray, List.map_cons, List.map_nil, List.append_toArray, List.cons_append, List.nil_append, Array.append_empty]
    refine CallR.mono (c_tagsDrop _ Aa ca [ta14] (hS.vecRd (by repeat (first | exact Has.head | apply Has.tail))) (aok_one ta14_ok) (by decide) 1 (by decide) cup8 rfl) ?_
    rintro _ w8 ⟨A8, c8, rfl, hC8⟩
    replace hS := hS.call hC8
    simp only [List.cons_append, List.nil_append] at hS
    rw [tg4] at hS ⊢
    try simp only [opv, nZ, Value.cells]
    refine x_nil ?_
    refine any_go (i := 11) (by rfl) (by decide +kernel) (by decide +kernel) noLate_nil (go_yields (w_on (yi (t := 17) rfl rfl)) (fun w hS => s_len_sl Try.underlying22)) ?_
    try simp only [opv, nZ, Value.cells]
    refine any_go (i := 12) (by rfl) (by decide +kernel) (by decide +kernel) noLate_nil (go_yields (w_on (yi (t := 17) rfl rfl)) (fun w hS => s_eql)) ?_
    try simp only [opv, nZ, Value.cells]
    try simp only [eq_self, decide_true, beq_self_eq_true, Bool.and_self]
    first | refine any_go (i := 13) (by rfl) (by decide +kernel) (by decide +kernel) noLate_nil (go_yields w_none (fun w hS => s_pick_t)) ?_ | refine any_go (i := 13) (by rfl) (by decide +kernel) (by decide +kernel) noLate_nil (go_yields w_none (fun w hS => s_pick_f)) ?_
    try simp only [opv, nZ, Value.cells]
    refine any_go (i := 14) (by rfl) (by decide +kernel) (by decide +kernel) noLate_nil (go_yields w_none (fun w hS => s_move)) ?_
    try simp only [opv, nZ, Value.cells]
    refine any_go (i := 15) (by rfl) (by decide +kernel) (by decide +kernel) noLate_nil (go_yields (w_on (yi (t := 24) rfl rfl)) (fun w hS => s_move)) ?_
    try simp only [opv, nZ, Value.cells]
    first | refine any_go (i := 16) (by rfl) (by decide +kernel) (by decide +kernel) noLate_nil (go_yields (w_on (yi (t := 24) rfl rfl)) (fun w hS => m_load_row Try.underlying25 (hi := ti25) (hS := hS) (hfit := by first | omega | (rw [zi_size (by omega)]; first | rfl | decide) | (simp only [ic_size, List.length_map, List.size_toArray]; first | omega | decide) | rfl | (simp [*]; done) | (simp [*]; omega)))) ?_ | refine any_go (i := 16) (by rfl) (by decide +kernel) (by decide +kernel) noLate_nil (go_yields (w_on (yi (t := 24) rfl rfl)) (fun w hS => m_loada_obj Try.underlying25 (hi := ti25) (hS := hS) (hfit := by first | omega | (rw [zi_size (by omega)]; first | rfl | decide) | (simp only [ic_size, List.length_map, List.size_toArray]; first | omega | decide) | rfl | (simp [*]; done) | (simp [*]; omega)))) ?_ | refine any_go (i := 16) (by rfl) (by decide +kernel) (by decide +kernel) noLate_nil (go_yields (w_on (yi (t := 24) rfl rfl)) (fun w hS => m_loada_bx Try.underlying25 (hi := ti25) (hS := hS) (hfit := by first | omega | (rw [zi_size (by omega)]; first | rfl | decide) | (simp only [ic_size, List.length_map, List.size_toArray]; first | omega | decide) | rfl | (simp [*]; done) | (simp [*]; omega)))) ?_ | refine any_go (i := 16) (by rfl) (by decide +kernel) (by decide +kernel) noLate_nil (go_yields (w_on (yi (t := 24) rfl rfl)) (fun w hS => m_loada_rd Try.underlying25 (hi := ti25) (hS := hS) (hfit := by first | omega | (rw [zi_size (by omega)]; first | rfl | decide) | (simp only [ic_size, List.length_map, List.size_toArray]; first | omega | decide) | rfl | (simp [*]; done) | (simp [*]; omega)))) ?_ | refine any_go (i := 16) (by rfl) (by decide +kernel) (by decide +kernel) noLate_nil (go_yields (w_on (yi (t := 24) rfl rfl)) (fun w hS => m_loada_vec Try.underlying25 (hi := ti25) (hS := hS) (hfit := by first | omega | (rw [zi_size (by omega)]; first | rfl | decide) | (simp only [ic_size, List.length_map, List.size_toArray]; first | omega | decide) | rfl | (simp [*]; done) | (simp [*]; omega)))) ?_
    try simp only [opv, nZ, Value.cells, List.getElem_toArray, List.getElem_cons_zero, List.getElem_cons_succ]
    first | refine any_go (i := 18) (by rfl) (by decide +kernel) (by decide +kernel) noLate_nil (go_yields (w_on (yi (t := 24) rfl rfl)) (fun w hS => m_load_row Try.underlying25 (hi := ti25) (hS := hS) (hfit := by first | omega | (rw [zi_size (by omega)]; first | rfl | decide) | (simp only [ic_size, List.length_map, List.size_toArray]; first | omega | decide) | rfl | (simp [*]; done) | (simp [*]; omega)))) ?_ | refine any_go (i := 18) (by rfl) (by decide +kernel) (by decide +kernel) noLate_nil (go_yields (w_on (yi (t := 24) rfl rfl)) (fun w hS => m_loada_obj Try.underlying25 (hi := ti25) (hS := hS) (hfit := by first | omega | (rw [zi_size (by omega)]; first | rfl | decide) | (simp only [ic_size, List.length_map, List.size_toArray]; first | omega | decide) | rfl | (simp [*]; done) | (simp [*]; omega)))) ?_ | refine any_go (i := 18) (by rfl) (by decide +kernel) (by decide +kernel) noLate_nil (go_yields (w_on (yi (t := 24) rfl rfl)) (fun w hS => m_loada_bx Try.underlying25 (hi := ti25) (hS := hS) (hfit := by first | omega | (rw [zi_size (by omega)]; first | rfl | decide) | (simp only [ic_size, List.length_map, List.size_toArray]; first | omega | decide) | rfl | (simp [*]; done) | (simp [*]; omega)))) ?_ | refine any_go (i := 18) (by rfl) (by decide +kernel) (by decide +kernel) noLate_nil (go_yields (w_on (yi (t := 24) rfl rfl)) (fun w hS => m_loada_rd Try.underlying25 (hi := ti25) (hS := hS) (hfit := by first | omega | (rw [zi_size (by omega)]; first | rfl | decide) | (simp only [ic_size, List.length_map, List.size_toArray]; first | omega | decide) | rfl | (simp [*]; done) | (simp [*]; omega)))) ?_ | refine any_go (i := 18) (by rfl) (by decide +kernel) (by decide +kernel) noLate_nil (go_yields (w_on (yi (t := 24) rfl rfl)) (fun w hS => m_loada_vec Try.underlying25 (hi := ti25) (hS := hS) (hfit := by first | omega | (rw [zi_size (by omega)]; first | rfl | decide) | (simp only [ic_size, List.length_map, List.size_toArray]; first | omega | decide) | rfl | (simp [*]; done) | (simp [*]; omega)))) ?_
    try simp only [opv, nZ, Value.cells, List.getElem_toArray, List.getElem_cons_zero, List.getElem_cons_succ]
    refine any_step [17] (by kernel_rfl) (by decide) (fun w9 hE => ⟨fun _ => (hS.ext hE).sel (by repeat (first | exact Sel.nil | (refine Sel.cons (by repeat (first | exact Del.head | apply Del.tail)) ?_))), ?_⟩)
    replace hS := hS.ext hE
    intro i hi
    simp only [List.mem_cons, List.not_mem_nil, or_false] at hi
    subst hi
    ·
     refine any_op (by rfl) ?_
     refine g_on (yi (t := 24) rfl rfl) ?_
     refine s_call en15 ?_
     try simp only [opv, nZ, Value.cells, List.map_toArray, List.map_cons, List.map_nil, List.append_toArray, List.cons_append, List.nil_append, Array.append_empty]
     refine CallR.mono (c_tagsDrop _ Aa ca [ta14] (hS.vecRd (by repeat (first | exact Has.head | apply Has.tail))) (aok_one ta14_ok) (by decide) 1 (by decide) cup8 rfl) ?_
     rintro _ w10 ⟨A10, c10, rfl, hC10⟩
     replace hS := hS.call hC10
     simp only [List.cons_append, List.nil_append] at hS
     rw [tg4] at hS ⊢
     try simp only [opv, nZ, Value.cells]
     refine x_nil ?_
     refine any_step [19] (by kernel_rfl) (by decide) (fun w11 hE => ⟨fun _ => (hS.ext hE).sel (by repeat (first | exact Sel.nil | (refine Sel.cons (by repeat (first | exact Del.head | apply Del.tail)) ?_))), ?_⟩)
     replace hS := hS.ext hE
     intro i hi
     simp only [List.mem_cons, List.not_mem_nil, or_false] at hi
     subst hi
     ·
      refine any_op (by rfl) ?_
      refine g_on (yi (t := 24) rfl rfl) ?_
      refine s_call en18 ?_
      try simp only [opv, nZ, Value.cells, List.map_toArray, List.map_cons, List.map_nil, List.append_toArray, List.cons_append, List.nil_append, Array.append_empty]
      refine CallR.mono (c_tagsPresent _ _ _ [dropA ta14] (hS.vecRd (by repeat (first | exact Has.head | apply Has.tail))) (aok_one (dropA_ok ta14_ok)) (by decide) 1 (by decide) cup8 rfl) ?_
      rintro _ w12 ⟨rfl, hE12⟩
      replace hS := hS.ext hE12
      try simp only [opv, nZ, Value.cells]
      rw [tg5, show decide (0 < ((0 : Nat) : Int)) = false from rfl]
      refine x_nil ?_
      refine any_go (i := 20) (by rfl) (by decide +kernel) (by decide +kernel) noLate_nil (go_yields (w_on (yi (t := 24) rfl rfl)) (fun w hS => s_not)) ?_
      try simp only [opv, nZ, Value.cells]
      first | refine any_go (i := 21) (by rfl) (by decide +kernel) (by decide +kernel) noLate_nil (go_yields w_none (fun w hS => s_pick_t)) ?_ | refine any_go (i := 21) (by rfl) (by decide +kernel) (by decide +kernel) noLate_nil (go_yields w_none (fun w hS => s_pick_f)) ?_
      try simp only [opv, nZ, Value.cells]
      refine any_go (i := 22) (by rfl) (by decide +kernel) (by decide +kernel) noLate_nil (go_yields w_none (fun w hS => s_assign)) ?_
      try simp only [opv, nZ, Value.cells]
      refine any_nil (by kernel_rfl) (fun w13 hE => ?_)
      replace hS := hS.ext hE
      refine ⟨fun _ => hS.selA, ?_⟩
      refine mix_leaf (by simp only [clob, List.foldl, nZ]) ?_
      try simp only [n1, n2]
      exact ⟨by first | trivial | rfl, hS.ext_of⟩
 intro fm1 w14 hM
 obtain ⟨h0, hEE⟩ := hM
 simp only [clob, List.foldl, n3, n4, h0]
 refine hK4 _ _ ?_
 refine x_ret ?_
 refine r_tmp rfl ?_
 exact ⟨rfl, hEE⟩
end Go.Proofs.Ytffmanidnlbjjaa
set_option linter.unusedSimpArgs false
set_option linter.unusedVariables false
set_option maxHeartbeats 2000000
set_option maxRecDepth 100000
namespace Go.Proofs.Ytffmanidnlbjjaa
open Go.RowKit

abbrev spotKs : List IntKind := [.u16, .u8, .u8, .u8, .u8, .u8, .u8, .u8, .u8]
def spotL (c : Nat) (tx : List Int) : List Int := (c : Int) :: tx
abbrev KSpot (c : Nat) (tx : List Int) : Array Value := (zi spotKs (spotL c tx)).toArray
theorem spot_len {c : Nat} {tx : List Int} (h : tx.length = 8) : (spotL c tx).length = 9 := by simp [spotL, h]
theorem spot_text {c : Nat} {tx : List Int} (h : tx.length = 8) : (((KSpot c tx).toList.drop 1).take 8).toArray = ic .u8 tx := by
  match tx, h with
  | [_, _, _, _, _, _, _, _], _ => rfl

end Go.Proofs.Ytffmanidnlbjjaa
set_option linter.unusedSimpArgs false
set_option linter.unusedVariables false
namespace Go.Proofs.Ytffmanidnlbjjaa
theorem getD_set_z {l : List Int} {i : Nat} (h : i < l.length) (v : Int) (j : Nat) : (l.set i v).getD j 0 = if i = j then v else l.getD j 0 := by
  rw [List.getD_eq_getElem?_getD, List.getElem?_set]
  by_cases e : i = j
  · subst e; simp [h]
  · rw [if_neg e, if_neg e, List.getD_eq_getElem?_getD]
end Go.Proofs.Ytffmanidnlbjjaa
set_option linter.unusedSimpArgs false
set_option linter.unusedVariables false
set_option maxHeartbeats 1000000
set_option maxRecDepth 100000
namespace Go.Proofs.Ytffmanidnlbjjaa
open Go.RowKit

def KQ (c : Nat) (it k : List Int) : Prop := kn k 0 = 1 ∧ kn k 1 = c ∧ kitem k = it
instance (c : Nat) (it k : List Int) : Decidable (KQ c it k) := inferInstanceAs (Decidable (_ ∧ _ ∧ _))
theorem tagQ_iff {a : List Int} (h : a.length = 21) (c n : Nat) (it : List Int) : tagQ c it n a = true ↔ KQ c it (akey a) ∧ (n = 0 ∨ kn (aval a) 0 = n) := by
  have h1 := akey_k h
  unfold tagQ KQ
  rw [h1.1, h1.2]
  simp [and_assoc]
theorem tag_fnd {s : List (List Int)} (h : StaR s) (c n : Nat) (it k : List Int) : (∃ a ∈ tagS s c it n, akey a = k) ↔ KQ c it k ∧ ∃ v, fnd k s = some v ∧ (n = 0 ∨ kn v 0 = n) := by
  constructor
  · rintro ⟨a, ha, rfl⟩
    obtain ⟨h1, h2⟩ := List.mem_filter.1 ha
    obtain ⟨h3, h4⟩ := (tagQ_iff (h.ok a h1).len c n it).1 h2
    exact ⟨h3, _, (mem_fnd h.knd).2 h1, h4⟩
  · rintro ⟨h1, v, h2, h3⟩
    obtain ⟨a, ha, rfl, rfl⟩ := fnd_mem h2
    exact ⟨a, List.mem_filter.2 ⟨ha, (tagQ_iff (h.ok a ha).len c n it).2 ⟨h1, h3⟩⟩, rfl⟩
theorem kn_rank {v : List Int} (h : ValOk v) : kn v 0 = rankV v / 18446744073709551616 := by
  have := rank_lt h
  unfold rankV; omega
theorem tag_val {a : List Int} (ha : AtomOk a) (hr : atomR a = true) (h1 : kn (akey a) 0 = 1) : kn (aval a) 0 = 1 ∨ kn (aval a) 0 = 2 := by
  rw [atomR, Bool.and_eq_true] at hr
  have h2 := hr.2
  rw [valR, if_pos ((akey_k ha.len).1 ▸ h1), Bool.and_eq_true, decide_eq_true_eq] at h2
  exact h2.2
theorem akey_drop {a : List Int} (h : AtomOk a) : akey (dropA a) = akey a := akey_kv h.key.len
theorem aval_drop {a : List Int} (h : AtomOk a) : aval (dropA a) = mkV 2 nm0 := aval_kv h.key.len
theorem right_drop {a : List Int} (ha : AtomOk a) (hr : atomR a = true) (h1 : kn (akey a) 0 = 1) : atomR (dropA a) = true := by
  have h2 := (akey_k (dropA_ok ha).len).1
  rw [akey_drop ha, h1] at h2
  rw [atomR, Bool.and_eq_true] at hr ⊢
  rw [akey_drop ha, aval_drop ha, ← h2]
  exact ⟨hr.1, by decide⟩
theorem drp_sta {s : List (List Int)} (h : StaR s) (c : Nat) (it : List Int) : StaR (drpS s c it) := by
  refine ⟨fun b hb => ?_, fun b hb => ?_, ?_⟩
  · obtain ⟨a, ha, rfl⟩ := List.mem_map.1 hb
    exact dropA_ok (h.ok a (List.mem_filter.1 ha).1)
  · obtain ⟨a, ha, rfl⟩ := List.mem_map.1 hb
    obtain ⟨h1, h2⟩ := List.mem_filter.1 ha
    exact right_drop (h.ok a h1) (h.right a h1) ((tagQ_iff (h.ok a h1).len c 1 it).1 h2).1.1
  · refine List.pairwise_map.2 ?_
    have hp : (tagS s c it 1).Pairwise fun a b => rankK (akey a) < rankK (akey b) := h.sorted.sublist List.filter_sublist
    refine hp.imp_of_mem fun {a b} ha hb hab => ?_
    rw [akey_drop (h.ok a (List.mem_filter.1 ha).1), akey_drop (h.ok b (List.mem_filter.1 hb).1)]; exact hab
theorem fnd_drp {s : List (List Int)} (h : StaR s) (c : Nat) (it k : List Int) : (KQ c it k → (∃ v, fnd k s = some v ∧ kn v 0 = 1) → fnd k (drpS s c it) = some (mkV 2 nm0)) ∧ (fnd k (drpS s c it) = none ∨ (KQ c it k ∧ ∃ v, fnd k s = some v)) := by
  have hd := drp_sta h c it
  refine ⟨fun h1 ⟨v, h2, h3⟩ => ?_, ?_⟩
  · obtain ⟨a, ha, rfl⟩ := (tag_fnd h c 1 it k).2 ⟨h1, v, h2, .inr h3⟩
    have hao := h.ok a (List.mem_filter.1 ha).1
    have := (mem_fnd hd.knd (a := dropA a)).2 (List.mem_map.2 ⟨a, ha, rfl⟩)
    rw [akey_drop hao, aval_drop hao] at this; exact this
  · cases hf : fnd k (drpS s c it) with
    | none => exact .inl rfl
    | some w =>
      obtain ⟨b, hb, rfl, _⟩ := fnd_mem hf
      obtain ⟨a, ha, rfl⟩ := List.mem_map.1 hb
      have hao := h.ok a (List.mem_filter.1 ha).1
      rw [akey_drop hao]
      obtain ⟨h1, v, h2, _⟩ := (tag_fnd h c 1 it (akey a)).1 ⟨a, ha, rfl⟩
      exact .inr ⟨h1, v, h2⟩
section
variable {l : List (List Int)} (hv : AOks l) (c : Nat) (it : List Int)
theorem drp_ok' (hv : AOks l) (c : Nat) (it : List Int) : AOks (drpS (normP l) c it) := (drp_sta (norm_sta hv) c it).ok
theorem gone_rnk (hv : AOks l) (c : Nat) (it k : List Int) : rnk (fnd k (normP (l ++ drpS (normP l) c it))) = max (rnk (fnd k (normP l))) (rnk (fnd k (drpS (normP l) c it))) := by
  rw [val_join hv (drp_ok' hv c it), norm_id (drp_sta (norm_sta hv) c it)]
theorem gone_ok (hv : AOks l) (c : Nat) (it : List Int) : AOks (l ++ drpS (normP l) c it) := hv.app (drp_ok' hv c it)
theorem gone_none (hv : AOks l) (c : Nat) (it k : List Int) (h : fnd k (normP l) = none) : fnd k (normP (l ++ drpS (normP l) c it)) = none := by
  refine okO_inj (fnd_okO (norm_sta (gone_ok hv c it)).ok k) noneOk ?_
  rw [gone_rnk hv, h]
  rcases (fnd_drp (norm_sta hv) c it k).2 with h1 | ⟨_, v, h1⟩
  · rw [h1]; simp [rnk]
  · rw [h1] at h; cases h
theorem gone_two (hv : AOks l) (c : Nat) (it k : List Int) (h : KQ c it k) {v : List Int} (hf : fnd k (normP l) = some v) : 36893488147419103233 ≤ rnk (fnd k (normP (l ++ drpS (normP l) c it))) := by
  have hs := norm_sta hv
  rw [gone_rnk hv]
  obtain ⟨a, ha, rfl, rfl⟩ := fnd_mem hf
  rcases tag_val (hs.ok a ha) (hs.right a ha) h.1 with h1 | h1
  · rw [(fnd_drp hs c it (akey a)).1 h ⟨_, hf, h1⟩]
    have h2 : rnk (some (mkV 2 nm0)) = 36893488147419103233 := by decide +kernel
    omega
  · have h2 := kn_rank (hs.ok a ha).val
    rw [hf]
    have h3 : rnk (some (aval a)) = rankV (aval a) + 1 := rfl
    omega
theorem rnk_one {v : List Int} (h : ValOk v) (h1 : kn v 0 = 1) : rnk (some v) ≤ 36893488147419103232 := by
  have h2 := kn_rank h
  have h3 : rnk (some v) = rankV v + 1 := rfl
  omega
/-- nothing is left of what is dropped -/
theorem win_gone (hv : AOks l) (c : Nat) (it : List Int) : tagS (normP (normP (l ++ drpS (normP l) c it))) c it 1 = [] := by
  rw [norm_norm (gone_ok hv c it)]
  have hs := norm_sta (gone_ok hv c it)
  refine List.filter_eq_nil_iff.2 fun a ha hq => ?_
  obtain ⟨h1, h2⟩ := (tagQ_iff (hs.ok a ha).len c 1 it).1 hq
  have h3 := (mem_fnd hs.knd).2 ha
  cases hf : fnd (akey a) (normP l) with
  | none => rw [gone_none hv c it _ hf] at h3; cases h3
  | some v =>
    have h4 := gone_two hv c it _ h1 hf
    rw [h3] at h4
    have h5 := rnk_one (hs.ok a ha).val (h2.resolve_left (by decide))
    omega
def unsP (ks ss : List (List Int)) : Bool := ks.any fun x => ss.all fun y => !decide (y = x)
/-- what is joined counts where its tag was not seen -/
theorem win_more (hv : AOks l) {r : List (List Int)} (hr : AOks r) (c : Nat) (it : List Int) : decide (0 < (((tagS (normP (normP (normP (l ++ drpS (normP l) c it) ++ r))) c it 1).map akey).length : Int)) = unsP ((tagS (normP r) c it 1).map akey) ((tagS (normP l) c it 0).map akey) := by
  have hg := gone_ok hv c it
  have hgn := (norm_sta hg).ok
  rw [norm_norm (hgn.app hr)]
  have hj := norm_sta (hgn.app hr)
  have hval : ∀ k, rnk (fnd k (normP (normP (l ++ drpS (normP l) c it) ++ r))) = max (rnk (fnd k (normP (l ++ drpS (normP l) c it)))) (rnk (fnd k (normP r))) := fun k => by rw [val_join hgn hr, norm_norm hg]
  rw [Bool.eq_iff_iff, decide_eq_true_eq, unsP, List.any_eq_true]
  constructor
  · intro h
    have hne : tagS (normP (normP (l ++ drpS (normP l) c it) ++ r)) c it 1 ≠ [] := fun e => by rw [e] at h; simp at h
    obtain ⟨a, ha⟩ := List.exists_mem_of_ne_nil _ hne
    obtain ⟨h1, v, h2, h3⟩ := (tag_fnd hj c 1 it (akey a)).1 ⟨a, ha, rfl⟩
    have h3 := h3.resolve_left (by decide)
    have hvo := fnd_ok hj.ok h2
    have h4 := hval (akey a)
    rw [h2] at h4
    have h5 := rnk_one hvo h3
    have hn : fnd (akey a) (normP l) = none := by
      cases hf : fnd (akey a) (normP l) with
      | none => rfl
      | some w => have := gone_two hv c it _ h1 hf; omega
    rw [gone_none hv c it _ hn] at h4
    have h6 : some v = fnd (akey a) (normP r) := okO_inj (someOk hvo) (fnd_okO (norm_sta hr).ok _) (by rw [h4]; simp [rnk])
    obtain ⟨b, hb, hbk⟩ := (tag_fnd (norm_sta hr) c 1 it (akey a)).2 ⟨h1, v, h6.symm, .inr h3⟩
    refine ⟨akey a, List.mem_map.2 ⟨b, hb, hbk⟩, List.all_eq_true.2 fun y hy => ?_⟩
    obtain ⟨z, hz, rfl⟩ := List.mem_map.1 hy
    rw [Bool.not_eq_true', decide_eq_false_iff_not]
    intro e
    have := (mem_fnd (norm_sta hv).knd).2 (List.mem_filter.1 hz).1
    rw [e, hn] at this; cases this
  · rintro ⟨x, hx, hall⟩
    obtain ⟨b, hb, rfl⟩ := List.mem_map.1 hx
    obtain ⟨h1, v, h2, h3⟩ := (tag_fnd (norm_sta hr) c 1 it (akey b)).1 ⟨b, hb, rfl⟩
    have hn : fnd (akey b) (normP l) = none := by
      cases hf : fnd (akey b) (normP l) with
      | none => rfl
      | some w =>
        obtain ⟨z, hz, hzk⟩ := (tag_fnd (norm_sta hv) c 0 it (akey b)).2 ⟨h1, w, hf, .inl rfl⟩
        have := List.all_eq_true.1 hall (akey z) (List.mem_map.2 ⟨z, hz, rfl⟩)
        rw [Bool.not_eq_true', decide_eq_false_iff_not] at this
        exact absurd hzk this
    have h4 := hval (akey b)
    rw [gone_none hv c it _ hn, h2] at h4
    have h6 : fnd (akey b) (normP (normP (l ++ drpS (normP l) c it) ++ r)) = some v := okO_inj (fnd_okO hj.ok _) (someOk (fnd_ok (norm_sta hr).ok h2)) (by rw [h4]; simp [rnk])
    obtain ⟨a, ha, _⟩ := (tag_fnd hj c 1 it (akey b)).2 ⟨h1, v, h6, h3⟩
    have := List.length_pos_of_mem ha
    rw [List.length_map]; omega
end
def liveQ (c : Nat) (a : List Int) : Bool := decide (kn a 0 = 1) && decide (kn a 1 = c) && decide (kn (aval a) 0 = 1)
def ded (ns : List (List Int)) : List (List Int) := ns.foldl (fun o x => if x ∈ o then o else o ++ [x]) []
theorem ded_from (y : List Int) : ∀ (ns o : List (List Int)), y ∈ ns.foldl (fun o x => if x ∈ o then o else o ++ [x]) o ↔ y ∈ o ∨ y ∈ ns
  | [], o => by simp
  | x :: ns, o => by
    rw [List.foldl_cons, ded_from y ns]
    by_cases h : x ∈ o
    · rw [if_pos h, List.mem_cons]
      constructor
      · rintro (h1 | h1)
        · exact .inl h1
        · exact .inr (.inr h1)
      · rintro (h1 | rfl | h1)
        · exact .inl h1
        · exact .inl h
        · exact .inr h1
    · rw [if_neg h, List.mem_append, List.mem_singleton, List.mem_cons, or_assoc]
theorem mem_ded {ns : List (List Int)} {y : List Int} : y ∈ ded ns ↔ y ∈ ns := by rw [ded, ded_from]; simp
theorem ded_snoc (ns : List (List Int)) (x : List Int) : ded (ns ++ [x]) = if x ∈ ns then ded ns else ded ns ++ [x] := by
  have := mem_ded (ns := ns) (y := x)
  rw [ded, List.foldl_append]
  show (if x ∈ ded ns then ded ns else ded ns ++ [x]) = _
  by_cases h : x ∈ ns
  · rw [if_pos h, if_pos (this.2 h)]
  · rw [if_neg h, if_neg fun q => h (this.1 q)]
theorem ded_len : ∀ (ns : List (List Int)), (ded ns).length ≤ ns.length := by
  have key : ∀ (ns o : List (List Int)), (ns.foldl (fun o x => if x ∈ o then o else o ++ [x]) o).length ≤ o.length + ns.length := by
    intro ns
    induction ns with
    | nil => intro o; simp
    | cons x ns ih =>
      intro o
      rw [List.foldl_cons, List.length_cons]
      refine Nat.le_trans (ih _) ?_
      split
      · omega
      · simp; omega
  intro ns
  have := key ns []
  simpa [ded] using this
def nmsS (s : List (List Int)) (c : Nat) : List (List Int) := (s.filter (liveQ c)).map fun a => kitem (akey a)
def itmS (s : List (List Int)) (c : Nat) : List (List Int) := ded (nmsS s c)
theorem nms_take {s : List (List Int)} {c : Nat} {k : Nat} {x : List Int} (hk : k < s.length) (hx : s.getD k [] = x) : (liveQ c x = true → nmsS (s.take (k + 1)) c = nmsS (s.take k) c ++ [kitem (akey x)]) ∧ (liveQ c x = false → nmsS (s.take (k + 1)) c = nmsS (s.take k) c) := by
  rw [take_snoc hk, hx, nmsS, List.filter_append, List.map_append]
  refine ⟨fun h => ?_, fun h => ?_⟩
  · rw [List.filter_cons_of_pos h]; rfl
  · rw [List.filter_cons_of_neg (by rw [h]; decide)]; simp [nmsS]
theorem nms_len (s : List (List Int)) (c : Nat) : (nmsS s c).length ≤ s.length := by rw [nmsS, List.length_map]; exact List.length_filter_le _ _
theorem nms_eight {s : List (List Int)} (h : AOks s) (c : Nat) : ∀ x ∈ nmsS s c, x.length = 8 := fun x hx => by
  obtain ⟨a, ha, rfl⟩ := List.mem_map.1 hx
  exact kitem_len (h a (List.mem_filter.1 ha).1).key.len
theorem live_key {a : List Int} (h : AtomOk a) (c : Nat) : liveQ c a = (decide (kn (akey a) 0 = 1) && (decide (kn (akey a) 1 = c) && decide (kn (aval a) 0 = 1))) := by
  have h1 := akey_k h.len
  rw [liveQ, h1.1, h1.2, Bool.and_assoc]
/-- rows of one cart leave the items of others -/
theorem itm_other {l r : List (List Int)} (hv : AOks l) (hr : AOks r) {c c' : Nat} (hc : ¬ c = c') (h : ∀ a ∈ r, kn (akey a) 1 = c) : itmS (normP (normP (l ++ r))) c' = itmS (normP l) c' := by
  rw [norm_norm (hv.app hr)]
  have h1 := norm_sta (hv.app hr)
  have h2 := norm_sta hv
  have e : (normP (l ++ r)).filter (liveQ c') = (normP l).filter (liveQ c') := by
    refine sta_ext (h1.sub List.filter_sublist) (h2.sub List.filter_sublist) fun a => ?_
    rw [List.mem_filter, List.mem_filter]
    have key : a.length = 21 → liveQ c' a = true → fnd (akey a) (normP (l ++ r)) = fnd (akey a) (normP l) := fun hl hq => by
      refine okO_inj (fnd_okO h1.ok _) (fnd_okO h2.ok _) ?_
      have hn : fnd (akey a) (normP r) = none := by
        rw [fnd_norm hr]
        have : ∀ (r : List (List Int)) , (∀ b ∈ r, ¬ akey b = akey a) → ∀ o, r.foldl (lkF (akey a)) o = o := by
          intro r
          induction r with
          | nil => intro _ o; rfl
          | cons b r ih =>
            intro h o
            rw [List.foldl_cons, lkF, if_neg fun q => h b (by simp) q.2]
            exact ih (fun x hx => h x (by simp [hx])) o
        refine this r (fun b hb e => ?_) none
        have h3 := h b hb
        unfold liveQ at hq
        simp only [Bool.and_eq_true, decide_eq_true_eq] at hq
        have h4 := (akey_k hl).2
        rw [e, h4] at h3
        omega
      rw [val_join hv hr, hn]; simp [rnk]
    constructor
    · rintro ⟨ha, hq⟩
      refine ⟨(mem_fnd h2.knd).1 ?_, hq⟩
      rw [← key (h1.ok a ha).len hq]; exact (mem_fnd h1.knd).2 ha
    · rintro ⟨ha, hq⟩
      refine ⟨(mem_fnd h1.knd).1 ?_, hq⟩
      rw [key (h2.ok a ha).len hq]; exact (mem_fnd h2.knd).2 ha
  rw [itmS, itmS, nmsS, nmsS, e]
theorem drp_cart {s : List (List Int)} (h : StaR s) (c : Nat) (it : List Int) : ∀ a ∈ drpS s c it, kn (akey a) 1 = c := fun b hb => by
  obtain ⟨a, ha, rfl⟩ := List.mem_map.1 hb
  obtain ⟨h1, h2⟩ := List.mem_filter.1 ha
  rw [akey_drop (h.ok a h1)]
  exact ((tagQ_iff (h.ok a h1).len c 1 it).1 h2).1.2.1
theorem ofV_mono : ∀ {s : List (List Int)} {v : List Int}, AOks s → (∀ a ∈ s, atomR a = true) → VOk v → (∀ i : Nat, v.getD i 0 ≤ (s.foldl ofStep v).getD i 0) ∧ ∀ a ∈ s, kn a 0 = 1 → (kn a 11 : Int) ≤ (s.foldl ofStep v).getD (kn a 10) 0
  | [], v, _, _, _ => ⟨fun i => Int.le_refl _, fun a h => by cases h⟩
  | a :: s, v, hs, hr, h => by
    have ha := hs a (by simp)
    have hst := h.step ha
    obtain ⟨h1, h2⟩ := ofV_mono (s := s) (v := ofStep v a) (fun b hb => hs b (by simp [hb])) (fun b hb => hr b (by simp [hb])) hst
    have hvl := h.len
    have key : ∀ i : Nat, v.getD i 0 ≤ (ofStep v a).getD i 0 := fun i => by
      unfold ofStep
      split
      · rename_i e
        have h16 := right_rep (hr a (by simp)) ha e
        rw [getD_set_z (by omega)]
        split
        · next e2 => subst e2; exact Int.le_max_left _ _
        · exact Int.le_refl _
      · exact Int.le_refl _
    refine ⟨fun i => Int.le_trans (key i) (h1 i), fun b hb hb1 => ?_⟩
    rcases List.mem_cons.1 hb with rfl | hb
    · refine Int.le_trans ?_ (h1 _)
      have h16 := right_rep (hr b (by simp)) ha hb1
      rw [ofStep, if_pos hb1, getD_set_z (by omega), if_pos rfl]; exact Int.le_max_right _ _
    · exact h2 b hb hb1
section
variable {l : List (List Int)} {r c : Nat} {it : List Int}
theorem add_key (h8 : it.length = 8) : akey (addA l r c it) = mkKey 1 c it r (nextN l r).toNat := akey_kv (mkKey_len h8)
theorem add_val (h8 : it.length = 8) : aval (addA l r c it) = mkV 1 nm0 := aval_kv (mkKey_len h8)
theorem addE_0 (h : addE l r it = 0) : r < 16 ∧ nright it = true ∧ nextN l r = (ofV (normP l)).getD r 0 + 1 := by
  unfold addE at h
  split at h
  · cases h
  · next q =>
    refine ⟨by omega, ?_, by rw [nextN, if_pos h]⟩
    cases e : nright it
    · exact absurd (.inr e) q
    · rfl
theorem add_right (hv : AOks l) (hr : r < 256) (hc : c < 65536) (h8 : it.length = 8) (hb : Byt it) (h : addE l r it = 0) : atomR (addA l r c it) = true := by
  obtain ⟨h1, h2, h3⟩ := addE_0 h
  have hok := addA_ok (c := c) hv hr hc h8 hb
  have h4 := (akey_k hok.len).1
  have h5 := (ofV_ok (norm_sta hv).ok VOk.zero).nat r
  have h6 : 0 ≤ (ofV (normP l)).getD r 0 := h5.1
  rw [add_key h8, mk_0] at h4
  rw [atomR, Bool.and_eq_true, add_key h8, add_val h8, ← h4]
  refine ⟨?_, by decide⟩
  rw [keyR, if_neg (by rw [mk_0]; decide), if_pos mk_0, mk_11 h8, mk_item h8, mk_10 h8, h2, decide_eq_true (show (nextN l r).toNat ≠ 0 by omega), decide_eq_true h1]; rfl
theorem add_new (hv : AOks l) (h8 : it.length = 8) (h : addE l r it = 0) : fnd (akey (addA l r c it)) (normP l) = none := by
  obtain ⟨h1, h2, h3⟩ := addE_0 h
  have hs := norm_sta hv
  cases hf : fnd (akey (addA l r c it)) (normP l) with
  | none => rfl
  | some v =>
    exfalso
    obtain ⟨a, ha, hk, _⟩ := fnd_mem hf
    rw [add_key h8] at hk
    have hl := (hs.ok a ha).len
    have e0 := (akey_k hl).1
    have e1 := akey_kk hl
    rw [hk, mk_0] at e0
    rw [hk, mk_10 h8, mk_11 h8] at e1
    have h4 := (ofV_mono hs.ok hs.right VOk.zero).2 a ha e0.symm
    rw [← e1.1, ← e1.2] at h4
    have h5 := ((ofV_ok hs.ok VOk.zero).nat r).1
    have h6 : (normP l).foldl ofStep (List.replicate 16 0) = ofV (normP l) := rfl
    rw [h6] at h4 h5
    omega
/-- what is added is present -/
theorem win_add {m : List (List Int)} (hv : AOks l) (hm : AOks m) (hr : r < 256) (hc : c < 65536) (h8 : it.length = 8) (hb : Byt it) (h : addE l r it = 0) (hn : fnd (akey (addA l r c it)) (normP m) = none) :
    decide (0 < (((tagS (normP (normP (normP (l ++ [addA l r c it]) ++ m))) c it 1).map akey).length : Int)) = true := by
  have hok := addA_ok (c := c) hv hr hc h8 hb
  have h1 := hv.app (aok_one hok)
  have h2 := (norm_sta h1).ok
  rw [norm_norm (h2.app hm)]
  have hj := norm_sta (h2.app hm)
  have hrt := add_right hv hr hc h8 hb h
  have hone : fnd (akey (addA l r c it)) (normP [addA l r c it]) = some (mkV 1 nm0) := by
    rw [fnd_norm (aok_one hok)]
    show lkF _ none _ = _
    rw [lkF, if_pos ⟨hrt, rfl⟩, add_val h8]; rfl
  have hf : fnd (akey (addA l r c it)) (normP (normP (l ++ [addA l r c it]) ++ m)) = some (mkV 1 nm0) := by
    refine okO_inj (fnd_okO hj.ok _) (someOk ⟨rfl, by decide, by decide, nm0_byt⟩) ?_
    rw [val_join h2 hm, norm_norm h1, val_join hv (aok_one hok), hn, hone, add_new hv h8 h]; simp [rnk]
  obtain ⟨a, ha, _⟩ := (tag_fnd hj c 1 it (akey (addA l r c it))).2 ⟨by rw [add_key h8]; exact ⟨mk_0, mk_1, mk_item h8⟩, _, hf, .inr (by decide)⟩
  have := List.length_pos_of_mem ha
  rw [List.length_map]
  exact decide_eq_true (by omega)
end
end Go.Proofs.Ytffmanidnlbjjaa
set_option linter.unusedSimpArgs false
set_option linter.unusedVariables false
set_option maxHeartbeats 2000000
set_option maxRecDepth 100000
namespace Go.Proofs.Ytffmanidnlbjjaa
open Go.RowKit

abbrev nrows (l : List (List Int)) : List Value := rowsZ (List.replicate 8 IntKind.u8) l
theorem nrow_get {l : List (List Int)} {k : Nat} (hk : k < l.length) (hv : ∀ x ∈ l, x.length = 8) : (((nrows l).drop (k * 8)).take 8).toArray = ic .u8 (l.getD k []) := by
  have h := hv _ (getD_mem' (d := []) hk)
  have := rowsZ_get (ks := (List.replicate 8 IntKind.u8)) hk (by simpa using h)
  simp only [List.length_replicate] at this
  rw [this, zi_ic h]
theorem nrows_len (l : List (List Int)) : (nrows l).length = l.length * 8 := rowsZ_len _ _
theorem nrow_one {x : List Int} (h : x.length = 8) : (ic .u8 x).toList = nrows [x] := by
  show (ic .u8 x).toList = rowsZ (List.replicate 8 IntKind.u8) [x]
  rw [rowsZ_one, ← padL_ic h]
theorem nadd_one {o : List (List Int)} {y : List Int} : nrows o ++ nrows [y] = nrows (o ++ [y]) := (rowsZ_app _ _ _).symm
def hereQ (c : Nat) (k v : List Int) : Bool := decide (kn k 1 = c) && decide (kn v 0 = 1)
theorem live_here {a : List Int} (h : AtomOk a) (c : Nat) : liveQ c a = (decide (kn a 0 = 1) && hereQ c (akey a) (aval a)) := by
  rw [live_key h, (akey_k h.len).1]; rfl
theorem cnt_snoc (ns : List (List Int)) (x : List Int) : cntR (ns ++ [x]).reverse = mput x (.int .i64 ((ns.count x : Int) + 1)) (cntR ns.reverse) := by
  rw [List.reverse_append, ← List.count_reverse (l := ns)]; rfl
theorem ded_eight {ns : List (List Int)} (h : ∀ x ∈ ns, x.length = 8) : ∀ x ∈ ded ns, x.length = 8 := fun x hx => h x (mem_ded.1 hx)

theorem c_itemsHere (w0 : World) (gc ct : Nat) (x y : List Int) (hx : KeyOk x) (hy : ValOk y) (hM : St (OwnB [.obj gc (.cells #[.int .u16 (ct : Int)] 23 (0, 0))]) w0 w0 [.obj gc (.cells #[.int .u16 (ct : Int)] 23 (0, 0))])  :
    CallR Try.prog 62 #[.agg (KA x), .agg (VA y), .pointer (some ⟨gc, 0, none⟩)] w0 fun v w' => v = .bool (hereQ ct x y) ∧ St (OwnB [.obj gc (.cells #[.int .u16 (ct : Int)] 23 (0, 0))]) w0 w' [.obj gc (.cells #[.int .u16 (ct : Int)] 23 (0, 0))] := by
 have hS := hM
 have hxl := hx.len
 have hyl := hy.len
 refine c_enter (l := [.agg (KA x), .agg (VA y), .pointer (some ⟨gc, 0, none⟩), undef, undef, undef, undef, undef, undef, undef, undef, undef, undef, undef, undef]) Try.func62 rfl (by simp only [Try.ntmps62, List.size_toArray, List.length_cons, List.length_nil, Nat.reduceAdd, Nat.reduceSub, Array.replicate_succ, Array.replicate_zero, List.push_toArray, List.append_toArray, List.nil_append, List.cons_append]) ?_
 refine x_seq fun K1 hK1 => ?_
 refine x_region ?_
 refine m_box hS (fun w1 g1 hS => ?_)
 try simp only [opv, nZ, Value.cells, Array.toArray_toList] at hS ⊢
 refine m_box hS (fun w2 g2 hS => ?_)
 try simp only [opv, nZ, Value.cells, Array.toArray_toList] at hS ⊢
 refine s_go (s_assign) ?_
 try simp only [opv, nZ, Value.cells]
 refine x_nil ?_
 refine hK1 _ _ ?_
 refine x_seq fun K2 hK2 => ?_
 refine x_region ?_
 first | refine s_go (m_fieldAddr Try.underlying43 (hi := ti23)) ?_ | refine s_go (m_fieldAddr_rd Try.underlying43 (hi := ti23) (hS := hS)) ?_ | refine s_go (m_fieldAddr_vec Try.underlying43 (hi := ti23) (hS := hS)) ?_
 try simp only [opv, nZ, Value.cells, Nat.zero_add, Nat.add_zero, List.getElem_toArray, List.getElem_cons_zero, List.getElem_cons_succ]
 first | refine s_go (m_load_obj Try.underlying23 (hS := hS) (hv := by first | rfl | exact zi_get rfl (by omega) | exact ic_get (by omega) | exact il_get (by omega))) ?_ | refine s_go (m_load_bx Try.underlying23 (hS := hS) (hv := by first | rfl | exact zi_get rfl (by omega) | exact ic_get (by omega) | exact il_get (by omega))) ?_ | refine s_go (m_load_rd Try.underlying23 (hS := hS) (hv := by first | rfl | exact zi_get rfl (by omega) | exact ic_get (by omega) | exact il_get (by omega))) ?_ | refine s_go (m_load_vec Try.underlying23 (hS := hS) (hv := by first | rfl | exact zi_get rfl (by omega) | exact ic_get (by omega) | exact il_get (by omega))) ?_
 try simp only [opv, nZ, Value.cells, List.getElem_toArray, List.getElem_cons_zero, List.getElem_cons_succ]
 rw [hx.e1]
 first | refine s_go (m_load_obj Try.underlying23 (hS := hS) (hv := by first | rfl | exact zi_get rfl (by omega) | exact ic_get (by omega) | exact il_get (by omega))) ?_ | refine s_go (m_load_bx Try.underlying23 (hS := hS) (hv := by first | rfl | exact zi_get rfl (by omega) | exact ic_get (by omega) | exact il_get (by omega))) ?_ | refine s_go (m_load_rd Try.underlying23 (hS := hS) (hv := by first | rfl | exact zi_get rfl (by omega) | exact ic_get (by omega) | exact il_get (by omega))) ?_ | refine s_go (m_load_vec Try.underlying23 (hS := hS) (hv := by first | rfl | exact zi_get rfl (by omega) | exact ic_get (by omega) | exact il_get (by omega))) ?_
 try simp only [opv, nZ, Value.cells, List.getElem_toArray, List.getElem_cons_zero, List.getElem_cons_succ]
 refine s_go (s_eql) ?_
 try simp only [opv, nZ, Value.cells]
 refine s_go (s_move) ?_
 try simp only [opv, nZ, Value.cells]
 refine s_part 10 rfl (fun hp1 => ?_) (fun hp1 => ?_)
 ·
  try simp only [n3, n4]
  try simp only [decide_eq_true_eq, decide_eq_false_iff_not, Bool.not_eq_true', Bool.not_eq_false', Int.not_lt, Int.not_le, ne_eq, Decidable.not_not] at hp1
  have hQ : hereQ ct x y = decide ((kn y 0 : Int) = 1) := by rw [hereQ, decide_eq_true (show kn x 1 = ct by omega)]; simp; omega
  refine g_on (yi (t := 10) rfl rfl) ?_
  first | refine s_go (m_fieldAddr Try.underlying50 (hi := ti48)) ?_ | refine s_go (m_fieldAddr_rd Try.underlying50 (hi := ti48) (hS := hS)) ?_ | refine s_go (m_fieldAddr_vec Try.underlying50 (hi := ti48) (hS := hS)) ?_
  try simp only [opv, nZ, Value.cells, Nat.zero_add, Nat.add_zero, List.getElem_toArray, List.getElem_cons_zero, List.getElem_cons_succ]
  refine g_on (yi (t := 10) rfl rfl) ?_
  first | refine s_go (m_load_obj Try.underlying48 (hS := hS) (hv := by first | rfl | exact zi_get rfl (by omega) | exact ic_get (by omega) | exact il_get (by omega))) ?_ | refine s_go (m_load_bx Try.underlying48 (hS := hS) (hv := by first | rfl | exact zi_get rfl (by omega) | exact ic_get (by omega) | exact il_get (by omega))) ?_ | refine s_go (m_load_rd Try.underlying48 (hS := hS) (hv := by first | rfl | exact zi_get rfl (by omega) | exact ic_get (by omega) | exact il_get (by omega))) ?_ | refine s_go (m_load_vec Try.underlying48 (hS := hS) (hv := by first | rfl | exact zi_get rfl (by omega) | exact ic_get (by omega) | exact il_get (by omega))) ?_
  try simp only [opv, nZ, Value.cells, List.getElem_toArray, List.getElem_cons_zero, List.getElem_cons_succ]
  rw [hy.e0]
  refine g_on (yi (t := 10) rfl rfl) ?_
  refine s_go (s_eql) ?_
  try simp only [opv, nZ, Value.cells]
  first | refine s_go (s_pick_t) ?_ | refine s_go (s_pick_f) ?_
  try simp only [opv, nZ, Value.cells]
  refine s_go (s_assign) ?_
  try simp only [opv, nZ, Value.cells]
  refine x_nil ?_
  refine hK2 _ _ ?_
  refine x_ret ?_
  refine r_tmp rfl ?_
  exact ⟨by rw [hQ]; rfl, hS.selA⟩
 ·
  try simp only [n3, n4]
  try simp only [decide_eq_true_eq, decide_eq_false_iff_not, Bool.not_eq_true', Bool.not_eq_false', Int.not_lt, Int.not_le, ne_eq, Decidable.not_not] at hp1
  have hQ : hereQ ct x y = false := by rw [hereQ, decide_eq_false (show ¬ kn x 1 = ct by omega)]; rfl
  refine g_off (yi (t := 10) rfl rfl) ?_
  try simp only [opv, nZ, Value.cells]
  refine g_off (yi (t := 10) rfl rfl) ?_
  try simp only [opv, nZ, Value.cells]
  refine g_off (yi (t := 10) rfl rfl) ?_
  try simp only [opv, nZ, Value.cells]
  first | refine s_go (s_pick_t) ?_ | refine s_go (s_pick_f) ?_
  try simp only [opv, nZ, Value.cells]
  refine s_go (s_assign) ?_
  try simp only [opv, nZ, Value.cells]
  refine x_nil ?_
  refine hK2 _ _ ?_
  refine x_ret ?_
  refine r_tmp rfl ?_
  exact ⟨by rw [hQ]; rfl, hS.selA⟩
theorem c_itemsPut (w0 : World) (gm q gs : Nat) (O : Option Addr) (oc : Nat) (ns : List (List Int)) (hns : ∀ x ∈ ns, x.length = 8) (hk : ns.length ≤ 1000000000) (x : List Int) (hx : KeyOk x) (hM : St (OwnB [.vec O oc 25 8 (ded (ns)).length (nrows (ded (ns))), .obj gs (.cells #[.slice O (ded (ns)).length oc] 44 (0, 0)), .obj gm (.cells #[.map (some q)] 103 (0, 0)), .obj q (mObj kv25 (cntR (ns).reverse))]) w0 w0 [.vec O oc 25 8 (ded (ns)).length (nrows (ded (ns))), .obj gs (.cells #[.slice O (ded (ns)).length oc] 44 (0, 0)), .obj gm (.cells #[.map (some q)] 103 (0, 0)), .obj q (mObj kv25 (cntR (ns).reverse))])  :
    CallR Try.prog 63 #[.agg (KA x), .pointer (some ⟨gm, 0, none⟩), .pointer (some ⟨gs, 0, none⟩)] w0 fun v w' => ∃ (O2 : Option Addr) (oc2 : Nat), v = .tuple #[] ∧ St (OwnB [.vec O oc 25 8 (ded (ns)).length (nrows (ded (ns))), .obj gs (.cells #[.slice O (ded (ns)).length oc] 44 (0, 0)), .obj gm (.cells #[.map (some q)] 103 (0, 0)), .obj q (mObj kv25 (cntR (ns).reverse))]) w0 w' [.vec O2 oc2 25 8 (ded (ns ++ [kitem x])).length (nrows (ded (ns ++ [kitem x]))), .obj gs (.cells #[.slice O2 (ded (ns ++ [kitem x])).length oc2] 44 (0, 0)), .obj gm (.cells #[.map (some q)] 103 (0, 0)), .obj q (mObj kv25 (cntR (ns ++ [kitem x]).reverse))] := by
 have hS := hM
 have hxl := hx.len
 have hil := kitem_len hxl
 have hdl := ded_len ns
 have hok : MOk (fun xs : List Int => xs.length = 8) (cntR ns.reverse) := cnt_ok (fun y hy => hns y (List.mem_reverse.1 hy))
 have hcs := cnt_snoc ns (kitem x)
 have hds := ded_snoc ns (kitem x)
 have hcl : ns.count (kitem x) ≤ ns.length := List.count_le_length
 have hok2 : MOk (fun xs : List Int => xs.length = 8) (cntR (ns ++ [kitem x]).reverse) := by rw [hcs]; exact mput_ok (ok := fun xs : List Int => xs.length = 8) hil hok
 refine c_enter (l := [.agg (KA x), .pointer (some ⟨gm, 0, none⟩), .pointer (some ⟨gs, 0, none⟩), undef, undef, undef, undef, undef, undef, undef, undef, undef, undef, undef, undef, undef, undef, undef, undef, undef, undef]) Try.func63 rfl (by simp only [Try.ntmps63, List.size_toArray, List.length_cons, List.length_nil, Nat.reduceAdd, Nat.reduceSub, Array.replicate_succ, Array.replicate_zero, List.push_toArray, List.append_toArray, List.nil_append, List.cons_append]) ?_
 refine x_seq fun K1 hK1 => ?_
 refine x_region ?_
 refine m_box hS (fun w1 g1 hS => ?_)
 try simp only [opv, nZ, Value.cells, Array.toArray_toList] at hS ⊢
 obtain ⟨gk, hgk⟩ : ∃ z, z = g1 := ⟨_, rfl⟩
 rw [← hgk] at hS ⊢
 refine x_nil ?_
 refine hK1 _ _ ?_
 refine x_seq fun K2 hK2 => ?_
 refine x_mixed_f [5, 7] 0 [4, 5, 6, 7, 8, 9, 10] (fun f w => St (OwnB [.vec O oc 25 8 (ded (ns)).length (nrows (ded (ns))), .obj gs (.cells #[.slice O (ded (ns)).length oc] 44 (0, 0)), .obj gm (.cells #[.map (some q)] 103 (0, 0)), .obj q (mObj kv25 (cntR (ns).reverse))]) w0 w [.obj gk (.cells (KA x) 43 (0, 0)), .vec O oc 25 8 (ded ns).length (nrows (ded ns)), .obj gs (.cells #[.slice O (ded ns).length oc] 44 (0, 0)), .obj gm (.cells #[.map (some q)] 103 (0, 0)), .obj q (mObj kv25 (cntR (ns ++ [kitem x]).reverse))]) (by kernel_rfl) (by kernel_rfl) (by kernel_rfl) (by decide) hS (fun w2 hS => ?mixpre101) ?mixrest101
 case mixpre101 =>
  refine p_nil ?_
  simp only [List.length_cons, List.length_nil, Nat.reduceAdd, Nat.reduceSub]
  first | refine any_go (i := 0) (by rfl) (by decide +kernel) (by decide +kernel) (by unfold noLate; decide) (go_yields w_none (fun w hS => m_load_obj Try.underlying103 (hS := hS) (hv := by first | rfl | exact zi_get rfl (by omega) | exact ic_get (by omega) | exact il_get (by omega)))) ?_ | refine any_go (i := 0) (by rfl) (by decide +kernel) (by decide +kernel) (by unfold noLate; decide) (go_yields w_none (fun w hS => m_load_bx Try.underlying103 (hS := hS) (hv := by first | rfl | exact zi_get rfl (by omega) | exact ic_get (by omega) | exact il_get (by omega)))) ?_ | refine any_go (i := 0) (by rfl) (by decide +kernel) (by decide +kernel) (by unfold noLate; decide) (go_yields w_none (fun w hS => m_load_rd Try.underlying103 (hS := hS) (hv := by first | rfl | exact zi_get rfl (by omega) | exact ic_get (by omega) | exact il_get (by omega)))) ?_ | refine any_go (i := 0) (by rfl) (by decide +kernel) (by decide +kernel) (by unfold noLate; decide) (go_yields w_none (fun w hS => m_load_vec Try.underlying103 (hS := hS) (hv := by first | rfl | exact zi_get rfl (by omega) | exact ic_get (by omega) | exact il_get (by omega)))) ?_
  try simp only [opv, nZ, Value.cells, List.getElem_toArray, List.getElem_cons_zero, List.getElem_cons_succ]
  first | refine any_go (i := 1) (by rfl) (by decide +kernel) (by decide +kernel) (by unfold noLate; decide) (go_yields w_none (fun w hS => m_fieldAddr Try.underlying43 (hi := ti25))) ?_ | refine any_go (i := 1) (by rfl) (by decide +kernel) (by decide +kernel) (by unfold noLate; decide) (go_yields w_none (fun w hS => m_fieldAddr_rd Try.underlying43 (hi := ti25) (hS := hS))) ?_ | refine any_go (i := 1) (by rfl) (by decide +kernel) (by decide +kernel) (by unfold noLate; decide) (go_yields w_none (fun w hS => m_fieldAddr_vec Try.underlying43 (hi := ti25) (hS := hS))) ?_
  try simp only [opv, nZ, Value.cells, Nat.zero_add, Nat.add_zero, List.getElem_toArray, List.getElem_cons_zero, List.getElem_cons_succ]
  first | refine any_go (i := 2) (by rfl) (by decide +kernel) (by decide +kernel) (by unfold noLate; decide) (go_yields w_none (fun w hS => m_load_row Try.underlying25 (hi := ti25) (hS := hS) (hfit := by first | omega | (rw [zi_size (by omega)]; first | rfl | decide) | (simp only [ic_size, List.length_map, List.size_toArray]; first | omega | decide) | rfl | (simp [*]; done) | (simp [*]; omega)))) ?_ | refine any_go (i := 2) (by rfl) (by decide +kernel) (by decide +kernel) (by unfold noLate; decide) (go_yields w_none (fun w hS => m_loada_obj Try.underlying25 (hi := ti25) (hS := hS) (hfit := by first | omega | (rw [zi_size (by omega)]; first | rfl | decide) | (simp only [ic_size, List.length_map, List.size_toArray]; first | omega | decide) | rfl | (simp [*]; done) | (simp [*]; omega)))) ?_ | refine any_go (i := 2) (by rfl) (by decide +kernel) (by decide +kernel) (by unfold noLate; decide) (go_yields w_none (fun w hS => m_loada_bx Try.underlying25 (hi := ti25) (hS := hS) (hfit := by first | omega | (rw [zi_size (by omega)]; first | rfl | decide) | (simp only [ic_size, List.length_map, List.size_toArray]; first | omega | decide) | rfl | (simp [*]; done) | (simp [*]; omega)))) ?_ | refine any_go (i := 2) (by rfl) (by decide +kernel) (by decide +kernel) (by unfold noLate; decide) (go_yields w_none (fun w hS => m_loada_rd Try.underlying25 (hi := ti25) (hS := hS) (hfit := by first | omega | (rw [zi_size (by omega)]; first | rfl | decide) | (simp only [ic_size, List.length_map, List.size_toArray]; first | omega | decide) | rfl | (simp [*]; done) | (simp [*]; omega)))) ?_ | refine any_go (i := 2) (by rfl) (by decide +kernel) (by decide +kernel) (by unfold noLate; decide) (go_yields w_none (fun w hS => m_loada_vec Try.underlying25 (hi := ti25) (hS := hS) (hfit := by first | omega | (rw [zi_size (by omega)]; first | rfl | decide) | (simp only [ic_size, List.length_map, List.size_toArray]; first | omega | decide) | rfl | (simp [*]; done) | (simp [*]; omega)))) ?_
  try simp only [opv, nZ, Value.cells, List.getElem_toArray, List.getElem_cons_zero, List.getElem_cons_succ]
  rw [key_item hxl]
  refine any_step [3, 5] (by kernel_rfl) (by decide) (fun w3 hE => ⟨fun _ => (hS.ext hE).sel (by repeat (first | exact Sel.nil | (refine Sel.cons (by repeat (first | exact Del.head | apply Del.tail)) ?_))), ?_⟩)
  replace hS := hS.ext hE
  intro i hi
  simp only [List.mem_cons, List.not_mem_nil, or_false] at hi
  rcases hi with rfl | rfl
  ·
   refine any_op (by rfl) ?_
   refine s_go (m_lookup ky25 Try.underlying103 ti3 (hy := rfl) (ha := by first | trivial | assumption | omega) (hD := by first | assumption | exact mok_all | exact mok_nil | exact mput_ok (by first | assumption | omega) (by first | assumption | exact mok_nil)) (hS := hS)) ?_
   try simp only [opv, nZ, Value.cells]
   simp only [mget_put, if_true, eq_self, Option.getD_some, cnt_getD, List.count_reverse]
   refine x_nil ?_
   refine any_step [4, 5] (by kernel_rfl) (by decide) (fun w4 hE => ⟨fun _ => (hS.ext hE).sel (by repeat (first | exact Sel.nil | (refine Sel.cons (by repeat (first | exact Del.head | apply Del.tail)) ?_))), ?_⟩)
   replace hS := hS.ext hE
   intro i hi
   simp only [List.mem_cons, List.not_mem_nil, or_false] at hi
   rcases hi with rfl | rfl
   ·
    refine any_op (by rfl) ?_
    refine s_go (s_add (hc := by first | exact wr_i64 (by omega) (by omega) | rfl)) ?_
    try simp only [opv, nZ, Value.cells]
    refine x_nil ?_
    refine any_step [5] (by kernel_rfl) (by decide) (fun w5 hE => ⟨fun _ => (hS.ext hE).sel (by repeat (first | exact Sel.nil | (refine Sel.cons (by repeat (first | exact Del.head | apply Del.tail)) ?_))), ?_⟩)
    replace hS := hS.ext hE
    intro i hi
    simp only [List.mem_cons, List.not_mem_nil, or_false] at hi
    subst hi
    ·
     refine any_op (by rfl) ?_
     refine m_mapEntry ky25 Try.underlying103 ti3 (hy := rfl) (ha := by first | trivial | assumption | omega) (hD := by first | assumption | exact mok_all | exact mok_nil | exact mput_ok (by first | assumption | omega) (by first | assumption | exact mok_nil)) (hS := hS) (h := fun w6 hS => ?_)
     try simp only [opv, nZ, Value.cells, Array.toArray_toList] at hS ⊢
     simp only [cnt_getD, List.count_reverse]
     refine x_nil ?_
     refine any_step [6] (by kernel_rfl) (by decide) (fun w7 hE => ⟨fun hl => absurd (hl 5 (by decide)) (by decide +kernel), ?_⟩)
     replace hS := hS.ext hE
     intro i hi
     simp only [List.mem_cons, List.not_mem_nil, or_false] at hi
     subst hi
     ·
      refine any_op (by rfl) ?_
      refine s_go (s_extract (hv := rfl)) ?_
      try simp only [List.getElem_toArray, List.getElem_cons_zero, List.getElem_cons_succ]
      try simp only [opv, nZ, Value.cells]
      refine x_nil ?_
      refine any_step [7] (by kernel_rfl) (by decide) (fun w8 hE => ⟨fun hl => absurd (hl 5 (by decide)) (by decide +kernel), ?_⟩)
      replace hS := hS.ext hE
      intro i hi
      simp only [List.mem_cons, List.not_mem_nil, or_false] at hi
      subst hi
      ·
       refine any_op (by rfl) ?_
       refine m_entryStore (hS := hS) (h := fun w9 hS => ?_)
       try simp only [opv, nZ, Value.cells, Array.toArray_toList] at hS ⊢
       refine x_nil ?_
       refine any_nil (by kernel_rfl) (fun w10 hE => ?_)
       replace hS := hS.ext hE
       refine ⟨fun hl => absurd (hl 5 (by decide)) (by decide +kernel), ?_⟩
       refine mix_leaf (by simp only [clob, List.foldl, nZ]) ?_
       try simp only [n1, n2]
       rw [hcs]; exact hS.selA
   ·
    refine any_op (by rfl) ?_
    refine m_mapEntry ky25 Try.underlying103 ti3 (hy := rfl) (ha := by first | trivial | assumption | omega) (hD := by first | assumption | exact mok_all | exact mok_nil | exact mput_ok (by first | assumption | omega) (by first | assumption | exact mok_nil)) (hS := hS) (h := fun w11 hS => ?_)
    try simp only [opv, nZ, Value.cells, Array.toArray_toList] at hS ⊢
    simp only [cnt_getD, List.count_reverse]
    refine x_nil ?_
    refine any_step [4, 6] (by kernel_rfl) (by decide) (fun w12 hE => ⟨fun hl => absurd (hl 5 (by decide)) (by decide +kernel), ?_⟩)
    replace hS := hS.ext hE
    intro i hi
    simp only [List.mem_cons, List.not_mem_nil, or_false] at hi
    rcases hi with rfl | rfl
    ·
     refine any_op (by rfl) ?_
     refine s_go (s_add (hc := by first | exact wr_i64 (by omega) (by omega) | rfl)) ?_
     try simp only [opv, nZ, Value.cells]
     refine x_nil ?_
     refine any_step [6] (by kernel_rfl) (by decide) (fun w13 hE => ⟨fun hl => absurd (hl 5 (by decide)) (by decide +kernel), ?_⟩)
     replace hS := hS.ext hE
     intro i hi
     simp only [List.mem_cons, List.not_mem_nil, or_false] at hi
     subst hi
     ·
      refine any_op (by rfl) ?_
      refine s_go (s_extract (hv := rfl)) ?_
      try simp only [List.getElem_toArray, List.getElem_cons_zero, List.getElem_cons_succ]
      try simp only [opv, nZ, Value.cells]
      refine x_nil ?_
      refine any_step [7] (by kernel_rfl) (by decide) (fun w14 hE => ⟨fun hl => absurd (hl 5 (by decide)) (by decide +kernel), ?_⟩)
      replace hS := hS.ext hE
      intro i hi
      simp only [List.mem_cons, List.not_mem_nil, or_false] at hi
      subst hi
      ·
       refine any_op (by rfl) ?_
       refine m_entryStore (hS := hS) (h := fun w15 hS => ?_)
       try simp only [opv, nZ, Value.cells, Array.toArray_toList] at hS ⊢
       refine x_nil ?_
       refine any_nil (by kernel_rfl) (fun w16 hE => ?_)
       replace hS := hS.ext hE
       refine ⟨fun hl => absurd (hl 5 (by decide)) (by decide +kernel), ?_⟩
       refine mix_leaf (by simp only [clob, List.foldl, nZ]) ?_
       try simp only [n1, n2]
       rw [hcs]; exact hS.selA
    ·
     refine any_op (by rfl) ?_
     refine s_go (s_extract (hv := rfl)) ?_
     try simp only [List.getElem_toArray, List.getElem_cons_zero, List.getElem_cons_succ]
     try simp only [opv, nZ, Value.cells]
     refine x_nil ?_
     refine any_step [4] (by kernel_rfl) (by decide) (fun w17 hE => ⟨fun hl => absurd (hl 5 (by decide)) (by decide +kernel), ?_⟩)
     replace hS := hS.ext hE
     intro i hi
     simp only [List.mem_cons, List.not_mem_nil, or_false] at hi
     subst hi
     ·
      refine any_op (by rfl) ?_
      refine s_go (s_add (hc := by first | exact wr_i64 (by omega) (by omega) | rfl)) ?_
      try simp only [opv, nZ, Value.cells]
      refine x_nil ?_
      refine any_step [7] (by kernel_rfl) (by decide) (fun w18 hE => ⟨fun hl => absurd (hl 5 (by decide)) (by decide +kernel), ?_⟩)
      replace hS := hS.ext hE
      intro i hi
      simp only [List.mem_cons, List.not_mem_nil, or_false] at hi
      subst hi
      ·
       refine any_op (by rfl) ?_
       refine m_entryStore (hS := hS) (h := fun w19 hS => ?_)
       try simp only [opv, nZ, Value.cells, Array.toArray_toList] at hS ⊢
       refine x_nil ?_
       refine any_nil (by kernel_rfl) (fun w20 hE => ?_)
       replace hS := hS.ext hE
       refine ⟨fun hl => absurd (hl 5 (by decide)) (by decide +kernel), ?_⟩
       refine mix_leaf (by simp only [clob, List.foldl, nZ]) ?_
       try simp only [n1, n2]
       rw [hcs]; exact hS.selA
  ·
   refine any_op (by rfl) ?_
   refine m_mapEntry ky25 Try.underlying103 ti3 (hy := rfl) (ha := by first | trivial | assumption | omega) (hD := by first | assumption | exact mok_all | exact mok_nil | exact mput_ok (by first | assumption | omega) (by first | assumption | exact mok_nil)) (hS := hS) (h := fun w21 hS => ?_)
   try simp only [opv, nZ, Value.cells, Array.toArray_toList] at hS ⊢
   simp only [cnt_getD, List.count_reverse]
   refine x_nil ?_
   refine any_step [3, 6] (by kernel_rfl) (by decide) (fun w22 hE => ⟨fun hl => absurd (hl 5 (by decide)) (by decide +kernel), ?_⟩)
   replace hS := hS.ext hE
   intro i hi
   simp only [List.mem_cons, List.not_mem_nil, or_false] at hi
   rcases hi with rfl | rfl
   ·
    refine any_op (by rfl) ?_
    refine s_go (m_lookup ky25 Try.underlying103 ti3 (hy := rfl) (ha := by first | trivial | assumption | omega) (hD := by first | assumption | exact mok_all | exact mok_nil | exact mput_ok (by first | assumption | omega) (by first | assumption | exact mok_nil)) (hS := hS)) ?_
    try simp only [opv, nZ, Value.cells]
    simp only [mget_put, if_true, eq_self, Option.getD_some, cnt_getD, List.count_reverse]
    refine x_nil ?_
    refine any_step [4, 6] (by kernel_rfl) (by decide) (fun w23 hE => ⟨fun hl => absurd (hl 5 (by decide)) (by decide +kernel), ?_⟩)
    replace hS := hS.ext hE
    intro i hi
    simp only [List.mem_cons, List.not_mem_nil, or_false] at hi
    rcases hi with rfl | rfl
    ·
     refine any_op (by rfl) ?_
     refine s_go (s_add (hc := by first | exact wr_i64 (by omega) (by omega) | rfl)) ?_
     try simp only [opv, nZ, Value.cells]
     refine x_nil ?_
     refine any_step [6] (by kernel_rfl) (by decide) (fun w24 hE => ⟨fun hl => absurd (hl 5 (by decide)) (by decide +kernel), ?_⟩)
     replace hS := hS.ext hE
     intro i hi
     simp only [List.mem_cons, List.not_mem_nil, or_false] at hi
     subst hi
     ·
      refine any_op (by rfl) ?_
      refine s_go (s_extract (hv := rfl)) ?_
      try simp only [List.getElem_toArray, List.getElem_cons_zero, List.getElem_cons_succ]
      try simp only [opv, nZ, Value.cells]
      refine x_nil ?_
      refine any_step [7] (by kernel_rfl) (by decide) (fun w25 hE => ⟨fun hl => absurd (hl 5 (by decide)) (by decide +kernel), ?_⟩)
      replace hS := hS.ext hE
      intro i hi
      simp only [List.mem_cons, List.not_mem_nil, or_false] at hi
      subst hi
      ·
       refine any_op (by rfl) ?_
       refine m_entryStore (hS := hS) (h := fun w26 hS => ?_)
       try simp only [opv, nZ, Value.cells, Array.toArray_toList] at hS ⊢
       refine x_nil ?_
       refine any_nil (by kernel_rfl) (fun w27 hE => ?_)
       replace hS := hS.ext hE
       refine ⟨fun hl => absurd (hl 5 (by decide)) (by decide +kernel), ?_⟩
       refine mix_leaf (by simp only [clob, List.foldl, nZ]) ?_
       try simp only [n1, n2]
       rw [hcs]; exact hS.selA
    ·
     refine any_op (by rfl) ?_
     refine s_go (s_extract (hv := rfl)) ?_
     try simp only [List.getElem_toArray, List.getElem_cons_zero, List.getElem_cons_succ]
     try simp only [opv, nZ, Value.cells]
     refine x_nil ?_
     refine any_step [4] (by kernel_rfl) (by decide) (fun w28 hE => ⟨fun hl => absurd (hl 5 (by decide)) (by decide +kernel), ?_⟩)
     replace hS := hS.ext hE
     intro i hi
     simp only [List.mem_cons, List.not_mem_nil, or_false] at hi
     subst hi
     ·
      refine any_op (by rfl) ?_
      refine s_go (s_add (hc := by first | exact wr_i64 (by omega) (by omega) | rfl)) ?_
      try simp only [opv, nZ, Value.cells]
      refine x_nil ?_
      refine any_step [7] (by kernel_rfl) (by decide) (fun w29 hE => ⟨fun hl => absurd (hl 5 (by decide)) (by decide +kernel), ?_⟩)
      replace hS := hS.ext hE
      intro i hi
      simp only [List.mem_cons, List.not_mem_nil, or_false] at hi
      subst hi
      ·
       refine any_op (by rfl) ?_
       refine m_entryStore (hS := hS) (h := fun w30 hS => ?_)
       try simp only [opv, nZ, Value.cells, Array.toArray_toList] at hS ⊢
       refine x_nil ?_
       refine any_nil (by kernel_rfl) (fun w31 hE => ?_)
       replace hS := hS.ext hE
       refine ⟨fun hl => absurd (hl 5 (by decide)) (by decide +kernel), ?_⟩
       refine mix_leaf (by simp only [clob, List.foldl, nZ]) ?_
       try simp only [n1, n2]
       rw [hcs]; exact hS.selA
   ·
    refine any_op (by rfl) ?_
    refine s_go (s_extract (hv := rfl)) ?_
    try simp only [List.getElem_toArray, List.getElem_cons_zero, List.getElem_cons_succ]
    try simp only [opv, nZ, Value.cells]
    refine x_nil ?_
    refine any_step [3] (by kernel_rfl) (by decide) (fun w32 hE => ⟨fun hl => absurd (hl 5 (by decide)) (by decide +kernel), ?_⟩)
    replace hS := hS.ext hE
    intro i hi
    simp only [List.mem_cons, List.not_mem_nil, or_false] at hi
    subst hi
    ·
     refine any_op (by rfl) ?_
     refine s_go (m_lookup ky25 Try.underlying103 ti3 (hy := rfl) (ha := by first | trivial | assumption | omega) (hD := by first | assumption | exact mok_all | exact mok_nil | exact mput_ok (by first | assumption | omega) (by first | assumption | exact mok_nil)) (hS := hS)) ?_
     try simp only [opv, nZ, Value.cells]
     simp only [mget_put, if_true, eq_self, Option.getD_some, cnt_getD, List.count_reverse]
     refine x_nil ?_
     refine any_step [4] (by kernel_rfl) (by decide) (fun w33 hE => ⟨fun hl => absurd (hl 5 (by decide)) (by decide +kernel), ?_⟩)
     replace hS := hS.ext hE
     intro i hi
     simp only [List.mem_cons, List.not_mem_nil, or_false] at hi
     subst hi
     ·
      refine any_op (by rfl) ?_
      refine s_go (s_add (hc := by first | exact wr_i64 (by omega) (by omega) | rfl)) ?_
      try simp only [opv, nZ, Value.cells]
      refine x_nil ?_
      refine any_step [7] (by kernel_rfl) (by decide) (fun w34 hE => ⟨fun hl => absurd (hl 5 (by decide)) (by decide +kernel), ?_⟩)
      replace hS := hS.ext hE
      intro i hi
      simp only [List.mem_cons, List.not_mem_nil, or_false] at hi
      subst hi
      ·
       refine any_op (by rfl) ?_
       refine m_entryStore (hS := hS) (h := fun w35 hS => ?_)
       try simp only [opv, nZ, Value.cells, Array.toArray_toList] at hS ⊢
       refine x_nil ?_
       refine any_nil (by kernel_rfl) (fun w36 hE => ?_)
       replace hS := hS.ext hE
       refine ⟨fun hl => absurd (hl 5 (by decide)) (by decide +kernel), ?_⟩
       refine mix_leaf (by simp only [clob, List.foldl, nZ]) ?_
       try simp only [n1, n2]
       rw [hcs]; exact hS.selA
 intro fm1 w37 hM
 replace hS := hM
 simp only [clob, List.foldl, n3, n4]
 refine hK2 _ _ ?_
 refine x_seq fun K3 hK3 => ?_
 refine x_region ?_
 first | refine s_go (m_load_obj Try.underlying103 (hS := hS) (hv := by first | rfl | exact zi_get rfl (by omega) | exact ic_get (by omega) | exact il_get (by omega))) ?_ | refine s_go (m_load_bx Try.underlying103 (hS := hS) (hv := by first | rfl | exact zi_get rfl (by omega) | exact ic_get (by omega) | exact il_get (by omega))) ?_ | refine s_go (m_load_rd Try.underlying103 (hS := hS) (hv := by first | rfl | exact zi_get rfl (by omega) | exact ic_get (by omega) | exact il_get (by omega))) ?_ | refine s_go (m_load_vec Try.underlying103 (hS := hS) (hv := by first | rfl | exact zi_get rfl (by omega) | exact ic_get (by omega) | exact il_get (by omega))) ?_
 try simp only [opv, nZ, Value.cells, List.getElem_toArray, List.getElem_cons_zero, List.getElem_cons_succ]
 first | refine s_go (m_fieldAddr Try.underlying43 (hi := ti25)) ?_ | refine s_go (m_fieldAddr_rd Try.underlying43 (hi := ti25) (hS := hS)) ?_ | refine s_go (m_fieldAddr_vec Try.underlying43 (hi := ti25) (hS := hS)) ?_
 try simp only [opv, nZ, Value.cells, Nat.zero_add, Nat.add_zero, List.getElem_toArray, List.getElem_cons_zero, List.getElem_cons_succ]
 first | refine s_go (m_load_row Try.underlying25 (hi := ti25) (hS := hS) (hfit := by first | omega | (rw [zi_size (by omega)]; first | rfl | decide) | (simp only [ic_size, List.length_map, List.size_toArray]; first | omega | decide) | rfl | (simp [*]; done) | (simp [*]; omega))) ?_ | refine s_go (m_loada_obj Try.underlying25 (hi := ti25) (hS := hS) (hfit := by first | omega | (rw [zi_size (by omega)]; first | rfl | decide) | (simp only [ic_size, List.length_map, List.size_toArray]; first | omega | decide) | rfl | (simp [*]; done) | (simp [*]; omega))) ?_ | refine s_go (m_loada_bx Try.underlying25 (hi := ti25) (hS := hS) (hfit := by first | omega | (rw [zi_size (by omega)]; first | rfl | decide) | (simp only [ic_size, List.length_map, List.size_toArray]; first | omega | decide) | rfl | (simp [*]; done) | (simp [*]; omega))) ?_ | refine s_go (m_loada_rd Try.underlying25 (hi := ti25) (hS := hS) (hfit := by first | omega | (rw [zi_size (by omega)]; first | rfl | decide) | (simp only [ic_size, List.length_map, List.size_toArray]; first | omega | decide) | rfl | (simp [*]; done) | (simp [*]; omega))) ?_ | refine s_go (m_loada_vec Try.underlying25 (hi := ti25) (hS := hS) (hfit := by first | omega | (rw [zi_size (by omega)]; first | rfl | decide) | (simp only [ic_size, List.length_map, List.size_toArray]; first | omega | decide) | rfl | (simp [*]; done) | (simp [*]; omega))) ?_
 try simp only [opv, nZ, Value.cells, List.getElem_toArray, List.getElem_cons_zero, List.getElem_cons_succ]
 rw [key_item hxl]
 refine s_go (m_lookup ky25 Try.underlying103 ti3 (hy := rfl) (ha := by first | trivial | assumption | omega) (hD := by first | assumption | exact mok_all | exact mok_nil | exact mput_ok (by first | assumption | omega) (by first | assumption | exact mok_nil)) (hS := hS)) ?_
 try simp only [opv, nZ, Value.cells]
 rw [hcs]
 simp only [mget_put, if_true, eq_self, Option.getD_some]
 refine s_go (s_eql) ?_
 try simp only [opv, nZ, Value.cells]
 refine x_nil ?_
 refine hK3 _ _ ?_
 refine x_cond (ht := fun hc1 => ?_) (hf := fun hc1 => ?_)
 ·
  try simp only [decide_eq_true_eq, decide_eq_false_iff_not, Bool.not_eq_true', Bool.not_eq_false', Int.not_lt, Int.not_le, ne_eq, Decidable.not_not, bne_iff_ne, beq_iff_eq, not_true_eq_false, not_false_eq_true] at hc1
  have hnm : kitem x ∉ ns := fun h => by (have := List.count_pos_iff.2 h); omega
  rw [if_neg hnm] at hds
  refine x_region ?_
  first | refine s_go (m_load_obj Try.underlying44 (hS := hS) (hv := by first | rfl | exact zi_get rfl (by omega) | exact ic_get (by omega) | exact il_get (by omega))) ?_ | refine s_go (m_load_bx Try.underlying44 (hS := hS) (hv := by first | rfl | exact zi_get rfl (by omega) | exact ic_get (by omega) | exact il_get (by omega))) ?_ | refine s_go (m_load_rd Try.underlying44 (hS := hS) (hv := by first | rfl | exact zi_get rfl (by omega) | exact ic_get (by omega) | exact il_get (by omega))) ?_ | refine s_go (m_load_vec Try.underlying44 (hS := hS) (hv := by first | rfl | exact zi_get rfl (by omega) | exact ic_get (by omega) | exact il_get (by omega))) ?_
  try simp only [opv, nZ, Value.cells, List.getElem_toArray, List.getElem_cons_zero, List.getElem_cons_succ]
  first | refine s_go (m_fieldAddr Try.underlying43 (hi := ti25)) ?_ | refine s_go (m_fieldAddr_rd Try.underlying43 (hi := ti25) (hS := hS)) ?_ | refine s_go (m_fieldAddr_vec Try.underlying43 (hi := ti25) (hS := hS)) ?_
  try simp only [opv, nZ, Value.cells, Nat.zero_add, Nat.add_zero, List.getElem_toArray, List.getElem_cons_zero, List.getElem_cons_succ]
  first | refine s_go (m_load_row Try.underlying25 (hi := ti25) (hS := hS) (hfit := by first | omega | (rw [zi_size (by omega)]; first | rfl | decide) | (simp only [ic_size, List.length_map, List.size_toArray]; first | omega | decide) | rfl | (simp [*]; done) | (simp [*]; omega))) ?_ | refine s_go (m_loada_obj Try.underlying25 (hi := ti25) (hS := hS) (hfit := by first | omega | (rw [zi_size (by omega)]; first | rfl | decide) | (simp only [ic_size, List.length_map, List.size_toArray]; first | omega | decide) | rfl | (simp [*]; done) | (simp [*]; omega))) ?_ | refine s_go (m_loada_bx Try.underlying25 (hi := ti25) (hS := hS) (hfit := by first | omega | (rw [zi_size (by omega)]; first | rfl | decide) | (simp only [ic_size, List.length_map, List.size_toArray]; first | omega | decide) | rfl | (simp [*]; done) | (simp [*]; omega))) ?_ | refine s_go (m_loada_rd Try.underlying25 (hi := ti25) (hS := hS) (hfit := by first | omega | (rw [zi_size (by omega)]; first | rfl | decide) | (simp only [ic_size, List.length_map, List.size_toArray]; first | omega | decide) | rfl | (simp [*]; done) | (simp [*]; omega))) ?_ | refine s_go (m_loada_vec Try.underlying25 (hi := ti25) (hS := hS) (hfit := by first | omega | (rw [zi_size (by omega)]; first | rfl | decide) | (simp only [ic_size, List.length_map, List.size_toArray]; first | omega | decide) | rfl | (simp [*]; done) | (simp [*]; omega))) ?_
  try simp only [opv, nZ, Value.cells, List.getElem_toArray, List.getElem_cons_zero, List.getElem_cons_succ]
  rw [key_item hxl]
  refine m_buildRow (cells := (ic .u8 (kitem x))) Try.underlying44 ti25 (hc := by simp only [List.map_toArray, List.map_cons, List.map_nil, opv, nZ, Value.cells, List.toList_toArray]; exact fill_one (by rfl) (by rw [ic_size]; exact hil) (by rfl)) (hS := hS) (h := fun w38 g38 hS => ?_)
  try simp only [opv, nZ, Value.cells, Array.toArray_toList] at hS ⊢
  replace hS := hS.obj_rd (sz := 8) (n := 1) (by rw [ic_size, hil]) .head
  rw [nrow_one hil] at hS
  refine m_append Try.underlying44 ti25 (hS := hS) (h1 := rowsZ_cells _ _) (h := fun w39 A39 C39 hS => ?_)
  try simp only [← List.map_append, ← List.map_drop, ← List.map_take, Nat.mul_one, Nat.zero_mul, Nat.sub_zero, List.drop_zero, List.nil_append, Nat.zero_add] at hS ⊢
  try simp only [opv, nZ, Value.cells, Array.toArray_toList] at hS ⊢
  rw [nadd_one] at hS
  first | refine m_store_obj ti44 (hS := hS) (hc := by first | exact zi_set rfl (by omega) | exact zi_whole (by omega) (by omega) | (first | exact splice_ic (by first | omega | (simp [*]; done) | (simp [*]; omega)) | exact splice_il (by first | omega | (simp [*]; done) | (simp [*]; omega)) | exact splice_whole (by first | (simp [opv, Value.cells, *]; done) | rfl) | (simp only [opv, n1, n2, Value.cells, splice, List.take_succ_cons, List.take_zero, List.drop_succ_cons, List.drop_zero, List.length_cons, List.length_nil, Nat.zero_add, Nat.reduceAdd, List.append_assoc, List.cons_append, List.nil_append]; rfl))) (hv := by first | rfl | (show (zi _ _).toArray.size = _; rw [zi_size (by omega)]; rfl) | (simp [opv, Value.cells, *]; done)) (hfit := by first | omega | (rw [zi_size (by omega)]; first | rfl | decide) | (simp only [ic_size, List.length_map, List.size_toArray]; first | omega | decide) | rfl | (simp [*]; done) | (simp [*]; omega)) (h1 := by first | exact zi_one _ _ | exact ic_one _ _ | simp [opv, Value.cells, Value.oneCell']) (h := fun w40 hS => ?_) | refine m_store_vec ti44 (hS := hS) (hc := by first | exact zi_set rfl (by omega) | exact zi_whole (by omega) (by omega) | (first | exact splice_ic (by first | omega | (simp [*]; done) | (simp [*]; omega)) | exact splice_il (by first | omega | (simp [*]; done) | (simp [*]; omega)) | exact splice_whole (by first | (simp [opv, Value.cells, *]; done) | rfl) | (simp only [opv, n1, n2, Value.cells, splice, List.take_succ_cons, List.take_zero, List.drop_succ_cons, List.drop_zero, List.length_cons, List.length_nil, Nat.zero_add, Nat.reduceAdd, List.append_assoc, List.cons_append, List.nil_append]; rfl))) (hv := by first | rfl | (show (zi _ _).toArray.size = _; rw [zi_size (by omega)]; rfl) | (simp [opv, Value.cells, *]; done)) (hfit := by first | omega | (rw [zi_size (by omega)]; first | rfl | decide) | (simp only [ic_size, List.length_map, List.size_toArray]; first | omega | decide) | rfl | (simp [*]; done) | (simp [*]; omega)) (h1 := by first | exact zi_one _ _ | exact ic_one _ _ | simp [opv, Value.cells, Value.oneCell']) (h := fun w40 hS => ?_)
  try simp only [opv, nZ, Value.cells, Array.toArray_toList] at hS ⊢
  refine x_nil ?_
  refine r_none rfl ?_
  first
  | (rw [hds]; exact ⟨_, _, rfl, hS.selA⟩)
  | (rw [hds]; rw [show (ded ns).length + 1 = (ded ns ++ [kitem x]).length by rw [List.length_append]; rfl] at hS; exact ⟨_, _, rfl, hS.selA⟩)
 ·
  try simp only [decide_eq_true_eq, decide_eq_false_iff_not, Bool.not_eq_true', Bool.not_eq_false', Int.not_lt, Int.not_le, ne_eq, Decidable.not_not, bne_iff_ne, beq_iff_eq, not_true_eq_false, not_false_eq_true] at hc1
  have hnm : kitem x ∈ ns := List.count_pos_iff.1 (by omega)
  rw [if_pos hnm] at hds
  refine x_skip ?_
  refine r_none rfl ?_
  first
  | (rw [hds]; exact ⟨_, _, rfl, hS.selA⟩)
  | (rw [hds]; rw [show (ded ns).length + 1 = (ded ns ++ [kitem x]).length by rw [List.length_append]; rfl] at hS; exact ⟨_, _, rfl, hS.selA⟩)
theorem c_tagsEachItems (w0 : World) (A : Option Addr) (c : Nat) (l : List (List Int)) (hr : Rd w0 A 21 l.length (arows l)) (hv : AOks l) (hn : l.length ≤ 1000000000) (gm q gs gc ct : Nat) (hM : St (OwnB [.obj gs (.cells #[.slice none 0 0] 44 (0, 0)), .obj gm (.cells #[.map (some q)] 103 (0, 0)), .obj q (mObj kv25 []), .obj gc (.cells #[.int .u16 (ct : Int)] 23 (0, 0)), .rd A 21 (l).length (arows (l))]) w0 w0 [.obj gs (.cells #[.slice none 0 0] 44 (0, 0)), .obj gm (.cells #[.map (some q)] 103 (0, 0)), .obj q (mObj kv25 []), .obj gc (.cells #[.int .u16 (ct : Int)] 23 (0, 0)), .rd A 21 (l).length (arows (l))])  :
    CallR Try.prog 58 #[.slice A l.length c, .func (.func 62) #[] #[.pointer (some ⟨gc, 0, none⟩)], .func (.func 63) #[] #[.pointer (some ⟨gm, 0, none⟩), .pointer (some ⟨gs, 0, none⟩)]] w0 fun v w' => ∃ (O : Option Addr) (oc : Nat), v = .tuple #[] ∧ St (OwnB [.obj gs (.cells #[.slice none 0 0] 44 (0, 0)), .obj gm (.cells #[.map (some q)] 103 (0, 0)), .obj q (mObj kv25 []), .obj gc (.cells #[.int .u16 (ct : Int)] 23 (0, 0)), .rd A 21 (l).length (arows (l))]) w0 w' [.vec O oc 25 8 (itmS (normP l) ct).length (nrows (itmS (normP l) ct)), .obj gs (.cells #[.slice O (itmS (normP l) ct).length oc] 44 (0, 0))] := by
 have hS := hM
 have hno := (norm_sta hv).ok
 have hkn := (norm_sta hv).knd
 have hnl := arows_len (normP l)
 have hnb := norm_len l
 have hsn := norm_sta hv
 refine y_enter (l := [.slice A l.length c, .func (.func 62) #[] #[.pointer (some ⟨gc, 0, none⟩)], .func (.func 63) #[] #[.pointer (some ⟨gm, 0, none⟩), .pointer (some ⟨gs, 0, none⟩)], undef, undef, undef, undef, undef, undef, undef, undef, undef, undef, undef, undef, undef, undef, undef, undef, undef, undef, undef, undef, undef]) Try.func58 rfl (by simp only [Try.ntmps58, List.size_toArray, List.length_cons, List.length_nil, Nat.reduceAdd, Nat.reduceSub, Array.replicate_succ, Array.replicate_zero, List.push_toArray, List.append_toArray, List.nil_append, List.cons_append]) ?_
 refine y_seq fun K1 hK1 => ?_
 refine y_region (by kernel_rfl) ?_
 refine m_box hS (fun w1 g1 hS => ?_)
 try simp only [opv, nZ, Value.cells, Array.toArray_toList] at hS ⊢
 obtain ⟨gf, hgf⟩ : ∃ z, z = g1 := ⟨_, rfl⟩
 rw [← hgf] at hS ⊢
 refine m_box hS (fun w2 g2 hS => ?_)
 try simp only [opv, nZ, Value.cells, Array.toArray_toList] at hS ⊢
 obtain ⟨gd, hgd⟩ : ∃ z, z = g2 := ⟨_, rfl⟩
 rw [← hgd] at hS ⊢
 replace hS := hS.nil_vec 25 8
 refine y_nilf ?_
 refine hK1 _ _ ?_
 refine y_seq fun K2 hK2 => ?_
 refine y_region (by kernel_rfl) ?_
 refine s_go (s_move) ?_
 try simp only [opv, nZ, Value.cells]
 refine s_call en88 ?_
 try simp only [opv, nZ, Value.cells, List.map_toArray, List.map_cons, List.map_nil, List.append_toArray, List.cons_append, List.nil_append, Array.append_empty]
 refine CallR.mono (c_latEach A c l _) ?_
 rintro _ w3 ⟨b, rfl, hC3⟩
 replace hS := hS.call hC3
 simp only [List.cons_append, List.nil_append] at hS
 try simp only [opv, nZ, Value.cells]
 refine y_nilf ?_
 refine hK2 _ _ ?_
 refine y_block ?_
 replace hS : St (OwnB [.obj gs (.cells #[.slice none 0 0] 44 (0, 0)), .obj gm (.cells #[.map (some q)] 103 (0, 0)), .obj q (mObj kv25 []), .obj gc (.cells #[.int .u16 (ct : Int)] 23 (0, 0)), .rd A 21 (l).length (arows (l))]) w0 w3 [.obj b (.cells #[.slice A l.length c] 22 (0, 0)), .rd A 21 (l).length (arows (l)), .vec none 0 25 8 0 [], .obj gs (.cells #[.slice none 0 0] 44 (0, 0)), .obj gm (.cells #[.map (some q)] 103 (0, 0)), .obj q (mObj kv25 []), .obj gf (.cells #[.func (.func 62) #[] #[.pointer (some ⟨gc, 0, none⟩)]] 100 (0, 0)), .obj gd (.cells #[.func (.func 63) #[] #[.pointer (some ⟨gm, 0, none⟩), .pointer (some ⟨gs, 0, none⟩)]] 102 (0, 0)), .obj gc (.cells #[.int .u16 (ct : Int)] 23 (0, 0))] := hS.selA
 refine y_range rfl en110 (i_latEach b A c l hv hn) (fun _ => rfl) hS (by repeat (first | exact Spl.nil | (apply Spl.cons (by repeat (first | exact Del.head | apply Del.tail))))) (fun k L => k ≤ (normP l).length ∧ ∃ (O : Option Addr) (oc : Nat), L = [.vec O oc 25 8 (ded (nmsS ((normP l).take k) ct)).length (nrows (ded (nmsS ((normP l).take k) ct))), .obj gs (.cells #[.slice O (ded (nmsS ((normP l).take k) ct)).length oc] 44 (0, 0)), .obj gm (.cells #[.map (some q)] 103 (0, 0)), .obj q (mObj kv25 (cntR (nmsS ((normP l).take k) ct).reverse)), .obj gf (.cells #[.func (.func 62) #[] #[.pointer (some ⟨gc, 0, none⟩)]] 100 (0, 0)), .obj gd (.cells #[.func (.func 63) #[] #[.pointer (some ⟨gm, 0, none⟩), .pointer (some ⟨gs, 0, none⟩)]] 102 (0, 0)), .obj gc (.cells #[.int .u16 (ct : Int)] 23 (0, 0))]) (fun L => False) [] ?rfh1 ?rfr1 (fun D1 T1 w4 R1 hC hS => ?rfd1) (fun D1 T1 w5 R1 hX hS => ?rft1) ?rfe1
 case rfh1 =>
  exact ⟨Nat.zero_le _, none, 0, rfl⟩
 case rfr1 =>
  intro k1 w6 R1 T1 lr1 hk1 hC hS
  obtain ⟨hk0, O, oc, rfl⟩ := hC
  simp only [List.cons_append, List.nil_append] at hS
  simp only [List.toList_toArray, entL, List.zip_cons_cons, List.zip_nil_left, List.foldl_cons, List.foldl_nil, n3, n4]
  obtain ⟨x, hx⟩ : ∃ x, (normP l).getD k1 [] = x := ⟨_, rfl⟩
  have ha : AtomOk x := by rw [← hx]; exact hno.get (by omega)
  have hal := ha.len
  have hk12 := ha.key.len
  have hvx := ha.val
  have hx9 := hvx.len
  simp only [hx]
  have hkx := ha.key
  have hk01 := akey_k hal
  have hnt := nms_take (c := ct) hk1 hx
  have hlh := live_here ha ct
  have hnl8 := nms_eight (hno.take k1) ct
  have hnle := nms_len ((normP l).take k1) ct
  have hlt : ((normP l).take k1).length ≤ (normP l).length := by rw [List.length_take]; omega
  refine y_seq fun K3 hK3 => ?_
  refine y_region (by kernel_rfl) ?_
  refine m_alloc ti43 hS (fun w7 g7 hS => ?_)
  try simp only [opv, nZ, Value.cells, Array.toArray_toList] at hS ⊢
  have h0l : key0.length = 12 := rfl
  replace hS : St _ _ w7 (.obj g7 (.cells (KA key0) 43 (0, 0)) :: _) := hS
  first | refine m_store_obj ti43 (hS := hS) (hc := by first | exact zi_set rfl (by omega) | exact zi_whole (by omega) (by omega) | (first | exact splice_ic (by first | omega | (simp [*]; done) | (simp [*]; omega)) | exact splice_il (by first | omega | (simp [*]; done) | (simp [*]; omega)) | exact splice_whole (by first | (simp [opv, Value.cells, *]; done) | rfl) | (simp only [opv, n1, n2, Value.cells, splice, List.take_succ_cons, List.take_zero, List.drop_succ_cons, List.drop_zero, List.length_cons, List.length_nil, Nat.zero_add, Nat.reduceAdd, List.append_assoc, List.cons_append, List.nil_append]; rfl))) (hv := by first | rfl | (show (zi _ _).toArray.size = _; rw [zi_size (by omega)]; rfl) | (simp [opv, Value.cells, *]; done)) (hfit := by first | omega | (rw [zi_size (by omega)]; first | rfl | decide) | (simp only [ic_size, List.length_map, List.size_toArray]; first | omega | decide) | rfl | (simp [*]; done) | (simp [*]; omega)) (h1 := by first | exact zi_one _ _ | exact ic_one _ _ | simp [opv, Value.cells, Value.oneCell']) (h := fun w8 hS => ?_) | refine m_store_vec ti43 (hS := hS) (hc := by first | exact zi_set rfl (by omega) | exact zi_whole (by omega) (by omega) | (first | exact splice_ic (by first | omega | (simp [*]; done) | (simp [*]; omega)) | exact splice_il (by first | omega | (simp [*]; done) | (simp [*]; omega)) | exact splice_whole (by first | (simp [opv, Value.cells, *]; done) | rfl) | (simp only [opv, n1, n2, Value.cells, splice, List.take_succ_cons, List.take_zero, List.drop_succ_cons, List.drop_zero, List.length_cons, List.length_nil, Nat.zero_add, Nat.reduceAdd, List.append_assoc, List.cons_append, List.nil_append]; rfl))) (hv := by first | rfl | (show (zi _ _).toArray.size = _; rw [zi_size (by omega)]; rfl) | (simp [opv, Value.cells, *]; done)) (hfit := by first | omega | (rw [zi_size (by omega)]; first | rfl | decide) | (simp only [ic_size, List.length_map, List.size_toArray]; first | omega | decide) | rfl | (simp [*]; done) | (simp [*]; omega)) (h1 := by first | exact zi_one _ _ | exact ic_one _ _ | simp [opv, Value.cells, Value.oneCell']) (h := fun w8 hS => ?_)
  try simp only [opv, nZ, Value.cells, Array.toArray_toList] at hS ⊢
  refine y_nilf ?_
  refine hK3 _ _ ?_
  refine y_region (by kernel_rfl) ?_
  refine m_alloc ti50 hS (fun w9 g9 hS => ?_)
  try simp only [opv, nZ, Value.cells, Array.toArray_toList] at hS ⊢
  have h9l : v9.length = 9 := rfl
  replace hS : St _ _ w9 (.obj g9 (.cells (VA v9) 50 (0, 0)) :: _) := hS
  first | refine m_store_obj ti50 (hS := hS) (hc := by first | exact zi_set rfl (by omega) | exact zi_whole (by omega) (by omega) | (first | exact splice_ic (by first | omega | (simp [*]; done) | (simp [*]; omega)) | exact splice_il (by first | omega | (simp [*]; done) | (simp [*]; omega)) | exact splice_whole (by first | (simp [opv, Value.cells, *]; done) | rfl) | (simp only [opv, n1, n2, Value.cells, splice, List.take_succ_cons, List.take_zero, List.drop_succ_cons, List.drop_zero, List.length_cons, List.length_nil, Nat.zero_add, Nat.reduceAdd, List.append_assoc, List.cons_append, List.nil_append]; rfl))) (hv := by first | rfl | (show (zi _ _).toArray.size = _; rw [zi_size (by omega)]; rfl) | (simp [opv, Value.cells, *]; done)) (hfit := by first | omega | (rw [zi_size (by omega)]; first | rfl | decide) | (simp only [ic_size, List.length_map, List.size_toArray]; first | omega | decide) | rfl | (simp [*]; done) | (simp [*]; omega)) (h1 := by first | exact zi_one _ _ | exact ic_one _ _ | simp [opv, Value.cells, Value.oneCell']) (h := fun w10 hS => ?_) | refine m_store_vec ti50 (hS := hS) (hc := by first | exact zi_set rfl (by omega) | exact zi_whole (by omega) (by omega) | (first | exact splice_ic (by first | omega | (simp [*]; done) | (simp [*]; omega)) | exact splice_il (by first | omega | (simp [*]; done) | (simp [*]; omega)) | exact splice_whole (by first | (simp [opv, Value.cells, *]; done) | rfl) | (simp only [opv, n1, n2, Value.cells, splice, List.take_succ_cons, List.take_zero, List.drop_succ_cons, List.drop_zero, List.length_cons, List.length_nil, Nat.zero_add, Nat.reduceAdd, List.append_assoc, List.cons_append, List.nil_append]; rfl))) (hv := by first | rfl | (show (zi _ _).toArray.size = _; rw [zi_size (by omega)]; rfl) | (simp [opv, Value.cells, *]; done)) (hfit := by first | omega | (rw [zi_size (by omega)]; first | rfl | decide) | (simp only [ic_size, List.length_map, List.size_toArray]; first | omega | decide) | rfl | (simp [*]; done) | (simp [*]; omega)) (h1 := by first | exact zi_one _ _ | exact ic_one _ _ | simp [opv, Value.cells, Value.oneCell']) (h := fun w10 hS => ?_)
  try simp only [opv, nZ, Value.cells, Array.toArray_toList] at hS ⊢
  refine y_nilf ?_
  refine round_open hS (by repeat (first | exact App.nil | apply App.cons)) (fun w11 T2 hS => ?_)
  simp only [List.cons_append, List.nil_append] at hS
  refine y_block ?_
  refine y_seq fun K4 hK4 => ?_
  refine y_region (by kernel_rfl) ?_
  first | refine s_go (m_fieldAddr Try.underlying43 (hi := ti5)) ?_ | refine s_go (m_fieldAddr_rd Try.underlying43 (hi := ti5) (hS := hS)) ?_ | refine s_go (m_fieldAddr_vec Try.underlying43 (hi := ti5) (hS := hS)) ?_
  try simp only [opv, nZ, Value.cells, Nat.zero_add, Nat.add_zero, List.getElem_toArray, List.getElem_cons_zero, List.getElem_cons_succ]
  first | refine s_go (m_load_obj Try.underlying5 (hS := hS) (hv := by first | rfl | exact zi_get rfl (by omega) | exact ic_get (by omega) | exact il_get (by omega))) ?_ | refine s_go (m_load_bx Try.underlying5 (hS := hS) (hv := by first | rfl | exact zi_get rfl (by omega) | exact ic_get (by omega) | exact il_get (by omega))) ?_ | refine s_go (m_load_rd Try.underlying5 (hS := hS) (hv := by first | rfl | exact zi_get rfl (by omega) | exact ic_get (by omega) | exact il_get (by omega))) ?_ | refine s_go (m_load_vec Try.underlying5 (hS := hS) (hv := by first | rfl | exact zi_get rfl (by omega) | exact ic_get (by omega) | exact il_get (by omega))) ?_
  try simp only [opv, nZ, Value.cells, List.getElem_toArray, List.getElem_cons_zero, List.getElem_cons_succ]
  rw [hkx.e0, hk01.1]
  refine s_go (s_eql) ?_
  try simp only [opv, nZ, Value.cells]
  refine s_go (s_move) ?_
  try simp only [opv, nZ, Value.cells]
  refine s_part 15 rfl (fun hp1 => ?_) (fun hp1 => ?_)
  ·
   try simp only [n3, n4]
   try simp only [decide_eq_true_eq, decide_eq_false_iff_not, Bool.not_eq_true', Bool.not_eq_false', Int.not_lt, Int.not_le, ne_eq, Decidable.not_not] at hp1
   have q1 : decide (kn x 0 = 1) = true := decide_eq_true (by omega)
   refine g_on (yi (t := 15) rfl rfl) ?_
   first | refine s_go (m_load_obj Try.underlying100 (hS := hS) (hv := by first | rfl | exact zi_get rfl (by omega) | exact ic_get (by omega) | exact il_get (by omega))) ?_ | refine s_go (m_load_bx Try.underlying100 (hS := hS) (hv := by first | rfl | exact zi_get rfl (by omega) | exact ic_get (by omega) | exact il_get (by omega))) ?_ | refine s_go (m_load_rd Try.underlying100 (hS := hS) (hv := by first | rfl | exact zi_get rfl (by omega) | exact ic_get (by omega) | exact il_get (by omega))) ?_ | refine s_go (m_load_vec Try.underlying100 (hS := hS) (hv := by first | rfl | exact zi_get rfl (by omega) | exact ic_get (by omega) | exact il_get (by omega))) ?_
   try simp only [opv, nZ, Value.cells, List.getElem_toArray, List.getElem_cons_zero, List.getElem_cons_succ]
   refine g_on (yi (t := 15) rfl rfl) ?_
   first | refine s_go (m_load_row Try.underlying43 (hi := ti43) (hS := hS) (hfit := by first | omega | (rw [zi_size (by omega)]; first | rfl | decide) | (simp only [ic_size, List.length_map, List.size_toArray]; first | omega | decide) | rfl | (simp [*]; done) | (simp [*]; omega))) ?_ | refine s_go (m_loada_obj Try.underlying43 (hi := ti43) (hS := hS) (hfit := by first | omega | (rw [zi_size (by omega)]; first | rfl | decide) | (simp only [ic_size, List.length_map, List.size_toArray]; first | omega | decide) | rfl | (simp [*]; done) | (simp [*]; omega))) ?_ | refine s_go (m_loada_bx Try.underlying43 (hi := ti43) (hS := hS) (hfit := by first | omega | (rw [zi_size (by omega)]; first | rfl | decide) | (simp only [ic_size, List.length_map, List.size_toArray]; first | omega | decide) | rfl | (simp [*]; done) | (simp [*]; omega))) ?_ | refine s_go (m_loada_rd Try.underlying43 (hi := ti43) (hS := hS) (hfit := by first | omega | (rw [zi_size (by omega)]; first | rfl | decide) | (simp only [ic_size, List.length_map, List.size_toArray]; first | omega | decide) | rfl | (simp [*]; done) | (simp [*]; omega))) ?_ | refine s_go (m_loada_vec Try.underlying43 (hi := ti43) (hS := hS) (hfit := by first | omega | (rw [zi_size (by omega)]; first | rfl | decide) | (simp only [ic_size, List.length_map, List.size_toArray]; first | omega | decide) | rfl | (simp [*]; done) | (simp [*]; omega))) ?_
   try simp only [opv, nZ, Value.cells, List.getElem_toArray, List.getElem_cons_zero, List.getElem_cons_succ]
   refine g_on (yi (t := 15) rfl rfl) ?_
   first | refine s_go (m_load_row Try.underlying50 (hi := ti50) (hS := hS) (hfit := by first | omega | (rw [zi_size (by omega)]; first | rfl | decide) | (simp only [ic_size, List.length_map, List.size_toArray]; first | omega | decide) | rfl | (simp [*]; done) | (simp [*]; omega))) ?_ | refine s_go (m_loada_obj Try.underlying50 (hi := ti50) (hS := hS) (hfit := by first | omega | (rw [zi_size (by omega)]; first | rfl | decide) | (simp only [ic_size, List.length_map, List.size_toArray]; first | omega | decide) | rfl | (simp [*]; done) | (simp [*]; omega))) ?_ | refine s_go (m_loada_bx Try.underlying50 (hi := ti50) (hS := hS) (hfit := by first | omega | (rw [zi_size (by omega)]; first | rfl | decide) | (simp only [ic_size, List.length_map, List.size_toArray]; first | omega | decide) | rfl | (simp [*]; done) | (simp [*]; omega))) ?_ | refine s_go (m_loada_rd Try.underlying50 (hi := ti50) (hS := hS) (hfit := by first | omega | (rw [zi_size (by omega)]; first | rfl | decide) | (simp only [ic_size, List.length_map, List.size_toArray]; first | omega | decide) | rfl | (simp [*]; done) | (simp [*]; omega))) ?_ | refine s_go (m_loada_vec Try.underlying50 (hi := ti50) (hS := hS) (hfit := by first | omega | (rw [zi_size (by omega)]; first | rfl | decide) | (simp only [ic_size, List.length_map, List.size_toArray]; first | omega | decide) | rfl | (simp [*]; done) | (simp [*]; omega))) ?_
   try simp only [opv, nZ, Value.cells, List.getElem_toArray, List.getElem_cons_zero, List.getElem_cons_succ]
   refine g_on (yi (t := 15) rfl rfl) ?_
   refine s_callv (hv := rfl) en62 ?_
   try simp only [opv, nZ, Value.cells, List.map_toArray, List.map_cons, List.map_nil, List.append_toArray, List.cons_append, List.nil_append, Array.append_empty]
   refine CallR.mono (c_itemsHere _ gc ct (akey x) (aval x) hkx hvx (hS.owns (by repeat (first | exact Spl.nil | (apply Spl.cons (by repeat (first | exact Del.head | apply Del.tail))))))) ?_
   rintro _ w12 ⟨rfl, hC12⟩
   replace hS := hS.frame (by repeat (first | exact Spl.nil | (apply Spl.cons (by repeat (first | exact Del.head | apply Del.tail))))) hC12 (by intro r hr g hg; simp only [List.mem_cons, List.not_mem_nil, or_false] at hr; rcases hr with rfl <;> first | (simp [Res.reads] at hg; done) | exact .inr ⟨_, by simp, .inr hg⟩)
   simp only [List.cons_append, List.nil_append] at hS
   try simp only [opv, nZ, Value.cells]
   first | refine s_go (s_pick_t) ?_ | refine s_go (s_pick_f) ?_
   try simp only [opv, nZ, Value.cells]
   refine y_nilf ?_
   refine hK4 _ _ ?_
   refine y_cond (ht := fun hc1 => ?_) (hf := fun hc1 => ?_)
   ·
    try simp only [decide_eq_true_eq, decide_eq_false_iff_not, Bool.not_eq_true', Bool.not_eq_false', Int.not_lt, Int.not_le, ne_eq, Decidable.not_not, bne_iff_ne, beq_iff_eq, not_true_eq_false, not_false_eq_true] at hc1
    have hst := hnt.1 (by rw [hlh, q1, hc1]; rfl)
    refine y_region (by kernel_rfl) ?_
    first | refine s_go (m_load_obj Try.underlying102 (hS := hS) (hv := by first | rfl | exact zi_get rfl (by omega) | exact ic_get (by omega) | exact il_get (by omega))) ?_ | refine s_go (m_load_bx Try.underlying102 (hS := hS) (hv := by first | rfl | exact zi_get rfl (by omega) | exact ic_get (by omega) | exact il_get (by omega))) ?_ | refine s_go (m_load_rd Try.underlying102 (hS := hS) (hv := by first | rfl | exact zi_get rfl (by omega) | exact ic_get (by omega) | exact il_get (by omega))) ?_ | refine s_go (m_load_vec Try.underlying102 (hS := hS) (hv := by first | rfl | exact zi_get rfl (by omega) | exact ic_get (by omega) | exact il_get (by omega))) ?_
    try simp only [opv, nZ, Value.cells, List.getElem_toArray, List.getElem_cons_zero, List.getElem_cons_succ]
    first | refine s_go (m_load_row Try.underlying43 (hi := ti43) (hS := hS) (hfit := by first | omega | (rw [zi_size (by omega)]; first | rfl | decide) | (simp only [ic_size, List.length_map, List.size_toArray]; first | omega | decide) | rfl | (simp [*]; done) | (simp [*]; omega))) ?_ | refine s_go (m_loada_obj Try.underlying43 (hi := ti43) (hS := hS) (hfit := by first | omega | (rw [zi_size (by omega)]; first | rfl | decide) | (simp only [ic_size, List.length_map, List.size_toArray]; first | omega | decide) | rfl | (simp [*]; done) | (simp [*]; omega))) ?_ | refine s_go (m_loada_bx Try.underlying43 (hi := ti43) (hS := hS) (hfit := by first | omega | (rw [zi_size (by omega)]; first | rfl | decide) | (simp only [ic_size, List.length_map, List.size_toArray]; first | omega | decide) | rfl | (simp [*]; done) | (simp [*]; omega))) ?_ | refine s_go (m_loada_rd Try.underlying43 (hi := ti43) (hS := hS) (hfit := by first | omega | (rw [zi_size (by omega)]; first | rfl | decide) | (simp only [ic_size, List.length_map, List.size_toArray]; first | omega | decide) | rfl | (simp [*]; done) | (simp [*]; omega))) ?_ | refine s_go (m_loada_vec Try.underlying43 (hi := ti43) (hS := hS) (hfit := by first | omega | (rw [zi_size (by omega)]; first | rfl | decide) | (simp only [ic_size, List.length_map, List.size_toArray]; first | omega | decide) | rfl | (simp [*]; done) | (simp [*]; omega))) ?_
    try simp only [opv, nZ, Value.cells, List.getElem_toArray, List.getElem_cons_zero, List.getElem_cons_succ]
    refine s_callv (hv := rfl) en63 ?_
    try simp only [opv, nZ, Value.cells, List.map_toArray, List.map_cons, List.map_nil, List.append_toArray, List.cons_append, List.nil_append, Array.append_empty]
    refine CallR.mono (c_itemsPut _ gm q gs O oc (nmsS ((normP l).take k1) ct) hnl8 (by omega) (akey x) hkx (hS.owns (by repeat (first | exact Spl.nil | (apply Spl.cons (by repeat (first | exact Del.head | apply Del.tail))))))) ?_
    rintro _ w13 ⟨O2, oc2, rfl, hC13⟩
    replace hS := hS.frame (by repeat (first | exact Spl.nil | (apply Spl.cons (by repeat (first | exact Del.head | apply Del.tail))))) hC13 (by intro r hr g hg; simp only [List.mem_cons, List.not_mem_nil, or_false] at hr; rcases hr with rfl | rfl | rfl | rfl <;> first | (simp [Res.reads] at hg; done) | exact .inr ⟨_, by simp, .inr hg⟩)
    simp only [List.cons_append, List.nil_append] at hS
    try simp only [opv, nZ, Value.cells]
    refine y_nilf ?_
    rw [← hst] at hS
    exact ⟨_, ⟨by omega, _, _, rfl⟩, hS.sel (by repeat (first | exact Sel.self | (refine Sel.cons (by repeat (first | exact Del.head | apply Del.tail)) ?_) | apply Sel.skip))⟩
   ·
    try simp only [decide_eq_true_eq, decide_eq_false_iff_not, Bool.not_eq_true', Bool.not_eq_false', Int.not_lt, Int.not_le, ne_eq, Decidable.not_not, bne_iff_ne, beq_iff_eq, not_true_eq_false, not_false_eq_true] at hc1
    try have hst := hnt.2 (by rw [hlh, q1, hc1]; rfl)
    refine y_skip ?_
    rw [← hst] at hS
    exact ⟨_, ⟨by omega, _, _, rfl⟩, hS.sel (by repeat (first | exact Sel.self | (refine Sel.cons (by repeat (first | exact Del.head | apply Del.tail)) ?_) | apply Sel.skip))⟩
  ·
   try simp only [n3, n4]
   try simp only [decide_eq_true_eq, decide_eq_false_iff_not, Bool.not_eq_true', Bool.not_eq_false', Int.not_lt, Int.not_le, ne_eq, Decidable.not_not] at hp1
   have hst := hnt.2 (by rw [hlh, decide_eq_false (show ¬ kn x 0 = 1 by omega)]; rfl)
   refine g_off (yi (t := 15) rfl rfl) ?_
   try simp only [opv, nZ, Value.cells]
   refine g_off (yi (t := 15) rfl rfl) ?_
   try simp only [opv, nZ, Value.cells]
   refine g_off (yi (t := 15) rfl rfl) ?_
   try simp only [opv, nZ, Value.cells]
   refine g_off (yi (t := 15) rfl rfl) ?_
   try simp only [opv, nZ, Value.cells]
   first | refine s_go (s_pick_t) ?_ | refine s_go (s_pick_f) ?_
   try simp only [opv, nZ, Value.cells]
   refine y_nilf ?_
   refine hK4 _ _ ?_
   refine y_cond_f (h := ?_)
   try have hst := hnt.2 (by rw [hlh, q1, @c]; rfl)
   refine y_skip ?_
   rw [← hst] at hS
   exact ⟨_, ⟨by omega, _, _, rfl⟩, hS.sel (by repeat (first | exact Sel.self | (refine Sel.cons (by repeat (first | exact Del.head | apply Del.tail)) ?_) | apply Sel.skip))⟩
 case rfd1 =>
  obtain ⟨hk0, O, oc, rfl⟩ := hC
  simp only [List.cons_append, List.nil_append] at hS
  refine rm_mark hS (by repeat (first | exact Upd.head | apply Upd.tail)) (fun w14 hS => ?_)
  refine rm_nil ?_
  refine r_none rfl ?_
  rw [List.take_of_length_le (Nat.le_refl _)] at hS
  exact ⟨_, _, rfl, hS.selA⟩
 case rft1 =>
  exact hX.elim
 case rfe1 =>
  exact y_ex_nil
theorem c_tagsItems (w0 : World) (A : Option Addr) (c : Nat) (l : List (List Int)) (hr : Rd w0 A 21 l.length (arows l)) (hv : AOks l) (hn : l.length ≤ 1000000000) (ct : Nat) (hct : ct < 65536)  :
    CallR Try.prog 21 #[.slice A l.length c, .int .u16 (ct : Int)] w0 fun v w' => ∃ (O : Option Addr) (oc : Nat), v = .slice O (itmS (normP l) ct).length oc ∧ St NoB w0 w' [.vec O oc 25 8 (itmS (normP l) ct).length (nrows (itmS (normP l) ct))] := by
 have hS := St.rd1 (S := NoB) hr
 refine c_enter (l := [.slice A l.length c, .int .u16 (ct : Int), undef, undef, undef, undef, undef, undef, undef, undef, undef, undef, undef, undef]) Try.func21 rfl (by simp only [Try.ntmps21, List.size_toArray, List.length_cons, List.length_nil, Nat.reduceAdd, Nat.reduceSub, Array.replicate_succ, Array.replicate_zero, List.push_toArray, List.append_toArray, List.nil_append, List.cons_append]) ?_
 refine x_seq fun K1 hK1 => ?_
 refine x_region ?_
 refine m_box hS (fun w1 g1 hS => ?_)
 try simp only [opv, nZ, Value.cells, Array.toArray_toList] at hS ⊢
 obtain ⟨gc, hgc⟩ : ∃ z, z = g1 := ⟨_, rfl⟩
 rw [← hgc] at hS ⊢
 refine m_alloc ti44 hS (fun w2 g2 hS => ?_)
 try simp only [opv, nZ, Value.cells, Array.toArray_toList] at hS ⊢
 obtain ⟨gs, hgs⟩ : ∃ z, z = g2 := ⟨_, rfl⟩
 rw [← hgs] at hS ⊢
 refine x_nil ?_
 refine hK1 _ _ ?_
 refine x_seq fun K2 hK2 => ?_
 refine x_region ?_
 refine m_makeMap kv25 hS (fun w3 g3 hS => ?_)
 try simp only [opv, nZ, Value.cells, Array.toArray_toList] at hS ⊢
 obtain ⟨q, hq⟩ : ∃ z, z = g3 := ⟨_, rfl⟩
 rw [← hq] at hS ⊢
 refine m_alloc ti103 hS (fun w4 g4 hS => ?_)
 try simp only [opv, nZ, Value.cells, Array.toArray_toList] at hS ⊢
 obtain ⟨gm, hgm⟩ : ∃ z, z = g4 := ⟨_, rfl⟩
 rw [← hgm] at hS ⊢
 first | refine m_store_obj ti103 (hS := hS) (h := fun w5 hS => ?_) | refine m_store_vec ti103 (hS := hS) (h := fun w5 hS => ?_)
 try simp only [opv, nZ, Value.cells, Array.toArray_toList] at hS ⊢
 refine x_nil ?_
 refine hK2 _ _ ?_
 refine x_seq fun K3 hK3 => ?_
 refine x_region ?_
 refine s_go (s_makeFunc) ?_
 try simp only [opv, nZ, Value.cells, List.map_toArray, List.map_cons, List.map_nil]
 refine s_go (s_assign) ?_
 try simp only [opv, nZ, Value.cells]
 refine x_nil ?_
 refine hK3 _ _ ?_
 refine x_seq fun K4 hK4 => ?_
 refine x_region ?_
 refine s_go (s_move) ?_
 try simp only [opv, nZ, Value.cells]
 refine s_go (s_move) ?_
 try simp only [opv, nZ, Value.cells]
 refine s_go (s_makeFunc) ?_
 try simp only [opv, nZ, Value.cells, List.map_toArray, List.map_cons, List.map_nil]
 refine s_call en58 ?_
 try simp only [opv, nZ, Value.cells, List.map_toArray, List.map_cons, List.map_nil, List.append_toArray, List.cons_append, List.nil_append, Array.append_empty]
 refine CallR.mono (c_tagsEachItems _ A c l (hS.hasRd (by repeat (first | exact Has.head | apply Has.tail))) hv hn gm q gs gc ct (hS.owns (by repeat (first | exact Spl.nil | (apply Spl.cons (by repeat (first | exact Del.head | apply Del.tail))))))) ?_
 rintro _ w6 ⟨O, oc, rfl, hC6⟩
 replace hS := hS.frame (by repeat (first | exact Spl.nil | (apply Spl.cons (by repeat (first | exact Del.head | apply Del.tail))))) hC6 (by intro r hr g hg; simp only [List.mem_cons, List.not_mem_nil, or_false] at hr; rcases hr with rfl | rfl <;> first | (simp [Res.reads] at hg; done) | exact .inr ⟨_, by simp, .inr hg⟩)
 simp only [List.cons_append, List.nil_append] at hS
 try simp only [opv, nZ, Value.cells]
 refine x_nil ?_
 refine hK4 _ _ ?_
 refine x_seq fun K5 hK5 => ?_
 refine x_region ?_
 first | refine s_go (m_load_obj Try.underlying44 (hS := hS)) ?_ | refine s_go (m_load_bx Try.underlying44 (hS := hS)) ?_ | refine s_go (m_load_rd Try.underlying44 (hS := hS)) ?_ | refine s_go (m_load_vec Try.underlying44 (hS := hS)) ?_
 try simp only [opv, nZ, Value.cells, List.getElem_toArray, List.getElem_cons_zero, List.getElem_cons_succ]
 first | refine m_store_obj ti44 (hS := hS) (h := fun w7 hS => ?_) | refine m_store_vec ti44 (hS := hS) (h := fun w7 hS => ?_)
 try simp only [opv, nZ, Value.cells, Array.toArray_toList] at hS ⊢
 refine x_nil ?_
 refine hK5 _ _ ?_
 refine x_ret ?_
 refine r_cell_one rfl Try.underlying44 (hS := hS) (hR := ?_)
 exact ⟨_, _, rfl, hS.selA⟩
theorem c_ref14Names (w0 : World) (A : Option Addr) (c : Nat) (l : List (List Int)) (hr : Rd w0 A 8 l.length (nrows l)) (hv : ∀ x ∈ l, x.length = 8) (B : Option Addr) (d : Nat) (r : List (List Int)) (hr2 : Rd w0 B 8 r.length (nrows r)) (hv2 : ∀ x ∈ r, x.length = 8) (hn : l.length + r.length ≤ 4000000000)  :
    CallR Try.prog 22 #[.slice A l.length c, .slice B r.length d] w0 fun v w' => v = .bool (decide (l = r)) ∧ Ext w0 w' := by
 have hS := St.rd2 (S := NoB) hr hr2
 have hnl := nrows_len l
 have hnr := nrows_len r
 refine c_enter (l := [.slice A l.length c, .slice B r.length d, undef, undef, undef, undef, undef, undef, undef, undef, undef, undef, undef, undef, undef, undef, undef, undef, undef, undef, undef, undef, undef, undef, undef, undef]) Try.func22 rfl (by simp only [Try.ntmps22, List.size_toArray, List.length_cons, List.length_nil, Nat.reduceAdd, Nat.reduceSub, Array.replicate_succ, Array.replicate_zero, List.push_toArray, List.append_toArray, List.nil_append, List.cons_append]) ?_
 refine x_seq fun K1 hK1 => ?_
 refine x_region ?_
 refine s_go (s_assign) ?_
 try simp only [opv, nZ, Value.cells]
 refine x_nil ?_
 refine hK1 _ _ ?_
 refine x_seq fun K2 hK2 => ?_
 refine x_seq fun K3 hK3 => ?_
 refine x_region ?_
 refine s_go (s_move) ?_
 try simp only [opv, nZ, Value.cells]
 refine s_go (s_len_sl Try.underlying44) ?_
 try simp only [opv, nZ, Value.cells]
 refine s_go (s_move) ?_
 try simp only [opv, nZ, Value.cells]
 refine s_go (s_len_sl Try.underlying44) ?_
 try simp only [opv, nZ, Value.cells]
 refine s_go (s_neq) ?_
 try simp only [opv, nZ, Value.cells]
 refine x_nil ?_
 refine hK3 _ _ ?_
 refine x_cond (ht := fun hc1 => ?_) (hf := fun hc1 => ?_)
 ·
  try simp only [decide_eq_true_eq, decide_eq_false_iff_not, Bool.not_eq_true', Bool.not_eq_false', Int.not_lt, Int.not_le, ne_eq, Decidable.not_not, bne_iff_ne, beq_iff_eq, not_true_eq_false, not_false_eq_true] at hc1
  have hne : ¬ l = r := fun h => hc1 (by rw [h])
  refine x_seq fun K4 hK4 => ?_
  refine x_region ?_
  refine s_go (s_assign) ?_
  try simp only [opv, nZ, Value.cells]
  refine x_nil ?_
  refine hK4 _ _ ?_
  refine x_ret ?_
  refine r_tmp rfl ?_
  exact ⟨by first | exact congrArg Value.bool (decide_eq_true (by assumption)).symm | exact congrArg Value.bool (decide_eq_false (by assumption)).symm, hS.ext_of⟩
 ·
  try simp only [decide_eq_true_eq, decide_eq_false_iff_not, Bool.not_eq_true', Bool.not_eq_false', Int.not_lt, Int.not_le, ne_eq, Decidable.not_not, bne_iff_ne, beq_iff_eq, not_true_eq_false, not_false_eq_true] at hc1
  have hlr : l.length = r.length := by omega
  refine x_skip ?_
  refine hK2 _ _ ?_
  refine x_seq fun K5 hK5 => ?_
  refine x_seq fun K6 hK6 => ?_
  refine x_region ?_
  refine s_go (s_assign) ?_
  try simp only [opv, nZ, Value.cells]
  refine x_nil ?_
  refine hK6 _ _ ?_
  refine x_block ?_
  refine x_loop [4, 5, 11, 12, 13, 14, 15, 16, 17, 18, 19, 20, 21, 22, 23, 24, 25] (fun m f w => ∃ k : Nat, k ≤ l.length ∧ m = l.length - k ∧ f 5 = .int .i64 (k : Int) ∧ l.take k = r.take k ∧ St NoB w0 w [.rd A 8 l.length (nrows l), .rd B 8 r.length (nrows r)]) (l.length) ?init1 (fun m1 f1 wl1 hI => ?_)
  case init1 =>
   try simp only [opv, nZ, Value.cells]
   exact ⟨0, by omega, rfl, rfl, rfl, hS⟩
  obtain ⟨k, hk0, hm, h5, hab, hS⟩ := hI
  simp only [clob, List.foldl, n3, n4, h5]
  obtain ⟨x, hx⟩ : ∃ x, l.getD k [] = x := ⟨_, rfl⟩
  obtain ⟨y, hy⟩ : ∃ y, r.getD k [] = y := ⟨_, rfl⟩
  refine x_seq fun K7 hK7 => ?_
  refine x_seq fun K8 hK8 => ?_
  refine x_region ?_
  refine s_go (s_move) ?_
  try simp only [opv, nZ, Value.cells]
  refine s_go (s_move) ?_
  try simp only [opv, nZ, Value.cells]
  refine s_go (s_len_sl Try.underlying44) ?_
  try simp only [opv, nZ, Value.cells]
  refine s_go (s_lss) ?_
  try simp only [opv, nZ, Value.cells]
  refine x_nil ?_
  refine hK8 _ _ ?_
  refine x_cond (ht := fun hc2 => ?_) (hf := fun hc2 => ?_)
  ·
   try simp only [decide_eq_true_eq, decide_eq_false_iff_not, Bool.not_eq_true', Bool.not_eq_false', Int.not_lt, Int.not_le, ne_eq, Decidable.not_not, bne_iff_ne, beq_iff_eq, not_true_eq_false, not_false_eq_true] at hc2
   have hxl : x.length = 8 := by rw [← hx]; exact hv _ (getD_mem' (by omega))
   have hyl : y.length = 8 := by rw [← hy]; exact hv2 _ (getD_mem' (by omega))
   refine x_skip ?_
   refine hK7 _ _ ?_
   refine x_seq fun K9 hK9 => ?_
   refine x_block ?_
   refine x_seq fun K10 hK10 => ?_
   refine x_quiet (by kernel_rfl) (by kernel_rfl) hS ?_
   refine q_go (fun w hS => s_move) ?_
   try simp only [opv, nZ, Value.cells]
   refine q_go (fun w hS => s_move) ?_
   try simp only [opv, nZ, Value.cells]
   first | refine q_go (fun w hS => m_indexAddr_rd Try.underlying44 ti25 (hS := hS)) ?_ | refine q_go (fun w hS => m_indexAddr_vec Try.underlying44 ti25 (hS := hS)) ?_
   try simp only [opv, nZ, Value.cells, Nat.mul_one, Nat.zero_add, Int.toNat_natCast, Int.reduceToNat]
   first | refine q_go (fun w hS => m_load_row Try.underlying25 (hi := ti25) (hS := hS) (hfit := by rw [nrows_len]; omega)) ?_ | refine q_go (fun w hS => m_loada_obj Try.underlying25 (hi := ti25) (hS := hS) (hfit := by rw [nrows_len]; omega)) ?_ | refine q_go (fun w hS => m_loada_bx Try.underlying25 (hi := ti25) (hS := hS) (hfit := by rw [nrows_len]; omega)) ?_ | refine q_go (fun w hS => m_loada_rd Try.underlying25 (hi := ti25) (hS := hS) (hfit := by rw [nrows_len]; omega)) ?_ | refine q_go (fun w hS => m_loada_vec Try.underlying25 (hi := ti25) (hS := hS) (hfit := by rw [nrows_len]; omega)) ?_
   try simp only [opv, nZ, Value.cells, List.getElem_toArray, List.getElem_cons_zero, List.getElem_cons_succ]
   rw [nrow_get (by omega) hv, hx]
   refine q_go (fun w hS => s_move) ?_
   try simp only [opv, nZ, Value.cells]
   refine q_go (fun w hS => s_move) ?_
   try simp only [opv, nZ, Value.cells]
   first | refine q_go (fun w hS => m_indexAddr_rd Try.underlying44 ti25 (hS := hS)) ?_ | refine q_go (fun w hS => m_indexAddr_vec Try.underlying44 ti25 (hS := hS)) ?_
   try simp only [opv, nZ, Value.cells, Nat.mul_one, Nat.zero_add, Int.toNat_natCast, Int.reduceToNat]
   first | refine q_go (fun w hS => m_load_row Try.underlying25 (hi := ti25) (hS := hS) (hfit := by rw [nrows_len]; omega)) ?_ | refine q_go (fun w hS => m_loada_obj Try.underlying25 (hi := ti25) (hS := hS) (hfit := by rw [nrows_len]; omega)) ?_ | refine q_go (fun w hS => m_loada_bx Try.underlying25 (hi := ti25) (hS := hS) (hfit := by rw [nrows_len]; omega)) ?_ | refine q_go (fun w hS => m_loada_rd Try.underlying25 (hi := ti25) (hS := hS) (hfit := by rw [nrows_len]; omega)) ?_ | refine q_go (fun w hS => m_loada_vec Try.underlying25 (hi := ti25) (hS := hS) (hfit := by rw [nrows_len]; omega)) ?_
   try simp only [opv, nZ, Value.cells, List.getElem_toArray, List.getElem_cons_zero, List.getElem_cons_succ]
   rw [nrow_get (by omega) hv2, hy]
   refine q_go (fun w hS => s_neq_agg eqv25 (hg := eg25) (hX := zi_ic (by assumption)) (hY := zi_ic (by assumption)) (h1 := by assumption) (h2 := by assumption)) ?_
   try simp only [opv, nZ, Value.cells]
   clear hS
   refine q_nil fun w1 hS => ?_
   refine hK10 _ _ ?_
   refine x_cond (ht := fun hc3 => ?_) (hf := fun hc3 => ?_)
   ·
    try simp only [decide_eq_true_eq, decide_eq_false_iff_not, Bool.not_eq_true', Bool.not_eq_false', Int.not_lt, Int.not_le, ne_eq, Decidable.not_not, bne_iff_ne, beq_iff_eq, not_true_eq_false, not_false_eq_true] at hc3
    have hne : ¬ l = r := fun h => by rw [h, hy] at hx; exact hc3 hx.symm
    refine x_seq fun K11 hK11 => ?_
    refine x_region ?_
    refine s_go (s_assign) ?_
    try simp only [opv, nZ, Value.cells]
    refine x_nil ?_
    refine hK11 _ _ ?_
    refine x_ret ?_
    refine r_tmp rfl ?_
    exact ⟨by first | exact congrArg Value.bool (decide_eq_true (by assumption)).symm | exact congrArg Value.bool (decide_eq_false (by assumption)).symm, hS.ext_of⟩
   ·
    try simp only [decide_eq_true_eq, decide_eq_false_iff_not, Bool.not_eq_true', Bool.not_eq_false', Int.not_lt, Int.not_le, ne_eq, Decidable.not_not, bne_iff_ne, beq_iff_eq, not_true_eq_false, not_false_eq_true] at hc3
    have hxy : x = y := hc3
    refine x_skip ?_
    refine hK9 _ _ ?_
    refine x_region ?_
    refine s_go (s_move) ?_
    try simp only [opv, nZ, Value.cells]
    refine s_go (s_add (hc := by first | exact wr_i64 (by omega) (by omega) | rfl)) ?_
    try simp only [opv, nZ, Value.cells]
    refine s_go (s_assign) ?_
    try simp only [opv, nZ, Value.cells]
    refine x_nil ?_
    refine loop_back (m' := l.length - (k + 1)) (by simp only [clob, List.foldl, nZ]) ?_ ?_
    · try simp only [opv, nZ, Value.cells]
      exact ⟨k + 1, by omega, by omega, by rfl, by rw [take_snoc (by omega), take_snoc (by omega), hab, hx, hy, hxy], hS⟩
    · omega
  ·
   try simp only [decide_eq_true_eq, decide_eq_false_iff_not, Bool.not_eq_true', Bool.not_eq_false', Int.not_lt, Int.not_le, ne_eq, Decidable.not_not, bne_iff_ne, beq_iff_eq, not_true_eq_false, not_false_eq_true] at hc2
   obtain rfl : k = l.length := by omega
   have heq : l = r := by rw [List.take_of_length_le (Nat.le_refl _), hlr, List.take_of_length_le (Nat.le_refl _)] at hab; exact hab
   refine x_exit (look_here ?_)
   refine hK5 _ _ ?_
   refine x_seq fun K12 hK12 => ?_
   refine x_region ?_
   refine s_go (s_assign) ?_
   try simp only [opv, nZ, Value.cells]
   refine x_nil ?_
   refine hK12 _ _ ?_
   refine x_ret ?_
   refine r_tmp rfl ?_
   exact ⟨by first | exact congrArg Value.bool (decide_eq_true (by assumption)).symm | exact congrArg Value.bool (decide_eq_false (by assumption)).symm, hS.ext_of⟩
end Go.Proofs.Ytffmanidnlbjjaa
