/- Rules, plain words and walks that the claim leans on: Uf, Tb, Vj, Tc. -/
import Derived.Test.YtffmanidnlbjjaaGreatZCodecDecodes6
set_option linter.unusedSimpArgs false
set_option linter.unusedVariables false
set_option linter.unusedSimpArgs false
set_option linter.unusedVariables false
set_option maxHeartbeats 3000000
set_option maxRecDepth 100000
namespace Go.Proofs.YtffmanidnlbjjaaGreat
open Go.RowKit

theorem enc_nil : encP [] = ([0], 0) := by decide +kernel
theorem dec_0 : decP [0] = ([], 0) := by decide +kernel
theorem b0_byt : Byt [0] := by unfold Byt; decide

theorem c_law22alive  (w0 : World) :
    CallR Tryz.prog 39 #[] w0 fun v w' => v = .bool true ∧ Ext w0 w' := by
 have hS : St NoB w0 w0 [] := St.start w0
 replace hS := hS.nil_vec 88 21
 refine c_enter (l := [undef, undef, undef, undef, undef, undef, undef, undef, undef, undef, undef, undef, undef, undef, undef, undef, undef, undef, undef, undef, undef, undef, undef, undef, undef, undef, undef, undef, undef, undef, undef, undef, undef, undef]) Tryz.func39 rfl (by simp only [Tryz.ntmps39, List.size_toArray, List.length_cons, List.length_nil, Nat.reduceAdd, Nat.reduceSub, Array.replicate_succ, Array.replicate_zero, List.push_toArray, List.append_toArray, List.nil_append, List.cons_append]) ?_
 refine x_seq fun K1 hK1 => ?_
 refine x_region ?_
 refine s_go (s_assign) ?_
 try simp only [opv, nZ, Value.cells]
 refine x_nil ?_
 refine hK1 _ _ ?_
 refine x_seq fun K2 hK2 => ?_
 refine x_region ?_
 refine s_call en42 ?_
 try simp only [opv, nZ, Value.cells, List.map_toArray, List.map_cons, List.map_nil, List.append_toArray, List.cons_append, List.nil_append, Array.append_empty]
 refine CallR.mono (c_codecEncode _ none 0 [] (hS.vecRd (by repeat (exact Has.head))) AOks.nil (by simp)) ?_
 rintro _ w1 ⟨A1, c1, rfl, hC1⟩
 replace hS := hS.call hC1
 simp only [List.cons_append, List.nil_append] at hS
 simp only [enc_nil, dec_0, List.length_cons, List.length_nil, Nat.zero_add] at hS ⊢
 try simp only [opv, nZ, Value.cells]
 refine s_go (s_move) ?_
 try simp only [opv, nZ, Value.cells]
 refine s_go (s_extract (hv := rfl)) ?_
 try simp only [List.getElem_toArray, List.getElem_cons_zero, List.getElem_cons_succ]
 try simp only [opv, nZ, Value.cells]
 refine s_go (s_extract (hv := rfl)) ?_
 try simp only [List.getElem_toArray, List.getElem_cons_zero, List.getElem_cons_succ]
 try simp only [opv, nZ, Value.cells]
 refine s_go (s_assign) ?_
 try simp only [opv, nZ, Value.cells]
 refine s_go (s_assign) ?_
 try simp only [opv, nZ, Value.cells]
 refine x_nil ?_
 refine hK2 _ _ ?_
 refine x_seq fun K3 hK3 => ?_
 refine x_region ?_
 refine s_go (s_move) ?_
 try simp only [opv, nZ, Value.cells]
 refine s_call en40 ?_
 try simp only [opv, nZ, Value.cells, List.map_toArray, List.map_cons, List.map_nil, List.append_toArray, List.cons_append, List.nil_append, Array.append_empty]
 refine CallR.mono (c_codecDecode _ _ _ [0] (hS.vecRd (by repeat (exact Has.head))) b0_byt (by simp)) ?_
 rintro _ w2 ⟨A2, c2, rfl, hC2⟩
 replace hS := hS.call hC2
 simp only [List.cons_append, List.nil_append] at hS
 simp only [enc_nil, dec_0, List.length_cons, List.length_nil, Nat.zero_add] at hS ⊢
 try simp only [opv, nZ, Value.cells]
 refine s_go (s_move) ?_
 try simp only [opv, nZ, Value.cells]
 refine s_go (s_extract (hv := rfl)) ?_
 try simp only [List.getElem_toArray, List.getElem_cons_zero, List.getElem_cons_succ]
 try simp only [opv, nZ, Value.cells]
 refine s_go (s_extract (hv := rfl)) ?_
 try simp only [List.getElem_toArray, List.getElem_cons_zero, List.getElem_cons_succ]
 try simp only [opv, nZ, Value.cells]
 refine s_go (s_assign) ?_
 try simp only [opv, nZ, Value.cells]
 refine s_go (s_assign) ?_
 try simp only [opv, nZ, Value.cells]
 refine x_nil ?_
 refine hK3 _ _ ?_
 refine x_seq fun K4 hK4 => ?_
 refine x_region ?_
 refine s_go (s_move) ?_
 try simp only [opv, nZ, Value.cells]
 refine m_buildRow (cells := #[_]) Tryz.underlying73 ti5 (hc := by simp only [List.map_toArray, List.map_cons, List.map_nil, opv, nZ, Value.cells, List.toList_toArray]; (repeat (refine fill_cons rfl rfl (Nat.le_of_ble_eq_true rfl) ?_)); rfl) (hS := hS) (h := fun w3 g3 hS => ?_)
 try simp only [opv, nZ, Value.cells, Array.toArray_toList] at hS ⊢
 replace hS := hS.obj_rd (sz := 1) (n := 1) rfl .head
 refine s_call en46 ?_
 try simp only [opv, nZ, Value.cells, List.map_toArray, List.map_cons, List.map_nil, List.append_toArray, List.cons_append, List.nil_append, Array.append_empty]
 refine CallR.mono (c_ref03Same _ _ _ _ _ _ _ [0] [0] (hS.vecRd (by repeat (first | exact Has.head | apply Has.tail))) (hS.hasRd (by repeat (exact Has.head))) rfl rfl (by simp)) ?_
 rintro _ w4 ⟨rfl, hE4⟩
 replace hS := hS.ext hE4
 try simp only [opv, nZ, Value.cells]
 try simp only [eq_self, decide_true, beq_self_eq_true, Bool.and_self]
 refine s_go (s_move) ?_
 try simp only [opv, nZ, Value.cells]
 refine g_on (yi (t := 17) rfl rfl) ?_
 refine s_go (s_move) ?_
 try simp only [opv, nZ, Value.cells]
 refine g_on (yi (t := 17) rfl rfl) ?_
 refine s_go (s_eql) ?_
 try simp only [opv, nZ, Value.cells]
 try simp only [eq_self, decide_true, beq_self_eq_true, Bool.and_self]
 refine s_go (s_pick_t) ?_
 try simp only [opv, nZ, Value.cells]
 refine s_go (s_move) ?_
 try simp only [opv, nZ, Value.cells]
 refine g_on (yi (t := 21) rfl rfl) ?_
 refine s_go (s_move) ?_
 try simp only [opv, nZ, Value.cells]
 refine g_on (yi (t := 21) rfl rfl) ?_
 refine s_go (s_len_sl Tryz.underlying22) ?_
 try simp only [opv, nZ, Value.cells]
 refine g_on (yi (t := 21) rfl rfl) ?_
 refine s_go (s_eql) ?_
 try simp only [opv, nZ, Value.cells]
 rw [show decide (((0 : Nat) : Int) = 0) = true from rfl]
 refine s_go (s_pick_t) ?_
 try simp only [opv, nZ, Value.cells]
 refine s_go (s_move) ?_
 try simp only [opv, nZ, Value.cells]
 refine g_on (yi (t := 26) rfl rfl) ?_
 refine s_go (s_move) ?_
 try simp only [opv, nZ, Value.cells]
 refine g_on (yi (t := 26) rfl rfl) ?_
 refine s_go (s_eql) ?_
 try simp only [opv, nZ, Value.cells]
 try simp only [eq_self, decide_true, beq_self_eq_true, Bool.and_self]
 refine s_go (s_pick_t) ?_
 try simp only [opv, nZ, Value.cells]
 refine s_go (s_move) ?_
 try simp only [opv, nZ, Value.cells]
 refine g_on (yi (t := 30) rfl rfl) ?_
 refine s_call en47 ?_
 try simp only [opv, nZ, Value.cells, List.map_toArray, List.map_cons, List.map_nil, List.append_toArray, List.cons_append, List.nil_append, Array.append_empty]
 refine CallR.mono (c_codecSize _ none 0 [] (hS.vecRd (by repeat (first | exact Has.head | apply Has.tail))) AOks.nil (by simp)) ?_
 rintro _ w5 ⟨rfl, hE5⟩
 replace hS := hS.ext hE5
 try simp only [opv, nZ, Value.cells]
 simp only [enc_nil, List.length_cons, List.length_nil, Nat.zero_add]
 refine g_on (yi (t := 30) rfl rfl) ?_
 refine s_go (s_eql) ?_
 try simp only [opv, nZ, Value.cells]
 rw [show decide (((1 : Nat) : Int) = 1) = true from rfl]
 refine s_go (s_pick_t) ?_
 try simp only [opv, nZ, Value.cells]
 refine s_go (s_assign) ?_
 try simp only [opv, nZ, Value.cells]
 refine x_nil ?_
 refine hK4 _ _ ?_
 refine x_ret ?_
 refine r_tmp rfl ?_
 exact ⟨rfl, hS.ext_of⟩
theorem c_CodecDecodes (w0 : World) (A : Option Addr) (c : Nat) (bs : List Int) (hb : Rd w0 A 1 bs.length (bs.map (Value.int .u8))) (hw : Byt bs) (hn : bs.length ≤ 140737488355000) (hcb : bs.length ≤ c)  :
    CallR Tryz.prog 8 #[.slice A bs.length c] w0 fun v w' => v = .bool true ∧ Ext w0 w' := by
 have hS := St.rd1 (S := NoB) hb
 have hdo := decP_ok hw
 have hdl := decP_len (bs := bs)
 refine c_enter (l := [.slice A bs.length c, undef, undef, undef, undef, undef, undef, undef, undef, undef, undef, undef, undef, undef, undef, undef, undef, undef, undef, undef, undef, undef, undef, undef, undef, undef, undef, undef, undef, undef, undef, undef]) Tryz.func8 rfl (by simp only [Tryz.ntmps8, List.size_toArray, List.length_cons, List.length_nil, Nat.reduceAdd, Nat.reduceSub, Array.replicate_succ, Array.replicate_zero, List.push_toArray, List.append_toArray, List.nil_append, List.cons_append]) ?_
 refine x_seq fun K1 hK1 => ?_
 refine x_region ?_
 refine s_go (s_assign) ?_
 try simp only [opv, nZ, Value.cells]
 refine x_nil ?_
 refine hK1 _ _ ?_
 refine x_seq fun K2 hK2 => ?_
 refine x_seq fun K3 hK3 => ?_
 refine x_region ?_
 refine s_go (s_move) ?_
 try simp only [opv, nZ, Value.cells]
 refine s_go (s_len_sl Tryz.underlying73) ?_
 try simp only [opv, nZ, Value.cells]
 refine s_go (s_gtr) ?_
 try simp only [opv, nZ, Value.cells]
 refine x_nil ?_
 refine hK3 _ _ ?_
 refine x_cond (ht := fun hc1 => ?_) (hf := fun hc1 => ?_)
 ·
  try simp only [dZ, ne_eq, bne_iff_ne, beq_iff_eq] at hc1
  refine x_seq fun K4 hK4 => ?_
  refine x_region ?_
  refine s_call en39 ?_
  try simp only [opv, nZ, Value.cells, List.map_toArray, List.map_cons, List.map_nil, List.append_toArray, List.cons_append, List.nil_append, Array.append_empty]
  refine CallR.mono (c_law22alive _) ?_
  rintro _ w1 ⟨rfl, hE1⟩
  replace hS := hS.ext hE1
  try simp only [opv, nZ, Value.cells]
  refine s_go (s_assign) ?_
  try simp only [opv, nZ, Value.cells]
  refine x_nil ?_
  refine hK4 _ _ ?_
  refine x_ret ?_
  refine r_tmp rfl ?_
  exact ⟨rfl, hS.ext_of⟩
 ·
  try simp only [dZ, ne_eq, bne_iff_ne, beq_iff_eq] at hc1
  have hn2 : bs.length ≤ 1000000000 := by omega
  refine x_skip ?_
  refine hK2 _ _ ?_
  refine x_seq fun K5 hK5 => ?_
  refine x_region ?_
  refine s_go (s_move) ?_
  try simp only [opv, nZ, Value.cells]
  refine s_call en40 ?_
  try simp only [opv, nZ, Value.cells, List.map_toArray, List.map_cons, List.map_nil, List.append_toArray, List.cons_append, List.nil_append, Array.append_empty]
  refine CallR.mono (c_codecDecode _ A c bs (hS.hasRd (by repeat (exact Has.head))) hw hn2) ?_
  rintro _ w2 ⟨A2, c2, rfl, hC2⟩
  replace hS := hS.call hC2
  simp only [List.cons_append, List.nil_append] at hS
  try simp only [opv, nZ, Value.cells]
  refine s_go (s_move) ?_
  try simp only [opv, nZ, Value.cells]
  refine s_go (s_extract (hv := rfl)) ?_
  try simp only [List.getElem_toArray, List.getElem_cons_zero, List.getElem_cons_succ]
  try simp only [opv, nZ, Value.cells]
  refine s_go (s_extract (hv := rfl)) ?_
  try simp only [List.getElem_toArray, List.getElem_cons_zero, List.getElem_cons_succ]
  try simp only [opv, nZ, Value.cells]
  refine s_go (s_assign) ?_
  try simp only [opv, nZ, Value.cells]
  refine s_go (s_assign) ?_
  try simp only [opv, nZ, Value.cells]
  refine x_nil ?_
  refine hK5 _ _ ?_
  refine x_seq fun K6 hK6 => ?_
  refine x_region ?_
  refine s_go (s_move) ?_
  try simp only [opv, nZ, Value.cells]
  refine s_call en41 ?_
  try simp only [opv, nZ, Value.cells, List.map_toArray, List.map_cons, List.map_nil, List.append_toArray, List.cons_append, List.nil_append, Array.append_empty]
  refine CallR.mono (c_ref22Decode _ A c bs (hS.hasRd (by repeat (first | exact Has.head | apply Has.tail))) hw hn2 hcb) ?_
  rintro _ w3 ⟨A3, c3, rfl, hC3⟩
  replace hS := hS.call hC3
  simp only [List.cons_append, List.nil_append] at hS
  try simp only [opv, nZ, Value.cells]
  refine s_go (s_move) ?_
  try simp only [opv, nZ, Value.cells]
  refine s_go (s_extract (hv := rfl)) ?_
  try simp only [List.getElem_toArray, List.getElem_cons_zero, List.getElem_cons_succ]
  try simp only [opv, nZ, Value.cells]
  refine s_go (s_extract (hv := rfl)) ?_
  try simp only [List.getElem_toArray, List.getElem_cons_zero, List.getElem_cons_succ]
  try simp only [opv, nZ, Value.cells]
  refine s_go (s_assign) ?_
  try simp only [opv, nZ, Value.cells]
  refine s_go (s_assign) ?_
  try simp only [opv, nZ, Value.cells]
  refine x_nil ?_
  refine hK6 _ _ ?_
  refine x_seq fun K7 hK7 => ?_
  refine x_region ?_
  refine s_go (s_move) ?_
  try simp only [opv, nZ, Value.cells]
  refine s_go (s_move) ?_
  try simp only [opv, nZ, Value.cells]
  refine s_call en22 ?_
  try simp only [opv, nZ, Value.cells, List.map_toArray, List.map_cons, List.map_nil, List.append_toArray, List.cons_append, List.nil_append, Array.append_empty]
  refine CallR.mono (c_ref10Rows _ _ _ _ (hS.vecRd (by repeat (first | exact Has.head | apply Has.tail))) hdo _ _ _ (hS.vecRd (by repeat (exact Has.head))) hdo (by omega)) ?_
  rintro _ w4 ⟨rfl, hE4⟩
  replace hS := hS.ext hE4
  try simp only [opv, nZ, Value.cells]
  try simp only [eq_self, decide_true, beq_self_eq_true, Bool.and_self]
  refine s_go (s_move) ?_
  try simp only [opv, nZ, Value.cells]
  refine g_on (yi (t := 24) rfl rfl) ?_
  refine s_go (s_move) ?_
  try simp only [opv, nZ, Value.cells]
  refine g_on (yi (t := 24) rfl rfl) ?_
  refine s_go (s_move) ?_
  try simp only [opv, nZ, Value.cells]
  refine g_on (yi (t := 24) rfl rfl) ?_
  refine s_go (s_eql) ?_
  try simp only [opv, nZ, Value.cells]
  try simp only [eq_self, decide_true, beq_self_eq_true, Bool.and_self]
  refine s_go (s_pick_t) ?_
  try simp only [opv, nZ, Value.cells]
  try simp only [eq_self, decide_true, beq_self_eq_true, Bool.and_self]
  refine s_go (s_move) ?_
  try simp only [opv, nZ, Value.cells]
  refine g_on (yi (t := 29) rfl rfl) ?_
  refine s_call en39 ?_
  try simp only [opv, nZ, Value.cells, List.map_toArray, List.map_cons, List.map_nil, List.append_toArray, List.cons_append, List.nil_append, Array.append_empty]
  refine CallR.mono (c_law22alive _) ?_
  rintro _ w5 ⟨rfl, hE5⟩
  replace hS := hS.ext hE5
  try simp only [opv, nZ, Value.cells]
  refine s_go (s_pick_t) ?_
  try simp only [opv, nZ, Value.cells]
  refine s_go (s_assign) ?_
  try simp only [opv, nZ, Value.cells]
  refine x_nil ?_
  refine hK7 _ _ ?_
  refine x_ret ?_
  refine r_tmp rfl ?_
  exact ⟨rfl, hS.ext_of⟩
end Go.Proofs.YtffmanidnlbjjaaGreat
namespace Go.Proofs.YtffmanidnlbjjaaGreat
open Go.ChangeShapes Go.WideShapes Go.ChangeAt Go.RowKit
theorem own0 : ownKnob Tryz.prog.godebug = none := by kernel_rfl
theorem laidOut0 : laidOutB Tryz.prog = true := by kernel_rfl
end Go.Proofs.YtffmanidnlbjjaaGreat
namespace Go.Proofs.YtffmanidnlbjjaaGreat
theorem ws_cons {c : Char} (h : c ≠ Char.ofNat 32) (x : List Char) : wordsSigns (c :: x) = (match wordsSigns x with | w :: ws => (c :: w) :: ws | [] => [[c]]) := by
  conv => lhs; unfold wordsSigns
  split
  · simp_all
  · next h1 => exact absurd (by simpa using (List.cons.inj h1).1) h
  · next h1 => obtain ⟨rfl, rfl⟩ := List.cons.inj h1; rfl
theorem ws_app (b : List Char) : ∀ (a : List Char), (∀ c ∈ a, c ≠ Char.ofNat 32) → wordsSigns (a ++ Char.ofNat 32 :: b) = a :: wordsSigns b
  | [], _ => rfl
  | c :: r, h => by
    rw [List.cons_append, ws_cons (h c (by simp)), ws_app b r (fun x hx => h x (by simp [hx]))]
/-- the head's words: harness, a sum, cut -/
theorem head_words {P : Program} {s b : List Char} (he : P.initOrder = String.ofList ("harness".toList ++ Char.ofNat 32 :: (s ++ Char.ofNat 32 :: ("cut".toList ++ Char.ofNat 32 :: b)))) (hs : isSumSigns s = true) (hb : ∀ c ∈ s, c ≠ Char.ofNat 32) :
    ∃ R, behindMainWord (wordsSigns P.initOrder.toList) = "cut".toList :: R := by
  refine ⟨wordsSigns b, ?_⟩
  rw [he, String.toList_ofList, ws_app _ _ (by decide), ws_app _ _ hb, ws_app _ _ (by decide)]
  simp only [behindMainWord, hs, beq_self_eq_true, Bool.true_or, Bool.and_self, if_true]
theorem e_gc : ("cut".toList == "gc".toList) = false := by decide
theorem e_spec : ("cut".toList == "spec".toList) = false := by decide
theorem e_car : ("cut".toList == "carried".toList) = false := by decide
theorem e_sl (R : List (List Char)) : stripLifts liftWords ("cut".toList :: R) = ([], "cut".toList :: R) := by
  have h : ∀ (l : List String), (∀ o ∈ l, ("cut".toList == o.toList) = false) → stripLifts l ("cut".toList :: R) = ([], "cut".toList :: R) := by
    intro l
    induction l with
    | nil => intro _; rfl
    | cons o os ih => intro hl; rw [stripLifts, hl o (by simp)]; simp only [Bool.false_eq_true, if_false]; exact ih fun x hx => hl x (by simp [hx])
  exact h liftWords (by decide)
section
variable {P : Program} (h : ∃ R, behindMainWord (wordsSigns P.initOrder.toList) = "cut".toList :: R)
include h
theorem make_of : P.make = some .cut := by
  obtain ⟨R, h⟩ := h
  unfold Program.make
  rw [h]
  simp only [e_gc, e_spec, beq_self_eq_true, Bool.or_self, Bool.true_or, Bool.false_eq_true, if_false, if_true]
theorem lifts_of : P.liftsFinal = false := by
  obtain ⟨R, h⟩ := h
  unfold Program.liftsFinal Program.headLifts
  rw [h, e_sl]
  show (_ || _) = false
  rfl
theorem enter_of (hl : P.laysLater = false) (hr : P.bearsReflect = false) (hd : P.doorFits [] = true) : P.mayEnter = true := by
  obtain ⟨R, h⟩ := h
  unfold Program.mayEnter
  rw [h]
  dsimp only
  rw [e_sl, hl, hr]
  simp only [hd, e_gc, e_spec, e_car, beq_self_eq_true, Bool.or_self, Bool.false_and, Bool.not_false, Bool.or_true, Bool.and_true, List.head?_cons, List.contains_nil]
end
theorem closed_of {P : Program} {f : FuncId} {fn : Func} {s : ChangeSpec} {c : OpenClaim} (hm : P.make = some .cut) (hl : P.liftsFinal = false) (he : P.mayEnter = true) (h2 : laidOutB P = true) (h3 : mapsRowed P = true) (hst : (P.stops == []) = true) (hk : (P.stopKnobs == []) = true)
    (hp : P.plainKeys = c.plainKeys) (hh : P.stopsHeard = true) (i1 : P.inPlace f = c.inPlace) (i2 : P.unfollowed f = c.unfollowed) (i3 : P.recurses f = c.recurses) (i4 : P.varsNamed f = c.named)
    (rest : (c.wf (OpenSpec.ofChange s) && fn.params.all (P.readableRec ·) && namedTie P c.named s.vars && (c.stops == []) && (c.knobs == []) &&
      (c.maps == (fn.params.toList ++ s.plain.varTypes P).any (P.mapsRec ·)) && (c.ifaces == (fn.params.toList ++ s.plain.varTypes P).any (P.ifacesRec ·)) && (c.mapsOut == P.mapsAmong fn.resultTypes.toList) &&
      (c.loops == (fn.params.toList ++ s.plain.varTypes P).any (P.loopsFrom ·)) && (c.wideKeys == (fn.params.toList ++ s.plain.varTypes P ++ fn.resultTypes.toList).any (P.wideKeysFrom ·)) &&
      s.vars.all (P.varReadable ·) && fn.resultTypes.all (fun t => P.readableRec t && decide (t < P.types.size)) && (c.ifacesOut == fn.resultTypes.toList.any (P.ifacesRec ·)) && (c.loopsOut == fn.resultTypes.toList.any (P.loopsFrom ·)) && c.shortTexts.isNone && (c.lifted == false) && (some Make.cut == some c.make) &&
      (c.kinds == (if c.domain.isEmpty then [] else fn.params.toList.map fun t => match P.underlying t with | some (.int k) => some k | _ => none)) && (c.pinned == c.pinnedBy) &&
      (c.veiled == (fn.params.toList ++ s.plain.varTypes P ++ fn.resultTypes.toList).any (P.veiledRec ·)) && c.veiledFits P fn.params.toList (fn.params.toList ++ s.plain.varTypes P ++ fn.resultTypes.toList)) = true) : joinedFacts P f fn s c = true := by
  simp only [Bool.and_eq_true] at rest
  unfold joinedFacts
  rw [hm, hl, he, h2, h3, hst, hk, hp, hh, i1, i2, i3, i4]
  simp only [beq_self_eq_true, Bool.and_eq_true, Bool.and_true]
  have hkd := rest.1.1.1.2
  simp only [rest, and_self]
  exact ⟨⟨⟨⟨trivial, hkd⟩, trivial⟩, trivial⟩, trivial⟩
end Go.Proofs.YtffmanidnlbjjaaGreat
namespace Go.Proofs.YtffmanidnlbjjaaGreat
def ioS : List Nat := [48, 97, 55, 98, 52, 99, 101, 98, 48, 99, 48, 54, 102, 48, 55, 51, 50, 57, 56, 98, 53, 97, 50, 50, 51, 101, 97, 101, 99, 53, 56, 102, 98, 50, 49, 100, 97, 55, 98, 100, 49, 52, 102, 97, 55, 53, 101, 101, 56, 98, 98, 49, 55, 57, 56, 101, 100, 102, 51, 56, 52, 99, 54, 54]
def ioB : List Nat := [97, 116, 32, 104, 97, 110, 100, 99, 97, 114, 116, 47, 104, 97, 110, 100, 99, 97, 114, 116, 108, 97, 119, 49, 51, 46, 68, 111, 116, 115, 83, 101, 101, 110, 32, 104, 97, 110, 100, 99, 97, 114, 116, 47, 104, 97, 110, 100, 99, 97, 114, 116, 108, 97, 119, 49, 56, 46, 83, 104, 111, 112, 82, 117, 110, 115, 32, 104, 97, 110, 100, 99, 97, 114, 116, 47, 104, 97, 110, 100, 99, 97, 114, 116, 108, 97, 119, 49, 56, 46, 83, 104, 111, 112, 82, 111, 111, 109, 32, 104, 97, 110, 100, 99, 97, 114, 116, 47, 104, 97, 110, 100, 99, 97, 114, 116, 108, 97, 119, 49, 56, 46, 83, 104, 111, 112, 68, 111, 101, 115, 32, 104, 97, 110, 100, 99, 97, 114, 116, 47, 104, 97, 110, 100, 99, 97, 114, 116, 108, 97, 119, 49, 56, 46, 83, 104, 111, 112, 82, 101, 97, 100, 115, 32, 104, 97, 110, 100, 99, 97, 114, 116, 47, 104, 97, 110, 100, 99, 97, 114, 116, 108, 97, 119, 50, 50, 46, 67, 111, 100, 101, 99, 68, 101, 99, 111, 100, 101, 115, 32, 104, 97, 110, 100, 99, 97, 114, 116, 47, 104, 97, 110, 100, 99, 97, 114, 116, 108, 97, 119, 50, 50, 46, 67, 111, 100, 101, 99, 69, 110, 99, 111, 100, 101, 115, 32, 104, 97, 110, 100, 99, 97, 114, 116, 47, 104, 97, 110, 100, 99, 97, 114, 116, 108, 97, 119, 50, 50, 46, 67, 111, 100, 101, 99, 66, 97, 99, 107, 32, 104, 97, 110, 100, 99, 97, 114, 116, 47, 104, 97, 110, 100, 99, 97, 114, 116, 108, 97, 119, 50, 50, 46, 67, 111, 100, 101, 99, 66, 105, 103]
theorem io_eq : Tryz.prog.initOrder = String.ofList ("harness".toList ++ Char.ofNat 32 :: (ioS.map Char.ofNat ++ Char.ofNat 32 :: ("cut".toList ++ Char.ofNat 32 :: ioB.map Char.ofNat))) := by kernel_rfl
theorem io_sum : isSumSigns (ioS.map Char.ofNat) = true := by kernel_rfl
theorem io_hd : ∃ R, behindMainWord (wordsSigns Tryz.prog.initOrder.toList) = "cut".toList :: R := head_words io_eq io_sum (by decide)
theorem p_make : Tryz.prog.make = some .cut := make_of io_hd
theorem p_lifts : Tryz.prog.liftsFinal = false := lifts_of io_hd
theorem p_ll : Tryz.prog.laysLater = false := by kernel_rfl
theorem p_br : Tryz.prog.bearsReflect = false := by kernel_rfl
theorem p_df : Tryz.prog.doorFits [] = true := by kernel_rfl
theorem p_enter : Tryz.prog.mayEnter = true := enter_of io_hd p_ll p_br p_df
theorem p_rowed : mapsRowed Tryz.prog = true := by kernel_rfl
theorem p_stops : (Tryz.prog.stops == []) = true := by kernel_rfl
theorem p_knobs : (Tryz.prog.stopKnobs == []) = true := by kernel_rfl
theorem p_keys : Tryz.prog.plainKeys = false := by kernel_rfl
theorem p_heard : Tryz.prog.stopsHeard = true := by kernel_rfl
end Go.Proofs.YtffmanidnlbjjaaGreat
