/- Rules, plain words and walks that the claim leans on: Vu, Ea, Pread2, Pval, Vz, Vo, Popen, Popen2, Prows, Vp, Pcnt, Plat, Vx, Tk, Ga, Gb, Gc, Gd, Ge, Gf. -/
import Derived.Test.YtpekghaodmeemaaGreatZShopReads2
set_option linter.unusedSimpArgs false
set_option linter.unusedVariables false
set_option linter.unusedSimpArgs false
set_option linter.unusedVariables false
namespace Go.Proofs.YtpekghaodmeemaaGreat
open Go.RowKit
section
variable {P : Program} {n rr : Act → World → Prop} {ex : List (Nat × (Act → World → Prop))} {ds : List Deferred} {l : List Value} {w w0 : World} {S : Nat → Prop} {L : List Res} {r : Option Nat}
theorem y_nilf {ops : Array Oper} (h : n (frd ds l) w) : WL P ops (Qx (fun a w => n (wd ds a) w) (fun _ _ => False) []) [] (fr l) w := ⟨h⟩
theorem y_q_nil {ops : Array Oper} {C : World → Prop} (h : ∀ w', C w' → n (frd ds l) w') : WQ P ops C (fun a' => ∀ w', C w' → n (wd ds a') w') [] (fr l) := ⟨h⟩
theorem y_pre_n (m : Nat) {ops : Array Oper} {os : List Oper} (hnd : ndB (os.take m).toArray = true) (h : WL P ops (Qx (fun a w => WY r P ops (Qx n rr ex) (os.drop m) (wd ds a) w) (fun _ _ => False) []) (os.take m) (fr l) w) : WY r P ops (Qx n rr ex) os (frd ds l) w := by
  have := y_pre (os.take m) (os.drop m) hnd h
  rwa [List.take_append_drop] at this
theorem y_pre_nilf {ops : Array Oper} {rest : List Oper} (h : WY r P ops (Qx n rr ex) rest (frd ds l) w) : WL P ops (Qx (fun a w => WY r P ops (Qx n rr ex) rest (wd ds a) w) (fun _ _ => False) []) [] (fr l) w := ⟨h⟩
theorem y_any {id : Nat} {ops : Array Oper} {Q : Exit → Act → World → Prop} (hm : P.follows .mixedOrders = true) (hnd : ndB ops = true) (hl : ¬ LetsOut Q) (hq : ∀ e a w, Q e a w → Qx n rr ex e (wd ds a) w)
    (h : wpAny P .any ops Q ops.size (Array.replicate ops.size false) (fr l) w.drew) : (Code.region id ops true).wpIn (Fw r) 0 P (Qx n rr ex) (frd ds l) w :=
  wpIn_region_draw fun t => by
    simp only [Region.schedule, hm, Bool.true_or, if_true]
    exact opsIn_of (ds := ds) hnd hq hl _ _ _ (wpAny_sound ops.size t _ _ _ h)
theorem qxM {M : Act → World → Prop} (hM : ∀ a w, M a w → n (wd ds a) w) : ∀ e a w, Qx M (fun _ _ => False) [] e a w → Qx n rr ex e (wd ds a) w := fun e a w q => by
  cases e with
  | normal => exact hM _ _ q
  | exit i => exact q.elim
  | _ => exact q.elim
theorem y_mixed_c {id : Nat} {ops : List Oper} {Lc : List Res} (lt : List Nat) (m : Nat) (V : List Nat) (R : (Nat → Value) → World → Prop) (hm : P.follows .mixedOrders = true) (hs : Region.noSelect ops.toArray = true) (hB : preB .any ops.toArray lt m 0 (Array.replicate ops.length false) = true) (hml : m ≤ ops.length) (hnd : ndB ops.toArray = true)
    (hS : St S w0 w L) (h : ∀ w', St S w0 w' L → wpPre P ops.toArray (fun w => St S w0 w Lc) (fun a' => AnyE P .any ops.toArray (fun w => St S w0 w Lc) lt (Qx (MixM l V R) (fun _ _ => False) []) (ops.length - m) (setAll m 0 (Array.replicate ops.length false)) a' w') (ops.take m) (fr l))
    (hM : ∀ f w', R f w' → n (frd ds (clob l V f)) w') : (Code.region id ops.toArray true).wpIn (Fw r) 0 P (Qx n rr ex) (frd ds l) w := by
  refine y_any (Q := Qx (MixM l V R) (fun _ _ => False) []) hm hnd qx_out (qxM fun a w ⟨f, e, hR⟩ => by subst e; exact hM f w hR) (AnyE.any (C := fun w => St S w0 w Lc) (lt := lt) _ ?_)
  have hlen : (ops.take m).length = m := by simp; omega
  have := AnyE.pre (P := P) (md := .any) (ops := ops.toArray) (C := fun w => St S w0 w Lc) (lt := lt) (Q := Qx (MixM l V R) (fun _ _ => False) []) hs (fun _ _ _ => Qx_panic) (ops.length - m) w.drew (ops.take m) 0 (Array.replicate ops.length false) (fr l) (fun k _ => by simp [Array.getD_eq_getD_getElem?, Array.getElem?_replicate]; split <;> rfl) (fun j hj => by
    rw [List.getElem?_take, if_pos (by omega)]; simp) (by rw [hlen]; exact hB) (by rw [hlen]; exact h _ (hS.ext (Ext.drew w)))
  rw [hlen, show ops.length - m + m = ops.length by omega] at this
  simpa using this
/-- the head of a list whose tail is T -/
inductive App : List Res → List Res → List Res → Prop
  | nil {T : List Res} : App [] T T
  | cons {x : Res} {R T L : List Res} : App R T L → App (x :: R) T (x :: L)
theorem App.eq {R T L : List Res} (h : App R T L) : L = R ++ T := by
  induction h with
  | nil => rfl
  | cons _ ih => rw [ih]; rfl
theorem round_open {T R1 : List Res} {a : Act} {B : Act → World → List Res → Prop} (hS : St S w0 w L) (ha : App R1 T L) (h : ∀ W2 T2, St S w0 W2 (R1 ++ T2) → B a W2 T2) : AsgK S w0 T B a w :=
  ⟨R1, ha.eq ▸ hS, h⟩
theorem y_ex_nil {α : Type} {Q : Nat × α → Prop} : ∀ p ∈ ([] : List (Nat × α)), Q p := fun _ h => nomatch h
end
section
variable {P : Program} {n rr : Act → World → Prop} {ex : List (Nat × (Act → World → Prop))} {ds : List Deferred} {l : List Value} {w w0 : World} {S : Nat → Prop} {L : List Res} {r : Option Nat} {ops : Array Oper} {listed : Array Bool}
end
section
variable {P : Program} {l : List Value} {w : World} {d : Nat} {ty : TypeId} {pos : String} {aft : Array Edge}
end
section
variable {P : Program} {l : List Value} {w : World} {d : Nat} {ty : TypeId} {pos : String} {aft : Array Edge}
end
end Go.Proofs.YtpekghaodmeemaaGreat
set_option linter.unusedSimpArgs false
set_option linter.unusedVariables false
set_option maxHeartbeats 1000000
set_option maxRecDepth 100000
namespace Go.Proofs.YtpekghaodmeemaaGreat
open Go.RowKit

theorem fr_nil {w : World} {M : List Res} : FrOK w M [] := fun r hr => by cases hr
theorem fr_own {w : World} {M L : List Res} {r : Res} (h : r.reads = none) (hL : FrOK w M L) : FrOK w M (r :: L) := fun s hs g hg => by
  rcases List.mem_cons.1 hs with rfl | hs
  · rw [h] at hg; cases hg
  · exact hL s hs g hg
end Go.Proofs.YtpekghaodmeemaaGreat
namespace Go.Proofs.YtpekghaodmeemaaGreat
section
variable {e : Int} {xs : List Int} {m : Nat}
end
theorem snoc_cut {n : Nat} {a : List Int} (h : a.length = n + 1) : ∃ x y, a = x ++ [y] ∧ x.length = n := by
  refine ⟨a.take n, a.getD n 0, ?_, by simp [h]⟩
  rw [← take_succ_getD (by omega), List.take_of_length_le (by omega)]
theorem numN_inj : ∀ {n : Nat} {a b : List Int}, a.length = n → b.length = n → Byt a → Byt b → numN a = numN b → a = b
  | 0, a, b, ha, hb, _, _, _ => by rw [List.eq_nil_of_length_eq_zero ha, List.eq_nil_of_length_eq_zero hb]
  | n + 1, a, b, ha, hb, ba, bb, h => by
    obtain ⟨a, x, rfl, ha'⟩ := snoc_cut ha
    obtain ⟨b, y, rfl, hb'⟩ := snoc_cut hb
    have la := ba x (by simp)
    have lb := bb y (by simp)
    rw [numN_snoc, numN_snoc] at h
    have h1 : numN a = numN b := by omega
    have h2 : x = y := by omega
    rw [numN_inj ha' hb' (fun z hz => ba z (by simp [hz])) (fun z hz => bb z (by simp [hz])) h1, h2]
theorem words_inj {x y : List Int} (hx : KeyOk x) (hy : KeyOk y) : wordsL x = wordsL y ↔ x = y := by
  refine ⟨fun h => ?_, fun h => by rw [h]⟩
  simp only [wordsL, List.cons.injEq, and_true] at h
  obtain ⟨h1, h2, h3⟩ := h
  have a1 := hx.b1; have a2 := hy.b1; have a3 := hx.b11; have a4 := hy.b11
  simp only [headN, dotN] at h1 h3
  have hi := numN_inj (kitem_len hx.len) (kitem_len hy.len) hx.item hy.item (by omega)
  rw [key_mk hx, key_mk hy, hi]
  congr 1 <;> omega
end Go.Proofs.YtpekghaodmeemaaGreat
namespace Go.Proofs.YtpekghaodmeemaaGreat
def mkV (n : Nat) (t : List Int) : List Int := (n : Int) :: t
def atom0 : List Int := List.replicate 21 0
theorem mkV_len {n : Nat} {t : List Int} (h : t.length = 8) : (mkV n t).length = 9 := by simp [mkV, h]
section
variable {s : Nat} {e : Int} {xs : List Int}
end
def rankV (v : List Int) : Nat := kn v 0 * 18446744073709551616 + numN (vtext v)
theorem rank_lt {v : List Int} (h : ValOk v) : numN (vtext v) < 18446744073709551616 := numN_64 h.text (vtext_len h.len)
theorem over_rank {x y : List Int} (hx : ValOk x) (hy : ValOk y) : overV x y = decide (rankV y ≤ rankV x) := by
  have h1 := rank_lt hx
  have h2 := rank_lt hy
  unfold overV rankV
  by_cases h : kn y 0 < kn x 0
  · rw [decide_eq_true h, Bool.true_or, decide_eq_true (by omega)]
  · rw [decide_eq_false h, Bool.false_or]
    by_cases he : kn x 0 = kn y 0
    · rw [decide_eq_true he, Bool.true_and, he, ← decide_not]
      exact decide_eq_decide.2 (by omega)
    · rw [decide_eq_false he, Bool.false_and, decide_eq_false (by omega)]
theorem rank_inj {x y : List Int} (hx : ValOk x) (hy : ValOk y) (h : rankV x = rankV y) : x = y := by
  have h1 := rank_lt hx
  have h2 := rank_lt hy
  unfold rankV at h
  have h3 : kn x 0 = kn y 0 := by omega
  have h4 := numN_inj (vtext_len hx.len) (vtext_len hy.len) hx.text hy.text (by omega : numN (vtext x) = numN (vtext y))
  have cut : ∀ {v : List Int}, ValOk v → v = (kn v 0 : Int) :: vtext v := fun {v} hv => by
    have e0 := hv.e0
    have hl := hv.len
    match v, hl with
    | a :: l, _ => simp only [List.getD_cons_zero] at e0; rw [← e0]; rfl
  rw [cut hx, cut hy, h3, h4]
section
variable {x y z : List Int}
theorem more_ok (hx : ValOk x) (hy : ValOk y) : ValOk (moreV x y) := by unfold moreV; split <;> assumption
theorem more_or (x y : List Int) : moreV x y = x ∨ moreV x y = y := by unfold moreV; split <;> simp
end
end Go.Proofs.YtpekghaodmeemaaGreat
namespace Go.Proofs.YtpekghaodmeemaaGreat
open Go.ChangeShapes Go.WideShapes Go.ChangeAt Go.RowKit
section
variable {H : Type} {enc : TypeId × Value → H} {P : Program}
theorem trodAll_stays {W W' : World} {sp : Nat → Bool} (hl : laidOutB P = true) (hsame : ∀ p : MemPlace, p.block < W.heap.size → W.sameAt W' p) :
    ∀ (ts : List TypeId) (vs : List Value) (ds : List (DataW H)) (ps : List MemPlace), (ts.all fun t => P.readableRec t && decide (t < P.types.size)) = true → (∀ p ∈ ps, p.block < W.heap.size) → (∀ p ∈ ps, sp p.block = true) →
      DataW.TrodAll enc P W 0 (fun _ => true) true ts vs ds ps → DataW.TrodAll enc P W' 0 sp true ts vs ds ps
  | [], [], [], _, _, _, _, h => h
  | t :: ts, v :: vs, d :: ds, ps, hr, hlt, hsp, h => by
    obtain ⟨p, q, h1, h2, rfl⟩ := h
    simp only [List.all_cons, Bool.and_eq_true, decide_eq_true_eq] at hr
    exact ⟨p, q, WideElems.Trod_stays hl hr.1.1 hr.1.2 h1 (fun x hx => hsame x (hlt x (by simp [hx]))) (fun x hx => hsp x (by simp [hx])), trodAll_stays hl hsame ts vs ds q hr.2 (fun x hx => hlt x (by simp [hx])) (fun x hx => hsp x (by simp [hx])) h2, rfl⟩
  | [], _ :: _, _, _, _, _, _, h => by simp [DataW.TrodAll] at h
  | [], [], _ :: _, _, _, _, _, h => by simp [DataW.TrodAll] at h
  | _ :: _, [], _, _, _, _, _, h => by simp [DataW.TrodAll] at h
  | _ :: _, _ :: _, [], _, _, _, _, h => by simp [DataW.TrodAll] at h
theorem trodAll_len {W : World} {b : Nat} {sp : Nat → Bool} {hd : Bool} : ∀ (ts : List TypeId) (vs : List Value) (ds : List (DataW H)) (ps : List MemPlace), DataW.TrodAll enc P W b sp hd ts vs ds ps → ds.length = ts.length
  | [], [], [], _, _ => rfl
  | t :: ts, v :: vs, d :: ds, ps, h => by
    obtain ⟨p, q, h1, h2, rfl⟩ := h
    simp [trodAll_len ts vs ds q h2]
  | [], _ :: _, _, _, h => by simp [DataW.TrodAll] at h
  | [], [], _ :: _, _, h => by simp [DataW.TrodAll] at h
  | _ :: _, [], _, _, h => by simp [DataW.TrodAll] at h
  | _ :: _, _ :: _, [], _, h => by simp [DataW.TrodAll] at h
theorem post_of_below {f : Func} {s : ChangeSpec} {apart fresh handsOn again : Bool} {W W' : World} {args : Array Value} {v : Value} {ds gs : List (DataW H)} {before pa pv : List MemPlace}
    (hW : DataW.Whole enc P f.params.toList s.vars apart W args.toList ds gs before)
    (hres : ∀ (b : Nat) (sp : Nat → Bool) (hd : Bool), DataW.TrodAll enc P W' b sp hd f.resultTypes.toList (v.resultList f.resultTypes.size) (s.fn H (ds ++ gs)).results [])
    (hargs : ∀ sp : Nat → Bool, (∀ p ∈ before, sp p.block = true) → DataW.TrodAll enc P W' 0 sp true f.params.toList args.toList (s.fn H (ds ++ gs)).args pa)
    (hvars : ∀ sp : Nat → Bool, (∀ p ∈ before, sp p.block = true) → DataW.TrodVars enc P W' sp s.vars (s.fn H (ds ++ gs)).vars pv)
    (hps : before = pa ++ pv) (hb : Below W.heap.size W W')
    (hok : ∀ (j : Nat) (t : TypeId) (r : Value), f.resultTypes[j]? = some t → (v.resultList f.resultTypes.size)[j]? = some r → Value.okWide P W' .any 0 t r) :
    s.post enc P f apart fresh handsOn again W args v W' := by
  have hlt : ∀ p ∈ before, p.block < W.heap.size := fun p hp => hW.lt p hp
  have hold : ∀ p ∈ before, (fun b => decide (b < W.heap.size)) p.block = true := fun p hp => by simpa using hlt p hp
  refine ⟨ds, gs, before, [], pa, pv, hW, hres _ _ _, hargs _ hold, hvars _ hold, World.keptBut_mono (fun p hp => ⟨hp, ?_⟩) (hb.frame (· ∈ before)), fun _ => ?_⟩
  · rw [hps, List.mem_append] at hp
    exact Or.inr hp
  · obtain ⟨_, _, _, _, _, hz, hn⟩ := hW
    refine ⟨hok, _, _, ([] ++ pa) ++ pv, ⟨[] ++ pa, pv, trodAll_append (hargs _ (fun _ _ => rfl)) (hres _ _ _), hvars _ (fun _ _ => rfl), rfl, ?_, ?_⟩, ?_⟩
    · intro b off hp
      have hin : MemPlace.cell b off ∈ before := by rw [hps]; simpa using hp
      rw [hb.frozen (hlt _ hin)]
      exact hz b off hin
    · intro ha
      have := hn ha
      rw [hps] at this
      simpa using this
    · intro p hp _
      rw [hps]
      simpa using hp
end
theorem law_lifted {H : Type} {enc : TypeId × Value → H} {C : Checked} {os : Os} {k : FuncId} {fn : Func} {s : ChangeSpec} {conds : List PathCond} {tb : TypeId}
    (own : ownKnob C.prog.godebug = none) (started : os.Started) (noInit : C.prog.inits.idxOf? k = none) (hfn : C.prog.funcs[k]? = some fn)
    (i : Input) (fuel : Nat)
    (hv : (World.plainHolding C.prog os i).variablesB C.prog = true)
    (hr : ((World.plainHolding C.prog os i).heap.toList.drop C.prog.globals.size).take ((begin C.prog (fun _ _ => 0) default).world.heap.size - C.prog.globals.size) =
      (begin C.prog (fun _ _ => 0) default).world.heap.toList.drop C.prog.globals.size)
    (hok : Input.okWideB C.prog (World.plainHolding C.prog os i) k ⟨#[], i.args, []⟩ = true)
    (hpre : s.preB enc C.prog fn conds false (World.plainHolding C.prog os i).memory i.args fuel = true)
    (hsz : s.sizedB enc C.prog fn false (World.plainHolding C.prog os i).memory i.args fuel = true)
    (hl : laidOutB C.prog = true) (hvars : s.vars = []) (hpar : (fn.params.toList.all fun t => C.prog.readableRec t && decide (t < C.prog.types.size)) = true)
    (hspec : ∀ ds : List (DataW H), ds.length = fn.params.size → s.fn H ds = { results := [.lit (.bool true)], args := ds })
    (hres : fn.resultTypes = #[tb]) (hb : C.prog.underlying tb = some .bool)
    (walk : ∀ (W : World) (base : Nat) (args : Array Value) (ds : List (DataW H)) (ps : List MemPlace),
      (∀ (j : Nat) t v, fn.params[j]? = some t → args[j]? = some v → Value.okWide C.prog W .any base t v) →
      DataW.TrodAll enc C.prog W 0 (fun _ => true) true fn.params.toList args.toList ds ps →
      (∀ x ∈ DataW.weightsEach C.prog fn.params.toList ds, x ≤ reachBytes) →
      CallR C.prog k args W fun v W' => v = .bool true ∧ Ext W W') :
    ReturnsInHanded {} C os k .any (s.pre6 enc C.prog fn conds false) (s.post enc C.prog fn false true false false) := by
  refine returnsInHanded_of_change_sized (C := C) own started noInit hfn (ChangeSpec.witness6 (enc := enc) (C := C) false i fuel hv hr hok hpre hsz) ?_
  intro W base args ds gs before hval hW _ hwt _
  have hW' := hW
  obtain ⟨p, q, hA, hV, hpq, hfz, hnd⟩ := hW
  rw [hvars] at hV
  obtain ⟨rfl, rfl⟩ := trodVars_none hV
  have hlen := trodAll_len _ _ _ _ hA
  have hwt' : ∀ x ∈ DataW.weightsEach C.prog fn.params.toList ds, x ≤ reachBytes := by
    have e : s.plain.varTypes C.prog = [] := by simp [ChangeSpec.plain, DataSpec.varTypes, hvars]
    rw [e, List.append_nil, List.append_nil] at hwt
    simpa using hwt
  refine Calls.mono (walk W base args ds p hval hA hwt') fun e W' ⟨v, he, hv, hE⟩ => ⟨v, he, ?_⟩
  subst hv
  have hB := hE.below
  have hs := hspec ds (by simpa using hlen)
  have hlt : ∀ x ∈ before, x.block < W.heap.size := fun x hx => hW'.lt x hx
  have hpb : before = p := by rw [hpq]; simp
  refine post_of_below (pa := p) (pv := []) hW' ?_ ?_ ?_ ?_ hB ?_
  · intro b sp hd
    rw [hres, List.append_nil, hs]
    exact trodAll_mk1 (shut_bool hb true)
  · intro sp hsp
    rw [List.append_nil, hs]
    exact trodAll_stays hl (fun x hx => hB.same hx) _ _ _ _ hpar (fun x hx => hlt x (hpb ▸ hx)) (fun x hx => hsp x (hpb ▸ hx)) hA
  · intro sp _
    rw [List.append_nil, hs, hvars]
    rfl
  · rw [hpb]; simp
  · exact ok_one hres rfl (okWide_bool_mk hb true)
end Go.Proofs.YtpekghaodmeemaaGreat
namespace Go.Proofs.YtpekghaodmeemaaGreat
open Go.ChangeShapes Go.WideShapes Go.ChangeAt Go.RowKit
theorem add_at0 (g o k : Nat) : (⟨g, o, none⟩ : Addr).add k = ⟨g, o + k, none⟩ := by unfold Addr.add; split <;> simp_all
/-- what a cell may hold, in a world -/
def LK := World → Value → Prop
def LK.int (k : IntKind) : LK := fun _ v => ∃ n, v = .int k n ∧ (Lit.int k n).wf = true
def LK.bool : LK := fun _ v => ∃ b, v = .bool b
def AllOk (w : World) : List LK → List Value → Prop
  | [], [] => True
  | k :: ks, v :: vs => k w v ∧ AllOk w ks vs
  | _, _ => False
theorem AllOk.len {w : World} : ∀ {ks : List LK} {vs : List Value}, AllOk w ks vs → vs.length = ks.length
  | [], [], _ => rfl
  | _ :: _, _ :: _, h => by simp [AllOk.len h.2]
  | [], _ :: _, h => h.elim
  | _ :: _, [], h => h.elim
theorem AllOk.app {w : World} : ∀ {ks js : List LK} {vs us : List Value}, AllOk w ks vs → AllOk w js us → AllOk w (ks ++ js) (vs ++ us)
  | [], _, [], _, _, h => h
  | _ :: _, _, _ :: _, _, h, h' => ⟨h.1, AllOk.app h.2 h'⟩
  | [], _, _ :: _, _, h, _ => h.elim
  | _ :: _, _, [], _, h, _ => h.elim
/-- the cells of a type that holds no pointer -/
def Flat (P : Program) (t : TypeId) (ks : List LK) : Prop := ∀ {H : Type} (enc : TypeId × Value → H) (w : World) (base : Nat) (sp : Nat → Bool) (held : Bool) (fuel : Nat) (cs : List Value) (x : DataW H × List MemPlace),
  DataW.trod enc P w base sp held fuel t cs = some x → AllOk w ks cs
section
variable {P : Program} {t e : TypeId} {ks : List LK}
theorem flat_int {k : IntKind} (h : P.underlying t = some (.int k)) : Flat P t [.int k] := fun _ _ _ _ _ _ _ _ hx => by
  obtain ⟨n, rfl, _, hw⟩ := DataW.trod_int h hx
  exact ⟨⟨n, rfl, hw⟩, trivial⟩
theorem allOk_rep {w : World} {c : Nat} (hc : ks.length = c) : ∀ (n : Nat) (cs : List Value), cs.length = n * c → (∀ i, i < n → AllOk w ks ((cs.drop (i * c)).take c)) → AllOk w (List.replicate n ks).flatten cs
  | 0, cs, hl, _ => by
    have : cs = [] := List.eq_nil_of_length_eq_zero (by simpa using hl)
    subst this; trivial
  | n + 1, cs, hl, h => by
    rw [List.replicate_succ, List.flatten_cons, ← List.take_append_drop c cs]
    refine AllOk.app (by simpa using h 0 (by omega)) (allOk_rep hc n _ (by simp [hl, Nat.succ_mul]) fun i hi => ?_)
    have := h (i + 1) (by omega)
    rwa [List.drop_drop, Nat.add_comm c, ← Nat.succ_mul]
theorem flat_arr {n c : Nat} (h : P.underlying t = some (.array n e)) (he : Flat P e ks) (hc : ks.length = c) (hce : P.cellsOf e = c) (hct : P.cellsOf t = n * c) : Flat P t (List.replicate n ks).flatten := fun enc w base sp held fuel cs x hx => by
  obtain ⟨xs, m, _, _, hl, hxl, hi⟩ := DataW.trod_array h hx
  refine allOk_rep hc n cs (hl.trans hct) fun i hin => ?_
  have := hi i hin
  rw [hce] at this
  have hlt : i < xs.length := by omega
  rw [List.getElem?_eq_getElem hlt] at this
  exact he enc w base sp held m _ _ this
inductive FlatFs (P : Program) : List Field → Nat → List LK → Prop
  | nil {o : Nat} : FlatFs P [] o []
  | cons {f : Field} {fs : List Field} {o c : Nat} {k1 k2 : List LK} : f.offset = o → Flat P f.type k1 → k1.length = c → P.cellsOf f.type = c → FlatFs P fs (o + c) k2 → FlatFs P (f :: fs) o (k1 ++ k2)
theorem flatFs_run {H : Type} {enc : TypeId × Value → H} {w : World} {base : Nat} {sp : Nat → Bool} {held : Bool} {m : Nat} {fs : List Field} {o : Nat} {ks : List LK} (hf : FlatFs P fs o ks) :
    ∀ (cs : List Value), cs.length = o + ks.length → (∀ f ∈ fs, ∃ y, DataW.trod enc P w base sp held m f.type ((cs.drop f.offset).take (P.cellsOf f.type)) = some y) → AllOk w ks (cs.drop o) := by
  induction hf with
  | nil => intro cs hl _; rw [List.drop_eq_nil_of_le (by simp at hl; omega)]; trivial
  | @cons f fs o c k1 k2 ho hfl hk hc _ ih =>
    intro cs hl h
    have hl' : cs.length = o + c + k2.length := by simp at hl; omega
    rw [← List.take_append_drop c (cs.drop o), List.drop_drop]
    obtain ⟨y, hy⟩ := h f (by simp)
    rw [ho, hc] at hy
    exact AllOk.app (hfl _ _ _ _ _ _ _ _ hy) (ih cs hl' (fun g hg => h g (by simp [hg])))
theorem flat_struct {fs : Array Field} (h : P.underlying t = some (.struct fs)) (hf : FlatFs P fs.toList 0 ks) (hct : P.cellsOf t = ks.length) : Flat P t ks := fun enc w base sp held fuel cs x hx => by
  obtain ⟨xs, m, _, _, hl, hxl, hi⟩ := DataW.trod_struct h hx
  have := flatFs_run (enc := enc) (w := w) (base := base) (sp := sp) (held := held) (m := m) hf cs (by rw [hl, hct]; simp) (fun f hf => by
    obtain ⟨i, hi', e⟩ := List.getElem_of_mem hf
    have h1 := hi i f (by rw [← e]; simp at hi' ⊢)
    have hlt : i < xs.length := by simp at hi'; omega
    rw [List.getElem?_eq_getElem hlt] at h1
    exact ⟨_, h1⟩)
  simpa using this
end
section
variable {H : Type} {enc : TypeId × Value → H} {P : Program} {w : World} {base : Nat} {sp : Nat → Bool} {held : Bool} {t e : TypeId} {r : Reach} {b0 : Nat} {v : Value} {d : DataW H} {ps : List MemPlace} {ks : List LK}
/-- a struct or an array -/
theorem open_flat {dsc : TypeDesc} (hu : P.underlying t = some dsc) (hd : isAggD dsc = true) (hf : Flat P t ks) (hval : Value.okWide P w r b0 t v) (h : DataW.Trod enc P w base sp held t v d ps) : ∃ cs : List Value, v = .agg cs.toArray ∧ AllOk w ks cs := by
  have : ∃ cs : Array Value, v = .agg cs := by
    cases dsc <;> first | (cases hd; done) | (simp only [Value.okWide, hu] at hval; obtain ⟨cs, h1, _⟩ := hval; exact ⟨cs, h1⟩)
  obtain ⟨cs, rfl⟩ := this
  obtain ⟨n, hn⟩ := h
  exact ⟨cs.toList, by simp, hf _ _ _ _ _ _ _ _ hn⟩
/-- a slice's elements, out of the look at its cells -/
theorem slice_trod {sz : Nat} (hu : P.underlying t = some (.slice e)) (hf : Flat P e ks) (hk : ks.length = sz) (hce : P.cellsOf e = sz) (h0 : 0 < sz) {m : Nat} {cs : List Value} (hm : DataW.trod enc P w base sp held m t cs = some (d, ps)) :
    ∃ A n c xs, cs = [.slice A n c] ∧ n ≤ c ∧ c ≤ maxLen ∧ Rd w A sz n xs ∧ (∀ i, i < n → AllOk w ks ((xs.drop (i * sz)).take sz)) ∧ (n = 0 ∨ ∃ es rs, d = .slice es rs ∧ es.length = n) := by
  rcases DataW.trod_slice hu hm with ⟨e1, _⟩ | ⟨a, len, cap, elems, rest, n, _, e1, hx, hb, hlc, hcm, hel, hcells, _, _⟩
  · exact ⟨none, 0, 0, [], e1, Nat.le_refl _, Nat.zero_le _, ⟨by simp, fun h => absurd h (by omega)⟩, fun i hi => absurd hi (by omega), .inl rfl⟩
  · subst e1
    simp only [Prod.mk.injEq] at hx
    -- the elements' cells, one by one
    have hone : ∀ i, i < len → ∃ cs : List Value, cs.length = sz ∧ AllOk w ks cs ∧ ∀ j, j < sz → w.cell? ((a.add (i * sz)).add j) = cs[j]? := fun i hi => by
      have h1 := hcells i hi
      rw [hce] at h1
      have hlt : i < elems.length := by omega
      rw [List.getElem?_eq_getElem hlt] at h1
      cases hc : w.cells? base (a.add (i * sz)) sz with
      | none => rw [hc] at h1; cases h1
      | some cs =>
        rw [hc] at h1
        obtain ⟨_, hl, hj⟩ := World.cells?_some hc
        exact ⟨cs, hl, hf _ _ _ _ _ _ _ _ h1, hj⟩
    have hrow : ∀ n, n ≤ len → ∃ xs : List Value, xs.length = n * sz ∧ (∀ i, i < n → AllOk w ks ((xs.drop (i * sz)).take sz)) ∧ ∀ i j, i < n → j < sz → w.cell? ((a.add (i * sz)).add j) = xs[i * sz + j]? := by
      intro n
      induction n with
      | zero => exact fun _ => ⟨[], by simp, fun i hi => absurd hi (by omega), fun i j hi => absurd hi (by omega)⟩
      | succ n ih =>
        intro hn
        obtain ⟨xs, hl, hok, hc⟩ := ih (by omega)
        obtain ⟨cs, hcl, hcok, hcc⟩ := hone n (by omega)
        refine ⟨xs ++ cs, by simp [hl, hcl, Nat.succ_mul], fun i hi => ?_, fun i j hi hj => ?_⟩
        · rcases Nat.lt_or_ge i n with h | h
          · have h2 : i * sz + sz ≤ n * sz := by rw [← Nat.succ_mul]; exact Nat.mul_le_mul_right _ h
            rw [List.drop_append_of_le_length (by omega), List.take_append_of_le_length (by simp; omega)]
            exact hok i h
          · obtain rfl : i = n := by omega
            rw [List.drop_append, hl, List.drop_eq_nil_of_le (by omega)]
            simp only [Nat.sub_self, List.drop_zero, List.nil_append]
            rwa [List.take_of_length_le (by omega)]
        · rcases Nat.lt_or_ge i n with h | h
          · have h2 : i * sz + sz ≤ n * sz := by rw [← Nat.succ_mul]; exact Nat.mul_le_mul_right _ h
            rw [List.getElem?_append_left (by omega)]
            exact hc i j h hj
          · obtain rfl : i = n := by omega
            rw [List.getElem?_append_right (by omega), hl, Nat.add_sub_cancel_left]
            exact hcc j hj
    obtain ⟨xs, hl, hok, hc⟩ := hrow len (Nat.le_refl _)
    refine ⟨some a, len, cap, xs, rfl, hlc, hcm, ⟨hl, fun hn => ?_⟩, hok, .inr ⟨_, _, hx.1, by simpa using hel⟩⟩
    -- the address is a plain one
    have h0' := hc 0 0 hn h0
    have hlt : 0 < xs.length := by rw [hl]; exact Nat.mul_pos hn h0
    obtain ⟨b, o, spot⟩ := a
    simp only [Nat.zero_mul, Nat.add_zero, Addr.add, if_true] at h0'
    rw [List.getElem?_eq_getElem hlt] at h0'
    have hsp : spot = none := by
      unfold World.cell? at h0'
      split at h0'
      · split at h0'
        · cases h0'
        · rename_i hs; simpa using hs
      · cases h0'
    subst hsp
    refine ⟨b, o, rfl, World.block_lt_of_cell? _ _ h0', fun j u hu => ?_⟩
    have hj := (List.getElem?_eq_some_iff.1 hu).1
    have hdm := Nat.div_add_mod j sz
    have h3 := hc (j / sz) (j % sz) (by rw [hl] at hj; exact Nat.div_lt_of_lt_mul (by rw [Nat.mul_comm]; exact hj)) (Nat.mod_lt _ h0)
    have hdm' : j / sz * sz + j % sz = j := by rw [Nat.mul_comm]; exact hdm
    rw [add_at0, add_at0, Nat.add_assoc, hdm'] at h3
    rw [← hu, ← h3]
theorem open_slice {sz : Nat} (hu : P.underlying t = some (.slice e)) (hf : Flat P e ks) (hk : ks.length = sz) (hce : P.cellsOf e = sz) (h0 : 0 < sz) (hval : Value.okWide P w r b0 t v) (h : DataW.Trod enc P w base sp held t v d ps) :
    ∃ A n c xs, v = .slice A n c ∧ n ≤ c ∧ c ≤ maxLen ∧ Rd w A sz n xs ∧ (∀ i, i < n → AllOk w ks ((xs.drop (i * sz)).take sz)) ∧ (n = 0 ∨ ∃ es rs, d = .slice es rs ∧ es.length = n) := by
  obtain ⟨A, len, cap, rfl⟩ := okWide_slice hu hval
  obtain ⟨m, hm⟩ := h
  obtain ⟨A', n, c, xs, e1, h⟩ := slice_trod hu hf hk hce h0 hm
  simp [Value.cells] at e1
  obtain ⟨rfl, rfl, rfl⟩ := e1
  exact ⟨_, _, _, xs, rfl, h⟩
/-- the weight of a slice -/
theorem slice_weight {t e : TypeId} {ts : List TypeId} {d : DataW H} {ds : List (DataW H)} {n by' : Nat} (hu : P.underlying t = some (.slice e)) (hby : P.bytesOf e = by') (h : ∀ x ∈ DataW.weightsEach P (t :: ts) (d :: ds), x ≤ reachBytes) (hd : n = 0 ∨ ∃ es rs, d = .slice es rs ∧ es.length = n) : n * by' ≤ reachBytes := by
  rcases hd with rfl | ⟨es, rs, rfl, rfl⟩
  · simp
  · have := h ((es.length + rs.length) * P.bytesOf e) (by simp [DataW.weightsEach, DataW.weights, hu])
    rw [hby] at this
    exact Nat.le_trans (Nat.mul_le_mul_right _ (by omega)) this
theorem rest_weight {t : TypeId} {ts : List TypeId} {d : DataW H} {ds : List (DataW H)} (h : ∀ x ∈ DataW.weightsEach P (t :: ts) (d :: ds), x ≤ reachBytes) : ∀ x ∈ DataW.weightsEach P ts ds, x ≤ reachBytes := fun x hx => h x (by simp [DataW.weightsEach, hx])
end
end Go.Proofs.YtpekghaodmeemaaGreat
namespace Go.Proofs.YtpekghaodmeemaaGreat
theorem allOk_zi {w : World} : ∀ {ks : List IntKind} {cs : List Value}, AllOk w (ks.map LK.int) cs → ∃ xs : List Int, cs = zi ks xs ∧ xs.length = ks.length ∧ ∀ i k, ks[i]? = some k → (Lit.int k (xs.getD i 0)).wf = true
  | [], [], _ => ⟨[], rfl, rfl, fun i k h => by simp at h⟩
  | [], _ :: _, h => h.elim
  | k :: ks, [], h => h.elim
  | k :: ks, v :: vs, ⟨⟨n, hn, hw⟩, h⟩ => by
    obtain ⟨xs, rfl, hl, hx⟩ := allOk_zi h
    refine ⟨n :: xs, by rw [hn]; rfl, by simp [hl], fun i k' hi => ?_⟩
    rcases i with _ | i
    · simp at hi; subst hi; simpa using hw
    · simpa using hx i k' (by simpa using hi)
theorem allOk_of {w : World} : ∀ {ks : List IntKind} {xs : List Int}, xs.length = ks.length → (∀ i k, ks[i]? = some k → (Lit.int k (xs.getD i 0)).wf = true) → AllOk w (ks.map LK.int) (zi ks xs)
  | [], [], _, _ => trivial
  | [], _ :: _, h, _ => by simp at h
  | _ :: _, [], h, _ => by simp at h
  | k :: ks, x :: xs, h, hx => ⟨⟨x, rfl, by simpa using hx 0 k rfl⟩, allOk_of (by simpa using h) fun i k' hi => by simpa using hx (i + 1) k' (by simpa using hi)⟩
theorem zi_inj : ∀ {ks : List IntKind} {xs ys : List Int}, xs.length = ks.length → ys.length = ks.length → zi ks xs = zi ks ys → xs = ys
  | [], [], [], _, _, _ => rfl
  | [], _ :: _, _, h, _, _ => by simp at h
  | [], [], _ :: _, _, h, _ => by simp at h
  | _ :: _, [], _, h, _, _ => by simp at h
  | _ :: _, _ :: _, [], _, h, _ => by simp at h
  | k :: ks, x :: xs, y :: ys, h1, h2, h => by
    simp only [zi, List.zipWith_cons_cons, List.cons.injEq, Value.int.injEq, true_and] at h
    rw [h.1, zi_inj (by simpa using h1) (by simpa using h2) h.2]
theorem wf_u8 {x : Int} (h : (Lit.int .u8 x).wf = true) : x = (x.toNat : Int) ∧ x.toNat < 256 := by have := bounds_u8 h; omega
theorem wf_u16 {x : Int} (h : (Lit.int .u16 x).wf = true) : x = (x.toNat : Int) ∧ x.toNat < 65536 := by have := bounds_u16 h; omega
theorem wf_u32 {x : Int} (h : (Lit.int .u32 x).wf = true) : x = (x.toNat : Int) ∧ x.toNat < 4294967296 := by have := bounds_u32 h; omega
theorem wf_u64 {x : Int} (h : (Lit.int .u64 x).wf = true) : x = (x.toNat : Int) ∧ x.toNat < 18446744073709551616 := by have := bounds_u64 h; omega
theorem key_open {w : World} {cs : List Value} (h : AllOk w (keyKs.map LK.int) cs) : ∃ x, cs = zi keyKs x ∧ KeyOk x := by
  obtain ⟨x, rfl, hl, hx⟩ := allOk_zi h
  refine ⟨x, rfl, hl, (wf_u8 (hx 0 _ rfl)).1, (wf_u8 (hx 0 _ rfl)).2, (wf_u16 (hx 1 _ rfl)).1, (wf_u16 (hx 1 _ rfl)).2, ?_, (wf_u8 (hx 10 _ rfl)).1, (wf_u8 (hx 10 _ rfl)).2, (wf_u32 (hx 11 _ rfl)).1, (wf_u32 (hx 11 _ rfl)).2⟩
  have hl : x.length = 12 := hl
  have hb : ∀ i, 2 ≤ i → i < 10 → 0 ≤ x.getD i 0 ∧ x.getD i 0 ≤ 255 := fun i h1 h2 => by
    have : keyKs[i]? = some .u8 := by
      have : i = 2 ∨ i = 3 ∨ i = 4 ∨ i = 5 ∨ i = 6 ∨ i = 7 ∨ i = 8 ∨ i = 9 := by omega
      rcases this with rfl | rfl | rfl | rfl | rfl | rfl | rfl | rfl <;> rfl
    exact bounds_u8 (hx i _ this)
  intro y hy
  obtain ⟨j, hj, rfl⟩ := List.getElem_of_mem hy
  have hj8 : j < 8 := by rw [kitem_len hl] at hj; exact hj
  have := hb (2 + j) (by omega) (by omega)
  rw [List.getD_eq_getElem?_getD, List.getElem?_eq_getElem (by omega)] at this
  simpa [kitem] using this
end Go.Proofs.YtpekghaodmeemaaGreat
namespace Go.Proofs.YtpekghaodmeemaaGreat
theorem val_open {w : World} {cs : List Value} (h : AllOk w (valKs.map LK.int) cs) : ∃ v, cs = zi valKs v ∧ ValOk v := by
  obtain ⟨x, rfl, hl, hx⟩ := allOk_zi h
  have hl : x.length = 9 := hl
  refine ⟨x, rfl, hl, (wf_u64 (hx 0 _ rfl)).1, (wf_u64 (hx 0 _ rfl)).2, ?_⟩
  have hb : ∀ i, 1 ≤ i → i < 9 → 0 ≤ x.getD i 0 ∧ x.getD i 0 ≤ 255 := fun i h1 h2 => by
    have : valKs[i]? = some .u8 := by
      have : i = 1 ∨ i = 2 ∨ i = 3 ∨ i = 4 ∨ i = 5 ∨ i = 6 ∨ i = 7 ∨ i = 8 := by omega
      rcases this with rfl | rfl | rfl | rfl | rfl | rfl | rfl | rfl <;> rfl
    exact bounds_u8 (hx i _ this)
  intro y hy
  obtain ⟨j, hj, rfl⟩ := List.getElem_of_mem hy
  have hj8 : j < 8 := by rw [vtext_len hl] at hj; exact hj
  have := hb (1 + j) (by omega) (by omega)
  rw [List.getD_eq_getElem?_getD, List.getElem?_eq_getElem (by omega)] at this
  simpa [vtext, Nat.add_comm] using this
theorem atom_open {w : World} {cs : List Value} (h : AllOk w (atomKs.map LK.int) cs) : ∃ a, cs = zi atomKs a ∧ AtomOk a := by
  obtain ⟨x, rfl, hl, hx⟩ := allOk_zi h
  have hl : x.length = 21 := hl
  have hk : AllOk w (keyKs.map LK.int) (zi keyKs (akey x)) := allOk_of (by simp [akey, hl]) fun i k hi => by
    have h12 : i < 12 := (List.getElem?_eq_some_iff.1 hi).1
    have e : (akey x).getD i 0 = x.getD i 0 := by simp [akey, List.getD_eq_getElem?_getD, List.getElem?_take_of_lt h12]
    rw [e]
    refine hx i k ?_
    have : atomKs = keyKs ++ valKs := rfl
    rw [this, List.getElem?_append_left h12]; exact hi
  have hv : AllOk w (valKs.map LK.int) (zi valKs (aval x)) := allOk_of (by simp [aval, hl]) fun i k hi => by
    have h9 : i < 9 := (List.getElem?_eq_some_iff.1 hi).1
    have e : (aval x).getD i 0 = x.getD (12 + i) 0 := by simp [aval, List.getD_eq_getElem?_getD]
    rw [e]
    refine hx (12 + i) k ?_
    have : atomKs = keyKs ++ valKs := rfl
    rw [this, List.getElem?_append_right (by simp)]; simpa using hi
  obtain ⟨k, ek, hk'⟩ := key_open hk
  obtain ⟨v, ev, hv'⟩ := val_open hv
  have ek' : akey x = k := zi_inj (ks := keyKs) (by simp [akey, hl]) hk'.len ek
  have ev' : aval x = v := zi_inj (ks := valKs) (by simp [aval, hl]) hv'.len ev
  exact ⟨x, rfl, hl, by rw [ek']; exact hk', by rw [ev']; exact hv'⟩
end Go.Proofs.YtpekghaodmeemaaGreat
namespace Go.Proofs.YtpekghaodmeemaaGreat
/-- the cells of a row of things -/
def rowsOf {α : Type} (cells : α → List Value) (l : List α) : List Value := (l.map cells).flatten
section
variable {α : Type} {cells : α → List Value} {sz : Nat}
theorem rowsOf_cons (a : α) (l : List α) : rowsOf cells (a :: l) = cells a ++ rowsOf cells l := rfl
theorem rowsOf_app (l m : List α) : rowsOf cells (l ++ m) = rowsOf cells l ++ rowsOf cells m := by simp [rowsOf]
theorem rows_len (h : ∀ a, (cells a).length = sz) : ∀ l : List α, (rowsOf cells l).length = l.length * sz
  | [] => by simp [rowsOf]
  | a :: l => by rw [rowsOf_cons, List.length_append, rows_len h l, h a, List.length_cons, Nat.succ_mul, Nat.add_comm]
theorem rows_drop (h : ∀ a, (cells a).length = sz) (l : List α) (k : Nat) : (rowsOf cells l).drop (k * sz) = rowsOf cells (l.drop k) := by
  rcases Nat.lt_or_ge l.length k with hk | hk
  · have h1 : l.length * sz ≤ k * sz := Nat.mul_le_mul_right _ (by omega)
    rw [List.drop_eq_nil_of_le (by rw [rows_len h]; exact h1), List.drop_eq_nil_of_le (by omega)]; rfl
  · conv => lhs; rw [← List.take_append_drop k l, rowsOf_app]
    exact List.drop_left' (by rw [rows_len h, List.length_take, Nat.min_eq_left hk])
theorem rows_get (h : ∀ a, (cells a).length = sz) (d : α) {l : List α} {k : Nat} (hk : k < l.length) : ((rowsOf cells l).drop (k * sz)).take sz = cells (l.getD k d) := by
  rw [rows_drop h, List.drop_eq_getElem_cons hk, rowsOf_cons, List.take_left' (h _)]
  simp [List.getD_eq_getElem?_getD, List.getElem?_eq_getElem hk]
theorem rows_at (h : ∀ a, (cells a).length = sz) (d : α) {l : List α} {k j : Nat} (hk : k < l.length) (hj : j < sz) : (rowsOf cells l)[k * sz + j]? = (cells (l.getD k d))[j]? := by
  rw [← rows_get h d hk, List.getElem?_take_of_lt hj, List.getElem?_drop]
theorem rows_open {w : World} {ks : List LK} {ok : α → Prop} (hsz : ∀ cs, AllOk w ks cs → ∃ a, cs = cells a ∧ ok a) : ∀ (n : Nat) (xs : List Value), xs.length = n * sz → (∀ i, i < n → AllOk w ks ((xs.drop (i * sz)).take sz)) → ∃ l : List α, l.length = n ∧ xs = rowsOf cells l ∧ ∀ a ∈ l, ok a
  | 0, xs, hl, _ => ⟨[], rfl, List.eq_nil_of_length_eq_zero (by simpa using hl), by simp⟩
  | n + 1, xs, hl, h => by
    obtain ⟨a, ha, hok⟩ := hsz _ (by simpa using h 0 (by omega))
    obtain ⟨l, hll, hx, hl2⟩ := rows_open hsz n (xs.drop sz) (by simp [hl, Nat.succ_mul]) fun i hi => by
      have := h (i + 1) (by omega)
      rwa [List.drop_drop, Nat.add_comm sz, ← Nat.succ_mul]
    refine ⟨a :: l, by simp [hll], ?_, by intro b hb; rcases List.mem_cons.1 hb with rfl | hb; exact hok; exact hl2 b hb⟩
    rw [rowsOf_cons, ← ha, ← hx, List.take_append_drop]
end
end Go.Proofs.YtpekghaodmeemaaGreat
set_option linter.unusedSimpArgs false
set_option linter.unusedVariables false
namespace Go.Proofs.YtpekghaodmeemaaGreat
open Go.RowKit
def ChP (P : Program) (D : Nat) (t : TypeId) (ks : List IntKind) : Prop := ∀ d, D ≤ d → ∀ (em : Bool) (w : World) (c : Array Value) (o : Nat) (xs : List Int), xs.length = ks.length → CAt c o (zi ks xs) →
  ∃ a, (part t c o).run P w = .ok a w ∧ (Instr.checkKey em d t a).run P w = .ok () w
def ChV (P : Program) (D : Nat) (t : TypeId) (ks : List IntKind) : Prop := ∀ d, D ≤ d → ∀ (em : Bool) (w : World) (c : Array Value) (xs : List Int), xs.length = ks.length → CAt c 0 (zi ks xs) → (Instr.checkKey em d t (.agg c)).run P w = .ok () w
theorem ch_int {P : Program} {t : TypeId} {k : IntKind} (h : P.underlying t = some (.int k)) : ChP P 1 t [k] := by
  intro d hd em w c o xs hx h1
  match xs, hx with
  | [x], _ =>
    obtain ⟨d, rfl⟩ : ∃ e, d = e + 1 := ⟨d - 1, by omega⟩
    refine ⟨.int k x, part_one h rfl (by simpa using h1 0 _ rfl), ?_⟩
    simp [Instr.checkKey, run_underlying h]
theorem ch_part {P : Program} {D : Nat} {t : TypeId} {ks : List IntKind} {dsc : TypeDesc} {sz by' : Nat} {z : Value} (hv : ChV P D t ks) (hu : P.underlying t = some dsc) (hd : isAggD dsc = true) (hi : TI P t sz by' z) (hs : ks.length = sz) : ChP P D t ks := by
  intro d hd' em w c o xs hx h1
  have e1 := h1.extract
  rw [zi_len hx, hs] at e1
  exact ⟨_, part_agg hu hd hi, hv d hd' em w _ xs hx e1⟩
inductive FieldsCh (P : Program) (D : Nat) : List Field → Nat → List IntKind → Prop
  | nil {o : Nat} : FieldsCh P D [] o []
  | cons {f : Field} {fs : List Field} {o : Nat} {k1 k2 : List IntKind} {D' : Nat} : f.offset = o → f.name ≠ "_" → ChP P D' f.type k1 → D' ≤ D → FieldsCh P D fs (o + k1.length) k2 → FieldsCh P D (f :: fs) o (k1 ++ k2)
theorem ch_struct {P : Program} {D : Nat} {t : TypeId} {fs : Array Field} {ks : List IntKind} (h : P.underlying t = some (.struct fs)) (hf : FieldsCh P D fs.toList 0 ks) : ChV P (D + 1) t ks := by
  intro d hd em w c xs hx h1
  obtain ⟨d, rfl⟩ : ∃ e, d = e + 1 := ⟨d - 1, by omega⟩
  have key : ∀ {l : List Field} {o : Nat} {ks : List IntKind}, FieldsCh P D l o ks → ∀ (xs : List Int), xs.length = ks.length → CAt c o (zi ks xs) →
      ((forIn l PUnit.unit fun f _ => do
        if f.name ≠ "_" then do
          let a ← part f.type c f.offset
          Instr.checkKey em d f.type a
          pure (ForInStep.yield PUnit.unit)
        else pure (ForInStep.yield PUnit.unit)) : Sem PUnit).run P w = .ok PUnit.unit w := by
    intro l o ks hf
    induction hf with
    | nil => intro xs _ _; simp
    | @cons f fs o k1 k2 D' ho hn hp hD _ ih =>
      intro xs hx h1
      obtain ⟨xa, xb, rfl, hxa⟩ : ∃ xa xb, xs = xa ++ xb ∧ xa.length = k1.length := ⟨xs.take k1.length, xs.drop k1.length, (List.take_append_drop _ _).symm, by simp at hx ⊢; omega⟩
      rw [zi_app hxa] at h1
      obtain ⟨h1a, h1b⟩ := h1.app
      rw [zi_len hxa] at h1b
      subst ho
      obtain ⟨a, ra, rc⟩ := hp d (by omega) em w c _ xa hxa h1a
      have hi := ih xb (by simp at hx; omega) h1b
      simp only [List.forIn_cons, if_pos hn, Sem.run_bind, ra, rc, Result.andThen_ok, Sem.run_pure]
      exact hi
  have hk := key hf xs hx h1
  simp only [Instr.checkKey, Sem.run_bind, run_underlying h, Result.andThen_ok]
  rw [← Array.forIn_toList]
  simp only [hk, Result.andThen_ok, Sem.run_pure]
theorem ch_arr {P : Program} {D : Nat} {t e : TypeId} {n : Nat} {ks : List IntKind} {sz by' : Nat} {z : Value} (h : P.underlying t = some (.array n e)) (hi : TI P e sz by' z) (hs : ks.length = sz) (hp : ChP P D e ks) : ChV P (D + 1) t (List.replicate n ks).flatten := by
  intro d hd em w c xs hx h1
  obtain ⟨d, rfl⟩ : ∃ e, d = e + 1 := ⟨d - 1, by omega⟩
  obtain ⟨i, hi, rfl, _, _⟩ := hi
  simp only [Instr.checkKey, Sem.run_bind, run_underlying h, Result.andThen_ok]
  have hsz : (sizeOf e).run P w = .ok i.size w := by simp [sizeOf, typeInfo, hi]
  rw [Std.Legacy.Range.forIn_eq_forIn_range']
  simp only [Std.Legacy.Range.size, Nat.sub_zero, Nat.add_sub_cancel, Nat.div_one]
  have key : ∀ (m s : Nat) (xs : List Int), xs.length = (List.replicate m ks).flatten.length → CAt c (s * i.size) (zi (List.replicate m ks).flatten xs) →
      ((forIn (List.range' s m) PUnit.unit fun j _ => do
        let z ← sizeOf e
        let a ← part e c (j * z)
        Instr.checkKey em d e a
        pure (ForInStep.yield PUnit.unit)) : Sem PUnit).run P w = .ok PUnit.unit w := by
    intro m
    induction m with
    | zero => intro s xs _ _; simp
    | succ m ih =>
      intro s xs hx h1
      rw [List.replicate_succ, List.flatten_cons] at hx h1
      obtain ⟨xa, xb, rfl, hxa⟩ : ∃ xa xb, xs = xa ++ xb ∧ xa.length = ks.length := ⟨xs.take ks.length, xs.drop ks.length, (List.take_append_drop _ _).symm, by simp at hx ⊢; omega⟩
      rw [zi_app hxa] at h1
      obtain ⟨h1a, h1b⟩ := h1.app
      rw [zi_len hxa, hs, ← Nat.succ_mul] at h1b
      obtain ⟨a, ra, rc⟩ := hp d (by omega) em w c _ xa hxa h1a
      have hI := ih (s + 1) xb (by simp at hx ⊢; omega) h1b
      simp only [List.range'_succ, List.forIn_cons, Sem.run_bind, hsz, Sem.run_pure, ra, rc, Result.andThen_ok]
      exact hI
  have hk := key n 0 xs hx (by simpa using h1)
  simp only [hk, Result.andThen_ok, Sem.run_pure]
structure KeyT (P : Program) (t : TypeId) {κ : Type} [DecidableEq κ] (kv : κ → Value) (ok : κ → Prop) : Prop where
  chk : ∀ (em : Bool) (w : World) (a : κ), ok a → (Instr.checkKey em 10000 t (kv a)).run P w = .ok () w
  eq : ∀ (w : World) (a b : κ), ok a → ok b → (Op.equal t (kv a) (kv b)).run P w = .ok (decide (a = b)) w
  now : ∃ kd, P.underlying t = some kd ∧ ((∀ a b, ok a → ok b → Instr.sameNow kd (kv a) (kv b) = none) ∨ ∀ a b, ok a → ok b → Instr.sameNow kd (kv a) (kv b) = some (decide (a = b)))
  same : ∀ a, Instr.sameBits 10000 (kv a) (kv a) = true
theorem sameBits_ints (n : Nat) (vs : List Value) (h : ∀ v ∈ vs, ∃ k x, v = .int k x) : Instr.sameBits (n + 1) (.agg vs.toArray) (.agg vs.toArray) = true := by
  simp only [Instr.sameBits, beq_self_eq_true, Bool.true_and, List.all_eq_true]
  rintro ⟨a, b⟩ hab
  simp only [List.zip_eq_zipWith] at hab
  obtain ⟨i, hi, e⟩ := List.getElem_of_mem hab
  simp only [List.getElem_zipWith, Prod.mk.injEq] at e
  obtain ⟨rfl, rfl⟩ := e
  obtain ⟨k, x, hx⟩ := h (vs.toArray.toList[i]'(by simp at hi; simpa using hi)) (by simp)
  simp only [List.toList_toArray] at hx ⊢
  rw [hx]
  cases n <;> simp [Instr.sameBits]
theorem keyT_agg {P : Program} {t : TypeId} {D D' : Nat} {ks : List IntKind} {dsc : TypeDesc} (hu : P.underlying t = some dsc) (hd : isAggD dsc = true) (hc : ChV P D t ks) (he : EqV P D' t ks) (h1 : D ≤ 10000) (h2 : D' ≤ 10000) : KeyT P t (fun xs : List Int => .agg (zi ks xs).toArray) (fun xs => xs.length = ks.length) := by
  refine ⟨fun em w a ha => hc 10000 h1 em w _ a ha (CAt.of_list _), fun w a b ha hb => run_eql_agg he h2 rfl rfl ha hb w, ⟨dsc, hu, .inl fun a b _ _ => ?_⟩, fun a => sameBits_ints 9999 _ ?_⟩
  · cases dsc <;> first | (cases hd; done) | rfl
  · intro v hv
    simp only [zi] at hv
    obtain ⟨i, hi, rfl⟩ := List.getElem_of_mem hv
    simp
section
variable {P : Program} {κ : Type}
def mEs (kv : κ → Value) (s : Nat) : List (κ × Value) → List MapEntry
  | [] => []
  | (a, v) :: D => ⟨kv a, v, s⟩ :: mEs kv (s + 1) D
def mObj (kv : κ → Value) (D : List (κ × Value)) : Obj := .map (mEs kv 0 D).toArray D.length
def MOk (ok : κ → Prop) (D : List (κ × Value)) : Prop := ∀ p ∈ D, ok p.1
theorem mEs_len (kv : κ → Value) : ∀ (s : Nat) (D : List (κ × Value)), (mEs kv s D).length = D.length
  | _, [] => rfl
  | s, (a, v) :: D => by simp [mEs, mEs_len kv (s + 1) D]
theorem mEs_get (kv : κ → Value) : ∀ (s : Nat) (D : List (κ × Value)) (i : Nat), (mEs kv s D)[i]? = D[i]?.map fun p => ⟨kv p.1, p.2, s + i⟩
  | _, [], _ => by simp [mEs]
  | s, (a, v) :: D, 0 => by simp [mEs]
  | s, (a, v) :: D, i + 1 => by simp only [mEs, List.getElem?_cons_succ, mEs_get kv (s + 1) D i]; congr 1; funext p; congr 1; omega
theorem mEs_app (kv : κ → Value) : ∀ (s : Nat) (D E : List (κ × Value)), mEs kv s (D ++ E) = mEs kv s D ++ mEs kv (s + D.length) E
  | s, [], E => by simp [mEs]
  | s, (a, v) :: D, E => by simp only [List.cons_append, mEs, mEs_app kv (s + 1) D E, List.length_cons]; rw [show s + 1 + D.length = s + (D.length + 1) by omega]
theorem mEs_find (kv : κ → Value) : ∀ (s : Nat) (D : List (κ × Value)) (i : Nat), (mEs kv s D).find? (fun e => e.born == s + i) = D[i]?.map fun p => ⟨kv p.1, p.2, s + i⟩
  | _, [], _ => by simp [mEs]
  | s, (a, v) :: D, 0 => by simp [mEs]
  | s, (a, v) :: D, i + 1 => by
    have h := mEs_find kv (s + 1) D i
    rw [show s + 1 + i = s + (i + 1) by omega] at h
    have hne : (s == s + (i + 1)) = false := by simp
    simp only [mEs, List.find?_cons, hne, List.getElem?_cons_succ]
    exact h
theorem mEs_findIdx (kv : κ → Value) : ∀ (s : Nat) (D : List (κ × Value)) (i : Nat), i < D.length → (mEs kv s D).findIdx? (fun e => (e.born : Int) == ((s + i : Nat) : Int)) = some i
  | _, [], _, h => absurd h (by simp)
  | s, (a, v) :: D, 0, _ => by simp [mEs, List.findIdx?_cons]
  | s, (a, v) :: D, i + 1, h => by
    have h2 := mEs_findIdx kv (s + 1) D i (by simpa using h)
    rw [show s + 1 + i = s + (i + 1) by omega] at h2
    have hne : ((s : Int) == ((s + (i + 1) : Nat) : Int)) = false := by simp; omega
    simp only [mEs, List.findIdx?_cons, hne, Bool.false_eq_true, if_false, h2, Option.map_some]
theorem run_getObj_mp {kv : κ → Value} {w : World} {g : Nat} {D : List (κ × Value)} (h : w.heap[g]? = some (mObj kv D)) : (getObj g).run P w = .ok (mObj kv D) w := MapKept.run_getObj_map h
theorem run_getObj_it {w : World} {r a b : Nat} {m : Option Nat} {s : Array Nat} (h : w.heap[r]? = some (.mapIter m a s b)) : (getObj r).run P w = .ok (.mapIter m a s b) w := by simp [getObj, Sem.run, h]
theorem run_setObj_it {w : World} {r a b : Nat} {m : Option Nat} {s : Array Nat} (o : Obj) (h : w.heap[r]? = some (.mapIter m a s b)) : (setObj r o).run P w = .ok () { w with heap := w.heap.setIfInBounds r o } := by simp [setObj, Sem.run, h]
end
section
variable {κ : Type} [DecidableEq κ]
def mfind (a : κ) : List (κ × Value) → Nat → Option (Nat × Value)
  | [], _ => none
  | (b, v) :: D, i => if a = b then some (i, v) else mfind a D (i + 1)
def mget (a : κ) : List (κ × Value) → Option Value
  | [] => none
  | (b, v) :: D => if a = b then some v else mget a D
def mput (a : κ) (v : Value) : List (κ × Value) → List (κ × Value)
  | [] => [(a, v)]
  | (b, u) :: D => if a = b then (a, v) :: D else (b, u) :: mput a v D
theorem mfind_get (a : κ) : ∀ (D : List (κ × Value)) (i : Nat), (mfind a D i).map (·.2) = mget a D
  | [], _ => rfl
  | (b, v) :: D, i => by simp only [mfind, mget]; split; rfl; exact mfind_get a D (i + 1)
theorem mput_none {a : κ} {v : Value} : ∀ {D : List (κ × Value)} {i : Nat}, mfind a D i = none → mput a v D = D ++ [(a, v)]
  | [], _, _ => rfl
  | (b, u) :: D, i, h => by
    simp only [mfind] at h
    split at h
    · cases h
    · rename_i hne
      simp only [mput, if_neg hne, List.cons_append, mput_none h]
theorem mput_some {kv : κ → Value} {a : κ} {v : Value} : ∀ {D : List (κ × Value)} {s i j : Nat} {u : Value}, mfind a D s = some (i, u) → i = s + j → j < D.length ∧ (mEs kv 0 D)[j]?.map (·.key) = some (kv a) ∧ ∀ q, mEs kv q (mput a v D) = (mEs kv q D).modify j fun e => { e with key := kv a, val := v }
  | [], _, _, _, _, h, _ => by cases h
  | (b, x) :: D, s, i, j, u, h, hj => by
    simp only [mfind] at h
    split at h
    · rename_i he
      subst he
      simp only [Option.some.injEq, Prod.mk.injEq] at h
      obtain rfl : j = 0 := by omega
      exact ⟨by simp, by simp [mEs], fun q => by simp [mput, mEs]⟩
    · rename_i hne
      have hs : s + 1 ≤ i := by
        have : ∀ (D : List (κ × Value)) (s i : Nat) (u : Value), mfind a D s = some (i, u) → s ≤ i := by
          intro D
          induction D with
          | nil => intro s i u h; cases h
          | cons p D ih =>
            intro s i u h
            simp only [mfind] at h
            split at h
            · simp at h; omega
            · have := ih _ _ _ h; omega
        exact this _ _ _ _ h
      obtain ⟨j, rfl⟩ : ∃ k, j = k + 1 := ⟨j - 1, by omega⟩
      obtain ⟨h1, h2, h3⟩ := mput_some (kv := kv) (v := v) h (show i = (s + 1) + j by omega)
      refine ⟨by simp; omega, ?_, fun q => ?_⟩
      · rw [mEs_get] at h2 ⊢
        simpa using h2
      · simp only [mput, if_neg hne, mEs, h3, List.modify_succ_cons]
theorem mput_ok {ok : κ → Prop} {a : κ} {v : Value} (ha : ok a) : ∀ {D : List (κ × Value)}, MOk ok D → MOk ok (mput a v D)
  | [], _ => by intro p hp; simp [mput] at hp; subst hp; exact ha
  | (b, u) :: D, h => by
    have hD : MOk ok D := fun p hp => h p (by simp [hp])
    intro p hp
    simp only [mput] at hp
    split at hp
    · rcases List.mem_cons.1 hp with rfl | hp
      · exact ha
      · exact hD p hp
    · rcases List.mem_cons.1 hp with rfl | hp
      · exact h _ (by simp)
      · exact mput_ok ha hD p hp
theorem mget_put (a b : κ) (v : Value) : ∀ (D : List (κ × Value)), mget b (mput a v D) = if b = a then some v else mget b D
  | [] => by simp [mput, mget]
  | (c, u) :: D => by
    simp only [mput]
    by_cases hac : a = c
    · subst hac; simp only [if_true, mget]; split <;> rfl
    · simp only [if_neg hac, mget, mget_put a b v D]
      by_cases hbc : b = c
      · subst hbc; simp [Ne.symm hac]
      · simp [hbc]
end
section
variable {P : Program} {κ : Type} [DecidableEq κ] {t : TypeId} {kv : κ → Value} {ok : κ → Prop}
theorem run_findKey (K : KeyT P t kv ok) (w : World) {a : κ} (ha : ok a) {D : List (κ × Value)} (hD : MOk ok D) : (Instr.findKey t (kv a) (mEs kv 0 D)).run P w = .ok (mfind a D 0) w := by
  have ask : ∀ (D : List (κ × Value)) (s q : Nat), MOk ok D → (Instr.findAsking t (kv a) (mEs kv q D) s).run P w = .ok (mfind a D s) w := by
    intro D
    induction D with
    | nil => intro s q _; simp [mEs, Instr.findAsking, mfind]
    | cons p D ih =>
      intro s q hD
      obtain ⟨b, v⟩ := p
      have hb : ok b := hD (b, v) (by simp)
      simp only [mEs, Instr.findAsking, Sem.run_bind, K.eq w a b ha hb, Result.andThen_ok, mfind]
      by_cases e : a = b
      · simp [e]
      · simp only [e, decide_false, Bool.false_eq_true, if_false]
        exact ih (s + 1) (q + 1) (fun p hp => hD p (by simp [hp]))
  obtain ⟨kd, hu, hk⟩ := K.now
  simp only [Instr.findKey, Sem.run_bind, run_underlying hu, Result.andThen_ok]
  rcases hk with hk | hk
  · rcases D with _ | ⟨⟨b, v⟩, D⟩
    · simp [mEs, Instr.findNow, mfind]
    · have hb : ok b := hD (b, v) (by simp)
      simp only [mEs, Instr.findNow, hk a b ha hb]
      exact ask ((b, v) :: D) 0 0 hD
  · have now : ∀ (D : List (κ × Value)) (s q : Nat), MOk ok D → Instr.findNow kd (kv a) (mEs kv q D) s = some (mfind a D s) := by
      intro D
      induction D with
      | nil => intro s q _; rfl
      | cons p D ih =>
        intro s q hD
        obtain ⟨b, v⟩ := p
        simp only [mEs, Instr.findNow, hk a b ha (hD (b, v) (by simp)), mfind]
        by_cases e : a = b
        · simp [e]
        · simp only [e, decide_false, if_false]
          exact ih (s + 1) (q + 1) (fun p hp => hD p (by simp [hp]))
    rw [now D 0 0 hD]
    simp
end
section
variable {P : Program} {κ : Type} {kt et T : TypeId} {kv : κ → Value}
variable {ops : Array Oper} {Q : Exit → Act → World → Prop} {rest : List Oper} {l : List Value} {w : World} {d : Nat} {ty : TypeId} {pos : String} {aft : Array Edge}
variable {S : Nat → Prop} {w0 : World} {L L' : List Res}
theorem setObj_keep (w : World) (g : Nat) (o : Obj) : Keep (fun k => some g = some k) w { w with heap := w.heap.setIfInBounds g o } :=
  ⟨rfl, rfl, rfl, by simp, fun k _ hk => by
    show (w.heap.setIfInBounds g o)[k]? = _
    rw [Array.getElem?_setIfInBounds_ne]
    exact fun e => hk (by rw [e]), Nat.le_refl _⟩
theorem m_makeMap {T : TypeId} (kv : κ → Value) (hS : St S w0 w L) (h : ∀ w' g, St S w0 w' (.obj g (mObj kv []) :: L) → WL P ops Q rest (fr (l.set d (.map (some g)))) w') : WL P ops Q (⟨some d, .makeMap T none, ty, pos, aft, none⟩ :: rest) (fr l) w :=
  s_val (w' := w.alloc (.map #[] 0)) (v := .map (some w.heap.size)) (by simp [execOp, run_makeMap]) (h _ _ (hS.alloc _))
theorem m_makeMap_n {T kt et : TypeId} (kv : κ → Value) {x : Operand} {k : IntKind} {n : Int} (hT : P.underlying T = some (.map kt et)) (hx : opv l x = .int k n := by rfl) (hS : St S w0 w L) (h : ∀ w' g, St S w0 w' (.obj g (mObj kv []) :: L) → WL P ops Q rest (fr (l.set d (.map (some g)))) w') : WL P ops Q (⟨some d, .makeMap T (some x), ty, pos, aft, none⟩ :: rest) (fr l) w :=
  s_val (w' := w.alloc (.map #[] 0)) (v := .map (some w.heap.size)) (by simp [execOp, Instr.makeMap, run_underlying hT, hx, asInt, asIntOf, newObj]; rfl) (h _ _ (hS.alloc _))
theorem s_len_map {x : Operand} {kt et : TypeId} {g : Nat} {D : List (κ × Value)} (hT : P.underlying T = some (.map kt et)) (hx : opv l x = .map (some g) := by rfl) (hS : St S w0 w L) (hm : Has L (.obj g (mObj kv D)) := by repeat (first | exact Has.head | apply Has.tail)) : Go1 P l w ⟨some d, .call { callee := .builtin .len, args := #[x], argTypes := #[T] }, ty, pos, aft, none⟩ (.int .i64 (D.length : Int)) := by
  unfold Go1
  have hgo := run_getObj_mp (P := P) (w := w) (hS.has hm)
  simp only [mObj] at hgo
  simp [execOp, resolve, invoke, builtin, Builtin.len_, hx, run_underlying hT, hgo, mEs_len, goInt]
/-- an iterator over a map: what it has seen -/
def itObj (g n : Nat) (seen : List Nat) : Obj := .mapIter (some g) n seen.toArray n
theorem m_range {x : Operand} {g : Nat} {D : List (κ × Value)} (hT : P.underlying T = some (.map kt et)) (hx : opv l x = .map (some g) := by rfl) (hS : St S w0 w L) (hm : Has L (.obj g (mObj kv D)) := by repeat (first | exact Has.head | apply Has.tail)) (h : ∀ w' r, St S w0 w' (.obj r (itObj g D.length []) :: L) → WL P ops Q rest (fr (l.set d (.pointer (some ⟨r, 0, none⟩)))) w') : WL P ops Q (⟨some d, .range T x, ty, pos, aft, none⟩ :: rest) (fr l) w := by
  have hr := run_range_map (P := P) w T kt et g _ _ hT (show w.heap[g]? = some (mObj kv D) from hS.has hm)
  exact s_val (w' := w.alloc (.mapIter (some g) D.length #[] D.length)) (v := .pointer (some ⟨w.heap.size, 0, none⟩)) (by simp [execOp, hx, hr]) (h _ _ (hS.alloc _))
theorem run_next_at {w : World} {g r : Nat} {D : List (κ × Value)} {seen : List Nat} {tt : TypeId} (hg : w.heap[g]? = some (mObj kv D)) (hr : w.heap[r]? = some (itObj g D.length seen)) :
    ((∀ i, i < D.length → i ∈ seen) ∧ (Instr.next (.pointer (some ⟨r, 0, none⟩)) false tt).run P w = .ok (.tuple #[.bool false]) w) ∨
    ∃ i p, D[i]? = some p ∧ i ∉ seen ∧ ∃ w1 : World, Ext w w1 ∧ (Instr.next (.pointer (some ⟨r, 0, none⟩)) false tt).run P w = .ok (.tuple #[.bool true, kv p.1, p.2]) { w1 with heap := w1.heap.setIfInBounds r (itObj g D.length (seen ++ [i])) } := by
  have hgo := run_getObj_mp (P := P) hg
  have hro := run_getObj_it (P := P) (show w.heap[r]? = some (.mapIter (some g) D.length seen.toArray D.length) from hr)
  have hborn : ∀ x ∈ (mEs kv 0 D), x.born < D.length := fun x hx => by
    obtain ⟨i, hi, rfl⟩ := List.getElem_of_mem hx
    have := mEs_get kv 0 D i
    rw [List.getElem?_eq_getElem hi] at this
    rw [mEs_len] at hi
    rw [List.getElem?_eq_getElem hi] at this
    simp at this
    rw [this]; simpa using hi
  have hf := next_test_false seen.toArray (mEs kv 0 D).toArray D.length D.length (fun x hx => hborn x (by simpa using hx)) (Nat.le_refl _)
  simp only [mObj] at hgo
  simp only [Instr.next, Sem.run_bind, hro, Result.andThen_ok, hgo, hf, Bool.false_eq_true, if_false]
  have hmem : ∀ x ∈ (Array.filter (fun e => !seen.toArray.contains e.born) (mEs kv 0 D).toArray).toList, x ∈ mEs kv 0 D ∧ x.born ∉ seen := fun x hx => by
    simp at hx; exact hx
  have hall : ∀ x ∈ mEs kv 0 D, x.born ∉ seen → x ∈ (Array.filter (fun e => !seen.toArray.contains e.born) (mEs kv 0 D).toArray).toList := fun x hx hn => by
    simp; exact ⟨hx, hn⟩
  generalize Array.filter (fun e => !seen.toArray.contains e.born) (mEs kv 0 D).toArray = M at hmem hall ⊢
  have e1 : M.filter (fun x => decide (x.born < D.length)) = M := Array.filter_eq_self.2 (fun x hx => by simpa using hborn x (hmem x (by simpa using hx)).1)
  have e2 : M.filter (fun x => decide (x.born ≥ D.length)) = #[] := by
    rw [Array.filter_eq_empty_iff]
    intro x hx
    have := hborn x (hmem x (by simpa using hx)).1
    simp
    omega
  simp only [e1, e2, Array.append_empty]
  by_cases h0 : M.size = 0
  · left
    have : M = #[] := Array.eq_empty_of_size_eq_zero h0
    subst this
    refine ⟨fun i hi => ?_, by simp [choose, Sem.run, Question.forced]⟩
    by_cases hs : i ∈ seen
    · exact hs
    · have hx := mEs_get kv 0 D i
      rw [List.getElem?_eq_getElem hi] at hx
      simp only [Option.map_some, Nat.zero_add] at hx
      have := hall _ (List.mem_of_getElem? hx) hs
      simp at this
  · right
    have hne : M.isEmpty = false := by simp [Array.isEmpty, h0]
    simp only [hne, Bool.false_eq_true, if_false, Array.empty_append, Array.size_map]
    have hch : ∃ (j : Nat) (w1 : World), j < M.size ∧ Ext w w1 ∧ w1.heap = w.heap ∧ (choose (Question.mapNext M.size)).run P w = .ok j w1 := by
      by_cases hf : M.size ≤ 1
      · exact ⟨0, w, by omega, Ext.rfl', rfl, by simp [choose, Sem.run, Question.forced, hf]⟩
      · exact ⟨w.tape w.drawn (Question.mapNext M.size) % M.size, w.drew, Nat.mod_lt _ (by omega), Ext.drew w, rfl, by
          simp only [choose, Sem.run, Question.forced, decide_eq_true_eq, hf, if_false, Question.cut]; rfl⟩
    obtain ⟨j, w1, hj, hE, hh, hrun⟩ := hch
    have hj' := hmem M[j] (by simp)
    obtain ⟨i, hi, hx⟩ := List.getElem_of_mem hj'.1
    have hx2 := mEs_get kv 0 D i
    rw [List.getElem?_eq_getElem hi, hx] at hx2
    have hiD : i < D.length := by rwa [mEs_len] at hi
    rw [List.getElem?_eq_getElem hiD] at hx2
    simp only [Option.map_some, Nat.zero_add, Option.some.injEq] at hx2
    refine ⟨i, D[i], by simp [hiD], by have := hj'.2; rw [hx2] at this; exact this, w1, hE, ?_⟩
    simp only [hrun, Array.getElem?_map, Array.getElem?_eq_getElem hj, Option.map_some, Sem.run_bind, Result.andThen_ok]
    rw [hx2]
    have hso := run_setObj_it (P := P) (w := w1) (itObj g D.length (seen ++ [i])) (by rw [hh]; exact hr)
    simp only [itObj] at hso ⊢
    simp [hso]
theorem m_next {LI : Nat → List Res} {x : Operand} {g r : Nat} {D : List (κ × Value)} {seen : List Nat} (hx : opv l x = .pointer (some ⟨r, 0, none⟩) := by rfl) (hS : St S w0 w L) (hm : Has L (.obj g (mObj kv D)) := by repeat (first | exact Has.head | apply Has.tail))
    (hu : ∀ i, Upd L (.obj r (itObj g D.length seen)) (.obj r (itObj g D.length (seen ++ [i]))) (LI i))
    (h1 : (∀ i, i < D.length → i ∈ seen) → WL P ops Q rest (fr (l.set d (.tuple #[.bool false]))) w)
    (h2 : ∀ w' i p, D[i]? = some p → i ∉ seen → St S w0 w' (LI i) → WL P ops Q rest (fr (l.set d (.tuple #[.bool true, kv p.1, p.2]))) w') : WL P ops Q (⟨some d, .next x false, ty, pos, aft, none⟩ :: rest) (fr l) w := by
  have hr := hS.holds _ (hu 0).mem
  have hlt : r < w.heap.size := (Array.getElem?_eq_some_iff.1 (show w.heap[r]? = some _ from hr)).1
  rcases run_next_at (P := P) (tt := ty) (show w.heap[g]? = some (mObj kv D) from hS.has hm) hr with ⟨hall, hrun⟩ | ⟨i, p, hp, hn, w1, hE, hrun⟩
  · exact s_val (v := .tuple #[.bool false]) (w' := w) (by simp [execOp, hx, hrun]) (h1 hall)
  · refine s_val (v := .tuple #[.bool true, kv p.1, p.2]) (w' := { w1 with heap := w1.heap.setIfInBounds r (itObj g D.length (seen ++ [i])) }) (by simp [execOp, hx, hrun]) (h2 _ i p hp hn (hS.turn (hu i) (hE.keep.trans (setObj_keep w1 r _)) ?_ ?_ ?_))
    · show (w1.heap.setIfInBounds r _)[r]? = _
      have := hE.size
      rw [Array.getElem?_setIfInBounds_self_of_lt (by omega)]
    · intro k hk; simp [Res.own] at hk ⊢; exact .inl hk
    · intro k hk; simp [Res.reads] at hk
theorem m_entry {x : Operand} {g r n i : Nat} {D : List (κ × Value)} {seen : List Nat} {p : κ × Value} (hx : opv l x = .pointer (some ⟨r, 0, none⟩) := by rfl) (hn : n = D.length) (hp : D[i]? = some p) (hS : St S w0 w L) (hm : Has L (.obj g (mObj kv D)) := by repeat (first | exact Has.head | apply Has.tail)) (hr : Has L (.obj r (itObj g n (seen ++ [i]))) := by repeat (first | exact Has.head | apply Has.tail)) : Go1 P l w ⟨some d, .entry x, ty, pos, aft, none⟩ (.tuple #[kv p.1, p.2]) := by
  subst hn
  unfold Go1
  have hgo := run_getObj_mp (P := P) (w := w) (hS.has hm)
  have hro := run_getObj_it (P := P) (show w.heap[r]? = some (.mapIter (some g) D.length (seen ++ [i]).toArray D.length) from hS.has hr)
  simp only [mObj] at hgo
  have hfi := mEs_find kv 0 D i
  rw [hp, Nat.zero_add] at hfi
  have hbk : (seen ++ [i]).toArray.back? = some i := by simp
  simp only [execOp, hx, Instr.entry, Sem.run_bind, hro, Result.andThen_ok, hbk, hgo]
  simp [hfi]
end
section
variable {P : Program} {κ : Type} [DecidableEq κ] {kt et T : TypeId} {kv : κ → Value} {ok : κ → Prop}
variable {ops : Array Oper} {Q : Exit → Act → World → Prop} {rest : List Oper} {l : List Value} {w : World} {d : Nat} {ty : TypeId} {pos : String} {aft : Array Edge}
variable {S : Nat → Prop} {w0 : World} {L L' : List Res}
theorem run_lookup (K : KeyT P kt kv ok) (hT : P.underlying T = some (.map kt et)) {sz by' : Nat} {z : Value} (hi : TI P et sz by' z) {g : Nat} {D : List (κ × Value)} (hg : w.heap[g]? = some (mObj kv D)) {a : κ} (ha : ok a) (hD : MOk ok D) (c : Bool) :
    (Instr.lookup T (.map (some g)) (kv a) c).run P w = .ok (if c then .tuple #[(mget a D).getD z, .bool (mget a D).isSome] else (mget a D).getD z) w := by
  obtain ⟨i, hi, _, _, hz⟩ := hi
  have hf := run_findKey K w ha hD
  have hgo := run_getObj_mp (P := P) hg
  simp only [mObj] at hgo
  simp only [Instr.lookup, Sem.run_bind, run_underlying hT, Result.andThen_ok, hgo, Sem.run_pure, K.chk _ w a ha, hf]
  rw [← mfind_get a D 0]
  cases mfind a D 0 with
  | none => cases c <;> simp [zeroValue, typeInfo, hi, hz]
  | some p => cases c <;> simp
theorem m_lookup {x y : Operand} {sz by' : Nat} {z : Value} {g : Nat} {D : List (κ × Value)} {a : κ} (K : KeyT P kt kv ok) (hT : P.underlying T = some (.map kt et)) (hi : TI P et sz by' z) (hx : opv l x = .map (some g) := by rfl) (hy : opv l y = kv a) (ha : ok a) (hS : St S w0 w L) (hm : Has L (.obj g (mObj kv D)) := by repeat (first | exact Has.head | apply Has.tail)) (hD : MOk ok D) : Go1 P l w ⟨some d, .lookup T x y false, ty, pos, aft, none⟩ ((mget a D).getD z) := by
  unfold Go1
  have h := run_lookup K hT hi (w := w) (hS.has hm) ha hD false
  simp [execOp, hx, hy, h]
theorem m_lookup_ok {x y : Operand} {sz by' : Nat} {z : Value} {g : Nat} {D : List (κ × Value)} {a : κ} (K : KeyT P kt kv ok) (hT : P.underlying T = some (.map kt et)) (hi : TI P et sz by' z) (hx : opv l x = .map (some g) := by rfl) (hy : opv l y = kv a) (ha : ok a) (hS : St S w0 w L) (hm : Has L (.obj g (mObj kv D)) := by repeat (first | exact Has.head | apply Has.tail)) (hD : MOk ok D) : Go1 P l w ⟨some d, .lookup T x y true, ty, pos, aft, none⟩ (.tuple #[(mget a D).getD z, .bool (mget a D).isSome]) := by
  unfold Go1
  have h := run_lookup K hT hi (w := w) (hS.has hm) ha hD true
  simp [execOp, hx, hy, h]
theorem run_mapUpdate (K : KeyT P kt kv ok) (hT : P.underlying T = some (.map kt et)) {g : Nat} {D : List (κ × Value)} (hg : w.heap[g]? = some (mObj kv D)) {a : κ} {v : Value} (ha : ok a) (hD : MOk ok D) :
    (Instr.mapUpdate T (.map (some g)) (kv a) v).run P w = .ok () { w with heap := w.heap.setIfInBounds g (mObj kv (mput a v D)) } := by
  have hf := run_findKey K w ha hD
  have hgo := run_getObj_mp (P := P) hg
  have hlt : g < w.heap.size := (Array.getElem?_eq_some_iff.1 hg).1
  simp only [mObj] at hgo
  simp only [Instr.mapUpdate, Sem.run_bind, run_underlying hT, Result.andThen_ok, hgo, K.chk _ w a ha, hf]
  cases hfd : mfind a D 0 with
  | none =>
    simp only [mObj, mput_none hfd, mEs_app, List.length_append, List.length_cons, List.length_nil, Nat.zero_add]
    have hso := MapKept.run_setObj_map (P := P) (Obj.map (mEs kv 0 D ++ [({ key := kv a, val := v, born := D.length } : MapEntry)]).toArray (D.length + 1)) hg
    simpa [mEs] using hso
  | some p =>
    obtain ⟨i, u⟩ := p
    obtain ⟨h1, h2, h3⟩ := mput_some (kv := kv) (v := v) hfd (show i = 0 + i by omega)
    have hl : (mput a v D).length = D.length := by
      have := congrArg List.length (h3 0)
      simpa [mEs_len] using this
    have h2' : Option.map (fun e => e.key) (mEs kv 0 D)[i]? = some (kv a) := h2
    simp only [mObj, List.getElem?_toArray, h2', Option.getD_some, Instr.keyThatStays, K.same, if_true, Sem.run_pure, Result.andThen_ok, h3, hl]
    have hso := MapKept.run_setObj_map (P := P) (.map ((mEs kv 0 D).modify i fun e => { e with key := kv a, val := v }).toArray D.length) hg
    simpa [List.modify_toArray] using hso
theorem m_mapUpdate {x y z : Operand} {g : Nat} {D : List (κ × Value)} {a : κ} {v : Value} (K : KeyT P kt kv ok) (hT : P.underlying T = some (.map kt et)) (hx : opv l x = .map (some g) := by rfl) (hy : opv l y = kv a) (hz : opv l z = v := by rfl) (ha : ok a) (hS : St S w0 w L) (hd : Upd L (.obj g (mObj kv D)) (.obj g (mObj kv (mput a v D))) L' := by repeat (first | exact Upd.head | apply Upd.tail)) (hD : MOk ok D)
    (h : ∀ w', St S w0 w' L' → WL P ops Q rest (fr l) w') : WL P ops Q (⟨none, .mapUpdate T x y z, ty, pos, aft, none⟩ :: rest) (fr l) w := by
  have hg := hS.holds _ hd.mem
  have hlt : g < w.heap.size := (Array.getElem?_eq_some_iff.1 (show w.heap[g]? = some _ from hg)).1
  have hr := run_mapUpdate K hT (w := w) (v := v) hg ha hD
  refine s_unit (w' := { w with heap := w.heap.setIfInBounds g (mObj kv (mput a v D)) }) (by simp [execOp, hx, hy, hz, hr]) (h _ (hS.turn hd (setObj_keep w g _) ?_ ?_ ?_))
  · show (w.heap.setIfInBounds g _)[g]? = _
    simp [hlt]
  · intro k hk; simp [Res.own] at hk ⊢; exact .inl hk
  · intro k hk; simp [Res.reads] at hk
end
section
variable {κ : Type} [DecidableEq κ]
def midx (a : κ) : List (κ × Value) → Nat
  | [] => 0
  | (b, _) :: D => if a = b then 0 else midx a D + 1
theorem mfind_idx {a : κ} : ∀ {D : List (κ × Value)} {s i : Nat} {u : Value}, mfind a D s = some (i, u) → i = s + midx a D
  | [], _, _, _, h => by cases h
  | (b, v) :: D, s, i, u, h => by
    simp only [mfind] at h
    simp only [midx]
    split at h
    · rename_i e; simp only [Option.some.injEq, Prod.mk.injEq] at h; rw [if_pos e]; omega
    · rename_i e; have := mfind_idx h; rw [if_neg e]; omega
theorem mfind_none_idx {a : κ} : ∀ {D : List (κ × Value)} {s : Nat}, mfind a D s = none → midx a D = D.length
  | [], _, _ => rfl
  | (b, v) :: D, s, h => by
    simp only [mfind] at h
    split at h
    · cases h
    · rename_i e; simp only [midx, if_neg e, List.length_cons, mfind_none_idx h]
theorem mput_put (a : κ) (u v : Value) : ∀ (D : List (κ × Value)), mput a v (mput a u D) = mput a v D
  | [] => by simp [mput]
  | (b, x) :: D => by
    by_cases e : a = b
    · simp [mput, e]
    · simp [mput, e, mput_put a u v D]
theorem mput_mid {a : κ} {u : Value} : ∀ (D : List (κ × Value)), mfind a (mput a u D) 0 = some (midx a D, u) := by
  have : ∀ (D : List (κ × Value)) (s : Nat), mfind a (mput a u D) s = some (s + midx a D, u) := by
    intro D
    induction D with
    | nil => intro s; simp [mput, mfind, midx]
    | cons p D ih =>
      intro s
      obtain ⟨b, x⟩ := p
      by_cases e : a = b
      · simp [mput, mfind, midx, e]
      · simp only [mput, if_neg e, mfind, midx, ih]; congr 2; omega
  intro D; simpa using this D 0
theorem modify_at {α : Type} {l : List α} {i : Nat} {x : α} {f g : α → α} (hx : l[i]? = some x) (h : f x = g x) : l.modify i f = l.modify i g := by
  refine List.ext_getElem? fun j => ?_
  simp only [List.getElem?_modify]
  by_cases e : i = j
  · subst e; simp [hx, h]
  · simp [e]
theorem modify_id {α : Type} {l : List α} {i : Nat} {x : α} {f : α → α} (hx : l[i]? = some x) (h : f x = x) : l.modify i f = l := by
  refine List.ext_getElem? fun j => ?_
  simp only [List.getElem?_modify]
  by_cases e : i = j
  · subst e; simp [hx, h]
  · simp [e]
theorem mput_same {a : κ} {u : Value} : ∀ {D : List (κ × Value)} {s i : Nat}, mfind a D s = some (i, u) → mput a u D = D
  | [], _, _, h => by cases h
  | (b, v) :: D, s, i, h => by
    simp only [mfind] at h
    split at h
    · rename_i e; simp only [Option.some.injEq, Prod.mk.injEq] at h; simp [mput, e, h.2]
    · rename_i e; simp [mput, e, mput_same h]
end
section
variable {P : Program} {κ : Type} [DecidableEq κ] {kt et T : TypeId} {kv : κ → Value} {ok : κ → Prop}
variable {ops : Array Oper} {Q : Exit → Act → World → Prop} {rest : List Oper} {l : List Value} {w : World} {d : Nat} {ty : TypeId} {pos : String} {aft : Array Edge}
variable {S : Nat → Prop} {w0 : World} {L L' : List Res}
theorem run_mapEntry (K : KeyT P kt kv ok) (hT : P.underlying T = some (.map kt et)) {sz by' : Nat} {z : Value} (hi : TI P et sz by' z) {g : Nat} {D : List (κ × Value)} (hg : w.heap[g]? = some (mObj kv D)) {a : κ} (ha : ok a) (hD : MOk ok D) :
    (Instr.mapEntry T (.map (some g)) (kv a)).run P w = .ok (.tuple #[(mget a D).getD z, .int .i64 (midx a D : Int)]) { w with heap := w.heap.setIfInBounds g (mObj kv (mput a ((mget a D).getD z) D)) } := by
  obtain ⟨i', hi, _, _, hz⟩ := hi
  have hf := run_findKey K w ha hD
  have hgo := run_getObj_mp (P := P) hg
  simp only [mObj] at hgo
  simp only [Instr.mapEntry, Sem.run_bind, run_underlying hT, Result.andThen_ok, hgo, K.chk _ w a ha, hf]
  have hget := mfind_get a D 0
  cases hfd : mfind a D 0 with
  | none =>
    rw [hfd] at hget
    simp only [Option.map_none] at hget
    simp only [← hget, Option.getD_none, mObj, mput_none hfd, mEs_app, List.length_append, List.length_cons, List.length_nil, Nat.zero_add, mfind_none_idx hfd]
    have hso := MapKept.run_setObj_map (P := P) (Obj.map (mEs kv 0 D ++ [({ key := kv a, val := z, born := D.length } : MapEntry)]).toArray (D.length + 1)) hg
    have hzv : (zeroValue et).run P w = .ok z w := by simp [zeroValue, typeInfo, hi, hz]
    simp only [Sem.run_bind, hzv, Result.andThen_ok, Sem.run_pure, List.push_toArray, hso, goInt, mEs]
  | some p =>
    obtain ⟨i, u⟩ := p
    rw [hfd] at hget
    simp only [Option.map_some] at hget
    obtain ⟨h1, h2, h3⟩ := mput_some (kv := kv) (v := u) hfd (show i = 0 + i by omega)
    have hidx : i = 0 + midx a D := mfind_idx hfd
    have h2' : Option.map (fun e => e.key) (mEs kv 0 D)[i]? = some (kv a) := h2
    have hx := mEs_get kv 0 D i
    have hlt : i < D.length := h1
    rw [List.getElem?_eq_getElem hlt] at hx
    simp only [Option.map_some, Nat.zero_add] at hx
    have hkey : kv D[i].1 = kv a := by rw [hx] at h2'; simpa using h2'
    have hmod : (mEs kv 0 D).modify i (fun e => { e with key := kv a }) = mEs kv 0 D := modify_id hx (by simp [hkey])
    have hso := MapKept.run_setObj_map (P := P) (.map (mEs kv 0 D).toArray D.length) hg
    rw [hkey] at hx
    obtain rfl : i = midx a D := by omega
    simp only [← hget, Option.getD_some, mput_same hfd, mObj, List.getElem?_toArray, Instr.keyThatStays, K.same, if_true, Sem.run_pure, Result.andThen_ok, Sem.run_bind, List.modify_toArray, hmod, hso, hx, Option.map_some, goInt]
theorem m_mapEntry {x y : Operand} {sz by' : Nat} {z : Value} {g : Nat} {D : List (κ × Value)} {a : κ} (K : KeyT P kt kv ok) (hT : P.underlying T = some (.map kt et)) (hi : TI P et sz by' z) (hx : opv l x = .map (some g) := by rfl) (hy : opv l y = kv a) (ha : ok a) (hS : St S w0 w L) (hd : Upd L (.obj g (mObj kv D)) (.obj g (mObj kv (mput a ((mget a D).getD z) D))) L' := by repeat (first | exact Upd.head | apply Upd.tail)) (hD : MOk ok D)
    (h : ∀ w', St S w0 w' L' → WL P ops Q rest (fr (l.set d (.tuple #[(mget a D).getD z, .int .i64 (midx a D : Int)]))) w') : WL P ops Q (⟨some d, .mapEntry T x y, ty, pos, aft, none⟩ :: rest) (fr l) w := by
  have hg := hS.holds _ hd.mem
  have hlt : g < w.heap.size := (Array.getElem?_eq_some_iff.1 (show w.heap[g]? = some _ from hg)).1
  have hr := run_mapEntry K hT hi (w := w) hg ha hD
  refine s_val (w' := { w with heap := w.heap.setIfInBounds g (mObj kv (mput a ((mget a D).getD z) D)) }) (by simp [execOp, hx, hy, hr]) (h _ (hS.turn hd (setObj_keep w g _) ?_ ?_ ?_))
  · show (w.heap.setIfInBounds g _)[g]? = _
    simp [hlt]
  · intro k hk; simp [Res.own] at hk ⊢; exact .inl hk
  · intro k hk; simp [Res.reads] at hk
theorem run_entryStore {g : Nat} {D : List (κ × Value)} {a : κ} {u v : Value} (hg : w.heap[g]? = some (mObj kv (mput a u D))) :
    (Instr.entryStore T (.map (some g)) (.int .i64 (midx a D : Int)) v).run P w = .ok () { w with heap := w.heap.setIfInBounds g (mObj kv (mput a v D)) } := by
  have hgo := run_getObj_mp (P := P) hg
  simp only [mObj] at hgo
  have hfd := mput_mid (a := a) (u := u) D
  obtain ⟨h1, h2, h3⟩ := mput_some (kv := kv) (v := v) hfd (show midx a D = 0 + midx a D by omega)
  rw [mput_put] at h3
  have hfi := mEs_findIdx kv 0 (mput a u D) (midx a D) h1
  rw [Nat.zero_add] at hfi
  have hx := mEs_get kv 0 (mput a u D) (midx a D)
  rw [List.getElem?_eq_getElem h1] at hx
  simp only [Option.map_some, Nat.zero_add] at hx
  have hkey : kv (mput a u D)[midx a D].1 = kv a := by rw [hx] at h2; simpa using h2
  have hmod : (mEs kv 0 (mput a u D)).modify (midx a D) (fun e => { e with val := v }) = mEs kv 0 (mput a v D) := by
    rw [h3 0]; exact modify_at hx (by simp [hkey])
  have hl : (mput a u D).length = (mput a v D).length := by
    have := congrArg List.length (h3 0)
    simpa [mEs_len] using this.symm
  have hso := MapKept.run_setObj_map (P := P) (.map (mEs kv 0 (mput a v D)).toArray (mput a v D).length) hg
  simp only [Instr.entryStore, Sem.run_bind, hgo, Result.andThen_ok, asInt, asIntOf, Sem.run_pure, List.findIdx?_toArray, hfi, List.modify_toArray, hmod, hl, hso, mObj]
theorem m_entryStore {x y z : Operand} {g : Nat} {D : List (κ × Value)} {a : κ} {u v : Value} (hx : opv l x = .map (some g) := by rfl) (hy : opv l y = .int .i64 (midx a D : Int) := by rfl) (hz : opv l z = v := by rfl) (hS : St S w0 w L) (hd : Upd L (.obj g (mObj kv (mput a u D))) (.obj g (mObj kv (mput a v D))) L' := by repeat (first | exact Upd.head | apply Upd.tail))
    (h : ∀ w', St S w0 w' L' → WL P ops Q rest (fr l) w') : WL P ops Q (⟨none, .entryStore T x y z, ty, pos, aft, none⟩ :: rest) (fr l) w := by
  have hg := hS.holds _ hd.mem
  have hlt : g < w.heap.size := (Array.getElem?_eq_some_iff.1 (show w.heap[g]? = some _ from hg)).1
  have hr := run_entryStore (P := P) (T := T) (v := v) (w := w) hg
  refine s_unit (w' := { w with heap := w.heap.setIfInBounds g (mObj kv (mput a v D)) }) (by simp [execOp, hx, hy, hz, hr]) (h _ (hS.turn hd (setObj_keep w g _) ?_ ?_ ?_))
  · show (w.heap.setIfInBounds g _)[g]? = _
    simp [hlt]
  · intro k hk; simp [Res.own] at hk ⊢; exact .inl hk
  · intro k hk; simp [Res.reads] at hk
end
theorem KeyT.to {P : Program} {t : TypeId} {κ : Type} [DecidableEq κ] {kv kv' : κ → Value} {ok : κ → Prop} (K : KeyT P t kv ok) (h : ∀ a, ok a → kv a = kv' a) (hs : ∀ a, Instr.sameBits 10000 (kv' a) (kv' a) = true) : KeyT P t kv' ok := by
  refine ⟨fun em w a ha => by rw [← h a ha]; exact K.chk em w a ha, fun w a b ha hb => by rw [← h a ha, ← h b hb]; exact K.eq w a b ha hb, ?_, hs⟩
  obtain ⟨kd, hu, hk⟩ := K.now
  refine ⟨kd, hu, ?_⟩
  rcases hk with hk | hk
  · exact .inl fun a b ha hb => by rw [← h a ha, ← h b hb]; exact hk a b ha hb
  · exact .inr fun a b ha hb => by rw [← h a ha, ← h b hb]; exact hk a b ha hb
theorem keyT_arr {P : Program} {t : TypeId} {D D' n : Nat} {k : IntKind} {dsc : TypeDesc} (hu : P.underlying t = some dsc) (hd : isAggD dsc = true) (hc : ChV P D t (List.replicate n k)) (he : EqV P D' t (List.replicate n k)) (h1 : D ≤ 10000) (h2 : D' ≤ 10000) : KeyT P t (fun xs : List Int => .agg (ic k xs)) (fun xs => xs.length = n) := by
  have K := keyT_agg hu hd hc he h1 h2
  simp only [List.length_replicate] at K
  refine K.to (fun a ha => by rw [zi_ic ha]) (fun a => sameBits_ints 9999 _ ?_)
  intro v hv
  obtain ⟨x, _, rfl⟩ := List.mem_map.1 hv
  exact ⟨k, x, rfl⟩
theorem mok_nil {κ : Type} {ok : κ → Prop} : MOk ok ([] : List (κ × Value)) := fun p hp => by cases hp
theorem nodup_len : ∀ {n : Nat} {l : List Nat}, l.Nodup → (∀ i ∈ l, i < n) → l.length ≤ n
  | 0, [], _, _ => Nat.le_refl _
  | 0, a :: _, _, h => absurd (h a (by simp)) (by omega)
  | n + 1, l, hn, h => by
    have h1 := nodup_len (n := n) (l := l.erase n) (hn.erase n) (fun i hi => by
      have h2 := (hn.mem_erase_iff).1 hi
      have := h i h2.2
      have := h2.1
      omega)
    have h2 : l.length - 1 ≤ (l.erase n).length := by rw [List.length_erase]; split <;> omega
    omega
end Go.Proofs.YtpekghaodmeemaaGreat
set_option linter.unusedSimpArgs false
set_option linter.unusedVariables false
namespace Go.Proofs.YtpekghaodmeemaaGreat
/-- cells of several kinds, as many as there are kinds -/
def padL (ks : List IntKind) (xs : List Int) : List Value := ks.mapIdx fun i k => .int k (xs.getD i 0)
theorem padL_len (ks : List IntKind) (xs : List Int) : (padL ks xs).length = ks.length := by simp [padL]
theorem padL_zi {ks : List IntKind} {xs : List Int} (h : xs.length = ks.length) : padL ks xs = zi ks xs := by
  refine List.ext_getElem (by rw [padL_len, zi_len h]) fun i h1 h2 => ?_
  have h3 : i < xs.length := by rw [padL_len] at h1; omega
  simp [padL, zi, List.getD_eq_getElem?_getD, List.getElem?_eq_getElem h3]
theorem padL_get {ks : List IntKind} {xs : List Int} {i : Nat} {k : IntKind} (h : ks[i]? = some k) : (padL ks xs)[i]? = some (.int k (xs.getD i 0)) := by
  simp [padL, List.getElem?_mapIdx, h]
theorem padL_ic {n : Nat} {k : IntKind} {xs : List Int} (h : xs.length = n) : (padL (List.replicate n k) xs).toArray = ic k xs := by
  rw [padL_zi (by simpa using h), zi_ic h]
/-- rows whose cells are numbers -/
def rowsZ (ks : List IntKind) (l : List (List Int)) : List Value := rowsOf (padL ks) l
theorem rowsZ_len (ks : List IntKind) (l : List (List Int)) : (rowsZ ks l).length = l.length * ks.length := rows_len (padL_len ks) l
theorem rowsZ_get {ks : List IntKind} {l : List (List Int)} {k : Nat} (hk : k < l.length) (h : (l.getD k []).length = ks.length) : ((rowsZ ks l).drop (k * ks.length)).take ks.length = zi ks (l.getD k []) := by
  rw [rowsZ, rows_get (padL_len ks) [] hk, padL_zi h]
theorem rowsZ_at {ks : List IntKind} {l : List (List Int)} {k j : Nat} {q : IntKind} (hk : k < l.length) (hj : ks[j]? = some q) : (rowsZ ks l)[k * ks.length + j]? = some (.int q ((l.getD k []).getD j 0)) := by
  have : j < ks.length := (List.getElem?_eq_some_iff.1 hj).1
  rw [rowsZ, rows_at (padL_len ks) [] hk this, padL_get hj]
theorem rowsZ_one (ks : List IntKind) (x : List Int) : rowsZ ks [x] = padL ks x := by simp [rowsZ, rowsOf]
theorem rowsZ_app (ks : List IntKind) (l m : List (List Int)) : rowsZ ks (l ++ m) = rowsZ ks l ++ rowsZ ks m := rowsOf_app l m
theorem rowsZ_cells (ks : List IntKind) (l : List (List Int)) : ∀ u ∈ rowsZ ks l, u.oneCell' = true := by
  intro u hu
  obtain ⟨a, ha, hu⟩ := List.mem_flatten.1 hu
  obtain ⟨x, _, rfl⟩ := List.mem_map.1 ha
  simp only [padL, List.mem_mapIdx] at hu
  obtain ⟨i, h, rfl⟩ := hu
  rfl
theorem getD_mem' {α : Type} {l : List α} {k : Nat} {d : α} (h : k < l.length) : l.getD k d ∈ l := by
  rw [List.getD_eq_getElem?_getD, List.getElem?_eq_getElem h]; simp
theorem rowsZ_open {w : World} {ks : List IntKind} {n : Nat} {xs : List Value} (hl : xs.length = n * ks.length) (h : ∀ i, i < n → AllOk w (ks.map LK.int) ((xs.drop (i * ks.length)).take ks.length)) : ∃ l : List (List Int), l.length = n ∧ xs = rowsZ ks l ∧ ∀ x ∈ l, x.length = ks.length ∧ ∀ i k, ks[i]? = some k → (Lit.int k (x.getD i 0)).wf = true :=
  rows_open (cells := padL ks) (ok := fun x => x.length = ks.length ∧ ∀ i k, ks[i]? = some k → (Lit.int k (x.getD i 0)).wf = true) (fun cs hcs => by
    obtain ⟨x, rfl, hx, hw⟩ := allOk_zi hcs
    exact ⟨x, (padL_zi hx).symm, hx, hw⟩) n xs hl h
/-- how often each stands in a list, the last one first -/
def cntR : List (List Int) → List (List Int × Value)
  | [] => []
  | x :: l => mput x (.int .i64 ((l.count x : Int) + 1)) (cntR l)
theorem cnt_get (x : List Int) : ∀ (l : List (List Int)), mget x (cntR l) = if l.count x = 0 then none else some (.int .i64 (l.count x : Int))
  | [] => rfl
  | y :: l => by
    rw [cntR, mget_put, List.count_cons]
    by_cases e : x = y
    · subst e; simp
    · have e' : ¬ (y == x) = true := by simpa using fun h => e h.symm
      rw [if_neg e, if_neg e', Nat.add_zero]; exact cnt_get x l
theorem cnt_getD (x : List Int) (l : List (List Int)) : (mget x (cntR l)).getD (.int .i64 0) = .int .i64 (l.count x : Int) := by
  rw [cnt_get]; split
  · next h => rw [h]; rfl
  · rfl
theorem cnt_ok {n : Nat} : ∀ {l : List (List Int)}, (∀ x ∈ l, x.length = n) → MOk (fun xs : List Int => xs.length = n) (cntR l)
  | [], _ => mok_nil
  | x :: _, h => mput_ok (ok := fun xs : List Int => xs.length = n) (h x (by simp)) (cnt_ok fun y hy => h y (by simp [hy]))
theorem nodup_snoc {l : List Nat} {i : Nat} (h : l.Nodup) (hi : i ∉ l) : (l ++ [i]).Nodup := by
  rw [List.nodup_append]
  exact ⟨h, by simp, fun a ha b hb e => by simp at hb; subst hb; subst e; exact hi ha⟩
theorem take_snoc {l : List (List Int)} {k : Nat} (hk : k < l.length) : l.take (k + 1) = l.take k ++ [l.getD k []] := by
  have e : l.getD k [] = l[k] := by rw [List.getD_eq_getElem?_getD, List.getElem?_eq_getElem hk]; rfl
  rw [e]; exact List.take_succ_eq_append_getElem hk
theorem fill_one {pl : Nat → Option (Nat × Nat)} {base cs : Array Value} {sz : Nat} (hp : pl 0 = some (0, sz)) (hs : cs.size = sz) (hb : base.size = sz) : Instr.fill pl base [(0, .agg cs)] = some cs := by
  refine fill_cons hp hs (by omega) ?_
  rw [splice_whole (by simp only [Value.cells, Array.length_toList]; omega)]
  simp only [Value.cells, fill_nil]
end Go.Proofs.YtpekghaodmeemaaGreat
set_option linter.unusedSimpArgs false
set_option linter.unusedVariables false
namespace Go.Proofs.YtpekghaodmeemaaGreat
def rankK (x : List Int) : Nat := (headN x * 18446744073709551616 + numN (kitem x)) * 1099511627776 + dotN x
theorem lt_rank {x y : List Int} (hx : KeyOk x) (hy : KeyOk y) : keyLt x y = decide (rankK x < rankK y) := by
  have a1 := numN_64 hx.item (kitem_len hx.len); have a2 := numN_64 hy.item (kitem_len hy.len)
  have b1 := dotN_lt hx; have b2 := dotN_lt hy
  unfold keyLt wordsL rankK
  generalize headN x = p, headN y = q, numN (kitem x) = r, numN (kitem y) = s, dotN x = t, dotN y = u at *
  simp only [lexLt]
  by_cases h1 : (p : Int) = q
  · rw [if_pos h1]
    by_cases h2 : (r : Int) = s
    · rw [if_pos h2]
      by_cases h3 : (t : Int) = u
      · rw [if_pos h3]; exact (decide_eq_false (by omega)).symm
      · rw [if_neg h3]; exact decide_eq_decide.2 (by omega)
    · rw [if_neg h2]; exact decide_eq_decide.2 (by omega)
  · rw [if_neg h1]; exact decide_eq_decide.2 (by omega)
theorem rankK_inj {x y : List Int} (hx : KeyOk x) (hy : KeyOk y) (h : rankK x = rankK y) : x = y := by
  have a1 := numN_64 hx.item (kitem_len hx.len); have a2 := numN_64 hy.item (kitem_len hy.len)
  have b1 := dotN_lt hx; have b2 := dotN_lt hy
  refine (words_inj hx hy).1 ?_
  unfold rankK at h
  unfold wordsL
  generalize headN x = p, headN y = q, numN (kitem x) = r, numN (kitem y) = s, dotN x = t, dotN y = u at *
  have h1 : p = q := by omega
  have h2 : r = s := by omega
  have h3 : t = u := by omega
  rw [h1, h2, h3]
theorem kv_atom (a : List Int) : akey a ++ aval a = a := List.take_append_drop 12 a
theorem akey_kv {k v : List Int} (h : k.length = 12) : akey (k ++ v) = k := by rw [akey, List.take_left' h]
theorem aval_kv {k v : List Int} (h : k.length = 12) : aval (k ++ v) = v := by rw [aval, List.drop_left' h]
theorem kv_ok {k v : List Int} (hk : KeyOk k) (hv : ValOk v) : AtomOk (k ++ v) :=
  ⟨by rw [List.length_append, hk.len, hv.len], by rw [akey_kv hk.len]; exact hk, by rw [aval_kv hk.len]; exact hv⟩
def AOks (l : List (List Int)) : Prop := ∀ a ∈ l, AtomOk a
theorem AOks.app {l m : List (List Int)} (h : AOks l) (h2 : AOks m) : AOks (l ++ m) := fun a ha => (List.mem_append.1 ha).elim (h a) (h2 a)
theorem AOks.nil : AOks [] := fun a h => by cases h
theorem AOks.take {l : List (List Int)} (h : AOks l) (k : Nat) : AOks (l.take k) := fun a ha => h a (List.mem_of_mem_take ha)
theorem AOks.get {l : List (List Int)} (h : AOks l) {k : Nat} (hk : k < l.length) : AtomOk (l.getD k []) := h _ (getD_mem' hk)
/-- a state -/
structure StaR (s : List (List Int)) : Prop where
  ok : AOks s
  right : ∀ a ∈ s, atomR a = true
  sorted : s.Pairwise fun a b => rankK (akey a) < rankK (akey b)
theorem StaR.nil : StaR [] := ⟨AOks.nil, (fun a h => by cases h), .nil⟩
theorem StaR.tail {a : List Int} {s : List (List Int)} (h : StaR (a :: s)) : StaR s := ⟨fun b hb => h.ok b (by simp [hb]), fun b hb => h.right b (by simp [hb]), (List.pairwise_cons.1 h.sorted).2⟩
theorem StaR.head {a : List Int} {s : List (List Int)} (h : StaR (a :: s)) : ∀ b ∈ s, rankK (akey a) < rankK (akey b) := (List.pairwise_cons.1 h.sorted).1
theorem StaR.sub {s t : List (List Int)} (h : StaR s) (ht : t.Sublist s) : StaR t := ⟨fun a ha => h.ok a (ht.subset ha), fun a ha => h.right a (ht.subset ha), h.sorted.sublist ht⟩
def fnd (k : List Int) : List (List Int) → Option (List Int)
  | [] => none
  | a :: s => if akey a = k then some (aval a) else fnd k s
theorem fnd_none {k : List Int} : ∀ {s : List (List Int)}, fnd k s = none ↔ ∀ a ∈ s, ¬ akey a = k
  | [] => by simp [fnd]
  | a :: s => by
    rw [fnd]
    by_cases h : akey a = k
    · rw [if_pos h]; simp [h]
    · rw [if_neg h, fnd_none (s := s)]; simp [h]
def KND (s : List (List Int)) : Prop := s.Pairwise fun a b => ¬ akey a = akey b
theorem fnd_some {k v : List Int} : ∀ {s : List (List Int)}, KND s → (fnd k s = some v ↔ ∃ a ∈ s, akey a = k ∧ aval a = v)
  | [], _ => by simp [fnd]
  | a :: s, h => by
    obtain ⟨h1, h2⟩ := List.pairwise_cons.1 h
    have ih := fnd_some (k := k) (v := v) h2
    rw [fnd]
    by_cases e : akey a = k
    · rw [if_pos e]
      constructor
      · intro hv; exact ⟨a, by simp, e, Option.some.inj hv⟩
      · rintro ⟨b, hb, hbk, hbv⟩
        rcases List.mem_cons.1 hb with rfl | hb
        · rw [hbv]
        · exact absurd (e.trans hbk.symm) (h1 b hb)
    · rw [if_neg e, ih]
      constructor
      · rintro ⟨b, hb, h3⟩; exact ⟨b, by simp [hb], h3⟩
      · rintro ⟨b, hb, hbk, hbv⟩
        rcases List.mem_cons.1 hb with rfl | hb
        · exact absurd hbk e
        · exact ⟨b, hb, hbk, hbv⟩
theorem fnd_mem {k v : List Int} : ∀ {s : List (List Int)}, fnd k s = some v → ∃ a ∈ s, akey a = k ∧ aval a = v
  | [], h => by cases h
  | a :: s, h => by
    rw [fnd] at h
    split at h
    · next e => exact ⟨a, by simp, e, Option.some.inj h⟩
    · obtain ⟨b, hb, h2⟩ := fnd_mem h; exact ⟨b, by simp [hb], h2⟩
theorem fnd_ok {k v : List Int} {s : List (List Int)} (hs : AOks s) (h : fnd k s = some v) : ValOk v := by
  obtain ⟨a, ha, _, rfl⟩ := fnd_mem h; exact (hs a ha).val
theorem StaR.knd {s : List (List Int)} (h : StaR s) : KND s := h.sorted.imp fun {a b} hab e => by rw [e] at hab; omega
theorem fnd_perm {s t : List (List Int)} (hs : KND s) (ht : KND t) (hp : s.Perm t) (k : List Int) : fnd k s = fnd k t := by
  cases h : fnd k t with
  | none => rw [fnd_none] at h ⊢; exact fun a ha => h a (hp.mem_iff.1 ha)
  | some v =>
    rw [fnd_some ht] at h; rw [fnd_some hs]
    obtain ⟨a, ha, h2⟩ := h; exact ⟨a, hp.mem_iff.2 ha, h2⟩
theorem mem_fnd {s : List (List Int)} (h : KND s) {a : List Int} : fnd (akey a) s = some (aval a) ↔ a ∈ s := by
  rw [fnd_some h]
  constructor
  · rintro ⟨b, hb, h1, h2⟩
    have : b = a := by rw [← kv_atom b, h1, h2, kv_atom]
    rw [← this]; exact hb
  · intro ha; exact ⟨a, ha, rfl, rfl⟩
/-- states are told apart by what their keys have -/
theorem sta_ext : ∀ {s t : List (List Int)}, StaR s → StaR t → (∀ a, a ∈ s ↔ a ∈ t) → s = t
  | [], [], _, _, _ => rfl
  | [], b :: t, _, _, h => by have := (h b).2 (by simp); cases this
  | a :: s, [], _, _, h => by have := (h a).1 (by simp); cases this
  | a :: s, b :: t, hs, ht, h => by
    have e : a = b := by
      rcases List.mem_cons.1 ((h a).1 (by simp)) with h1 | h1
      · exact h1
      · rcases List.mem_cons.1 ((h b).2 (by simp)) with h2 | h2
        · exact h2.symm
        · have := hs.head b h2; have := ht.head a h1; omega
    subst e
    have na : a ∉ s := fun hm => by have := hs.head a hm; omega
    have nb : a ∉ t := fun hm => by have := ht.head a hm; omega
    rw [sta_ext hs.tail ht.tail fun c => by
      have := h c
      simp only [List.mem_cons] at this
      constructor
      · intro hc
        rcases this.1 (.inr hc) with rfl | h2
        · exact absurd hc na
        · exact h2
      · intro hc
        rcases this.2 (.inr hc) with rfl | h2
        · exact absurd hc nb
        · exact h2]
theorem sta_eq {s t : List (List Int)} (hs : StaR s) (ht : StaR t) (h : ∀ k, fnd k s = fnd k t) : s = t :=
  sta_ext hs ht fun a => by rw [← mem_fnd hs.knd, ← mem_fnd ht.knd, h]
/-- how far a key is: nought where it is not there -/
def rnk : Option (List Int) → Nat
  | none => 0
  | some v => rankV v + 1
theorem sta_rnk {s t : List (List Int)} (hs : StaR s) (ht : StaR t) (h : ∀ k, rnk (fnd k s) = rnk (fnd k t)) : s = t :=
  sta_eq hs ht fun k => by
    have := h k
    cases h1 : fnd k s with
    | none => cases h2 : fnd k t with
      | none => rfl
      | some w => rw [h1, h2] at this; simp [rnk] at this
    | some v => cases h2 : fnd k t with
      | none => rw [h1, h2] at this; simp [rnk] at this
      | some w =>
        rw [h1, h2] at this
        simp only [rnk, Nat.add_right_cancel_iff] at this
        rw [rank_inj (fnd_ok hs.ok h1) (fnd_ok ht.ok h2) this]
def moreO : Option (List Int) → Option (List Int) → Option (List Int)
  | none, y => y
  | some x, none => some x
  | some x, some y => some (moreV x y)
def OkO (o : Option (List Int)) : Prop := ∀ v, o = some v → ValOk v
theorem fnd_okO {s : List (List Int)} (hs : AOks s) (k : List Int) : OkO (fnd k s) := fun v h => fnd_ok hs h
theorem more_rank {x y : List Int} (hx : ValOk x) (hy : ValOk y) : rankV (moreV x y) = max (rankV x) (rankV y) := by
  unfold moreV
  cases h : overV x y
  · rw [over_rank hx hy] at h; have := of_decide_eq_false h; simp; omega
  · rw [over_rank hx hy] at h; have := of_decide_eq_true h; simp; omega
theorem rnk_more {x y : Option (List Int)} (hx : OkO x) (hy : OkO y) : rnk (moreO x y) = max (rnk x) (rnk y) := by
  cases x with
  | none => simp [moreO, rnk]
  | some x => cases y with
    | none => simp [moreO, rnk]
    | some y => simp only [moreO, rnk, more_rank (hx x rfl) (hy y rfl)]; omega
theorem more_okO {x y : Option (List Int)} (hx : OkO x) (hy : OkO y) : OkO (moreO x y) := fun v h => by
  cases x with
  | none => exact hy v h
  | some x => cases y with
    | none => exact hx v h
    | some y => simp only [moreO, Option.some.injEq] at h; subst h; exact more_ok (hx x rfl) (hy y rfl)
theorem okO_inj {x y : Option (List Int)} (hx : OkO x) (hy : OkO y) (h : rnk x = rnk y) : x = y := by
  cases x with
  | none => cases y with
    | none => rfl
    | some w => simp [rnk] at h
  | some v => cases y with
    | none => simp [rnk] at h
    | some w => simp only [rnk, Nat.add_right_cancel_iff] at h; rw [rank_inj (hx v rfl) (hy w rfl) h]
theorem someOk {v : List Int} (h : ValOk v) : OkO (some v) := fun w e => by cases e; exact h
theorem noneOk : OkO none := fun w e => by cases e
/-- what a row, whatever it be, has of a key -/
def lkF (k : List Int) (o : Option (List Int)) (a : List Int) : Option (List Int) := if atomR a = true ∧ akey a = k then moreO o (some (aval a)) else o
def lk (k : List Int) (l : List (List Int)) : Option (List Int) := l.foldl (lkF k) none
theorem lkF_ok {k : List Int} {o : Option (List Int)} {a : List Int} (ho : OkO o) (ha : AtomOk a) : OkO (lkF k o a) := by
  unfold lkF; split
  · exact more_okO ho (someOk ha.val)
  · exact ho
theorem lkFs_ok {k : List Int} : ∀ {l : List (List Int)} {o : Option (List Int)}, OkO o → AOks l → OkO (l.foldl (lkF k) o)
  | [], _, ho, _ => ho
  | a :: l, _, ho, h => lkFs_ok (l := l) (lkF_ok ho (h a (by simp))) fun b hb => h b (by simp [hb])
theorem lk_ok {k : List Int} {l : List (List Int)} (h : AOks l) : OkO (lk k l) := lkFs_ok noneOk h
theorem lk_from {k : List Int} : ∀ {l : List (List Int)} {o : Option (List Int)}, OkO o → AOks l → rnk (l.foldl (lkF k) o) = max (rnk o) (rnk (lk k l))
  | [], o, ho, _ => by simp [lk, rnk]
  | a :: l, o, ho, h => by
    have h2 : AOks l := fun b hb => h b (by simp [hb])
    have ha := h a (by simp)
    rw [List.foldl_cons, lk_from (lkF_ok ho ha) h2, show lk k (a :: l) = l.foldl (lkF k) (lkF k none a) from rfl, lk_from (lkF_ok noneOk ha) h2]
    unfold lkF
    split
    · rw [rnk_more ho (someOk ha.val), rnk_more noneOk (someOk ha.val)]; simp only [rnk]; omega
    · simp only [rnk]; omega
theorem lk_app {k : List Int} {l m : List (List Int)} (hl : AOks l) (hm : AOks m) : rnk (lk k (l ++ m)) = max (rnk (lk k l)) (rnk (lk k m)) := by
  rw [lk, List.foldl_append]; exact lk_from (lk_ok hl) hm
def insA (a : List Int) : List (List Int) → List (List Int)
  | [] => [a]
  | b :: s => if akey b = akey a then (akey a ++ moreV (aval b) (aval a)) :: s else if keyLt (akey a) (akey b) then a :: b :: s else b :: insA a s
theorem more_kv {a b : List Int} (hk : akey b = akey a) : akey a ++ moreV (aval b) (aval a) = b ∨ akey a ++ moreV (aval b) (aval a) = a := by
  rcases more_or (aval b) (aval a) with h | h
  · left; rw [h, ← hk, kv_atom]
  · right; rw [h, kv_atom]
theorem ins_keys {a : List Int} : ∀ {s : List (List Int)}, AOks s → AtomOk a → ∀ b ∈ insA a s, akey b = akey a ∨ ∃ c ∈ s, akey c = akey b
  | [], _, _, b, hb => by simp [insA] at hb; exact .inl (by rw [hb])
  | c :: s, hs, ha, b, hb => by
    rw [insA] at hb
    have key12 := ha.key.len
    split at hb
    · rcases List.mem_cons.1 hb with rfl | hb
      · exact .inl (akey_kv key12)
      · exact .inr ⟨b, by simp [hb], rfl⟩
    · split at hb
      · rcases List.mem_cons.1 hb with rfl | hb
        · exact .inl rfl
        · exact .inr ⟨b, hb, rfl⟩
      · rcases List.mem_cons.1 hb with rfl | hb
        · exact .inr ⟨b, by simp, rfl⟩
        · rcases ins_keys (fun x hx => hs x (by simp [hx])) ha b hb with h | ⟨d, hd, h⟩
          · exact .inl h
          · exact .inr ⟨d, by simp [hd], h⟩
theorem ins_mem {a : List Int} : ∀ {s : List (List Int)}, ∀ b ∈ insA a s, b = a ∨ b ∈ s
  | [], b, hb => by simp [insA] at hb; exact .inl hb
  | c :: s, b, hb => by
    rw [insA] at hb
    split at hb
    · next e =>
      rcases List.mem_cons.1 hb with rfl | hb
      · rcases more_kv e with h | h
        · right; rw [h]; simp
        · left; exact h
      · right; simp [hb]
    · split at hb
      · rcases List.mem_cons.1 hb with rfl | hb
        · exact .inl rfl
        · exact .inr hb
      · rcases List.mem_cons.1 hb with rfl | hb
        · right; simp
        · rcases ins_mem b hb with h | h
          · exact .inl h
          · right; simp [h]
theorem ins_sta {a : List Int} (ha : AtomOk a) (hr : atomR a = true) : ∀ {s : List (List Int)}, StaR s → StaR (insA a s)
  | [], _ => ⟨fun b hb => by simp [insA] at hb; rw [hb]; exact ha, fun b hb => by simp [insA] at hb; rw [hb]; exact hr, by simp [insA]⟩
  | c :: s, h => by
    have hc := h.ok c (by simp)
    refine ⟨fun b hb => (ins_mem b hb).elim (fun e => e ▸ ha) (h.ok b), fun b hb => (ins_mem b hb).elim (fun e => e ▸ hr) (h.right b), ?_⟩
    rw [insA]
    split
    · next e =>
      refine List.pairwise_cons.2 ⟨fun b hb => ?_, h.tail.sorted⟩
      rw [akey_kv ha.key.len, ← e]; exact h.head b hb
    · next e =>
      split
      · next hlt =>
        rw [lt_rank ha.key hc.key] at hlt
        have hlt := of_decide_eq_true hlt
        refine List.pairwise_cons.2 ⟨fun b hb => ?_, h.sorted⟩
        rcases List.mem_cons.1 hb with rfl | hb
        · exact hlt
        · have := h.head b hb; omega
      · next hlt =>
        rw [lt_rank ha.key hc.key] at hlt
        have hlt : ¬ rankK (akey a) < rankK (akey c) := by simpa using hlt
        have hne : ¬ rankK (akey c) = rankK (akey a) := fun h2 => e (rankK_inj hc.key ha.key h2)
        refine List.pairwise_cons.2 ⟨fun b hb => ?_, (ins_sta ha hr h.tail).sorted⟩
        rcases ins_keys h.tail.ok ha b hb with h2 | ⟨d, hd, h2⟩
        · rw [h2]; omega
        · rw [← h2]; exact h.head d hd
theorem fnd_ins {a : List Int} (ha : AtomOk a) (k : List Int) : ∀ {s : List (List Int)}, StaR s → fnd k (insA a s) = if akey a = k then moreO (fnd k s) (some (aval a)) else fnd k s
  | [], _ => by simp only [insA, fnd, moreO]
  | c :: s, h => by
    have hc := h.ok c (by simp)
    rw [insA]
    by_cases e : akey c = akey a
    · rw [if_pos e, fnd, akey_kv ha.key.len, aval_kv ha.key.len, fnd, e]
      by_cases hk : akey a = k
      · simp only [if_pos hk, moreO]
      · simp only [if_neg hk]
    · rw [if_neg e]
      cases hlt : keyLt (akey a) (akey c)
      · simp only [Bool.false_eq_true, if_false]
        rw [fnd, fnd_ins ha k h.tail]
        by_cases hk : akey a = k
        · have : ¬ akey c = k := fun h2 => e (h2.trans hk.symm)
          rw [if_pos hk, if_pos hk, if_neg this, fnd, if_neg this]
        · rw [if_neg hk, if_neg hk, fnd]
      · simp only [if_true]
        rw [fnd]
        by_cases hk : akey a = k
        · rw [if_pos hk, if_pos hk]
          have : fnd k (c :: s) = none := fnd_none.2 fun b hb h2 => by
            rw [lt_rank ha.key hc.key] at hlt
            have hlt := of_decide_eq_true hlt
            rw [← hk] at h2
            rcases List.mem_cons.1 hb with rfl | hb
            · exact e h2
            · have := h.head b hb; rw [h2] at this; omega
          rw [this]; rfl
        · rw [if_neg hk, if_neg hk]
/-- a row's state -/
def normF (s : List (List Int)) (a : List Int) : List (List Int) := if atomR a = true then insA a s else s
def normP (l : List (List Int)) : List (List Int) := l.foldl normF []
theorem norm_from {k : List Int} : ∀ {l s : List (List Int)}, AOks l → StaR s → StaR (l.foldl normF s) ∧ fnd k (l.foldl normF s) = l.foldl (lkF k) (fnd k s)
  | [], s, _, h => ⟨h, rfl⟩
  | a :: l, s, hl, h => by
    have ha := hl a (by simp)
    have hl2 : AOks l := fun b hb => hl b (by simp [hb])
    rw [List.foldl_cons, List.foldl_cons]
    by_cases hr : atomR a = true
    · have e1 : normF s a = insA a s := by rw [normF, if_pos hr]
      have e2 : lkF k (fnd k s) a = fnd k (insA a s) := by
        rw [fnd_ins ha k h, lkF]
        by_cases hk : akey a = k <;> simp [hr, hk]
      rw [e1, e2]; exact norm_from hl2 (ins_sta ha hr h)
    · have e1 : normF s a = s := by rw [normF, if_neg hr]
      have e2 : lkF k (fnd k s) a = fnd k s := by rw [lkF, if_neg (fun h => hr h.1)]
      rw [e1, e2]; exact norm_from hl2 h
theorem norm_sta {l : List (List Int)} (h : AOks l) : StaR (normP l) := (norm_from (k := []) h StaR.nil).1
theorem fnd_norm {l : List (List Int)} (h : AOks l) (k : List Int) : fnd k (normP l) = lk k l := (norm_from h StaR.nil).2
theorem norm_snoc (l : List (List Int)) (a : List Int) : normP (l ++ [a]) = if atomR a = true then insA a (normP l) else normP l := by
  rw [normP, List.foldl_append]; rfl
theorem norm_take {l : List (List Int)} {k : Nat} (hk : k < l.length) : normP (l.take (k + 1)) = if atomR (l.getD k []) = true then insA (l.getD k []) (normP (l.take k)) else normP (l.take k) := by
  rw [take_snoc hk, norm_snoc]
theorem lk_knd {k : List Int} : ∀ {s : List (List Int)} {o : Option (List Int)}, AOks s → (∀ a ∈ s, atomR a = true) → KND s → s.foldl (lkF k) o = moreO o (fnd k s)
  | [], o, _, _, _ => by cases o <;> rfl
  | a :: s, o, hs, hr, hn => by
    obtain ⟨h1, h2⟩ := List.pairwise_cons.1 hn
    have ih := fun o => lk_knd (k := k) (s := s) (o := o) (fun b hb => hs b (by simp [hb])) (fun b hb => hr b (by simp [hb])) h2
    rw [List.foldl_cons, ih, fnd]
    by_cases e : akey a = k
    · rw [if_pos e, lkF, if_pos ⟨hr a (by simp), e⟩]
      have : fnd k s = none := fnd_none.2 fun b hb h3 => h1 b hb (e.trans h3.symm)
      rw [this]; cases o <;> rfl
    · rw [if_neg e, lkF, if_neg (fun h => e h.2)]
theorem lk_sta {s : List (List Int)} (h : StaR s) (k : List Int) : lk k s = fnd k s := by
  rw [lk, lk_knd h.ok h.right h.knd]; rfl
theorem norm_id {s : List (List Int)} (h : StaR s) : normP s = s := sta_eq (norm_sta h.ok) h fun k => by rw [fnd_norm h.ok, lk_sta h]
theorem norm_norm {l : List (List Int)} (h : AOks l) : normP (normP l) = normP l := norm_id (norm_sta h)
theorem rnk_norm {l : List (List Int)} (h : AOks l) (k : List Int) : rnk (fnd k (normP l)) = rnk (lk k l) := by rw [fnd_norm h]
theorem norm_app_l {l m : List (List Int)} (hl : AOks l) (hm : AOks m) : normP (normP l ++ m) = normP (l ++ m) := by
  have hn := (norm_sta hl).ok
  refine sta_rnk (norm_sta (hn.app hm)) (norm_sta (hl.app hm)) fun k => ?_
  rw [rnk_norm (hn.app hm), rnk_norm (hl.app hm), lk_app hn hm, lk_app hl hm, lk_sta (norm_sta hl), fnd_norm hl]
theorem norm_app_r {l m : List (List Int)} (hl : AOks l) (hm : AOks m) : normP (l ++ normP m) = normP (l ++ m) := by
  have hn := (norm_sta hm).ok
  refine sta_rnk (norm_sta (hl.app hn)) (norm_sta (hl.app hm)) fun k => ?_
  rw [rnk_norm (hl.app hn), rnk_norm (hl.app hm), lk_app hl hn, lk_app hl hm, lk_sta (norm_sta hm), fnd_norm hm]
def rgtAt (s : List (List Int)) (k : Nat) : Bool := atomR (s.getD k []) && (decide (k = 0) || keyLt (akey (s.getD (k - 1) [])) (akey (s.getD k [])))
def rgt (s : List (List Int)) : Nat → Bool
  | 0 => true
  | k + 1 => rgt s k && rgtAt s k
def rightL (s : List (List Int)) : Bool := rgt s s.length
theorem rgt_false {s : List (List Int)} {k : Nat} (h : rgtAt s k = false) : ∀ {n : Nat}, k < n → rgt s n = false
  | 0, h1 => by omega
  | n + 1, h1 => by
    rw [rgt]
    by_cases e : k = n
    · rw [← e, h, Bool.and_false]
    · rw [rgt_false h (by omega), Bool.false_and]
theorem rgt_all {s : List (List Int)} : ∀ {n : Nat}, rgt s n = true ↔ ∀ k, k < n → rgtAt s k = true
  | 0 => by simp [rgt]
  | n + 1 => by
    rw [rgt, Bool.and_eq_true, rgt_all (n := n)]
    constructor
    · rintro ⟨h1, h2⟩ k hk
      by_cases e : k = n
      · rw [e]; exact h2
      · exact h1 k (by omega)
    · intro h; exact ⟨fun k hk => h k (by omega), h n (by omega)⟩
theorem getD_lt {l : List (List Int)} {k : Nat} (h : k < l.length) : l.getD k [] = l[k] := by rw [List.getD_eq_getElem?_getD, List.getElem?_eq_getElem h]; rfl
theorem right_iff {s : List (List Int)} (hs : AOks s) : rightL s = true ↔ StaR s := by
  rw [rightL, rgt_all]
  constructor
  · intro h
    have hr : ∀ i (hi : i < s.length), atomR s[i] = true := fun i hi => by
      have := h i hi
      rw [rgtAt, Bool.and_eq_true, getD_lt hi] at this
      exact this.1
    have hlt : ∀ i (hi : i + 1 < s.length), rankK (akey s[i]) < rankK (akey s[i + 1]) := fun i hi => by
      have := h (i + 1) hi
      rw [rgtAt, Bool.and_eq_true, getD_lt hi, decide_eq_false (show ¬ i + 1 = 0 by omega), Bool.false_or, Nat.add_sub_cancel, getD_lt (by omega : i < s.length), lt_rank (hs _ (List.getElem_mem _)).key (hs _ (List.getElem_mem _)).key] at this
      exact of_decide_eq_true this.2
    have hch : ∀ d i (hi : i + d + 1 < s.length), rankK (akey (s[i]'(by omega))) < rankK (akey s[i + d + 1]) := by
      intro d
      induction d with
      | zero => intro i hi; exact hlt i hi
      | succ d ih => intro i hi; exact Nat.lt_trans (ih i (by omega)) (hlt (i + d + 1) hi)
    refine ⟨hs, fun a ha => ?_, List.pairwise_iff_getElem.2 fun i j hi hj hij => ?_⟩
    · obtain ⟨i, hi, rfl⟩ := List.getElem_of_mem ha; exact hr i hi
    · have := hch (j - i - 1) i (by omega)
      have e : i + (j - i - 1) + 1 = j := by omega
      simp only [e] at this
      exact this
  · intro h k hk
    rw [rgtAt, getD_lt hk, h.right _ (List.getElem_mem _), Bool.true_and]
    by_cases e : k = 0
    · rw [decide_eq_true e, Bool.true_or]
    · rw [getD_lt (by omega : k - 1 < s.length), lt_rank (hs _ (List.getElem_mem _)).key (hs _ (List.getElem_mem _)).key, decide_eq_true (List.pairwise_iff_getElem.1 h.sorted (k - 1) k (by omega) hk (by omega)), Bool.or_true]
def putF (a : List Int) (st : List (List Int) × Bool) (b : List Int) : List (List Int) × Bool :=
  if akey b = akey a then (st.1 ++ [akey a ++ moreV (aval b) (aval a)], true) else if (!st.2 && keyLt (akey a) (akey b)) = true then ((st.1 ++ [a]) ++ [b], true) else (st.1 ++ [b], st.2)
def putS (a : List Int) (s : List (List Int)) : List (List Int) := if (s.foldl (putF a) ([], false)).2 = true then (s.foldl (putF a) ([], false)).1 else (s.foldl (putF a) ([], false)).1 ++ [a]
theorem put_done {a : List Int} : ∀ {s : List (List Int)} {out : List (List Int)}, (∀ b ∈ s, ¬ akey b = akey a) → s.foldl (putF a) (out, true) = (out ++ s, true)
  | [], out, _ => by simp
  | b :: s, out, h => by
    have h1 : putF a (out, true) b = (out ++ [b], true) := by simp [putF, h b (by simp)]
    rw [List.foldl_cons, h1, put_done fun c hc => h c (by simp [hc])]; simp
theorem put_ins {a : List Int} (ha : AtomOk a) : ∀ {s : List (List Int)} {out : List (List Int)}, StaR s → (if (s.foldl (putF a) (out, false)).2 = true then (s.foldl (putF a) (out, false)).1 else (s.foldl (putF a) (out, false)).1 ++ [a]) = out ++ insA a s
  | [], out, _ => by simp [insA]
  | b :: s, out, h => by
    have hb := h.ok b (by simp)
    rw [List.foldl_cons, insA]
    by_cases e : akey b = akey a
    · rw [if_pos e]
      have h1 : putF a (out, false) b = (out ++ [akey a ++ moreV (aval b) (aval a)], true) := by simp [putF, e]
      rw [h1, put_done (fun c hc e2 => by have := h.head c hc; rw [e2, e] at this; omega)]; simp
    · rw [if_neg e]
      cases hlt : keyLt (akey a) (akey b)
      · have h1 : putF a (out, false) b = (out ++ [b], false) := by simp [putF, e, hlt]
        rw [h1, put_ins ha h.tail]; simp
      · have h1 : putF a (out, false) b = ((out ++ [a]) ++ [b], true) := by simp [putF, e, hlt]
        rw [lt_rank ha.key hb.key] at hlt
        have hlt := of_decide_eq_true hlt
        rw [h1, put_done (fun c hc e2 => by have := h.head c hc; rw [e2] at this; omega)]; simp
theorem put_eq {a : List Int} (ha : AtomOk a) {s : List (List Int)} (h : StaR s) : putS a s = insA a s := by
  have := put_ins (out := []) ha h
  rw [List.nil_append] at this; exact this
abbrev VAv (v : List Int) : Value := .agg (VA v)
def encD (E : List (List Int)) : List (List Int × Value) := E.map fun a => (akey a, VAv (aval a))
def eput (a : List Int) : List (List Int) → List (List Int)
  | [] => [a]
  | b :: E => if akey a = akey b then a :: E else b :: eput a E
theorem enc_put (a : List Int) : ∀ E : List (List Int), mput (akey a) (VAv (aval a)) (encD E) = encD (eput a E)
  | [] => rfl
  | b :: E => by
    have ih := enc_put a E
    simp only [encD, List.map_cons, mput, eput] at ih ⊢
    split
    · rfl
    · rw [ih]; rfl
theorem enc_get (k : List Int) : ∀ E : List (List Int), mget k (encD E) = (fnd k E).map VAv
  | [] => rfl
  | b :: E => by
    have ih := enc_get k E
    simp only [encD, List.map_cons, mget, fnd] at ih ⊢
    by_cases e : k = akey b
    · rw [if_pos e, if_pos e.symm]; rfl
    · rw [if_neg e, if_neg (fun h => e h.symm), ih]
theorem enc_len (E : List (List Int)) : (encD E).length = E.length := by simp [encD]
theorem enc_ok {E : List (List Int)} (h : AOks E) : MOk (fun xs : List Int => xs.length = 12) (encD E) := fun p hp => by
  obtain ⟨a, ha, rfl⟩ := List.mem_map.1 hp; exact (h a ha).key.len
theorem eput_mem {a : List Int} : ∀ {E : List (List Int)}, ∀ b ∈ eput a E, b = a ∨ b ∈ E
  | [], b, h => by simp [eput] at h; exact .inl h
  | c :: E, b, h => by
    rw [eput] at h
    split at h
    · rcases List.mem_cons.1 h with h | h
      · exact .inl h
      · right; simp [h]
    · rcases List.mem_cons.1 h with h | h
      · right; simp [h]
      · rcases eput_mem b h with h | h
        · exact .inl h
        · right; simp [h]
theorem eput_knd {a : List Int} : ∀ {E : List (List Int)}, KND E → KND (eput a E)
  | [], _ => by simp [eput, KND]
  | b :: E, h => by
    obtain ⟨h1, h2⟩ := List.pairwise_cons.1 h
    rw [eput]
    split
    · next e => exact List.pairwise_cons.2 ⟨fun c hc e2 => h1 c hc (e ▸ e2), h2⟩
    · next e =>
      refine List.pairwise_cons.2 ⟨fun c hc e2 => ?_, eput_knd h2⟩
      rcases eput_mem c hc with rfl | hc
      · exact e e2.symm
      · exact h1 c hc e2
theorem fnd_eput {a k : List Int} : ∀ {E : List (List Int)}, fnd k (eput a E) = if akey a = k then some (aval a) else fnd k E
  | [] => by simp only [eput, fnd]
  | b :: E => by
    rw [eput]
    by_cases e : akey a = akey b
    · rw [if_pos e, fnd, fnd, ← e]
      by_cases hk : akey a = k
      · simp only [if_pos hk]
      · simp only [if_neg hk]
    · rw [if_neg e, fnd, fnd_eput (E := E), fnd]
      by_cases hk : akey a = k
      · simp only [if_pos hk, if_neg (fun h => e (hk.trans h.symm) : ¬ akey b = k)]
      · simp only [if_neg hk]
theorem eput_len (a : List Int) : ∀ E : List (List Int), (eput a E).length ≤ E.length + 1
  | [] => by simp [eput]
  | b :: E => by
    have := eput_len a E
    rw [eput]; split <;> simp <;> omega
def newA (E : List (List Int)) (a : List Int) : List Int := match fnd (akey a) E with
  | none => a
  | some w => akey a ++ moreV w (aval a)
def stepE (E : List (List Int)) (a : List Int) : List (List Int) := if atomR a = true then eput (newA E a) E else E
theorem newA_key {E : List (List Int)} {a : List Int} (ha : AtomOk a) : akey (newA E a) = akey a := by
  unfold newA; split
  · rfl
  · exact akey_kv ha.key.len
theorem newA_or {E : List (List Int)} {a : List Int} : newA E a = a ∨ newA E a ∈ E := by
  unfold newA
  split
  · exact .inl rfl
  · next w h =>
    obtain ⟨b, hb, hk, rfl⟩ := fnd_mem h
    rcases more_kv hk with h | h
    · right; rw [h]; exact hb
    · left; exact h
structure EOk (E : List (List Int)) : Prop where
  ok : AOks E
  right : ∀ a ∈ E, atomR a = true
  knd : KND E
theorem EOk.nil : EOk [] := ⟨AOks.nil, (fun a h => by cases h), .nil⟩
theorem EOk.put {E : List (List Int)} {a : List Int} (h : EOk E) (ha : AtomOk a) (hr : atomR a = true) : EOk (eput a E) :=
  ⟨fun b hb => (eput_mem b hb).elim (fun e => e ▸ ha) (h.ok b), fun b hb => (eput_mem b hb).elim (fun e => e ▸ hr) (h.right b), eput_knd h.knd⟩
theorem EOk.step {E : List (List Int)} {a : List Int} (h : EOk E) (ha : AtomOk a) : EOk (stepE E a) := by
  unfold stepE
  split
  · next hr =>
    rcases newA_or (E := E) (a := a) with e | e
    · rw [e]; exact h.put ha hr
    · exact h.put (h.ok _ e) (h.right _ e)
  · exact h
theorem fnd_step {E : List (List Int)} {a k : List Int} (ha : AtomOk a) : fnd k (stepE E a) = lkF k (fnd k E) a := by
  unfold stepE lkF
  by_cases hr : atomR a = true
  · rw [if_pos hr, fnd_eput, newA_key ha]
    by_cases hk : akey a = k
    · subst hk
      rw [if_pos rfl, if_pos ⟨hr, rfl⟩]
      unfold newA
      split
      · next h => rw [h]; rfl
      · next w h => rw [h, aval_kv ha.key.len]; rfl
    · rw [if_neg hk, if_neg (fun h => hk h.2)]
  · rw [if_neg hr, if_neg (fun h => hr h.1)]
def allE (l : List (List Int)) : List (List Int) := l.foldl stepE []
theorem allE_from {k : List Int} : ∀ {l E : List (List Int)}, AOks l → EOk E → EOk (l.foldl stepE E) ∧ fnd k (l.foldl stepE E) = l.foldl (lkF k) (fnd k E)
  | [], E, _, h => ⟨h, rfl⟩
  | a :: l, E, hl, h => by
    have ha := hl a (by simp)
    rw [List.foldl_cons, List.foldl_cons, ← fnd_step ha]
    exact allE_from (fun b hb => hl b (by simp [hb])) (h.step ha)
theorem allE_ok {l : List (List Int)} (h : AOks l) : EOk (allE l) := (allE_from (k := []) h EOk.nil).1
theorem allE_snoc (l : List (List Int)) (a : List Int) : allE (l ++ [a]) = stepE (allE l) a := by rw [allE, List.foldl_append]; rfl
theorem allE_len (l : List (List Int)) : (allE l).length ≤ l.length := by
  have key : ∀ (l E : List (List Int)), (l.foldl stepE E).length ≤ E.length + l.length := by
    intro l
    induction l with
    | nil => intro E; simp
    | cons a l ih =>
      intro E
      have := ih (stepE E a)
      have h2 : (stepE E a).length ≤ E.length + 1 := by
        unfold stepE; split
        · exact eput_len _ _
        · omega
      rw [List.foldl_cons, List.length_cons]; omega
  have := key l []
  simpa [allE] using this
theorem EOk.norm {E : List (List Int)} (h : EOk E) (k : List Int) : fnd k (normP E) = fnd k E := by
  rw [fnd_norm h.ok, lk, lk_knd h.ok h.right h.knd]; rfl
theorem norm_allE {l : List (List Int)} (h : AOks l) : normP (allE l) = normP l :=
  sta_eq (norm_sta (allE_ok h).ok) (norm_sta h) fun k => by rw [(allE_ok h).norm, fnd_norm h]; exact (allE_from h EOk.nil).2
/-- whatever is sorted, and has what is known, is the state -/
theorem sorted_norm {E d : List (List Int)} (h : EOk E) (hp : d.Perm E) (hs : d.Pairwise fun a b => ¬ rankK (akey b) < rankK (akey a)) : d = normP E := by
  have hd : EOk d := ⟨fun a ha => h.ok a (hp.mem_iff.1 ha), fun a ha => h.right a (hp.mem_iff.1 ha), (hp.pairwise_iff (fun hab e => hab e.symm)).2 h.knd⟩
  have hst : StaR d := ⟨hd.ok, hd.right, by
    refine (List.pairwise_iff_getElem.2 fun i j hi hj hij => ?_)
    have h1 := List.pairwise_iff_getElem.1 hs i j hi hj hij
    have h2 := List.pairwise_iff_getElem.1 hd.knd i j hi hj hij
    have h3 : ¬ rankK (akey d[i]) = rankK (akey d[j]) := fun e => h2 (rankK_inj (hd.ok _ (List.getElem_mem _)).key (hd.ok _ (List.getElem_mem _)).key e)
    omega⟩
  exact sta_eq hst (norm_sta h.ok) fun k => by rw [h.norm, fnd_perm hd.knd h.knd hp]
theorem EOk.perm {E d : List (List Int)} (h : EOk E) (hp : d.Perm E) : EOk d :=
  ⟨fun a ha => h.ok a (hp.mem_iff.1 ha), fun a ha => h.right a (hp.mem_iff.1 ha), (hp.pairwise_iff (fun hab e => hab e.symm)).2 h.knd⟩
theorem norm_perm {E d : List (List Int)} (h : EOk E) (hp : d.Perm E) : normP d = normP E :=
  sta_eq (norm_sta (h.perm hp).ok) (norm_sta h.ok) fun k => by rw [(h.perm hp).norm, h.norm, fnd_perm (h.perm hp).knd h.knd hp]
theorem norm_len (E : List (List Int)) : (normP E).length ≤ E.length := by
  have key : ∀ (l s : List (List Int)), (l.foldl normF s).length ≤ s.length + l.length := by
    intro l
    induction l with
    | nil => intro s; simp
    | cons a l ih =>
      intro s
      have := ih (normF s a)
      have h2 : ∀ s : List (List Int), (insA a s).length ≤ s.length + 1 := by
        intro s
        induction s with
        | nil => simp [insA]
        | cons b s ih2 => rw [insA]; split <;> (try split) <;> simp <;> omega
      have h3 : (normF s a).length ≤ s.length + 1 := by
        unfold normF; split
        · exact h2 s
        · omega
      rw [List.foldl_cons, List.length_cons]; omega
  have := key E []
  simpa [normP] using this
/-- in a state's order each new atom is put behind -/
theorem eput_snoc {s : List (List Int)} {a : List Int} (h : KND (s ++ [a])) : eput a s = s ++ [a] := by
  have : ∀ {t : List (List Int)}, (∀ b ∈ t, ¬ akey b = akey a) → eput a t = t ++ [a] := by
    intro t
    induction t with
    | nil => intro _; rfl
    | cons b t ih =>
      intro h
      rw [eput, if_neg (fun e => h b (by simp) e.symm), ih fun c hc => h c (by simp [hc])]; rfl
  exact this fun b hb => (List.pairwise_append.1 h).2.2 b hb a (by simp)
theorem eput_take {s : List (List Int)} (h : KND s) {k : Nat} (hk : k < s.length) : eput (s.getD k []) (s.take k) = s.take (k + 1) := by
  rw [take_snoc hk]
  refine eput_snoc ?_
  rw [← take_snoc hk]; exact h.sublist (List.take_sublist _ _)
def mergeP : List (List Int) → List (List Int) → List (List Int)
  | [], t => t
  | a :: s, [] => a :: s
  | a :: s, b :: t => if keyLt (akey a) (akey b) then a :: mergeP s (b :: t) else if keyLt (akey b) (akey a) then b :: mergeP (a :: s) t else (akey a ++ moreV (aval a) (aval b)) :: mergeP s t
termination_by s t => s.length + t.length
theorem merge_nil (t : List (List Int)) : mergeP [] t = t := by rw [mergeP]
theorem merge_nil_r : ∀ (s : List (List Int)), mergeP s [] = s
  | [] => by rw [mergeP]
  | a :: s => by rw [mergeP]
theorem merge_cons (a b : List Int) (s t : List (List Int)) : mergeP (a :: s) (b :: t) = if keyLt (akey a) (akey b) then a :: mergeP s (b :: t) else if keyLt (akey b) (akey a) then b :: mergeP (a :: s) t else (akey a ++ moreV (aval a) (aval b)) :: mergeP s t := by rw [mergeP]
theorem more_kv2 {a b : List Int} (hk : akey a = akey b) : akey a ++ moreV (aval a) (aval b) = a ∨ akey a ++ moreV (aval a) (aval b) = b := by
  rcases more_or (aval a) (aval b) with h | h
  · left; rw [h, kv_atom]
  · right; rw [h, hk, kv_atom]
theorem merge_sta : ∀ (n : Nat) {s t : List (List Int)}, s.length + t.length ≤ n → StaR s → StaR t → StaR (mergeP s t) ∧ (∀ c ∈ mergeP s t, c ∈ s ∨ c ∈ t) ∧ ∀ k, rnk (fnd k (mergeP s t)) = max (rnk (fnd k s)) (rnk (fnd k t))
  | _, [], t, _, _, ht => by rw [merge_nil]; exact ⟨ht, fun c h => .inr h, fun k => by simp [fnd, rnk]⟩
  | _, a :: s, [], _, hs, _ => by rw [merge_nil_r]; exact ⟨hs, fun c h => .inl h, fun k => by simp [fnd, rnk]⟩
  | n + 1, a :: s, b :: t, hn, hs, ht => by
    have ha := hs.ok a (by simp)
    have hb := ht.ok b (by simp)
    simp only [List.length_cons] at hn
    rw [merge_cons, lt_rank ha.key hb.key, lt_rank hb.key ha.key]
    by_cases h1 : rankK (akey a) < rankK (akey b)
    · rw [decide_eq_true h1, if_pos rfl]
      obtain ⟨i1, i2, i3⟩ := merge_sta n (s := s) (t := b :: t) (by simp; omega) hs.tail ht
      have hlt : ∀ c ∈ mergeP s (b :: t), rankK (akey a) < rankK (akey c) := fun c hc => by
        rcases i2 c hc with h | h
        · exact hs.head c h
        · rcases List.mem_cons.1 h with rfl | h
          · exact h1
          · have := ht.head c h; omega
      refine ⟨⟨fun c hc => ?_, fun c hc => ?_, List.pairwise_cons.2 ⟨hlt, i1.sorted⟩⟩, fun c hc => ?_, fun k => ?_⟩
      · rcases List.mem_cons.1 hc with rfl | hc
        · exact ha
        · exact i1.ok c hc
      · rcases List.mem_cons.1 hc with rfl | hc
        · exact hs.right c (by simp)
        · exact i1.right c hc
      · rcases List.mem_cons.1 hc with rfl | hc
        · left; simp
        · rcases i2 c hc with h | h
          · left; simp [h]
          · exact .inr h
      · rw [fnd]
        by_cases e : akey a = k
        · have h3 : fnd k (b :: t) = none := fnd_none.2 fun c hc e2 => by
            rcases List.mem_cons.1 hc with rfl | hc
            · rw [e, e2] at h1; omega
            · have := ht.head c hc; rw [e2] at this; rw [e] at h1; omega
          rw [if_pos e, h3, fnd, if_pos e]; simp [rnk]
        · rw [if_neg e, i3, show fnd k (a :: s) = fnd k s by rw [fnd, if_neg e]]
    · rw [decide_eq_false h1, if_neg (by simp)]
      by_cases h2 : rankK (akey b) < rankK (akey a)
      · rw [decide_eq_true h2, if_pos rfl]
        obtain ⟨i1, i2, i3⟩ := merge_sta n (s := a :: s) (t := t) (by simp; omega) hs ht.tail
        have hlt : ∀ c ∈ mergeP (a :: s) t, rankK (akey b) < rankK (akey c) := fun c hc => by
          rcases i2 c hc with h | h
          · rcases List.mem_cons.1 h with rfl | h
            · exact h2
            · have := hs.head c h; omega
          · exact ht.head c h
        refine ⟨⟨fun c hc => ?_, fun c hc => ?_, List.pairwise_cons.2 ⟨hlt, i1.sorted⟩⟩, fun c hc => ?_, fun k => ?_⟩
        · rcases List.mem_cons.1 hc with rfl | hc
          · exact hb
          · exact i1.ok c hc
        · rcases List.mem_cons.1 hc with rfl | hc
          · exact ht.right c (by simp)
          · exact i1.right c hc
        · rcases List.mem_cons.1 hc with rfl | hc
          · right; simp
          · rcases i2 c hc with h | h
            · exact .inl h
            · right; simp [h]
        · rw [fnd]
          by_cases e : akey b = k
          · have h3 : fnd k (a :: s) = none := fnd_none.2 fun c hc e2 => by
              rcases List.mem_cons.1 hc with rfl | hc
              · rw [e, e2] at h2; omega
              · have := hs.head c hc; rw [e2] at this; rw [e] at h2; omega
            rw [if_pos e, h3, fnd, if_pos e]; simp [rnk]
          · rw [if_neg e, i3, show fnd k (b :: t) = fnd k t by rw [fnd, if_neg e]]
      · rw [decide_eq_false h2, if_neg (by simp)]
        have hk : akey a = akey b := rankK_inj ha.key hb.key (by omega)
        obtain ⟨i1, i2, i3⟩ := merge_sta n (s := s) (t := t) (by omega) hs.tail ht.tail
        have hlt : ∀ c ∈ mergeP s t, rankK (akey a) < rankK (akey c) := fun c hc => by
          rcases i2 c hc with h | h
          · exact hs.head c h
          · rw [hk]; exact ht.head c h
        refine ⟨⟨fun c hc => ?_, fun c hc => ?_, List.pairwise_cons.2 ⟨fun c hc => by rw [akey_kv ha.key.len]; exact hlt c hc, i1.sorted⟩⟩, fun c hc => ?_, fun k => ?_⟩
        · rcases List.mem_cons.1 hc with rfl | hc
          · exact kv_ok ha.key (more_ok ha.val hb.val)
          · exact i1.ok c hc
        · rcases List.mem_cons.1 hc with rfl | hc
          · rcases more_kv2 hk with h | h
            · rw [h]; exact hs.right a (by simp)
            · rw [h]; exact ht.right b (by simp)
          · exact i1.right c hc
        · rcases List.mem_cons.1 hc with rfl | hc
          · rcases more_kv2 hk with h | h
            · rw [h]; left; simp
            · rw [h]; right; simp
          · rcases i2 c hc with h | h
            · left; simp [h]
            · right; simp [h]
        · rw [fnd, akey_kv ha.key.len, aval_kv ha.key.len, fnd, fnd, ← hk]
          by_cases e : akey a = k
          · rw [if_pos e, if_pos e, if_pos e]; simp only [rnk, more_rank ha.val hb.val]; omega
          · rw [if_neg e, if_neg e, if_neg e, i3]
theorem merge_norm {a b : List (List Int)} (ha : AOks a) (hb : AOks b) : mergeP (normP a) (normP b) = normP (a ++ b) := by
  obtain ⟨h1, _, h3⟩ := merge_sta _ (Nat.le_refl _) (norm_sta ha) (norm_sta hb)
  exact sta_rnk h1 (norm_sta (ha.app hb)) fun k => by rw [h3, rnk_norm ha, rnk_norm hb, rnk_norm (ha.app hb), lk_app ha hb]
theorem val_join {a b : List (List Int)} (ha : AOks a) (hb : AOks b) (k : List Int) : rnk (fnd k (normP (a ++ b))) = max (rnk (fnd k (normP a))) (rnk (fnd k (normP b))) := by
  rw [rnk_norm (ha.app hb), lk_app ha hb, rnk_norm ha, rnk_norm hb]
section
variable {a b c : List (List Int)} (ha : AOks a) (hb : AOks b) (hc : AOks c)
include ha hb
end
end Go.Proofs.YtpekghaodmeemaaGreat
set_option linter.unusedSimpArgs false
set_option linter.unusedVariables false
namespace Go.Proofs.YtpekghaodmeemaaGreat
open Go.RowKit Go.Sort Go.Shelf
theorem Ext.grown {w w' : World} (h : Ext w w') : ∃ q os, w' = grow (w.drewN q) os := by
  refine ⟨w'.drawn - w.drawn, w'.heap.extract w.heap.size w'.heap.size, ?_⟩
  obtain ⟨h1, h2, h3, h4, h5, h6⟩ := h
  obtain ⟨a1, a2, a3, a4, a5⟩ := w
  obtain ⟨b1, b2, b3, b4, b5⟩ := w'
  simp only [grow, World.drewN] at *
  subst h1 h2 h3
  refine World.mk.injEq .. ▸ ⟨?_, rfl, by omega, rfl, rfl⟩
  refine Array.ext_getElem? fun k => ?_
  rw [Array.getElem?_append]
  split
  · next hk => exact h5 k hk (fun f => f)
  · next hk =>
    rw [Array.getElem?_extract]
    split
    · next h => rw [show a1.size + (k - a1.size) = k by omega]
    · next h => rw [Array.getElem?_eq_none (by omega)]
section
variable {ks : List IntKind} {ok : List Int → Prop}
def encS (ks : List IntKind) (x : {x : List Int // ok x}) : List Value := padL ks x.1
theorem getBang {α : Type} [Inhabited α] {l : List α} {i : Nat} (h : i < l.length) : l[i]! = l[i] := getElem!_pos l i h
theorem flat_rows [Inhabited {x : List Int // ok x}] (d : Array {x : List Int // ok x}) : (flatK (encS ks) ks.length d).toList = rowsZ ks (d.toList.map (·.1)) := by
  have hs : (flatK (encS ks) ks.length d).toList.length = (rowsZ ks (d.toList.map (·.1))).length := by rw [rowsZ_len]; simp
  refine List.ext_getElem hs fun t h1 h2 => ?_
  have ht : t < d.size * ks.length := by simpa using h1
  have hk0 : 0 < ks.length := by rcases Nat.eq_zero_or_pos ks.length with h | h; rw [h] at ht; simp at ht; exact h
  have hq : t / ks.length < d.size := Nat.div_lt_of_lt_mul (by rw [Nat.mul_comm]; exact ht)
  have hr : t % ks.length < ks.length := Nat.mod_lt _ hk0
  have e : t / ks.length * ks.length + t % ks.length = t := by rw [Nat.mul_comm]; exact Nat.div_add_mod t _
  have h3 := get_flatK (encS (ok := ok) ks) ks.length d t ht
  have h4 := rowsZ_at (ks := ks) (l := d.toList.map (·.1)) (k := t / ks.length) (j := t % ks.length) (q := ks[t % ks.length]) (by simpa using hq) (by rw [List.getElem?_eq_getElem hr])
  rw [e, List.getElem?_eq_getElem h2] at h4
  rw [Option.some.inj h4]
  rw [getElem!_pos (flatK (encS ks) ks.length d) t (by simpa using ht)] at h3
  rw [Array.getElem_toList, h3]
  have h5 : d[t / ks.length]! = d[t / ks.length] := getElem!_pos d _ hq
  rw [h5, encS, getBang (by rw [padL_len]; exact hr)]
  have h6 := padL_get (ks := ks) (xs := d[t / ks.length].1) (i := t % ks.length) (k := ks[t % ks.length]) (by rw [List.getElem?_eq_getElem hr])
  rw [List.getElem?_eq_getElem (by rw [padL_len]; exact hr)] at h6
  rw [Option.some.inj h6]
  simp [List.getD_eq_getElem?_getD, List.getElem?_eq_getElem (show t / ks.length < d.toList.length by simpa using hq)]
theorem sort_rows {P : Program} {ρ : Ren} (L : SlLaysF0.n6 P ρ) (aE : ∀ w, (isAgg (ρ.t 24)).run P w = .ok true w) (zE : ∀ w, (Go.sizeOf (ρ.t 24)).run P w = .ok ks.length w) (x0 : List Int) (h0 : ok x0) (cf : List Int → List Int → Int) (rk : List Int → Nat)
    (hcf : ∀ x y, ok x → ok y → (cf x y < 0 ↔ rk x < rk y)) (hlen : ∀ x, ok x → x.length = ks.length) (g : Nat) (eg : Enters P g)
    (hc : ∀ x y w, ok x → ok y → CallR P g #[.agg (zi ks x).toArray, .agg (zi ks y).toArray] w fun v w' => v = .int .i64 (cf x y) ∧ Ext w w')
    (A : Option Addr) (c : Nat) (e : TypeId) (l : List (List Int)) (hl : ∀ x ∈ l, ok x) (hn : l.length < 4611686018427387904) (w : World) (hM : St (OwnB [.vec A c e ks.length l.length (rowsZ ks l)]) w w [.vec A c e ks.length l.length (rowsZ ks l)]) :
    CallR P (ρ.f 6) #[.slice A l.length c, .func (.func g) #[] #[]] w fun v w' => v = .tuple #[] ∧ ∃ l', l'.Perm l ∧ l'.Pairwise (fun a b => ¬ rk b < rk a) ∧ St (OwnB [.vec A c e ks.length l.length (rowsZ ks l)]) w w' [.vec A c e ks.length l'.length (rowsZ ks l')] := by
  have hv : w.ownsRow 0 e ks.length (.slice A l.length c) l.length (rowsZ ks l) := hM.holds _ (List.mem_cons_self ..)
  rcases hv.2 with ⟨h1, h2⟩ | ⟨b, cap, cur, h1, _, hg, hnc, hcm, hsz, htk⟩
  · obtain rfl : l = [] := List.eq_nil_of_length_eq_zero h2
    refine (AnyF.slices_SortFunc_none L A c (.func (.func g) #[] #[]) w).mono ?_
    rintro _ _ ⟨rfl, rfl⟩
    exact ⟨_, rfl, rfl, [], .refl _, .nil, hM⟩
  · simp only [Value.slice.injEq] at h1
    obtain ⟨rfl, _, rfl⟩ := h1
    have : Inhabited {x : List Int // ok x} := ⟨⟨x0, h0⟩⟩
    obtain ⟨d, hd⟩ : ∃ d : Array {x : List Int // ok x}, d = (l.pmap Subtype.mk hl).toArray := ⟨_, rfl⟩
    have hdl : d.toList.map (·.1) = l := by rw [hd, List.map_pmap]; simp
    have hds : d.size = l.length := by rw [hd]; simp
    have hlt : b < w.heap.size := (Array.getElem?_eq_some_iff.1 hg).1
    have hSW : SWO (ltOf fun x y : {x : List Int // ok x} => cf x.1 y.1) := by
      have e1 : ∀ x y : {x : List Int // ok x}, ltOf (fun x y : {x : List Int // ok x} => cf x.1 y.1) x y = decide (rk x.1 < rk y.1) := fun x y => decide_eq_decide.2 (hcf _ _ x.2 y.2)
      refine ⟨fun x => by rw [e1]; simp, fun x y z h1 h2 => ?_, fun x y z h1 h2 => ?_⟩
      · rw [e1] at *; have h1 := of_decide_eq_true h1; have h2 := of_decide_eq_true h2; exact decide_eq_true (by omega)
      · rw [e1] at *; have h1 := of_decide_eq_false h1; have h2 := of_decide_eq_false h2; exact decide_eq_false (by omega)
    have hL : CmpLays P g #[] (encS (ok := ok) ks) ks.length (fun x y => cf x.1 y.1) b 0 d.size w := fun m os dk _ x y => by
      have := hc x.1 y.1 (sortWorldK (encS ks) ks.length w b 0 m dk os) x.2 y.2
      rw [← padL_zi (hlen _ x.2), ← padL_zi (hlen _ y.2)] at this
      refine Calls.mono this ?_
      rintro _ w' ⟨v, rfl, rfl, hE⟩
      exact ⟨rfl, hE.grown⟩
    have hF : (flatK (encS ks) ks.length d).toList = rowsZ ks l := by rw [flat_rows, hdl]
    have hH : HoldsK (encS ks) ks.length w b 0 d := fun j hj => by
      have hj2 : j < (rowsZ ks l).length := by rw [← hF]; simpa using hj
      have hjc : j < cur.size := by
        have : (rowsZ ks l).length ≤ cur.toList.length := by rw [← htk, List.length_take]; exact Nat.min_le_right _ _
        simp at this; omega
      refine ⟨?_, ?_⟩
      · rw [Nat.zero_add]
        simp only [World.cell?, hg]
        have e1 : cur[j]? = some (rowsZ ks l)[j] := by
          have : (cur.toList.take (l.length * ks.length))[j]? = some (rowsZ ks l)[j] := by rw [htk, List.getElem?_eq_getElem hj2]
          rw [List.getElem?_take_of_lt (by rw [rowsZ_len] at hj2; exact hj2)] at this
          simpa using this
        have e2 : (flatK (encS ks) ks.length d)[j]! = (rowsZ ks l)[j] := by
          rw [getElem!_pos _ j hj, ← Array.getElem_toList]; simp only [hF]
        simp [e1, e2]
      · simp only [World.frozen?, hg]; simp
    have hcon := AnyQ.slices_SortFunc L ks.length aE zE (encS (ok := ok) ks) (fun x => padL_len ks x.1) (fun x v hv => by
      have := rowsZ_cells ks [x.1] v (by rw [rowsZ_one]; exact hv)
      exact this) (fun x y => cf x.1 y.1) hSW g #[] b 0 c d w eg hL hH hlt (by omega)
    rw [hds] at hcon
    refine Calls.mono hcon ?_
    rintro _ w' ⟨rfl, d', n, os, hp, hs, rfl⟩
    have hps : d'.size = l.length := by rw [hp.1, hds]
    have hperm : d'.toList.Perm d.toList := by
      have := hp.2.2
      rw [← hds] at this
      have e1 : d.extract 0 d.size = d := by simp
      have e2 : d'.extract 0 d.size = d' := by rw [← hp.1]; simp
      rw [e1, e2] at this; exact this
    have hl' : (d'.toList.map (·.1)).length = l.length := by simp [hps]
    have hF' : (flatK (encS ks) ks.length d').toList = rowsZ ks (d'.toList.map (·.1)) := flat_rows d'
    have hFs : (flatK (encS ks) ks.length d').size = l.length * ks.length := by rw [size_flatK, hps]
    have hw' : (sortWorldK (encS ks) ks.length w b 0 n d' os).heap[b]? = some (.cells (putCells id 0 (flatK (encS ks) ks.length d') cur) e (0, 0)) := by
      unfold sortWorldK
      rw [heap_grow_old _ _ (by show b < (putRow id _ b 0 _).heap.size; rw [size_putRow]; exact hlt)]
      show ((Sort.ahead w n).heap.modify b (onCells _))[b]? = _
      rw [Array.getElem?_modify, if_pos rfl]
      show (w.heap[b]?).map _ = _
      rw [hg]; rfl
    refine ⟨_, rfl, rfl, d'.toList.map (·.1), ?_, ?_, ?_⟩
    · rw [← hdl]; exact hperm.map _
    · rw [List.pairwise_map]
      refine List.pairwise_iff_getElem.2 fun i j hi hj hij => ?_
      have := hs i j (Nat.zero_le _) hij (by rw [Array.length_toList] at hj; omega)
      have e1 : d'[i]! = d'[i]'(by simpa using hi) := getElem!_pos d' i (by simpa using hi)
      have e2 : d'[j]! = d'[j]'(by simpa using hj) := getElem!_pos d' j (by simpa using hj)
      rw [e1, e2] at this
      have h3 : decide (cf (d'[j]'(by simpa using hj)).1 (d'[i]'(by simpa using hi)).1 < 0) = false := this
      have h4 := of_decide_eq_false h3
      rw [hcf _ _ (Subtype.property _) (Subtype.property _)] at h4
      simpa using h4
    · refine ⟨⟨rfl, rfl, rfl, ?_, fun k hk hS => ?_, ?_⟩, ?_, ?_, List.pairwise_singleton _ _⟩
      · unfold sortWorldK
        rw [size_grow]
        show _ ≤ (putRow id _ b 0 _).heap.size + _
        rw [size_putRow]; exact Nat.le_add_right _ _
      · have hne : b ≠ k := fun e => hS ⟨_, List.mem_cons_self .., by rw [← e]; rfl⟩
        unfold sortWorldK
        rw [heap_grow_old _ _ (by show k < (putRow id _ b 0 _).heap.size; rw [size_putRow]; exact hk)]
        show ((Sort.ahead w n).heap.modify b (onCells _))[k]? = _
        rw [Array.getElem?_modify, if_neg hne]; rfl
      · show w.drawn ≤ w.drawn + n; omega
      · intro r hr
        rw [List.mem_singleton] at hr
        subst hr
        refine ⟨by rw [rowsZ_len], .inr ⟨b, c, _, by rw [hl'], Nat.zero_le _, hw', by rw [hl']; exact hnc, hcm, by rw [putCells, Array.size_mapIdx]; exact hsz, ?_⟩⟩
        rw [← hF']
        have hle : l.length * ks.length ≤ cur.size := by rw [hsz]; exact Nat.mul_le_mul_right _ hnc
        have hpc : (putCells id 0 (flatK (encS ks) ks.length d') cur).toList.length = cur.size := by rw [Array.length_toList, putCells, Array.size_mapIdx]
        have hfl : (flatK (encS ks) ks.length d').toList.length = l.length * ks.length := by rw [hF', rowsZ_len, hl']
        refine List.ext_getElem (by rw [List.length_take, hpc, hfl, hl']; omega) fun t h1 h2 => ?_
        have ht : t < (flatK (encS ks) ks.length d').size := by rw [hFs, ← hfl]; exact h2
        rw [List.getElem_take, Array.getElem_toList, Array.getElem_toList]
        simp only [putCells, Array.getElem_mapIdx]
        rw [if_pos ⟨Nat.zero_le _, by omega⟩, Nat.sub_zero, getElem!_pos _ t ht]; rfl
      · intro r hr g' hg'
        rw [List.mem_singleton] at hr
        subst hr
        exact .inl ⟨_, List.mem_cons_self .., hg'⟩
end
/-- room is made, for nothing yet -/
theorem m_make0 {P : Program} {ops : Array Oper} {Q : Exit → Act → World → Prop} {rest : List Oper} {l : List Value} {w w0 : World} {d : Nat} {ty : TypeId} {pos : String} {aft : Array Edge} {S : Nat → Prop} {L : List Res}
    {T e : TypeId} {x y : Operand} {sz by' n : Nat} {z : Value} {kl kc : IntKind} (hT : P.underlying T = some (.slice e)) (hi : TI P e sz by' z) (hx : opv l x = .int kl 0 := by rfl) (hy : opv l y = .int kc (n : Int) := by rfl) (h63 : n ≤ maxLen) (hby : by' * n ≤ 281474976710656 := by omega) (hS : St S w0 w L)
    (h : ∀ w' A', St S w0 w' (.vec A' n e sz 0 [] :: L) → WL P ops Q rest (fr (l.set d (.slice A' 0 n))) w') : WL P ops Q (⟨some d, .makeSlice T x y, ty, pos, aft, none⟩ :: rest) (fr l) w := by
  obtain ⟨i, hi, rfl, rfl, hz⟩ := hi
  have h1 : (n : Int) ≤ 9223372036854775807 := by simp only [maxLen] at h63; omega
  have hb : (i.bytes : Int) * (n : Int) ≤ 281474976710656 := by
    have hh : ((i.bytes * n : Nat) : Int) ≤ 281474976710656 := by omega
    rwa [Int.natCast_mul] at hh
  have hr := run_make (P := P) w T e i z hT hi hz kl kc 0 n (by omega) (by omega) hb h1
  simp only [Int.toNat_natCast] at hr
  refine s_val (v := .slice (some ⟨w.heap.size, 0, none⟩) 0 n) (w' := w.alloc (.cells (madeCells z.cells (n * i.size)) e)) (by simp [execOp, hx, hy, hr]) (h _ _ ?_)
  have hE := Ext.alloc w (.cells (madeCells z.cells (n * i.size)) e)
  refine hS.add (r := .vec (some ⟨w.heap.size, 0, none⟩) n e i.size 0 []) hE (World.ownsRow_made w _ n (Nat.zero_le _) h63 (size_madeCells _ _)) (fun g hg => ?_)
  rcases hg with hg | hg
  · simp [Res.own] at hg; omega
  · simp [Res.reads] at hg
section
variable {P : Program} {fn : Func} {t u v : Nat} {T U : TypeId} {l : List Value} {w w0 : World} {R : Value → World → Prop} {S : Nat → Prop} {L : List Res} {dsc dsc2 : TypeDesc} {g g2 sz by' : Nat} {z : Value} {cs cs2 : Array Value} {ct ct2 : TypeId} {f f2 : Nat × Nat}
theorem r_cell_tmp2 {p : Addr} {x : Value} (h : fn.results = #[.cell t T, .tmp u, .tmp v]) (hp : l.getD t undef = .pointer (some p)) (hv : (loadVar T p).run P w = .ok x w) (hR : R (.tuple #[x, l.getD u undef, l.getD v undef]) w) : Rt P fn R (fr l) w := by
  have hp' : ((fr l).tmps[t]?.getD undef) = .pointer (some p) := by rw [← hp]; simp [fr, List.getD]
  have hu : ((fr l).tmps[u]?.getD undef) = l[u]?.getD undef := by simp [fr]
  have hw : ((fr l).tmps[v]?.getD undef) = l[v]?.getD undef := by simp [fr]
  exact ⟨rfl, .tuple #[x, l.getD u undef, l.getD v undef], by simp [results, h, hp', asAddr, hv, hu, hw], hR⟩
theorem r_cell_tmp2_agg (h : fn.results = #[.cell t T, .tmp u, .tmp v]) (hu : P.underlying T = some dsc) (hi : TI P T sz by' z) (hd : isAggD dsc = true := by rfl) (hp : l.getD t undef = .pointer (some ⟨g, 0, none⟩) := by rfl) (hS : St S w0 w L) (hm : Has L (.obj g (.cells cs ct f)) := by repeat (first | exact Has.head | apply Has.tail)) (hfit : cs.size = sz := by first | omega | (simp only [ic_size, List.length_map, List.size_toArray]; omega) | (simp [*]; done) | rfl) (hR : R (.tuple #[.agg cs, l.getD u undef, l.getD v undef]) w) : Rt P fn R (fr l) w := r_cell_tmp2 h hp (obj_loads_agg hu hd hi hS hm hfit) hR
theorem r_cell_cell_ao {x : Value} (h : fn.results = #[.cell t T, .cell u U]) (hu : P.underlying T = some dsc) (hi : TI P T sz by' z) (hu2 : P.underlying U = some dsc2) (hd : isAggD dsc = true := by rfl) (hd2 : isAggD dsc2 = false := by rfl) (hp : l.getD t undef = .pointer (some ⟨g, 0, none⟩) := by rfl) (hp2 : l.getD u undef = .pointer (some ⟨g2, 0, none⟩) := by rfl) (hS : St S w0 w L) (hm : Has L (.obj g (.cells cs ct f)) := by repeat (first | exact Has.head | apply Has.tail)) (hm2 : Has L (.obj g2 (.cells cs2 ct2 f2)) := by repeat (first | exact Has.head | apply Has.tail)) (hfit : cs.size = sz := by first | omega | (simp only [ic_size, List.length_map, List.size_toArray]; omega) | (simp [*]; done) | rfl) (hv : cs2[0]? = some x := by rfl) (hR : R (.tuple #[.agg cs, x]) w) : Rt P fn R (fr l) w :=
  r_cell_cell h hp (obj_loads_agg hu hd hi hS hm hfit) hp2 (obj_loads_one hu2 hd2 hS hm2 hv) hR
end
end Go.Proofs.YtpekghaodmeemaaGreat
set_option maxRecDepth 100000
namespace Go.Proofs.YtpekghaodmeemaaGreat
open Go.RowKit
theorem chv25 : ChV Tryz.prog 2 25 (List.replicate 8 IntKind.u8) := (show ChV Tryz.prog 2 25 (List.replicate 8 [IntKind.u8]).flatten from ch_arr U25 ti5 rfl (ch_int U5))
def kv25 (xs : List Int) : Value := .agg (ic .u8 xs)
theorem ky25 : KeyT Tryz.prog 25 kv25 (fun xs => xs.length = 8) := keyT_arr U25 rfl chv25 eqv25 (by decide) (by decide)
theorem chv61 : ChV Tryz.prog 3 61 [IntKind.u8, IntKind.u16, IntKind.u8, IntKind.u8, IntKind.u8, IntKind.u8, IntKind.u8, IntKind.u8, IntKind.u8, IntKind.u8, IntKind.u8, IntKind.u32] := (show ChV Tryz.prog 3 61 ([IntKind.u8] ++ ([IntKind.u16] ++ ((List.replicate 8 IntKind.u8) ++ ([IntKind.u8] ++ ([IntKind.u32] ++ []))))) from ch_struct U61 (.cons rfl (by decide) (ch_int U5) (by decide) (.cons rfl (by decide) (ch_int U23) (by decide) (.cons rfl (by decide) (ch_part chv25 U25 rfl ti25 rfl) (by decide) (.cons rfl (by decide) (ch_int U5) (by decide) (.cons rfl (by decide) (ch_int U51) (by decide) (.nil)))))))
def kv61 (xs : List Int) : Value := .agg (zi [IntKind.u8, IntKind.u16, IntKind.u8, IntKind.u8, IntKind.u8, IntKind.u8, IntKind.u8, IntKind.u8, IntKind.u8, IntKind.u8, IntKind.u8, IntKind.u32] xs).toArray
theorem ky61 : KeyT Tryz.prog 61 kv61 (fun xs => xs.length = 12) := keyT_agg U61 rfl chv61 eqv61 (by decide) (by decide)
end Go.Proofs.YtpekghaodmeemaaGreat
set_option linter.unusedSimpArgs false
set_option linter.unusedVariables false
set_option maxHeartbeats 2000000
set_option maxRecDepth 100000
namespace Go.Proofs.YtpekghaodmeemaaGreat
open Go.RowKit

def ordP (a b : List Int) : Int := if akey a = akey b then 0 else if keyLt (akey a) (akey b) = true then -1 else 1
theorem ord_lt {a b : List Int} (ha : AtomOk a) (hb : AtomOk b) : ordP a b < 0 ↔ rankK (akey a) < rankK (akey b) := by
  unfold ordP
  by_cases e : akey a = akey b
  · rw [if_pos e, e]; omega
  · rw [if_neg e, lt_rank ha.key hb.key]
    by_cases h : rankK (akey a) < rankK (akey b) <;> simp [h]
abbrev arows (l : List (List Int)) : List Value := rowsZ atomKs l
theorem arows_len (l : List (List Int)) : (arows l).length = l.length * 21 := rowsZ_len _ _
theorem arow_get {l : List (List Int)} {k : Nat} (hk : k < l.length) (hv : AOks l) : (((arows l).drop (k * 21)).take 21).toArray = AA (l.getD k []) := by
  have := rowsZ_get (ks := atomKs) hk (by simpa using (hv.get hk).len)
  rw [show atomKs.length = 21 from rfl] at this
  rw [this]
theorem arow_one {x : List Int} (h : x.length = 21) : (AA x).toList = arows [x] := by
  show (zi atomKs x).toArray.toList = rowsZ atomKs [x]
  rw [rowsZ_one, padL_zi (by simpa using h)]
theorem aa_kv {k v : List Int} (hk : k.length = 12) : (AA (k ++ v)).toList = (KA k).toList ++ (VA v).toList := by
  show (zi (keyKs ++ valKs) (k ++ v)).toArray.toList = _
  rw [zi_app (by simpa using hk)]
theorem fill_atom {pl : Nat → Option (Nat × Nat)} {base : Array Value} {k v : List Int} (h1 : pl 0 = some (0, 12)) (h2 : pl 1 = some (12, 9)) (hb : base.size = 21) (hk : k.length = 12) (hv : v.length = 9) : Instr.fill pl base [(0, .agg (KA k)), (1, .agg (VA v))] = some (AA (k ++ v)) := by
  have hk2 : (KA k).toList.length = 12 := by simpa using zi_len (ks := keyKs) (by simpa using hk)
  have hv2 : (VA v).toList.length = 9 := by simpa using zi_len (ks := valKs) (by simpa using hv)
  have e1 : splice base.toList 0 (KA k).toList = (KA k).toList ++ base.toList.drop 12 := by simp only [splice, List.take_zero, List.nil_append, Nat.zero_add, hk2]
  refine fill_cons h1 (by simpa [Value.cells] using hk2) (by omega) ?_
  simp only [Value.cells, e1]
  refine fill_cons h2 (by simpa [Value.cells] using hv2) (by simp only [List.size_toArray, List.length_append, List.length_drop, hk2]; rw [Array.length_toList]; omega) ?_
  simp only [Value.cells, splice, fill_nil]
  rw [List.toList_toArray, List.take_left' hk2, List.drop_of_length_le (by rw [hv2, List.length_append, hk2, List.length_drop, Array.length_toList]; omega), List.append_nil, ← aa_kv hk]
theorem atom_put {a v : List Int} (h : a.length = 21) (hv : v.length = 9) : splice (AA a).toList 12 (VA v).toList = zi atomKs (akey a ++ v) := by
  have hk : (akey a).length = 12 := by simp [akey, h]
  have hk2 : (KA (akey a)).toList.length = 12 := by simpa using zi_len (ks := keyKs) (by simpa using hk)
  have hv2 : (VA v).toList.length = 9 := by simpa using zi_len (ks := valKs) (by simpa using hv)
  have hw : (aval a).length = 9 := by simp [aval, h]
  have hw2 : (VA (aval a)).toList.length = 9 := by simpa using zi_len (ks := valKs) (by simpa using hw)
  have e : (AA a).toList = (KA (akey a)).toList ++ (VA (aval a)).toList := by rw [← aa_kv hk, kv_atom]
  rw [e, splice, List.take_left' hk2, List.drop_of_length_le (by rw [List.length_append, hk2, hw2, hv2]; omega), List.append_nil]
  exact (aa_kv hk).symm
theorem size_of {P : Program} {t : TypeId} {sz by' : Nat} {z : Value} (h : TI P t sz by' z) (w : World) : (Go.sizeOf t).run P w = .ok sz w := by
  obtain ⟨i, hi, rfl, _, _⟩ := h
  simp [Go.sizeOf, typeInfo, hi]
theorem atom0_ok : AtomOk atom0 := ⟨rfl, ⟨rfl, rfl, by decide, rfl, by decide, by unfold Byt; decide, rfl, by decide, rfl, by decide⟩, ⟨rfl, rfl, by decide, by unfold Byt; decide⟩⟩
def v9 : List Int := List.replicate 9 0
theorem enc_val (k : List Int) (E : List (List Int)) : (mget k (encD E)).getD (.agg #[.int .u64 0, .int .u8 0, .int .u8 0, .int .u8 0, .int .u8 0, .int .u8 0, .int .u8 0, .int .u8 0, .int .u8 0]) = .agg (VA ((fnd k E).getD v9)) := by
  rw [enc_get]; cases fnd k E <;> rfl
theorem enc_is (k : List Int) (E : List (List Int)) : (mget k (encD E)).isSome = (fnd k E).isSome := by rw [enc_get]; cases fnd k E <;> rfl
theorem v9_ok : ValOk v9 := ⟨rfl, rfl, by decide, by unfold Byt; decide⟩
theorem fndD_ok {k : List Int} {E : List (List Int)} (h : AOks E) : ValOk ((fnd k E).getD v9) := by
  cases hf : fnd k E with
  | none => exact v9_ok
  | some v => exact fnd_ok h hf
theorem enc_at {E : List (List Int)} {i : Nat} {p : List Int × Value} (h : (encD E)[i]? = some p) : i < E.length ∧ p = (akey (E.getD i []), VAv (aval (E.getD i []))) := by
  have hi : i < E.length := by have := (List.getElem?_eq_some_iff.1 h).1; rwa [enc_len] at this
  refine ⟨hi, ?_⟩
  rw [encD, List.getElem?_map, List.getElem?_eq_getElem hi] at h
  rw [getD_lt hi]; exact (Option.some.inj h).symm

theorem c_latOrder (a b : List Int) (ha : AtomOk a) (hb : AtomOk b)  (w0 : World) :
    CallR Tryz.prog 108 #[.agg (AA a), .agg (AA b)] w0 fun v w' => v = .int .i64 (ordP a b) ∧ Ext w0 w' := by
 have hS : St NoB w0 w0 [] := St.start w0
 refine c_enter (l := [.agg (AA a), .agg (AA b), undef, undef, undef, undef, undef, undef, undef, undef, undef, undef, undef, undef, undef, undef, undef]) Tryz.func108 rfl (by simp only [Tryz.ntmps108, List.size_toArray, List.length_cons, List.length_nil, Nat.reduceAdd, Nat.reduceSub, Array.replicate_succ, Array.replicate_zero, List.push_toArray, List.append_toArray, List.nil_append, List.cons_append]) ?_
 refine x_seq fun K1 hK1 => x_region ?_
 have hal := ha.len
 have hk := ha.key
 have hkl := hk.len
 have hbl := hb.len
 have hkb := hb.key
 have hkbl := hkb.len
 refine m_box hS (fun w1 g1 hS => ?_)
 try simp only [nY, aY] at hS ⊢
 refine m_box hS (fun w2 g2 hS => ?_)
 try simp only [nY, aY] at hS ⊢
 refine s_go s_assign ?_
 try simp only [nY]
 refine x_nil (hK1 _ _ ?_)
 refine x_seq fun K2 hK2 => ?_
 refine x_block ?_
 refine x_seq fun K3 hK3 => x_region ?_
 refine s_go (m_fieldAddr U66 (hi := ti61)) ?_
 try simp only [nY, fY, gY]
 refine s_go (m_loada_obj U61 (hi := ti61) (hS := hS) (hfit := by (rw [zi_size (by omega)]; decide))) ?_
 try simp only [nY, gY]
 rw [atom_key hal]
 refine s_go (m_fieldAddr U66 (hi := ti61)) ?_
 try simp only [nY, fY, gY]
 refine s_go (m_loada_obj U61 (hi := ti61) (hS := hS) (hfit := by (rw [zi_size (by omega)]; decide))) ?_
 try simp only [nY, gY]
 rw [atom_key hbl]
 refine s_go (s_eql_agg eqv61 (hg := eg61) (hX := rfl) (hY := rfl) (h1 := by assumption) (h2 := by assumption)) ?_
 try simp only [nY]
 refine s_go s_assign ?_
 try simp only [nY]
 refine x_nil (hK3 _ _ ?_)
 refine x_cond (ht := fun hc1 => ?_) (hf := fun hc1 => ?_)
 ·
  try simp only [dY] at hc1
  have hO : ordP a b = 0 := by rw [ordP, if_pos hc1]
  refine x_seq fun K4 hK4 => x_region ?_
  refine s_go s_assign ?_
  try simp only [nY]
  refine x_nil (hK4 _ _ ?_)
  refine x_ret (r_tmp rfl ?_)
  exact ⟨by rw [hO]; rfl, hS.ext_of⟩
 try simp only [dY] at hc1
 have hne := hc1
 refine x_seq fun K5 hK5 => x_region ?_
 refine s_go (m_fieldAddr U66 (hi := ti61)) ?_
 try simp only [nY, fY, gY]
 refine s_go (m_loada_obj U61 (hi := ti61) (hS := hS) (hfit := by (rw [zi_size (by omega)]; decide))) ?_
 try simp only [nY, gY]
 rw [atom_key hal]
 refine s_go (m_fieldAddr U66 (hi := ti61)) ?_
 try simp only [nY, fY, gY]
 refine s_go (m_loada_obj U61 (hi := ti61) (hS := hS) (hfit := by (rw [zi_size (by omega)]; decide))) ?_
 try simp only [nY, gY]
 rw [atom_key hbl]
 refine s_call en127 ?_
 try simp only [nY, mY]
 refine CallR.mono (c_keyLess (akey a) (akey b) hk hkb _) ?_
 rintro _ w3 ⟨rfl, hE3⟩
 replace hS := hS.ext hE3
 try simp only [nY]
 refine s_go s_assign ?_
 try simp only [nY]
 refine x_nil (hK5 _ _ ?_)
 refine x_cond (ht := fun hc2 => ?_) (hf := fun hc2 => ?_)
 ·
  try simp only [dY] at hc2
  have hO : ordP a b = -1 := by rw [ordP, if_neg hne, if_pos hc2]
  refine x_seq fun K6 hK6 => x_region ?_
  refine s_go s_assign ?_
  try simp only [nY]
  refine x_nil (hK6 _ _ ?_)
  refine x_ret (r_tmp rfl ?_)
  exact ⟨by rw [hO]; rfl, hS.ext_of⟩
 try simp only [dY] at hc2
 have hO : ordP a b = 1 := by rw [ordP, if_neg hne, if_neg (by rw [hc2]; decide)]
 refine x_skip ?_
 refine hK2 _ _ ?_
 refine x_seq fun K7 hK7 => x_region ?_
 refine s_go s_assign ?_
 try simp only [nY]
 refine x_nil (hK7 _ _ ?_)
 refine x_ret (r_tmp rfl ?_)
 exact ⟨by rw [hO]; rfl, hS.ext_of⟩

theorem c_sortAtoms (A : Option Addr) (c : Nat) (l : List (List Int)) (hl : EOk l) (hn : l.length ≤ 1000000000000) (w : World) (hM : St (OwnB [.vec A c 66 21 (l).length (arows (l))]) w w [.vec A c 66 21 (l).length (arows (l))]) :
    CallR Tryz.prog 107 #[.slice A l.length c, .func (.func 108) #[] #[]] w fun v w' => v = .tuple #[] ∧ St (OwnB [.vec A c 66 21 (l).length (arows (l))]) w w' [.vec A c 66 21 (normP l).length (arows (normP l))] := by
  refine CallR.mono (sort_rows (ks := atomKs) lays6 (fun w => run_isAgg_yes U66 rfl w) (size_of ti66) (ok := AtomOk) atom0 atom0_ok ordP (fun a => rankK (akey a)) (fun x y hx hy => ord_lt hx hy) (fun x h => h.len) _ en108 (fun x y w hx hy => c_latOrder x y hx hy w) A c _ l hl.ok (by omega) w hM) ?_
  rintro _ w' ⟨rfl, l', hp, hs, hC⟩
  rw [sorted_norm hl hp hs] at hC
  exact ⟨rfl, hC⟩
theorem norm_elen {E : List (List Int)} (h : EOk E) : (normP E).length = E.length := by
  have h2 := norm_sta h.ok
  have hp : (normP E).Perm E := by
    refine (List.perm_ext_iff_of_nodup (h2.knd.imp fun hne e => hne (by rw [e])) (h.knd.imp fun hne e => hne (by rw [e]))).2 fun a => ?_
    rw [← mem_fnd h2.knd, ← mem_fnd h.knd, h.norm]
  exact hp.length_eq
end Go.Proofs.YtpekghaodmeemaaGreat
set_option linter.unusedSimpArgs false
set_option linter.unusedVariables false
set_option maxHeartbeats 2000000
set_option maxRecDepth 100000
namespace Go.Proofs.YtpekghaodmeemaaGreat
open Go.RowKit

theorem pick_perm {E : List (List Int)} {seen : List Nat} (hn : seen.Nodup) (hlt : ∀ i ∈ seen, i < E.length) (hall : ∀ i, i < E.length → i ∈ seen) : (seen.map fun i => E.getD i []).Perm E := by
  have h1 : seen.Perm (List.range E.length) := (List.perm_ext_iff_of_nodup hn List.nodup_range).2 fun i => by rw [List.mem_range]; exact ⟨hlt i, hall i⟩
  have h2 := h1.map fun i => E.getD i []
  have h3 : (List.range E.length).map (fun i => E.getD i []) = E := by
    refine List.ext_getElem (by simp) fun i h1 h2 => ?_
    rw [List.getElem_map, List.getElem_range, getD_lt h2]
  rw [h3] at h2; exact h2
theorem zi_size12 {x : List Int} (h : x.length = 12) : (KA x).size = 12 := by simpa using zi_len (ks := keyKs) (by simpa using h)
theorem zi_size21 {x : List Int} (h : x.length = 21) : (AA x).size = 21 := by simpa using zi_len (ks := atomKs) (by simpa using h)
theorem c_latState (w0 : World) (gm : Nat) (E : List (List Int)) (hE : EOk E) (hn : E.length ≤ 1000000000) (hM : St (OwnB [.obj gm (mObj kv61 (encD (E)))]) w0 w0 [.obj gm (mObj kv61 (encD (E)))])  :
    CallR Tryz.prog 86 #[.map (some gm)] w0 fun v w' => ∃ A c, v = .slice A (normP E).length c ∧ St (OwnB [.obj gm (mObj kv61 (encD (E)))]) w0 w' [.vec A c 66 21 (normP E).length (arows (normP E))] := by
 have hS := hM
 refine c_enter (l := [.map (some gm), undef, undef, undef, undef, undef, undef, undef, undef, undef, undef, undef, undef, undef, undef, undef, undef, undef, undef, undef, undef, undef, undef, undef, undef]) Tryz.func86 rfl (by simp only [Tryz.ntmps86, List.size_toArray, List.length_cons, List.length_nil, Nat.reduceAdd, Nat.reduceSub, Array.replicate_succ, Array.replicate_zero, List.push_toArray, List.append_toArray, List.nil_append, List.cons_append]) ?_
 refine x_seq fun K1 hK1 => x_region ?_
 refine s_go s_assign ?_
 try simp only [nY]
 refine x_nil (hK1 _ _ ?_)
 refine x_seq fun K2 hK2 => x_region ?_
 refine s_go s_move ?_
 try simp only [nY]
 refine s_go (s_len_map U115 (hS := hS)) ?_
 try simp only [nY]
 rw [enc_len]
 refine m_make0 (n := _) U22 ti66 (hy := rfl) (h63 := by (simp only [maxLen]; omega)) (hS := hS) (h := fun w1 A1 hS => ?_)
 try simp only [nY, aY] at hS ⊢
 refine s_go s_assign ?_
 try simp only [nY]
 refine x_nil (hK2 _ _ ?_)
 refine x_seq fun K3 hK3 => ?_
 refine x_seq fun K4 hK4 => x_region ?_
 refine s_go s_move ?_
 try simp only [nY]
 refine m_range U115 (hS := hS) (h := fun w2 r2 hS => ?_)
 try simp only [nY, aY] at hS ⊢
 refine x_nil (hK4 _ _ ?_)
 refine x_block ?_
 refine x_loop [3, 4, 5, 11, 12, 13, 14, 15, 16, 17, 18, 19, 20, 21] (fun m f w => ∃ (seen : List Nat) (A : Option Addr) (c : Nat) (pl : List (List Int)), seen.Nodup ∧ (∀ i ∈ seen, i < E.length) ∧ m = E.length - seen.length ∧ pl = (seen.map fun i => E.getD i []) ∧ f 3 = .slice A pl.length c ∧ St (OwnB [.obj gm (mObj kv61 (encD (E)))]) w0 w [.obj r2 (itObj gm (encD E).length seen), .vec A c 66 21 (pl).length (arows (pl)), .obj gm (mObj kv61 (encD (E)))]) (E.length) ?init1 (fun m1 f1 wl1 hI => ?_)
 case init1 =>
  try simp only [nY]
  exact ⟨[], _, _, [], .nil, (fun i hi => by cases hi), rfl, rfl, rfl, hS.sel (by repeat (first | exact Sel.nil | (refine Sel.cons (by repeat (exact Del.head)) ?_)))⟩
 obtain ⟨seen, A, c, pl, hnd, hlt, hm, hpl, h3, hS⟩ := hI
 simp only [clob, List.foldl, n3, n4, h3]
 have hpll : pl.length = seen.length := by rw [hpl, List.length_map]
 refine x_seq fun K5 hK5 => x_region ?_
 refine m_next (hS := hS) (hu := fun i => by repeat (exact Upd.head)) (h1 := fun hall1 => ?_) (h2 := fun w3 i1 p1 hp1 hn1 hS => ?_)
 ·
  try simp only [nY, aY] at hS ⊢
  have hP := pick_perm hnd hlt (fun i hi => hall1 i (by rw [enc_len]; exact hi))
  rw [← hpl] at hP
  refine s_go (s_extract (hv := rfl)) ?_
  try simp only [gY]
  try simp only [nY]
  refine x_nil (hK5 _ _ ?_)
  refine x_seq fun K6 hK6 => ?_
  refine x_cond_f (h := ?_)
  refine x_exit (look_here ?_)
  refine hK3 _ _ ?_
  refine x_seq fun K7 hK7 => x_region ?_
  refine s_go s_move ?_
  try simp only [nY]
  refine s_call en107 ?_
  try simp only [nY, mY]
  refine CallR.mono (c_sortAtoms _ _ _ (hE.perm hP) (by have := hP.length_eq; omega) _ (hS.owns (by repeat (first | exact Spl.nil | (apply Spl.cons (by repeat (first | exact Del.head | apply Del.tail))))))) ?_
  rintro _ w4 ⟨rfl, hC4⟩
  replace hS := hS.frame (by repeat (first | exact Spl.nil | (apply Spl.cons (by repeat (first | exact Del.head | apply Del.tail))))) hC4 (by intro r hr g hg; simp only [List.mem_cons, List.not_mem_nil, or_false] at hr; subst hr; (simp [Res.reads] at hg; done))
  simp only [List.cons_append, List.nil_append] at hS
  rw [norm_perm hE hP] at hS
  try simp only [nY]
  refine x_nil (hK7 _ _ ?_)
  refine x_seq fun K8 hK8 => x_region ?_
  refine s_go s_move ?_
  try simp only [nY]
  refine s_go s_assign ?_
  try simp only [nY]
  refine x_nil (hK8 _ _ ?_)
  refine x_ret (r_tmp rfl ?_)
  have hle : pl.length = (normP E).length := by rw [norm_elen hE, ← hP.length_eq]
  rw [hle]
  exact ⟨_, _, rfl, hS.sel (by repeat (first | exact Sel.nil | (refine Sel.cons (by repeat (exact Del.head)) ?_)))⟩
 try simp only [nY, aY] at hS ⊢
 simp only [kv61]
 obtain ⟨hiE, hpx⟩ := enc_at hp1
 have hq := hp1
 have hnw := hn1
 obtain ⟨ix, hix⟩ : ∃ z, z = i1 := ⟨_, rfl⟩
 rw [← hix] at hpx hnw hS hiE hq
 obtain ⟨a, hax⟩ : ∃ z, E.getD ix [] = z := ⟨_, rfl⟩
 rw [hax] at hpx
 have ha : AtomOk a := by rw [← hax]; exact hE.ok.get hiE
 have hal := ha.len
 have hkl := ha.key.len
 have hvl := ha.val.len
 have hnd2 := nodup_snoc hnd hnw
 have hlt2 : ∀ i ∈ seen ++ [ix], i < E.length := by intro i hi; rcases List.mem_append.1 hi with hi | hi; exact hlt i hi; simp at hi; subst hi; exact hiE
 have hln := nodup_len hnd2 hlt2
 simp only [List.length_append, List.length_cons, List.length_nil] at hln
 refine s_go (s_extract (hv := rfl)) ?_
 try simp only [gY]
 try simp only [nY]
 refine x_nil (hK5 _ _ ?_)
 refine x_seq fun K9 hK9 => ?_
 refine x_cond_t (h := ?_)
 refine x_skip ?_
 refine hK9 _ _ ?_
 refine x_block ?_
 refine x_seq fun K10 hK10 => x_region ?_
 refine s_go (m_entry (hn := rfl) (hp := hq) (hS := hS)) ?_
 try simp only [nY]
 rw [hpx]
 refine s_go (s_extract (hv := rfl)) ?_
 try simp only [gY]
 try simp only [nY]
 simp only [kv61]
 refine s_go (s_extract (hv := rfl)) ?_
 try simp only [gY]
 try simp only [nY]
 refine m_alloc ti61 hS (fun w5 g5 hS => ?_)
 try simp only [nY, aY] at hS ⊢
 refine m_alloc ti64 hS (fun w6 g6 hS => ?_)
 try simp only [nY, aY] at hS ⊢
 have h0l : key0.length = 12 := rfl
 have h9l : v9.length = 9 := rfl
 replace hS : St (OwnB [.obj gm (mObj kv61 (encD (E)))]) w0 w6 (.obj g6 (.cells (VA v9) 64 (0, 0)) :: .obj _ (.cells (KA key0) 61 (0, 0)) :: _) := hS
 refine m_store_obj ti61 (hS := hS) (hc := by exact zi_whole (by omega) (by omega)) (hv := by (show (zi _ _).toArray.size = _; rw [zi_size (by omega)]; rfl)) (hfit := by (rw [zi_size (by omega)]; decide)) (h1 := by exact zi_one _ _) (h := fun w7 hS => ?_)
 try simp only [nY, aY] at hS ⊢
 refine m_store_obj ti64 (hS := hS) (hc := by exact zi_whole (by omega) (by omega)) (hv := by (show (zi _ _).toArray.size = _; rw [zi_size (by omega)]; rfl)) (hfit := by (rw [zi_size (by omega)]; decide)) (h1 := by exact zi_one _ _) (h := fun w8 hS => ?_)
 try simp only [nY, aY] at hS ⊢
 refine x_nil (hK10 _ _ ?_)
 refine x_region ?_
 refine s_go s_move ?_
 try simp only [nY]
 refine s_go (m_load_row U61 (hi := ti61) (hS := hS) (hfit := by (rw [zi_size (by omega)]; rfl))) ?_
 try simp only [nY, gY]
 refine s_go (m_load_row U64 (hi := ti64) (hS := hS) (hfit := by (rw [zi_size (by omega)]; rfl))) ?_
 try simp only [nY, gY]
 refine s_go (s_build_struct (cells := (AA (akey a ++ aval a))) U66 ti66 bp66 (hc := by simp only [List.map_toArray, List.map_cons, List.map_nil, nY, List.toList_toArray]; exact fill_atom (by rfl) (by rfl) (by rfl) hkl hvl)) ?_
 try simp only [nY]
 rw [kv_atom]
 refine m_buildRow (cells := (AA a)) U22 ti66 (hc := by simp only [List.map_toArray, List.map_cons, List.map_nil, nY, List.toList_toArray]; exact fill_one (by rfl) (zi_size21 hal) (by rfl)) (hS := hS) (h := fun w9 g9 hS => ?_)
 try simp only [nY, aY] at hS ⊢
 replace hS := hS.obj_rd (sz := 21) (n := 1) (by exact zi_size21 hal) .head
 rw [arow_one hal] at hS
 refine m_append U22 ti66 (hS := hS) (h1 := rowsZ_cells _ _) (h := fun w10 A10 C10 hS => ?_)
 try simp only [← List.map_append, ← List.map_drop, ← List.map_take, Nat.mul_one, Nat.zero_mul, Nat.sub_zero, List.drop_zero, List.nil_append, Nat.zero_add] at hS ⊢
 try simp only [nY, aY] at hS ⊢
 rw [← rowsZ_app] at hS
 refine s_go s_assign ?_
 try simp only [nY]
 refine x_nil ?_
 refine loop_back (m' := E.length - (seen.length + 1)) (by simp only [clob, List.foldl, nZ]) ?_ ?_
 · try simp only [nY]
   exact ⟨seen ++ [ix], _, _, pl ++ [a], hnd2, hlt2, by rw [List.length_append]; rfl, by rw [hpl, List.map_append, ← hax]; rfl, by rw [List.length_append]; rfl, by rw [List.length_append]; exact hS.selA⟩
 · omega
end Go.Proofs.YtpekghaodmeemaaGreat
set_option linter.unusedSimpArgs false
set_option linter.unusedVariables false
set_option maxHeartbeats 2000000
set_option maxRecDepth 100000
namespace Go.Proofs.YtpekghaodmeemaaGreat
open Go.RowKit

/-- a row among rows -/
structure Rw where
  A : Option Addr
  c : Nat
  l : List (List Int)
def rwV (r : Rw) : Value := .slice r.A r.l.length r.c
structure RwOk (w : World) (r : Rw) : Prop where
  rd : Rd w r.A 21 r.l.length (arows r.l)
  ok : AOks r.l
def flatR (rs : List Rw) : List (List Int) := (rs.map (·.l)).flatten
def rw0 : Rw := ⟨none, 0, []⟩
theorem rws_len (rs : List Rw) : (rs.map rwV).length = rs.length := by simp
theorem rws_get {rs : List Rw} {k : Nat} {r : Rw} (hk : k < rs.length) (hr : rs.getD k rw0 = r) : (rs.map rwV)[k]? = some (.slice r.A r.l.length r.c) := by
  rw [List.getElem?_map, List.getElem?_eq_getElem hk]
  rw [List.getD_eq_getElem?_getD, List.getElem?_eq_getElem hk] at hr
  have hr : rs[k] = r := hr
  rw [hr]; rfl
theorem rws_mem {rs : List Rw} {k : Nat} {r : Rw} (hk : k < rs.length) (hr : rs.getD k rw0 = r) : r ∈ rs := by rw [← hr]; exact getD_mem' hk
theorem flat_ok {w : World} : ∀ {rs : List Rw}, (∀ r ∈ rs, RwOk w r) → AOks (flatR rs)
  | [], _ => AOks.nil
  | r :: rs, h => (h r (by simp)).ok.app (flat_ok fun q hq => h q (by simp [hq]))
theorem flat_take {rs : List Rw} {k : Nat} {r : Rw} (hk : k < rs.length) (hr : rs.getD k rw0 = r) : flatR (rs.take (k + 1)) = flatR (rs.take k) ++ r.l := by
  rw [List.getD_eq_getElem?_getD, List.getElem?_eq_getElem hk] at hr
  have hr : rs[k] = r := hr
  rw [flatR, List.take_succ_eq_append_getElem hk, List.map_append, List.flatten_append, hr]; simp [flatR]
theorem flat_len_take (rs : List Rw) (k : Nat) : (flatR (rs.take k)).length ≤ (flatR rs).length := by
  conv => rhs; rw [← List.take_append_drop k rs]
  rw [flatR, flatR, List.map_append, List.flatten_append, List.length_append]; exact Nat.le_add_right _ _
theorem allE_take {F l : List (List Int)} {j : Nat} {x : List Int} (hj : j < l.length) (hx : l.getD j [] = x) : allE (F ++ l.take (j + 1)) = stepE (allE (F ++ l.take j)) x := by
  rw [take_snoc hj, ← List.append_assoc, allE_snoc, hx]
theorem step_no {E : List (List Int)} {x : List Int} (h : atomR x = false) : stepE E x = E := by rw [stepE, if_neg (by rw [h]; decide)]
theorem step_new {E : List (List Int)} {x : List Int} (h : atomR x = true) (hf : fnd (akey x) E = none) : stepE E x = eput x E := by rw [stepE, if_pos h, newA, hf]
theorem step_more {E : List (List Int)} {x v : List Int} (h : atomR x = true) (hf : fnd (akey x) E = some v) : stepE E x = eput (akey x ++ moreV v (aval x)) E := by rw [stepE, if_pos h, newA, hf]
theorem is_none {o : Option (List Int)} (h : o.isSome = false) : o = none := by cases o; rfl; cases h
theorem is_some {o : Option (List Int)} {d : List Int} (h : o.isSome = true) : o = some (o.getD d) := by cases o; cases h; rfl

theorem c_latAll (w0 : World) (B : Option Addr) (d : Nat) (rs : List Rw) (hB : Rd w0 B 1 rs.length (rs.map rwV)) (hrs : ∀ r ∈ rs, RwOk w0 r) (hm : rs.length ≤ 1000000000) (hn : (flatR rs).length ≤ 1000000000)  :
    CallR Tryz.prog 50 #[.slice B rs.length d] w0 fun v w' => ∃ A c, v = .slice A (normP (flatR rs)).length c ∧ St NoB w0 w' [.vec A c 66 21 (normP (flatR rs)).length (arows (normP (flatR rs)))] := by
 have hS := St.rd1 (S := NoB) hB
 have hfo := flat_ok hrs
 have hrl := rws_len rs
 refine c_enter (l := [.slice B rs.length d, undef, undef, undef, undef, undef, undef, undef, undef, undef, undef, undef, undef, undef, undef, undef, undef, undef, undef, undef, undef, undef, undef, undef, undef, undef, undef, undef, undef, undef, undef, undef, undef, undef, undef, undef, undef, undef, undef, undef, undef, undef, undef, undef, undef, undef, undef, undef]) Tryz.func50 rfl (by simp only [Tryz.ntmps50, List.size_toArray, List.length_cons, List.length_nil, Nat.reduceAdd, Nat.reduceSub, Array.replicate_succ, Array.replicate_zero, List.push_toArray, List.append_toArray, List.nil_append, List.cons_append]) ?_
 refine x_seq fun K1 hK1 => x_region ?_
 refine s_go s_assign ?_
 try simp only [nY]
 refine x_nil (hK1 _ _ ?_)
 refine x_seq fun K2 hK2 => x_region ?_
 refine m_makeMap kv61 hS (fun w1 g1 hS => ?_)
 try simp only [nY, aY] at hS ⊢
 obtain ⟨gm, hgm⟩ : ∃ z, z = g1 := ⟨_, rfl⟩
 rw [← hgm] at hS ⊢
 refine s_go s_assign ?_
 try simp only [nY]
 refine x_nil (hK2 _ _ ?_)
 refine x_seq fun K3 hK3 => ?_
 refine x_seq fun K4 hK4 => x_region ?_
 refine s_go s_move ?_
 try simp only [nY]
 refine s_go (s_len_sl U114) ?_
 try simp only [nY]
 refine s_go s_move ?_
 try simp only [nY]
 refine x_nil (hK4 _ _ ?_)
 refine x_block ?_
 refine x_loop [5, 7, 8, 9, 13, 14, 15, 16, 17, 18, 19, 20, 21, 22, 23, 24, 25, 26, 27, 28, 29, 30, 31, 32, 33, 34, 35, 36, 37, 38, 39, 40, 41, 42, 43, 44, 45] (fun m f w => ∃ i : Nat, i ≤ rs.length ∧ m = rs.length - i ∧ f 13 = .int .i64 (i : Int) ∧ St NoB w0 w [.obj gm (mObj kv61 (encD (allE (flatR (rs.take i))))), .rd B 1 rs.length (rs.map rwV)]) (rs.length) ?init1 (fun m1 f1 wl1 hI => ?_)
 case init1 =>
  try simp only [nY]
  exact ⟨0, by omega, rfl, rfl, hS⟩
 obtain ⟨i, hi, hmi, h13, hS⟩ := hI
 simp only [clob, List.foldl, n3, n4, h13]
 refine x_seq fun K5 hK5 => x_region ?_
 refine s_go s_lss ?_
 try simp only [nY]
 refine x_nil (hK5 _ _ ?_)
 refine x_seq fun K6 hK6 => ?_
 refine x_cond (ht := fun hc1 => ?_) (hf := fun hc1 => ?_)
 ·
  try simp only [dY] at hc1
  obtain ⟨r, hr⟩ : ∃ r, rs.getD i rw0 = r := ⟨_, rfl⟩
  have hrm := hrs r (rws_mem (by omega) hr)
  have hro := hrm.ok
  have hrd := hrm.rd
  have hft := flat_take (by omega) hr
  have hfl := flat_len_take rs (i + 1)
  rw [hft, List.length_append] at hfl
  obtain ⟨F, hF⟩ : ∃ F, flatR (rs.take i) = F := ⟨_, rfl⟩
  rw [hF] at hS hft hfl
  have hFo : AOks F := by rw [← hF]; exact flat_ok fun q hq => hrs q (List.mem_of_mem_take hq)
  have hvl := arows_len r.l
  refine x_skip ?_
  refine hK6 _ _ ?_
  refine x_seq fun K7 hK7 => ?_
  refine x_block ?_
  refine x_seq fun K8 hK8 => x_region ?_
  refine s_go (m_indexAddr_rd U114 ti22 (hS := hS)) ?_
  try simp only [nY, Nat.mul_one, Nat.zero_add, Int.toNat_natCast, Int.reduceToNat]
  refine s_go (m_load_rd U22 (hS := hS) (hv := rws_get (by omega) hr)) ?_
  try simp only [nY, gY]
  replace hS := hS.rd_old hrd
  refine s_go s_assign ?_
  try simp only [nY]
  refine x_nil (hK8 _ _ ?_)
  refine x_seq fun K9 hK9 => x_region ?_
  refine s_go s_move ?_
  try simp only [nY]
  refine s_go (s_len_sl U22) ?_
  try simp only [nY]
  refine s_go s_move ?_
  try simp only [nY]
  refine x_nil (hK9 _ _ ?_)
  refine x_block ?_
  refine x_loop [7, 8, 9, 19, 20, 21, 22, 23, 24, 25, 26, 27, 28, 29, 30, 31, 32, 33, 34, 35, 36, 37, 38, 39, 40, 41, 42, 43, 44] (fun m f w => ∃ j : Nat, j ≤ r.l.length ∧ m = r.l.length - j ∧ f 19 = .int .i64 (j : Int) ∧ St NoB w0 w [.obj gm (mObj kv61 (encD (allE (F ++ r.l.take j)))), .rd r.A 21 (r.l).length (arows (r.l)), .rd B 1 rs.length (rs.map rwV)]) (r.l.length) ?init2 (fun m2 f2 wl2 hI => ?_)
  case init2 =>
   try simp only [nY]
   exact ⟨0, by omega, rfl, rfl, by rw [List.take_zero, List.append_nil]; exact hS.selA⟩
  obtain ⟨j, hj, hmj, h19, hS⟩ := hI
  simp only [clob, List.foldl, n3, n4, h19]
  obtain ⟨E, hE⟩ : ∃ E, allE (F ++ r.l.take j) = E := ⟨_, rfl⟩
  rw [hE] at hS
  have hEo : EOk E := by rw [← hE]; exact allE_ok (hFo.app (hro.take j))
  have hmok := enc_ok hEo.ok
  obtain ⟨x, hx⟩ : ∃ x, r.l.getD j [] = x := ⟨_, rfl⟩
  refine x_seq fun K10 hK10 => x_region ?_
  refine s_go s_lss ?_
  try simp only [nY]
  refine x_nil (hK10 _ _ ?_)
  refine x_seq fun K11 hK11 => ?_
  refine x_cond (ht := fun hc2 => ?_) (hf := fun hc2 => ?_)
  ·
   try simp only [dY] at hc2
   have ha : AtomOk x := by rw [← hx]; exact hro.get (by omega)
   have hal := ha.len
   have hk := ha.key
   have hkl := hk.len
   have hvx := ha.val
   have hvl := hvx.len
   refine x_skip ?_
   refine hK11 _ _ ?_
   refine x_seq fun K12 hK12 => ?_
   refine x_block ?_
   refine x_seq fun K13 hK13 => x_region ?_
   refine s_go (m_indexAddr_rd U22 ti66 (hS := hS)) ?_
   try simp only [nY, Nat.mul_one, Nat.zero_add, Int.toNat_natCast, Int.reduceToNat]
   refine s_go (m_loada_rd U66 (hi := ti66) (hS := hS) (hfit := by rw [arows_len]; omega)) ?_
   try simp only [nY, gY]
   rw [arow_get (by omega) hro, hx]
   refine m_alloc ti66 hS (fun w2 g2 hS => ?_)
   try simp only [nY, aY] at hS ⊢
   have h0l : (List.replicate 21 (0 : Int)).length = 21 := rfl
   replace hS : St NoB w0 w2 (.obj g2 (.cells (AA (List.replicate 21 0)) 66 (0, 0)) :: _) := hS
   refine m_store_obj ti66 (hS := hS) (hc := by exact zi_whole (by omega) (by omega)) (hv := by (show (zi _ _).toArray.size = _; rw [zi_size (by omega)]; rfl)) (hfit := by (rw [zi_size (by omega)]; decide)) (h1 := by exact zi_one _ _) (h := fun w3 hS => ?_)
   try simp only [nY, aY] at hS ⊢
   refine x_nil (hK13 _ _ ?_)
   refine x_seq fun K14 hK14 => ?_
   refine x_seq fun K15 hK15 => x_region ?_
   refine s_go (m_load_row U66 (hi := ti66) (hS := hS) (hfit := by (rw [zi_size (by omega)]; rfl))) ?_
   try simp only [nY, gY]
   refine s_call en84 ?_
   try simp only [nY, mY]
   refine CallR.mono (c_atomRight x ha _) ?_
   rintro _ w4 ⟨rfl, hE4⟩
   replace hS := hS.ext hE4
   try simp only [nY]
   refine s_go s_not ?_
   try simp only [nY]
   refine x_nil (hK15 _ _ ?_)
   refine x_cond (ht := fun hc3 => ?_) (hf := fun hc3 => ?_)
   ·
    try simp only [dY] at hc3
    have hax : atomR x = false := by simpa using hc3
    refine x_exit (look_here ?_)
    refine hK12 _ _ ?_
    refine x_region ?_
    refine s_go (s_add (hc := by exact wr_i64 (by omega) (by omega))) ?_
    try simp only [nY]
    refine s_go s_move ?_
    try simp only [nY]
    refine x_nil ?_
    refine loop_back (m' := r.l.length - (j + 1)) (by simp only [clob, List.foldl, nZ]) ?_ ?_
    · try simp only [nY]
      exact ⟨j + 1, by omega, by omega, by rfl, by rw [allE_take (by omega) hx, hE, step_no hax]; exact hS.selA⟩
    · omega
   try simp only [dY] at hc3
   have hax : atomR x = true := by simpa using hc3
   refine x_skip ?_
   refine hK14 _ _ ?_
   refine x_seq fun K16 hK16 => ?_
   refine x_seq fun K17 hK17 => x_region ?_
   refine s_go s_move ?_
   try simp only [nY]
   refine s_go (m_fieldAddr U66 (hi := ti61)) ?_
   try simp only [nY, fY, gY]
   refine s_go (m_loada_obj U61 (hi := ti61) (hS := hS) (hfit := by (rw [zi_size (by omega)]; decide))) ?_
   try simp only [nY, gY]
   rw [atom_key hal]
   refine s_go (m_lookup_ok ky61 U115 ti64 (hy := rfl) (ha := by trivial) (hD := by assumption) (hS := hS)) ?_
   try simp only [nY]
   rw [enc_val, enc_is]
   refine s_go s_move ?_
   try simp only [nY]
   refine s_go (s_extract (hv := rfl)) ?_
   try simp only [gY]
   try simp only [nY]
   refine s_go (s_extract (hv := rfl)) ?_
   try simp only [gY]
   try simp only [nY]
   refine m_alloc ti64 hS (fun w5 g5 hS => ?_)
   try simp only [nY, aY] at hS ⊢
   have h9l : v9.length = 9 := rfl
   have hfl9 := (fndD_ok (k := akey x) hEo.ok).len
   replace hS : St NoB w0 w5 (.obj g5 (.cells (VA v9) 64 (0, 0)) :: _) := hS
   refine m_store_obj ti64 (hS := hS) (hc := by exact zi_whole (by omega) (by omega)) (hv := by (show (zi _ _).toArray.size = _; rw [zi_size (by omega)]; rfl)) (hfit := by (rw [zi_size (by omega)]; decide)) (h1 := by exact zi_one _ _) (h := fun w6 hS => ?_)
   try simp only [nY, aY] at hS ⊢
   refine s_go s_assign ?_
   try simp only [nY]
   refine x_nil (hK17 _ _ ?_)
   refine x_seq fun K18 hK18 => x_region ?_
   refine s_go s_move ?_
   try simp only [nY]
   refine x_nil (hK18 _ _ ?_)
   refine x_cond (ht := fun hc4 => ?_) (hf := fun hc4 => ?_)
   ·
    try simp only [dY] at hc4
    have hfs := is_some (d := v9) hc4
    have hwo : ValOk ((fnd (akey x) E).getD v9) := fndD_ok hEo.ok
    obtain ⟨v, hvv⟩ : ∃ v, (fnd (akey x) E).getD v9 = v := ⟨_, rfl⟩
    rw [hvv] at hfs hwo hS ⊢
    have hvm := more_ok hwo hvx
    obtain ⟨y, hy⟩ : ∃ y, akey x ++ moreV v (aval x) = y := ⟨_, rfl⟩
    have hyy := kv_ok hk hvm
    rw [hy] at hyy
    have hst : allE (F ++ r.l.take (j + 1)) = eput y E := by rw [allE_take (by omega) hx, hE, step_more hax hfs, hy]
    have hyl := hyy.len
    have hyk := hyy.key.len
    have hyv := hyy.val.len
    have hmvl := hvm.len
    have hvvl := hwo.len
    refine x_region ?_
    refine s_go (m_load_row U64 (hi := ti64) (hS := hS) (hfit := by (rw [zi_size (by omega)]; rfl))) ?_
    try simp only [nY, gY]
    refine s_go (m_fieldAddr U66 (hi := ti64)) ?_
    try simp only [nY, fY, gY]
    refine s_go (m_loada_obj U64 (hi := ti64) (hS := hS) (hfit := by (rw [zi_size (by omega)]; decide))) ?_
    try simp only [nY, gY]
    rw [atom_val hal]
    refine s_call en85 ?_
    try simp only [nY, mY]
    refine CallR.mono (c_atomMore v (aval x) hwo hvx _) ?_
    rintro _ w7 ⟨rfl, hE7⟩
    replace hS := hS.ext hE7
    try simp only [nY]
    refine s_go (m_fieldAddr U66 (hi := ti64)) ?_
    try simp only [nY, fY, gY]
    refine m_store_obj ti64 (hS := hS) (hc := by exact atom_put hal hmvl) (hv := by (show (zi _ _).toArray.size = _; rw [zi_size (by omega)]; rfl)) (hfit := by (rw [zi_size (by omega)]; decide)) (h1 := by exact zi_one _ _) (h := fun w8 hS => ?_)
    try simp only [nY, aY] at hS ⊢
    rw [hy] at hS
    refine x_nil (hK16 _ _ ?_)
    refine x_region ?_
    refine s_go s_move ?_
    try simp only [nY]
    refine s_go (m_fieldAddr U66 (hi := ti61)) ?_
    try simp only [nY, fY, gY]
    refine s_go (m_loada_obj U61 (hi := ti61) (hS := hS) (hfit := by (rw [zi_size (by omega)]; decide))) ?_
    try simp only [nY, gY]
    rw [atom_key hyl]
    refine s_go (m_fieldAddr U66 (hi := ti64)) ?_
    try simp only [nY, fY, gY]
    refine s_go (m_loada_obj U64 (hi := ti64) (hS := hS) (hfit := by (rw [zi_size (by omega)]; decide))) ?_
    try simp only [nY, gY]
    rw [atom_val hyl]
    have hyk2 := hyk
    refine m_mapUpdate ky61 U115 (hy := rfl) (ha := by trivial) (hD := by assumption) (hS := hS) (h := fun w9 hS => ?_)
    try simp only [nY, aY] at hS ⊢
    rw [enc_put] at hS
    refine x_nil (hK12 _ _ ?_)
    refine x_region ?_
    refine s_go (s_add (hc := by exact wr_i64 (by omega) (by omega))) ?_
    try simp only [nY]
    refine s_go s_move ?_
    try simp only [nY]
    refine x_nil ?_
    refine loop_back (m' := r.l.length - (j + 1)) (by simp only [clob, List.foldl, nZ]) ?_ ?_
    · try simp only [nY]
      exact ⟨j + 1, by omega, by omega, by rfl, by rw [hst]; exact hS.selA⟩
    · omega
   try simp only [dY] at hc4
   obtain ⟨y, hy⟩ : ∃ y, x = y := ⟨_, rfl⟩
   have hst : allE (F ++ r.l.take (j + 1)) = eput y E := by rw [allE_take (by omega) hx, hE, step_new hax (is_none hc4), hy]
   have hyl : y.length = 21 := by rw [← hy]; exact hal
   have hyk : (akey y).length = 12 := by rw [← hy]; exact hkl
   have hyv : (aval y).length = 9 := by rw [← hy]; exact hvl
   rw [hy] at hS
   refine x_skip ?_
   refine hK16 _ _ ?_
   refine x_region ?_
   refine s_go s_move ?_
   try simp only [nY]
   refine s_go (m_fieldAddr U66 (hi := ti61)) ?_
   try simp only [nY, fY, gY]
   refine s_go (m_loada_obj U61 (hi := ti61) (hS := hS) (hfit := by (rw [zi_size (by omega)]; decide))) ?_
   try simp only [nY, gY]
   rw [atom_key hyl]
   refine s_go (m_fieldAddr U66 (hi := ti64)) ?_
   try simp only [nY, fY, gY]
   refine s_go (m_loada_obj U64 (hi := ti64) (hS := hS) (hfit := by (rw [zi_size (by omega)]; decide))) ?_
   try simp only [nY, gY]
   rw [atom_val hyl]
   have hyk2 := hyk
   refine m_mapUpdate ky61 U115 (hy := rfl) (ha := by trivial) (hD := by assumption) (hS := hS) (h := fun w10 hS => ?_)
   try simp only [nY, aY] at hS ⊢
   rw [enc_put] at hS
   refine x_nil (hK12 _ _ ?_)
   refine x_region ?_
   refine s_go (s_add (hc := by exact wr_i64 (by omega) (by omega))) ?_
   try simp only [nY]
   refine s_go s_move ?_
   try simp only [nY]
   refine x_nil ?_
   refine loop_back (m' := r.l.length - (j + 1)) (by simp only [clob, List.foldl, nZ]) ?_ ?_
   · try simp only [nY]
     exact ⟨j + 1, by omega, by omega, by rfl, by rw [hst]; exact hS.selA⟩
   · omega
  try simp only [dY] at hc2
  obtain rfl : j = r.l.length := by omega
  refine x_exit (look_here ?_)
  refine hK7 _ _ ?_
  refine x_region ?_
  refine s_go (s_add (hc := by exact wr_i64 (by omega) (by omega))) ?_
  try simp only [nY]
  refine s_go s_move ?_
  try simp only [nY]
  refine x_nil ?_
  refine loop_back (m' := rs.length - (i + 1)) (by simp only [clob, List.foldl, nZ]) ?_ ?_
  · try simp only [nY]
    rw [List.take_of_length_le (by omega)] at hE
    rw [← hft] at hE
    rw [← hE] at hS
    exact ⟨i + 1, by omega, by omega, by rfl, hS.selA⟩
  · omega
 try simp only [dY] at hc1
 obtain rfl : i = rs.length := by omega
 rw [List.take_of_length_le (Nat.le_refl _)] at hS
 refine x_exit (look_here ?_)
 refine hK3 _ _ ?_
 refine x_seq fun K19 hK19 => x_region ?_
 refine s_go s_move ?_
 try simp only [nY]
 refine s_call en86 ?_
 try simp only [nY, mY]
 refine CallR.mono (c_latState _ gm (allE (flatR rs)) (allE_ok hfo) (by have := allE_len (flatR rs); omega) (hS.owns (by repeat (first | exact Spl.nil | (apply Spl.cons (by repeat (exact Del.head))))))) ?_
 rintro _ w11 ⟨A11, c11, rfl, hC11⟩
 replace hS := hS.frame (by repeat (first | exact Spl.nil | (apply Spl.cons (by repeat (exact Del.head))))) hC11 (by intro r hr g hg; simp only [List.mem_cons, List.not_mem_nil, or_false] at hr; subst hr; (simp [Res.reads] at hg; done))
 simp only [List.cons_append, List.nil_append] at hS
 rw [norm_allE hfo] at hS ⊢
 try simp only [nY]
 refine s_go s_assign ?_
 try simp only [nY]
 refine x_nil (hK19 _ _ ?_)
 refine x_ret (r_tmp rfl ?_)
 exact ⟨_, _, rfl, hS.sel (by repeat (first | exact Sel.nil | (refine Sel.cons (by repeat (exact Del.head)) ?_)))⟩
end Go.Proofs.YtpekghaodmeemaaGreat
set_option linter.unusedSimpArgs false
set_option linter.unusedVariables false
set_option maxHeartbeats 600000
set_option maxRecDepth 100000
namespace Go.Proofs.YtpekghaodmeemaaGreat
open Go.RowKit

theorem fr_in {w : World} {M L : List Res} {r : Res} (h : r ∈ M) (hL : FrOK w M L) : FrOK w M (r :: L) := fun s hs g hg => by
  rcases List.mem_cons.1 hs with rfl | hs
  · exact .inr ⟨_, h, .inr hg⟩
  · exact hL s hs g hg
theorem rw_one {w : World} {A : Option Addr} {c : Nat} {l : List (List Int)} (h : Rd w A 21 l.length (arows l)) (hv : AOks l) : ∀ r ∈ [(⟨A, c, l⟩ : Rw)], RwOk w r := fun r hr => by rw [List.mem_singleton] at hr; rw [hr]; exact ⟨h, hv⟩
theorem rw_two {w : World} {A B : Option Addr} {c d : Nat} {l m : List (List Int)} (h : Rd w A 21 l.length (arows l)) (hv : AOks l) (h2 : Rd w B 21 m.length (arows m)) (hv2 : AOks m) : ∀ r ∈ [(⟨A, c, l⟩ : Rw), ⟨B, d, m⟩], RwOk w r := fun r hr => by
  simp only [List.mem_cons, List.not_mem_nil, or_false] at hr
  rcases hr with rfl | rfl
  · exact ⟨h, hv⟩
  · exact ⟨h2, hv2⟩
theorem flat_one (A : Option Addr) (c : Nat) (l : List (List Int)) : flatR [⟨A, c, l⟩] = l := by simp [flatR]
theorem flat_two (A B : Option Addr) (c d : Nat) (l m : List (List Int)) : flatR [⟨A, c, l⟩, ⟨B, d, m⟩] = l ++ m := by simp [flatR]

theorem c_latNorm (w0 : World) (A : Option Addr) (c : Nat) (l : List (List Int)) (hr : Rd w0 A 21 l.length (arows l)) (hv : AOks l) (hn : l.length ≤ 1000000000)  :
    CallR Tryz.prog 27 #[.slice A l.length c] w0 fun v w' => ∃ A c, v = .slice A (normP l).length c ∧ St NoB w0 w' [.vec A c 66 21 (normP l).length (arows (normP l))] := by
 have hS := St.rd1 (S := NoB) hr
 refine c_enter (l := [.slice A l.length c, undef, undef, undef, undef, undef]) Tryz.func27 rfl (by simp only [Tryz.ntmps27, List.size_toArray, List.length_cons, List.length_nil, Nat.reduceAdd, Nat.reduceSub, Array.replicate_succ, Array.replicate_zero, List.push_toArray, List.append_toArray, List.nil_append, List.cons_append]) ?_
 refine x_seq fun K1 hK1 => x_region ?_
 refine s_go s_assign ?_
 try simp only [nY]
 refine x_nil (hK1 _ _ ?_)
 refine x_seq fun K2 hK2 => x_region ?_
 refine s_go s_move ?_
 try simp only [nY]
 refine m_buildRow (cells := #[_]) U114 ti22 (hc := by simp only [List.map_toArray, List.map_cons, List.map_nil, nY, List.toList_toArray]; (repeat (refine fill_cons rfl rfl (Nat.le_of_ble_eq_true rfl) ?_)); rfl) (hS := hS) (h := fun w1 g1 hS => ?_)
 try simp only [nY, aY] at hS ⊢
 replace hS := hS.obj_rd (sz := 1) (n := 1) rfl .head
 refine s_call en50 ?_
 try simp only [nY, mY]
 refine CallR.mono (c_latAll _ (some ⟨g1, 0, none⟩) 1 [⟨A, c, l⟩] (hS.hasRd (by repeat (exact Has.head))) (rw_one (hS.hasA) hv) (Nat.le_of_ble_eq_true rfl) (by rw [flat_one]; omega)) ?_
 rintro _ w2 ⟨A2, c2, rfl, hC2⟩
 replace hS := hS.call hC2
 simp only [List.cons_append, List.nil_append] at hS
 rw [flat_one] at hS ⊢
 try simp only [nY]
 refine s_go s_assign ?_
 try simp only [nY]
 refine x_nil (hK2 _ _ ?_)
 refine x_ret (r_tmp rfl ?_)
 exact ⟨_, _, rfl, hS.sel (by repeat (first | exact Sel.nil | (refine Sel.cons (by repeat (exact Del.head)) ?_)))⟩
theorem c_latJoin (w0 : World) (A : Option Addr) (c : Nat) (l : List (List Int)) (hr : Rd w0 A 21 l.length (arows l)) (hv : AOks l) (B : Option Addr) (d : Nat) (r : List (List Int)) (hr2 : Rd w0 B 21 r.length (arows r)) (hv2 : AOks r) (hn : l.length + r.length ≤ 1000000000)  :
    CallR Tryz.prog 28 #[.slice A l.length c, .slice B r.length d] w0 fun v w' => ∃ A c, v = .slice A (normP (l ++ r)).length c ∧ St NoB w0 w' [.vec A c 66 21 (normP (l ++ r)).length (arows (normP (l ++ r)))] := by
 have hS := St.rd2 (S := NoB) hr hr2
 refine c_enter (l := [.slice A l.length c, .slice B r.length d, undef, undef, undef, undef, undef, undef, undef]) Tryz.func28 rfl (by simp only [Tryz.ntmps28, List.size_toArray, List.length_cons, List.length_nil, Nat.reduceAdd, Nat.reduceSub, Array.replicate_succ, Array.replicate_zero, List.push_toArray, List.append_toArray, List.nil_append, List.cons_append]) ?_
 refine x_seq fun K1 hK1 => x_region ?_
 refine s_go s_assign ?_
 try simp only [nY]
 refine x_nil (hK1 _ _ ?_)
 refine x_seq fun K2 hK2 => x_region ?_
 refine s_go s_move ?_
 try simp only [nY]
 refine s_go s_move ?_
 try simp only [nY]
 refine m_buildRow (cells := #[_, _]) U114 ti22 (hc := by simp only [List.map_toArray, List.map_cons, List.map_nil, nY, List.toList_toArray]; (repeat (refine fill_cons rfl rfl (Nat.le_of_ble_eq_true rfl) ?_)); rfl) (hS := hS) (h := fun w1 g1 hS => ?_)
 try simp only [nY, aY] at hS ⊢
 replace hS := hS.obj_rd (sz := 1) (n := 2) rfl .head
 refine s_call en50 ?_
 try simp only [nY, mY]
 refine CallR.mono (c_latAll _ (some ⟨g1, 0, none⟩) 2 [⟨A, c, l⟩, ⟨B, d, r⟩] (hS.hasRd (by repeat (exact Has.head))) (rw_two (hS.hasA) hv (hS.hasA) hv2) (Nat.le_of_ble_eq_true rfl) (by rw [flat_two, List.length_append]; omega)) ?_
 rintro _ w2 ⟨A2, c2, rfl, hC2⟩
 replace hS := hS.call hC2
 simp only [List.cons_append, List.nil_append] at hS
 rw [flat_two] at hS ⊢
 try simp only [nY]
 refine s_go s_assign ?_
 try simp only [nY]
 refine x_nil (hK2 _ _ ?_)
 refine x_ret (r_tmp rfl ?_)
 exact ⟨_, _, rfl, hS.sel (by repeat (first | exact Sel.nil | (refine Sel.cons (by repeat (exact Del.head)) ?_)))⟩
theorem c_latEach (A : Option Addr) (c : Nat) (l : List (List Int))  (w0 : World) :
    CallR Tryz.prog 81 #[.slice A l.length c] w0 fun v w' => ∃ b : Nat, v = .func (.func 103) #[] #[.pointer (some ⟨b, 0, none⟩)] ∧ St NoB w0 w' [.obj b (.cells #[.slice A l.length c] 22 (0, 0))] := by
 have hS : St NoB w0 w0 [] := St.start w0
 refine c_enter (l := [.slice A l.length c, undef, undef, undef]) Tryz.func81 rfl (by simp only [Tryz.ntmps81, List.size_toArray, List.length_cons, List.length_nil, Nat.reduceAdd, Nat.reduceSub, Array.replicate_succ, Array.replicate_zero, List.push_toArray, List.append_toArray, List.nil_append, List.cons_append]) ?_
 refine x_seq fun K1 hK1 => x_region ?_
 refine m_box hS (fun w1 g1 hS => ?_)
 try simp only [nY, aY] at hS ⊢
 refine s_go s_assign ?_
 try simp only [nY]
 refine x_nil (hK1 _ _ ?_)
 refine x_seq fun K2 hK2 => x_region ?_
 refine s_go s_makeFunc ?_
 try simp only [nY, List.map_toArray, List.map_cons, List.map_nil]
 refine s_go s_assign ?_
 try simp only [nY]
 refine x_nil (hK2 _ _ ?_)
 refine x_ret (r_tmp rfl ?_)
 exact ⟨_, rfl, hS.sel (by repeat (first | exact Sel.nil | (refine Sel.cons (by repeat (exact Del.head)) ?_)))⟩
theorem i_latEach (b : Nat) (A : Option Addr) (c : Nat) (l : List (List Int)) (hv : AOks l) (hn : l.length ≤ 1000000000)  :
    IterC Tryz.prog 103 #[.pointer (some ⟨b, 0, none⟩)] ((normP l).length) (fun k => [.agg (KA (akey ((normP l).getD k []))), .agg (VA (aval ((normP l).getD k [])))]) [.obj b (.cells #[.slice A l.length c] 22 (0, 0)), .rd A 21 (l).length (arows (l))] := by
 intro lp I O hIc hOc hy w0 hI
 have hS := (hIc 0).st hI
 have hno := (norm_sta hv).ok
 have hnl := arows_len (normP l)
 have hnb := norm_len l
 refine y_enter (l := [.func (.yield lp) #[] #[], .pointer (some ⟨b, 0, none⟩), undef, undef, undef, undef, undef, undef, undef, undef, undef, undef, undef, undef, undef, undef, undef, undef, undef, undef]) Tryz.func103 rfl (by simp only [Tryz.ntmps103, List.size_toArray, List.length_cons, List.length_nil, Nat.reduceAdd, Nat.reduceSub, Array.replicate_succ, Array.replicate_zero, List.push_toArray, List.append_toArray, List.nil_append, List.cons_append]) ?_
 refine y_seq fun K1 hK1 => ?_
 refine y_region (by kernel_rfl) ?_
 refine s_go (m_load_obj U22 (hS := hS) (hv := by rfl)) ?_
 try simp only [nY, gY]
 refine s_call en27 ?_
 try simp only [nY, mY]
 refine CallR.mono (c_latNorm _ A c l (hS.hasA) hv hn) ?_
 rintro _ w1 ⟨Bn, cn, rfl, hC1⟩
 replace hS := hS.call hC1
 simp only [List.cons_append, List.nil_append] at hS
 try simp only [nY]
 refine s_go (s_len_sl U22) ?_
 try simp only [nY]
 refine s_go s_move ?_
 try simp only [nY]
 refine y_nilf ?_
 refine hK1 _ _ ?_
 refine y_block ?_
 refine y_loop [4, 8, 9, 10, 11, 12, 13, 14, 15, 16, 17, 18, 19] (fun m f w => ∃ k : Nat, k ≤ (normP l).length ∧ m = (normP l).length - k ∧ f 8 = .int .i64 (k : Int) ∧ I k w [.vec Bn cn 66 21 (normP l).length (arows (normP l)), .obj b (.cells #[.slice A l.length c] 22 (0, 0)), .rd A 21 (l).length (arows (l))]) ((normP l).length) ?init1 (fun m1 f1 wl1 hI => ?_)
 case init1 =>
  try simp only [nY]
  exact ⟨0, by omega, by omega, rfl, (hIc 0).on hI (hS.sel (by repeat (first | exact Sel.nil | (refine Sel.cons (by repeat (exact Del.head)) ?_)))) (by repeat (first | exact fr_nil | refine fr_own rfl ?_ | refine fr_in (by repeat (first | exact List.mem_cons_self .. | apply List.mem_cons_of_mem)) ?_))⟩
 obtain ⟨k, hk0, hm, h8, hI⟩ := hI
 simp only [clob, List.foldl, n3, n4, h8]
 replace hS := (hIc k).st hI
 refine y_seq fun K2 hK2 => ?_
 refine y_region (by kernel_rfl) ?_
 refine s_go s_lss ?_
 try simp only [nY]
 refine y_nilf ?_
 refine hK2 _ _ ?_
 refine y_seq fun K3 hK3 => ?_
 refine y_cond (ht := fun hc1 => ?_) (hf := fun hc1 => ?_)
 ·
  try simp only [dY] at hc1
  obtain ⟨x, hx⟩ : ∃ x, (normP l).getD k [] = x := ⟨_, rfl⟩
  have ha : AtomOk x := by rw [← hx]; exact hno.get (by omega)
  have hal := ha.len
  refine y_skip ?_
  refine hK3 _ _ ?_
  refine y_seq fun K4 hK4 => ?_
  refine y_block ?_
  refine y_seq fun K5 hK5 => ?_
  refine y_region (by kernel_rfl) ?_
  refine s_go (m_indexAddr_vec U22 ti66 (hS := hS)) ?_
  try simp only [nY, Nat.mul_one, Nat.zero_add, Int.toNat_natCast, Int.reduceToNat]
  refine s_go (m_loada_vec U66 (hi := ti66) (hS := hS) (hfit := by rw [arows_len]; omega)) ?_
  try simp only [nY, gY]
  rw [arow_get (by omega) hno, hx]
  refine m_alloc ti66 hS (fun w2 g2 hS => ?_)
  try simp only [nY, aY] at hS ⊢
  have h0l : (List.replicate 21 (0 : Int)).length = 21 := rfl
  replace hS : St _ _ w2 (.obj g2 (.cells (AA (List.replicate 21 0)) 66 (0, 0)) :: _) := hS
  refine m_store_obj ti66 (hS := hS) (hc := by exact zi_whole (by omega) (by omega)) (hv := by (show (zi _ _).toArray.size = _; rw [zi_size (by omega)]; rfl)) (hfit := by (rw [zi_size (by omega)]; decide)) (h1 := by exact zi_one _ _) (h := fun w3 hS => ?_)
  try simp only [nY, aY] at hS ⊢
  refine y_nilf ?_
  refine hK5 _ _ ?_
  refine y_seq fun K6 hK6 => ?_
  refine y_region_y ?_
  refine y_pre_n 5 (by kernel_rfl) ?_
  simp only [List.take_succ_cons, List.take_zero, List.drop_succ_cons, List.drop_zero]
  refine s_go s_move ?_
  try simp only [nY]
  refine s_go (m_fieldAddr U66 (hi := ti61)) ?_
  try simp only [nY, fY, gY]
  refine s_go (m_loada_obj U61 (hi := ti61) (hS := hS) (hfit := by (rw [zi_size (by omega)]; decide))) ?_
  try simp only [nY, gY]
  rw [atom_key hal]
  refine s_go (m_fieldAddr U66 (hi := ti64)) ?_
  try simp only [nY, fY, gY]
  refine s_go (m_loada_obj U64 (hi := ti64) (hS := hS) (hfit := by (rw [zi_size (by omega)]; decide))) ?_
  try simp only [nY, gY]
  rw [atom_val hal]
  refine y_pre_nilf ?_
  refine y_yield rfl ?_
  try simp only [nY, List.map_toArray, List.map_cons, List.map_nil]
  refine YC.mono (by rw [← hx]; exact hy k _ _ (by omega) ((hIc k).on hI (hS.selA) (FrOK.self _ _))) ?_
  rintro v w4 (⟨rfl, hI⟩ | ⟨rfl, hO⟩)
  ·
   replace hS := (hIc _).st hI
   refine y_rest (by kernel_rfl) ?_
   try simp only [nY]
   refine s_go s_not ?_
   try simp only [nY]
   refine y_nilf ?_
   refine hK6 _ _ ?_
   refine y_cond_f (h := ?_)
   refine y_skip ?_
   refine hK4 _ _ ?_
   refine y_region (by kernel_rfl) ?_
   refine s_go (s_add (hc := by exact wr_i64 (by omega) (by omega))) ?_
   try simp only [nY]
   refine s_go s_move ?_
   try simp only [nY]
   refine y_nilf ?_
   refine loop_back_y (m' := (normP l).length - (k + 1)) (by simp only [clob, List.foldl, nZ]) ?_ ?_
   · try simp only [nY]
     exact ⟨k + 1, by omega, by omega, by rfl, hI⟩
   · omega
  replace hS := (hOc _).st hO
  refine y_rest (by kernel_rfl) ?_
  try simp only [nY]
  refine s_go s_not ?_
  try simp only [nY]
  refine y_nilf ?_
  refine hK6 _ _ ?_
  refine y_cond_t (h := ?_)
  refine y_ret ?_
  refine rm_nil ?_
  refine r_none rfl ?_
  exact ⟨_, .inr ⟨k, hO⟩⟩
 try simp only [dY] at hc1
 obtain rfl : k = (normP l).length := by omega
 refine y_exit (look_here ?_)
 refine rm_nil ?_
 refine r_none rfl ?_
 exact ⟨_, .inl hI⟩
end Go.Proofs.YtpekghaodmeemaaGreat
set_option linter.unusedSimpArgs false
set_option linter.unusedVariables false
set_option maxHeartbeats 600000
set_option maxRecDepth 100000
namespace Go.Proofs.YtpekghaodmeemaaGreat
open Go.RowKit

theorem enc_take_ok {l : List (List Int)} (h : AOks l) (k : Nat) : MOk (fun xs : List Int => xs.length = 12) (encD ((normP l).take k)) := enc_ok ((norm_sta h).ok.take k)
theorem eput_take' {s : List (List Int)} (h : KND s) {k : Nat} {x : List Int} (hk : k < s.length) (hx : s.getD k [] = x) : eput x (s.take k) = s.take (k + 1) := by rw [← hx]; exact eput_take h hk

theorem c_latFacts (w0 : World) (A : Option Addr) (c : Nat) (l : List (List Int)) (hr : Rd w0 A 21 l.length (arows l)) (hv : AOks l) (hn : l.length ≤ 1000000000)  :
    CallR Tryz.prog 141 #[.slice A l.length c] w0 fun v w' => ∃ q : Nat, v = .map (some q) ∧ St NoB w0 w' [.obj q (mObj kv61 (encD (normP l)))] := by
 have hS := St.rd1 (S := NoB) hr
 have hno := (norm_sta hv).ok
 have hkn := (norm_sta hv).knd
 have hnl := arows_len (normP l)
 have hnb := norm_len l
 refine y_enter (l := [.slice A l.length c, undef, undef, undef, undef, undef, undef, undef, undef, undef, undef, undef, undef, undef, undef, undef, undef]) Tryz.func141 rfl (by simp only [Tryz.ntmps141, List.size_toArray, List.length_cons, List.length_nil, Nat.reduceAdd, Nat.reduceSub, Array.replicate_succ, Array.replicate_zero, List.push_toArray, List.append_toArray, List.nil_append, List.cons_append]) ?_
 refine y_seq fun K1 hK1 => ?_
 refine y_region (by kernel_rfl) ?_
 refine s_go s_assign ?_
 try simp only [nY]
 refine y_nilf ?_
 refine hK1 _ _ ?_
 refine y_seq fun K2 hK2 => ?_
 refine y_region (by kernel_rfl) ?_
 refine s_go s_move ?_
 try simp only [nY]
 refine s_go (s_len_sl U22) ?_
 try simp only [nY]
 refine m_makeMap_n kv61 U115 (hS := hS) (h := fun w1 g1 hS => ?_)
 try simp only [nY, aY] at hS ⊢
 obtain ⟨gm, hgm⟩ : ∃ z, z = g1 := ⟨_, rfl⟩
 rw [← hgm] at hS ⊢
 refine m_alloc ti115 hS (fun w2 g2 hS => ?_)
 try simp only [nY, aY] at hS ⊢
 obtain ⟨gb, hgb⟩ : ∃ z, z = g2 := ⟨_, rfl⟩
 rw [← hgb] at hS ⊢
 refine m_store_obj ti115 (hS := hS) (hc := by (exact splice_whole (by (simp [opv, Value.cells, *]; done)))) (hv := by rfl) (hfit := by (simp only [ic_size, List.length_map, List.size_toArray]; decide)) (h1 := by simp [opv, Value.cells, Value.oneCell']) (h := fun w3 hS => ?_)
 try simp only [nY, aY] at hS ⊢
 refine y_nilf ?_
 refine hK2 _ _ ?_
 refine y_seq fun K3 hK3 => ?_
 refine y_seq fun K4 hK4 => ?_
 refine y_region (by kernel_rfl) ?_
 refine s_go s_move ?_
 try simp only [nY]
 refine s_call en81 ?_
 try simp only [nY, mY]
 refine CallR.mono (c_latEach A c l _) ?_
 rintro _ w4 ⟨b, rfl, hC4⟩
 replace hS := hS.call hC4
 simp only [List.cons_append, List.nil_append] at hS
 try simp only [nY]
 refine y_nilf ?_
 refine hK4 _ _ ?_
 refine y_block ?_
 refine y_range rfl en103 (i_latEach b A c l hv hn) (fun _ => rfl) hS (by repeat (first | exact Spl.nil | (apply Spl.cons (by repeat (first | exact Del.head | apply Del.tail))))) (fun k L => k ≤ (normP l).length ∧ L = [.obj gb (.cells #[.map (some gm)] 115 (0, 0)), .obj gm (mObj kv61 (encD ((normP l).take k)))]) (fun L => False) [] ?rfh1 ?rfr1 (fun D1 T1 w5 R1 hC hS => ?rfd1) (fun D1 T1 w6 R1 hX hS => ?rft1) ?rfe1
 case rfh1 =>
  exact ⟨Nat.zero_le _, rfl⟩
 case rfr1 =>
  intro k1 w7 R1 T1 lr1 hk1 hC hS
  obtain ⟨hk0, rfl⟩ := hC
  simp only [List.cons_append, List.nil_append] at hS
  simp only [List.toList_toArray, entL, List.zip_cons_cons, List.zip_nil_left, List.foldl_cons, List.foldl_nil, n3, n4]
  obtain ⟨x, hx⟩ : ∃ x, (normP l).getD k1 [] = x := ⟨_, rfl⟩
  have ha : AtomOk x := by rw [← hx]; exact hno.get (by omega)
  have hal := ha.len
  have hk12 := ha.key.len
  have hvx := ha.val
  have hx9 := hvx.len
  simp only [hx]
  have hmok := enc_take_ok hv k1
  refine y_seq fun K5 hK5 => ?_
  refine y_region (by kernel_rfl) ?_
  refine m_alloc ti61 hS (fun w8 g8 hS => ?_)
  try simp only [nY, aY] at hS ⊢
  have h0l : key0.length = 12 := rfl
  replace hS : St _ _ w8 (.obj g8 (.cells (KA key0) 61 (0, 0)) :: _) := hS
  refine m_store_obj ti61 (hS := hS) (hc := by exact zi_whole (by omega) (by omega)) (hv := by (show (zi _ _).toArray.size = _; rw [zi_size (by omega)]; rfl)) (hfit := by (rw [zi_size (by omega)]; decide)) (h1 := by exact zi_one _ _) (h := fun w9 hS => ?_)
  try simp only [nY, aY] at hS ⊢
  refine y_nilf ?_
  refine hK5 _ _ ?_
  refine y_region (by kernel_rfl) ?_
  refine m_alloc ti64 hS (fun w10 g10 hS => ?_)
  try simp only [nY, aY] at hS ⊢
  have h9l : v9.length = 9 := rfl
  replace hS : St _ _ w10 (.obj g10 (.cells (VA v9) 64 (0, 0)) :: _) := hS
  refine m_store_obj ti64 (hS := hS) (hc := by exact zi_whole (by omega) (by omega)) (hv := by (show (zi _ _).toArray.size = _; rw [zi_size (by omega)]; rfl)) (hfit := by (rw [zi_size (by omega)]; decide)) (h1 := by exact zi_one _ _) (h := fun w11 hS => ?_)
  try simp only [nY, aY] at hS ⊢
  refine y_nilf ?_
  refine round_open hS (by repeat (first | exact App.nil | apply App.cons)) (fun w12 T2 hS => ?_)
  simp only [List.cons_append, List.nil_append] at hS
  refine y_block ?_
  refine y_region (by kernel_rfl) ?_
  refine s_go (m_load_obj U115 (hS := hS) (hv := by rfl)) ?_
  try simp only [nY, gY]
  refine s_go (m_load_row U61 (hi := ti61) (hS := hS) (hfit := by (rw [zi_size (by omega)]; rfl))) ?_
  try simp only [nY, gY]
  refine s_go (m_load_row U64 (hi := ti64) (hS := hS) (hfit := by (rw [zi_size (by omega)]; rfl))) ?_
  try simp only [nY, gY]
  refine m_mapUpdate ky61 U115 (hy := rfl) (ha := by trivial) (hD := by assumption) (hS := hS) (h := fun w13 hS => ?_)
  try simp only [nY, aY] at hS ⊢
  refine y_nilf ?_
  rw [enc_put, eput_take' hkn hk1 hx] at hS
  exact ⟨_, ⟨by omega, rfl⟩, hS.sel (by repeat (first | exact Sel.self | (refine Sel.cons (by repeat (first | exact Del.head | apply Del.tail)) ?_) | apply Sel.skip))⟩
 case rfd1 =>
  obtain ⟨hk0, rfl⟩ := hC
  simp only [List.cons_append, List.nil_append] at hS
  refine hK3 _ _ ?_
  refine y_seq fun K6 hK6 => ?_
  refine y_region (by kernel_rfl) ?_
  refine s_go (m_load_obj U115 (hS := hS) (hv := by rfl)) ?_
  try simp only [nY, gY]
  refine s_go s_assign ?_
  try simp only [nY]
  refine y_nilf ?_
  refine hK6 _ _ ?_
  refine y_ret ?_
  refine rm_mark hS (by repeat (exact Upd.head)) (fun w14 hS => ?_)
  refine rm_nil ?_
  refine r_tmp rfl ?_
  rw [List.take_of_length_le (Nat.le_refl _)] at hS
  exact ⟨_, rfl, hS.selA⟩
 case rft1 =>
  exact hX.elim
 case rfe1 =>
  exact y_ex_nil
end Go.Proofs.YtpekghaodmeemaaGreat
set_option linter.unusedSimpArgs false
set_option linter.unusedVariables false
set_option maxHeartbeats 600000
set_option maxRecDepth 100000
namespace Go.Proofs.YtpekghaodmeemaaGreat
open Go.RowKit

theorem c_latFind (w0 : World) (A : Option Addr) (c : Nat) (l : List (List Int)) (hr : Rd w0 A 21 l.length (arows l)) (hv : AOks l) (hn : l.length ≤ 1000000000) (x : List Int) (hx : KeyOk x)  :
    CallR Tryz.prog 128 #[.slice A l.length c, .agg (KA x)] w0 fun v w' => v = .tuple #[.agg (VA ((fnd x (normP l)).getD v9)), .bool (fnd x (normP l)).isSome] ∧ Ext w0 w' := by
 have hS := St.rd1 (S := NoB) hr
 have hno := (norm_sta hv).ok
 have hkn := (norm_sta hv).knd
 have hnl := arows_len (normP l)
 have hnb := norm_len l
 have hxl := hx.len
 have hmk := enc_ok hno
 have hfl9 := (fndD_ok (k := x) hno).len
 have h9l : v9.length = 9 := rfl
 refine c_enter (l := [.slice A l.length c, .agg (KA x), undef, undef, undef, undef, undef, undef, undef, undef, undef, undef, undef, undef, undef, undef, undef]) Tryz.func128 rfl (by simp only [Tryz.ntmps128, List.size_toArray, List.length_cons, List.length_nil, Nat.reduceAdd, Nat.reduceSub, Array.replicate_succ, Array.replicate_zero, List.push_toArray, List.append_toArray, List.nil_append, List.cons_append]) ?_
 refine x_seq fun K1 hK1 => x_region ?_
 refine m_box hS (fun w1 g1 hS => ?_)
 try simp only [nY, aY] at hS ⊢
 refine m_alloc ti64 hS (fun w2 g2 hS => ?_)
 try simp only [nY, aY] at hS ⊢
 replace hS : St _ _ w2 (.obj g2 (.cells (VA v9) 64 (0, 0)) :: _) := hS
 refine s_go s_assign ?_
 try simp only [nY]
 refine x_nil (hK1 _ _ ?_)
 refine x_seq fun K2 hK2 => ?_
 refine x_mixed_f [] 0 [6, 7, 8, 9, 10, 11, 12, 13, 14] (fun f w => ∃ g6 : Nat, f 6 = .pointer (some ⟨g6, 0, none⟩) ∧ f 7 = .bool (fnd x (normP l)).isSome ∧ St NoB w0 w [.obj g6 (.cells (VA ((fnd x (normP l)).getD v9)) 64 (0, 0)), .obj g2 (.cells (VA v9) 64 (0, 0))]) (by kernel_rfl) (by kernel_rfl) (by kernel_rfl) (by decide) hS (fun w3 hS => ?mixpre101) ?mixrest101
 case mixpre101 =>
  refine p_nil ?_
  simp only [List.length_cons, List.length_nil, Nat.reduceAdd, Nat.reduceSub]
  refine any_gn 0 rfl (go_yields w_none (fun w hS => s_move)) ?_
  try simp only [nY]
  refine any_gn 2 rfl (go_yields w_none (fun w hS => m_load_row U61 (hi := ti61) (hS := hS) (hfit := by (rw [zi_size (by omega)]; rfl)))) ?_
  try simp only [nY, gY]
  refine any_step [1, 7] (by kernel_rfl) (by decide) (fun w4 hE => ⟨fun _ => (hS.ext hE).sel (by repeat (first | exact Sel.nil | (refine Sel.cons (by repeat (exact Del.head)) ?_))), ?_⟩)
  replace hS := hS.ext hE
  intro i hi
  simp only [List.mem_cons, List.not_mem_nil, or_false] at hi
  rcases hi with rfl | rfl
  ·
   refine any_op (by rfl) ?_
   refine s_call en141 ?_
   try simp only [nY, mY]
   refine CallR.mono (c_latFacts _ A c l (hS.hasA) hv hn) ?_
   rintro _ w5 ⟨q, rfl, hC5⟩
   replace hS := hS.call hC5
   simp only [List.cons_append, List.nil_append] at hS
   try simp only [nY]
   refine x_nil ?_
   refine any_step [3, 7] (by kernel_rfl) (by decide) (fun w6 hE => ⟨fun _ => (hS.ext hE).sel (by repeat (first | exact Sel.nil | (refine Sel.cons (by repeat (first | exact Del.head | apply Del.tail)) ?_))), ?_⟩)
   replace hS := hS.ext hE
   intro i hi
   simp only [List.mem_cons, List.not_mem_nil, or_false] at hi
   rcases hi with rfl | rfl
   ·
    refine any_op (by rfl) ?_
    refine s_go (m_lookup_ok ky61 U115 ti64 (hy := rfl) (ha := by trivial) (hD := by assumption) (hS := hS)) ?_
    try simp only [nY]
    rw [enc_val, enc_is]
    refine x_nil ?_
    refine any_gn 4 rfl (go_yields w_none (fun w hS => s_move)) ?_
    try simp only [nY]
    refine any_gn 5 rfl (go_yields w_none (fun w hS => s_extract (hv := rfl))) ?_
    try simp only [gY]
    try simp only [nY]
    refine any_gn 6 rfl (go_yields w_none (fun w hS => s_extract (hv := rfl))) ?_
    try simp only [gY]
    try simp only [nY]
    refine any_step [7] (by kernel_rfl) (by decide) (fun w7 hE => ⟨fun _ => (hS.ext hE).sel (by repeat (first | exact Sel.nil | (refine Sel.cons (by repeat (first | exact Del.head | apply Del.tail)) ?_))), ?_⟩)
    replace hS := hS.ext hE
    intro i hi
    simp only [List.mem_cons, List.not_mem_nil, or_false] at hi
    subst hi
    refine any_op (by rfl) ?_
    refine m_alloc ti64 hS (fun w8 g8 hS => ?_)
    try simp only [nY, aY] at hS ⊢
    replace hS : St _ _ w8 (.obj g8 (.cells (VA v9) 64 (0, 0)) :: _) := hS
    refine x_nil ?_
    refine any_step [8] (by kernel_rfl) (by decide) (fun w9 hE => ⟨fun _ => (hS.ext hE).sel (by repeat (first | exact Sel.nil | (refine Sel.cons (by repeat (first | exact Del.head | apply Del.tail)) ?_))), ?_⟩)
    replace hS := hS.ext hE
    intro i hi
    simp only [List.mem_cons, List.not_mem_nil, or_false] at hi
    subst hi
    refine any_op (by rfl) ?_
    refine m_store_obj ti64 (hS := hS) (hc := by exact zi_whole (by omega) (by omega)) (hv := by (show (zi _ _).toArray.size = _; rw [zi_size (by omega)]; rfl)) (hfit := by (rw [zi_size (by omega)]; decide)) (h1 := by exact zi_one _ _) (h := fun w10 hS => ?_)
    try simp only [nY, aY] at hS ⊢
    refine x_nil ?_
    refine any_gn 9 rfl (go_yields w_none (fun w hS => s_assign)) ?_
    try simp only [nY]
    refine any_nil (by kernel_rfl) (fun w11 hE => ?_)
    replace hS := hS.ext hE
    refine ⟨fun _ => hS.selA, ?_⟩
    refine mix_leaf (by simp only [clob, List.foldl, nZ]) ?_
    try simp only [n1, n2]
    exact ⟨_, by trivial, by trivial, hS.selA⟩
   refine any_op (by rfl) ?_
   refine m_alloc ti64 hS (fun w12 g12 hS => ?_)
   try simp only [nY, aY] at hS ⊢
   replace hS : St _ _ w12 (.obj g12 (.cells (VA v9) 64 (0, 0)) :: _) := hS
   refine x_nil ?_
   refine any_step [3] (by kernel_rfl) (by decide) (fun w13 hE => ⟨fun _ => (hS.ext hE).sel (by repeat (first | exact Sel.nil | (refine Sel.cons (by repeat (first | exact Del.head | apply Del.tail)) ?_))), ?_⟩)
   replace hS := hS.ext hE
   intro i hi
   simp only [List.mem_cons, List.not_mem_nil, or_false] at hi
   subst hi
   refine any_op (by rfl) ?_
   refine s_go (m_lookup_ok ky61 U115 ti64 (hy := rfl) (ha := by trivial) (hD := by assumption) (hS := hS)) ?_
   try simp only [nY]
   rw [enc_val, enc_is]
   refine x_nil ?_
   refine any_gn 4 rfl (go_yields w_none (fun w hS => s_move)) ?_
   try simp only [nY]
   refine any_gn 5 rfl (go_yields w_none (fun w hS => s_extract (hv := rfl))) ?_
   try simp only [gY]
   try simp only [nY]
   refine any_gn 6 rfl (go_yields w_none (fun w hS => s_extract (hv := rfl))) ?_
   try simp only [gY]
   try simp only [nY]
   refine any_step [8] (by kernel_rfl) (by decide) (fun w14 hE => ⟨fun _ => (hS.ext hE).sel (by repeat (first | exact Sel.nil | (refine Sel.cons (by repeat (first | exact Del.head | apply Del.tail)) ?_))), ?_⟩)
   replace hS := hS.ext hE
   intro i hi
   simp only [List.mem_cons, List.not_mem_nil, or_false] at hi
   subst hi
   refine any_op (by rfl) ?_
   refine m_store_obj ti64 (hS := hS) (hc := by exact zi_whole (by omega) (by omega)) (hv := by (show (zi _ _).toArray.size = _; rw [zi_size (by omega)]; rfl)) (hfit := by (rw [zi_size (by omega)]; decide)) (h1 := by exact zi_one _ _) (h := fun w15 hS => ?_)
   try simp only [nY, aY] at hS ⊢
   refine x_nil ?_
   refine any_gn 9 rfl (go_yields w_none (fun w hS => s_assign)) ?_
   try simp only [nY]
   refine any_nil (by kernel_rfl) (fun w16 hE => ?_)
   replace hS := hS.ext hE
   refine ⟨fun _ => hS.selA, ?_⟩
   refine mix_leaf (by simp only [clob, List.foldl, nZ]) ?_
   try simp only [n1, n2]
   exact ⟨_, by trivial, by trivial, hS.selA⟩
  refine any_op (by rfl) ?_
  refine m_alloc ti64 hS (fun w17 g17 hS => ?_)
  try simp only [nY, aY] at hS ⊢
  replace hS : St _ _ w17 (.obj g17 (.cells (VA v9) 64 (0, 0)) :: _) := hS
  refine x_nil ?_
  refine any_step [1] (by kernel_rfl) (by decide) (fun w18 hE => ⟨fun _ => (hS.ext hE).sel (by repeat (first | exact Sel.nil | (refine Sel.cons (by repeat (first | exact Del.head | apply Del.tail)) ?_))), ?_⟩)
  replace hS := hS.ext hE
  intro i hi
  simp only [List.mem_cons, List.not_mem_nil, or_false] at hi
  subst hi
  refine any_op (by rfl) ?_
  refine s_call en141 ?_
  try simp only [nY, mY]
  refine CallR.mono (c_latFacts _ A c l (hS.hasA) hv hn) ?_
  rintro _ w19 ⟨q, rfl, hC19⟩
  replace hS := hS.call hC19
  simp only [List.cons_append, List.nil_append] at hS
  try simp only [nY]
  refine x_nil ?_
  refine any_step [3] (by kernel_rfl) (by decide) (fun w20 hE => ⟨fun _ => (hS.ext hE).sel (by repeat (first | exact Sel.nil | (refine Sel.cons (by repeat (first | exact Del.head | apply Del.tail)) ?_))), ?_⟩)
  replace hS := hS.ext hE
  intro i hi
  simp only [List.mem_cons, List.not_mem_nil, or_false] at hi
  subst hi
  refine any_op (by rfl) ?_
  refine s_go (m_lookup_ok ky61 U115 ti64 (hy := rfl) (ha := by trivial) (hD := by assumption) (hS := hS)) ?_
  try simp only [nY]
  rw [enc_val, enc_is]
  refine x_nil ?_
  refine any_gn 4 rfl (go_yields w_none (fun w hS => s_move)) ?_
  try simp only [nY]
  refine any_gn 5 rfl (go_yields w_none (fun w hS => s_extract (hv := rfl))) ?_
  try simp only [gY]
  try simp only [nY]
  refine any_gn 6 rfl (go_yields w_none (fun w hS => s_extract (hv := rfl))) ?_
  try simp only [gY]
  try simp only [nY]
  refine any_step [8] (by kernel_rfl) (by decide) (fun w21 hE => ⟨fun _ => (hS.ext hE).sel (by repeat (first | exact Sel.nil | (refine Sel.cons (by repeat (first | exact Del.head | apply Del.tail)) ?_))), ?_⟩)
  replace hS := hS.ext hE
  intro i hi
  simp only [List.mem_cons, List.not_mem_nil, or_false] at hi
  subst hi
  refine any_op (by rfl) ?_
  refine m_store_obj ti64 (hS := hS) (hc := by exact zi_whole (by omega) (by omega)) (hv := by (show (zi _ _).toArray.size = _; rw [zi_size (by omega)]; rfl)) (hfit := by (rw [zi_size (by omega)]; decide)) (h1 := by exact zi_one _ _) (h := fun w22 hS => ?_)
  try simp only [nY, aY] at hS ⊢
  refine x_nil ?_
  refine any_gn 9 rfl (go_yields w_none (fun w hS => s_assign)) ?_
  try simp only [nY]
  refine any_nil (by kernel_rfl) (fun w23 hE => ?_)
  replace hS := hS.ext hE
  refine ⟨fun _ => hS.selA, ?_⟩
  refine mix_leaf (by simp only [clob, List.foldl, nZ]) ?_
  try simp only [n1, n2]
  exact ⟨_, by trivial, by trivial, hS.selA⟩
 intro fm1 w24 hM
 obtain ⟨g6, h6, h7, hS⟩ := hM
 simp only [clob, List.foldl, n3, n4, h6, h7]
 refine hK2 _ _ ?_
 refine x_seq fun K3 hK3 => x_region ?_
 refine s_go (m_load_row U64 (hi := ti64) (hS := hS) (hfit := by (rw [zi_size (by omega)]; rfl))) ?_
 try simp only [nY, gY]
 refine s_go s_move ?_
 try simp only [nY]
 refine m_store_obj ti64 (hS := hS) (hc := by exact zi_whole (by omega) (by omega)) (hv := by (show (zi _ _).toArray.size = _; rw [zi_size (by omega)]; rfl)) (hfit := by (rw [zi_size (by omega)]; decide)) (h1 := by exact zi_one _ _) (h := fun w25 hS => ?_)
 try simp only [nY, aY] at hS ⊢
 refine s_go s_assign ?_
 try simp only [nY]
 refine x_nil (hK3 _ _ ?_)
 refine x_ret ?_
 refine r_cell_tmp_agg rfl U64 ti64 (hS := hS) (hfit := by (rw [zi_size (by omega)]; rfl)) (hR := ?_)
 exact ⟨rfl, hS.ext_of⟩
end Go.Proofs.YtpekghaodmeemaaGreat
