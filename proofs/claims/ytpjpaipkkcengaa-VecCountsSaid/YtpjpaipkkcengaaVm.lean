/-
  A region that draws its order and whose first operations leave what is owned alone, while the others (in whatever order they may come) are walked one by one. No program here.
-/
import Derived.Test.YtpjpaipkkcengaaVq
namespace Go.Proofs.Ytpjpaipkkcengaa
open Go.RowKit

section
variable {P : Program} {md : Region.Mode} {ops : Array Oper} {C : World → Prop} {lt : List Nat} {Q : Exit → Act → World → Prop}

/-- none of the late operations has come -/
def noLate (lt : List Nat) (listed : Array Bool) : Prop := ∀ k ∈ lt, listed.getD k false = false

/-- every order from here on, whatever is laid beside between two steps -/
def AnyE (P : Program) (md : Region.Mode) (ops : Array Oper) (C : World → Prop) (lt : List Nat) (Q : Exit → Act → World → Prop) : Nat → Array Bool → Act → World → Prop
  | 0, listed, a, w => ∀ w1, Ext w w1 → (noLate lt listed → C w1) ∧ Region.ready md ops listed = [] ∧ Q .normal a w1
  | n + 1, listed, a, w => ∀ w1, Ext w w1 → (noLate lt listed → C w1) ∧ (Region.ready md ops listed = [] → Q .normal a w1) ∧ ∀ i ∈ Region.ready md ops listed, wpOp P ops Q i (AnyE P md ops C lt Q n (listed.setIfInBounds i true)) a w1

theorem AnyE.any : ∀ (n : Nat) {listed : Array Bool} {a : Act} {w : World}, AnyE P md ops C lt Q n listed a w → wpAny P md ops Q n listed a w
  | 0, _, _, w, h => (h w Ext.rfl').2
  | n + 1, _, _, w, h => ⟨(h w Ext.rfl').2.1, fun i hi => wpOp_mono (fun _ _ h' => AnyE.any n h') ((h w Ext.rfl').2.2 i hi)⟩
theorem AnyE.ext {n : Nat} {listed : Array Bool} {a : Act} {w w' : World} (h : AnyE P md ops C lt Q n listed a w) (hE : Ext w w') : AnyE P md ops C lt Q n listed a w' := by
  cases n with
  | zero => exact fun w1 h1 => h w1 (hE.trans h1)
  | succ n => exact fun w1 h1 => h w1 (hE.trans h1)
theorem AnyE.cls {n : Nat} {listed : Array Bool} {a : Act} {w : World} (h : AnyE P md ops C lt Q n listed a w) : noLate lt listed → C w := by
  cases n with
  | zero => exact (h w Ext.rfl').1
  | succ n => exact (h w Ext.rfl').1

def QuietU (P : Program) (w : World) (v : Value) : Result Next → Prop
  | .ok (.value u) w' => w' = w ∧ u = v
  | .ok (.enter f args) w' => w' = w ∧ Calls P f args w (fun e w'' => e = .returned v ∧ Ext w w'')
  | _ => False
def YieldsE (P : Program) (ops : Array Oper) (C : World → Prop) (o : Oper) (v : Value) (a : Act) : Prop :=
  (Region.wanted o (yielded ops a.tmps) = true ∧ ∀ w, C w → QuietU P w v ((execOp a.eval o).run P w)) ∨
  (Region.wanted o (yielded ops a.tmps) = false ∧ v = undef)
theorem YieldsE.of_same {o : Oper} {v : Value} {a a' : Act} (hy : YieldsE P ops C o v a) (he : execOp a'.eval o = execOp a.eval o)
    (hw : Region.wanted o (yielded ops a'.tmps) = Region.wanted o (yielded ops a.tmps)) : YieldsE P ops C o v a' := by
  unfold YieldsE at *
  rw [he, hw]
  exact hy
theorem YieldsE.wpOp {i : Nat} {o : Oper} {v : Value} {a : Act} (hi : ops[i]? = some o) (hy : YieldsE P ops C o v a) {K : Act → World → Prop} {w : World} (hC : C w) (h : ∀ w', Ext w w' → K (a.put o.dst v) w') : wpOp P ops Q i K a w := by
  unfold Go.wpOp
  simp only [hi]
  rcases hy with ⟨hw, hv⟩ | ⟨hw, rfl⟩
  · simp only [hw, if_true]
    have := hv w hC
    refine .inl ?_
    unfold Oper.wp
    generalize (execOp a.eval o).run P w = r at this
    cases r with
    | ok n w' =>
      cases n <;> simp only [QuietU] at this <;> simp only [Oper.upon]
      case value u => obtain ⟨rfl, rfl⟩ := this; exact h _ Ext.rfl'
      case enter f args =>
        obtain ⟨rfl, hc⟩ := this
        exact hc.mono fun e w'' ⟨he, hE⟩ => by subst he; exact h _ hE
    | halt x w' => simp only [QuietU] at this
  · simp only [hw, Bool.false_eq_true, if_false]; exact h _ Ext.rfl'

theorem wpOp_putE {j : Nat} {oi oj : Oper} {v : Value} (hj : ops[j]? = some oj) (hap : oi.apart ops oj = true)
    (hsi : ∀ cs b, oi.op ≠ .select cs b) (hsj : ∀ cs b, oj.op ≠ .select cs b)
    (hQ : ∀ c a w, ¬ Q (.panic c) a w) {K : Act → World → Prop} {a : Act} {w : World}
    (hy : YieldsE P ops C oi v a) (h : wpOp P ops Q j K (a.put oi.dst v) w) :
    wpOp P ops Q j (fun a' w' => YieldsE P ops C oi v a' ∧ K (a'.put oi.dst v) w') a w := by
  obtain ⟨h1, h2, h3⟩ := Oper.apart_spec hap
  have keep : ∀ (a : Act), YieldsE P ops C oi v a → ∀ u, YieldsE P ops C oi v (a.put oj.dst u) := fun a hy u =>
    hy.of_same (execOp_put oi hsi a oj.dst u h3) (wanted_put oi a oj.dst u h3)
  have keepD : ∀ d, YieldsE P ops C oi v { a with defers := d :: a.defers } := fun d => hy.of_same rfl rfl
  unfold wpOp at *
  simp only [hj] at *
  rw [wanted_put oj a oi.dst v h1] at h
  split
  · rename_i hw
    simp only [hw, if_true] at h
    rcases h with h | ⟨hasks, hlets⟩
    case inr => exact .inr ⟨by unfold Oper.asks at *; rw [execOp_put oj hsj a oi.dst v h1] at hasks; exact hasks, hlets⟩
    refine .inl ?_
    unfold Oper.wp at *
    rw [execOp_put oj hsj a oi.dst v h1] at h
    generalize (execOp a.eval oj).run P w = r at *
    cases r with
    | ok n w' =>
      cases n <;> simp only [Oper.upon] at h ⊢
      case value u => exact ⟨keep a hy u, by rw [← Act.put_comm a v u h2]; exact h⟩
      case skip => exact ⟨keep a hy _, by rw [← Act.put_comm a v undef h2]; exact h⟩
      case defer d =>
        refine ⟨keep _ (keepD d) _, ?_⟩
        rw [← Act.put_comm _ v undef h2, ← Act.put_defers]
        exact h
      case enter f args =>
        refine Calls.mono h fun e w'' he => ?_
        cases e with
        | returned u => exact ⟨keep a hy u, by rw [← Act.put_comm a v u h2]; exact he⟩
        | panicked c => exact (hQ _ _ _ he).elim
        | outgrown => exact he
      case row row args => exact Rows.mono h fun u w'' he => ⟨keep a hy u, by rw [← Act.put_comm a v u h2]; exact he⟩
    | halt x w' =>
      cases x <;> simp only [Oper.upon] at h ⊢
      case panic u => exact (hQ _ _ _ h).elim
  · rename_i hw
    simp only [hw] at h
    exact ⟨keep a hy _, by rw [← Act.put_comm a v undef h2]; exact h⟩

theorem noLate_set {i : Nat} {listed : Array Bool} (hi : i ∉ lt) (h : noLate lt listed) : noLate lt (listed.setIfInBounds i true) := fun k hk => by
  have hne : i ≠ k := fun e => hi (e ▸ hk)
  rw [getD_set_ne false hne]; exact h k hk
theorem AnyE.first {i : Nat} {oi : Oper} {v : Value} (hil : i ∉ lt) (hlw : ∀ k ∈ lt, ∀ o, ops[k]? = some o → ∃ e ∈ o.after, Region.binds md e = true ∧ e.on = i) (hi : ops[i]? = some oi) (hsel : ∀ (j : Nat) (o : Oper) cs b, ops[j]? = some o → o.op ≠ .select cs b) (hQ : ∀ c a w, ¬ Q (.panic c) a w) :
    ∀ (fuel : Nat) (listed : Array Bool) (a : Act) (w : World), noLate lt listed →
      (∀ j oj, ops[j]? = some oj → j ≠ i → listed.getD j true = false → (∀ e ∈ oj.after, Region.binds md e = true → e.on ≠ i) → oi.apart ops oj = true) →
      i ∈ Region.ready md ops listed → YieldsE P ops C oi v a →
      AnyE P md ops C lt Q fuel (listed.setIfInBounds i true) (a.put oi.dst v) w → AnyE P md ops C lt Q (fuel + 1) listed a w := by
  intro fuel
  induction fuel with
  | zero =>
    intro listed a w hnl _ hr hy H w1 hE
    have H1 := H.ext hE
    have hcl := H1.cls (noLate_set hil hnl)
    refine ⟨fun _ => hcl, fun h => (by rw [h] at hr; cases hr), fun j hj => ?_⟩
    by_cases hji : j = i
    · subst hji; exact hy.wpOp hi hcl fun w' hE' => H1.ext hE'
    · have := ready_mono hj hji
      rw [(H1 w1 Ext.rfl').2.1] at this
      cases this
  | succ fuel ih =>
    intro listed a w hnl hfree hr hy H w1 hE
    have H1 := H.ext hE
    have hcl := H1.cls (noLate_set hil hnl)
    refine ⟨fun _ => hcl, fun h => (by rw [h] at hr; cases hr), fun j hj => ?_⟩
    by_cases hji : j = i
    · subst hji; exact hy.wpOp hi hcl fun w' hE' => H1.ext hE'
    · have h1 := (H1 w1 Ext.rfl').2.2 j (ready_mono hj hji)
      obtain ⟨hjun, oj, hoj, hall⟩ := mem_ready.1 hj
      have hnot : ∀ e ∈ oj.after, Region.binds md e = true → e.on ≠ i := fun e he hb heq => by
        have h1 := hall e he hb
        have h0 := (mem_ready.1 hr).1
        rw [heq] at h1
        rcases Nat.lt_or_ge i listed.size with h' | h'
        · simp [h'] at h0 h1; rw [h0] at h1; cases h1
        · simp [Array.getElem?_eq_none h'] at h1
      have h2 := wpOp_putE hoj (hfree j oj hoj hji hjun hnot) (fun cs b => hsel i oi cs b hi) (fun cs b => hsel j oj cs b hoj) hQ hy h1
      have hfree' : ∀ k ok, ops[k]? = some ok → k ≠ i → (listed.setIfInBounds j true).getD k true = false →
          (∀ e ∈ ok.after, Region.binds md e = true → e.on ≠ i) → oi.apart ops ok = true := fun k ok hk hki hun hno => by
        refine hfree k ok hk hki ?_ hno
        by_cases hjk : j = k
        · subst hjk; exact hjun
        · rw [getD_set_ne true hjk] at hun; exact hun
      have hjl : j ∉ lt := fun hjl => by
        obtain ⟨e, he, hb, hon⟩ := hlw j hjl oj hoj
        exact hnot e he hb hon
      refine wpOp_mono (fun a' w' h3 => ih (listed.setIfInBounds j true) a' w' (noLate_set hjl hnl) hfree' (ready_mono hr (Ne.symm hji)) h3.1 ?_) h2
      rw [Array.setIfInBounds_comm _ _ hji]
      exact h3.2

/-- the first operations, in the text's order; T: what stands behind them -/
def wpPre (P : Program) (ops : Array Oper) (C : World → Prop) (T : Act → Prop) : List Oper → Act → Prop
  | [], a => T a
  | o :: rest, a => ∃ v, YieldsE P ops C o v a ∧ wpPre P ops C T rest (a.put o.dst v)
def lateB (md : Region.Mode) (ops : Array Oper) (lt : List Nat) (i : Nat) : Bool := !lt.contains i && lt.all fun k => match ops[k]? with | some o => o.after.any fun e => Region.binds md e && e.on == i | none => true
def preB (md : Region.Mode) (ops : Array Oper) (lt : List Nat) : Nat → Nat → Array Bool → Bool
  | 0, _, _ => true
  | m + 1, k, listed => lateB md ops lt k && (Region.ready md ops listed).contains k && Region.free md ops listed k && preB md ops lt m (k + 1) (listed.setIfInBounds k true)
def setAll : Nat → Nat → Array Bool → Array Bool
  | 0, _, listed => listed
  | m + 1, k, listed => setAll m (k + 1) (listed.setIfInBounds k true)
theorem AnyE.pre (hs : Region.noSelect ops = true) (hQ : ∀ c a w, ¬ Q (.panic c) a w) (fuel : Nat) (w : World) : ∀ (l : List Oper) (k : Nat) (listed : Array Bool) (a : Act), noLate lt listed → (∀ j, j < l.length → l[j]? = ops[k + j]?) →
    preB md ops lt l.length k listed = true → wpPre P ops C (fun a' => AnyE P md ops C lt Q fuel (setAll l.length k listed) a' w) l a → AnyE P md ops C lt Q (fuel + l.length) listed a w
  | [], _, _, _, _, _, _, h => h
  | o :: l, k, listed, a, hnl, hl, hB, h => by
    have h0 : ops[k]? = some o := by simpa using (hl 0 (by simp)).symm
    simp only [List.length_cons, preB, Bool.and_eq_true] at hB
    obtain ⟨⟨⟨hlB, hr⟩, hf⟩, hB'⟩ := hB
    simp only [lateB, Bool.and_eq_true, Bool.not_eq_true', List.all_eq_true] at hlB
    have hil : k ∉ lt := fun hk => by have := hlB.1; simp [hk] at this
    have hlw : ∀ k' ∈ lt, ∀ o', ops[k']? = some o' → ∃ e ∈ o'.after, Region.binds md e = true ∧ e.on = k := fun k' hk' o' ho' => by
      have := hlB.2 k' hk'
      rw [ho'] at this
      obtain ⟨e, he, hb⟩ := Array.any_eq_true'.1 this
      simp only [Bool.and_eq_true, beq_iff_eq] at hb
      exact ⟨e, he, hb.1, hb.2⟩
    obtain ⟨v, hy, hK⟩ := h
    have := AnyE.pre hs hQ fuel w l (k + 1) _ _ (noLate_set hil hnl) (fun j hj => by have := hl (j + 1) (by simpa using hj); simpa [Nat.add_assoc, Nat.add_comm 1 j] using this) hB' hK
    exact AnyE.first hil hlw h0 (Region.noSelect_spec hs) hQ (fuel + l.length) listed a w hnl (Region.free_spec h0 hf) (by simpa using hr) hy this
end

section
variable {P : Program} {ops : Array Oper} {C : World → Prop} {T : Act → Prop} {rest : List Oper} {l : List Value} {d : Nat} {v : Value} {ty : TypeId} {pos : String} {aft : Array Edge}
theorem p_go {op : Op} (H : ∀ w, C w → Go1 P l w ⟨some d, op, ty, pos, aft, none⟩ v) (h : wpPre P ops C T rest (fr (l.set d v))) : wpPre P ops C T (⟨some d, op, ty, pos, aft, none⟩ :: rest) (fr l) :=
  ⟨v, .inl ⟨wanted_none, fun w hC => by
    have := H w hC
    unfold Go1 at this
    rw [eval_fr, this]
    exact ⟨rfl, rfl⟩⟩, by rw [put_fr]; exact h⟩
theorem p_call {f : Nat} {args : Array Operand} {tys : Array TypeId} (he : Enters P f) (H : ∀ w, C w → CallR P f (args.map (opv l)) w fun v' w' => v' = v ∧ Ext w w') (h : wpPre P ops C T rest (fr (l.set d v))) : wpPre P ops C T (⟨some d, .call { callee := .value (.func f), args := args, argTypes := tys }, ty, pos, aft, none⟩ :: rest) (fr l) :=
  ⟨v, .inl ⟨wanted_none, fun w hC => by
    have := he (args.map (opv l) ++ #[]) w
    simp only [Array.append_empty] at this
    have hr : (execOp (opv l) ⟨some d, .call { callee := .value (.func f), args := args, argTypes := tys }, ty, pos, aft, none⟩).run P w = .ok (.enter f (args.map (opv l))) w := by simp [execOp, resolve, opv, Deferred.ofValue, invoke, this]
    rw [eval_fr, hr]
    refine ⟨rfl, Calls.mono (H w hC) ?_⟩
    rintro e w' ⟨v', rfl, rfl, hC'⟩
    exact ⟨rfl, hC'⟩⟩, by rw [put_fr]; exact h⟩
theorem p_on {dst : Option Nat} {op : Op} {g : Nat × Bool} (hg : yielded ops (l.toArray) g.1 = some g.2) (h : wpPre P ops C T (⟨dst, op, ty, pos, aft, none⟩ :: rest) (fr l)) : wpPre P ops C T (⟨dst, op, ty, pos, aft, some g⟩ :: rest) (fr l) := by
  have h1 : Region.wanted ⟨dst, op, ty, pos, aft, some g⟩ (yielded ops (fr l).tmps) = true := by simp [Region.wanted, fr, hg]
  obtain ⟨v, hy, h⟩ := h
  refine ⟨v, .inl ⟨h1, ?_⟩, h⟩
  rcases hy with ⟨_, hy⟩ | ⟨hy, _⟩
  · exact hy
  · rw [wanted_none] at hy; cases hy
theorem p_off {op : Op} {g : Nat × Bool} (hg : yielded ops (l.toArray) g.1 = some (!g.2)) (h : wpPre P ops C T rest (fr (l.set d undef))) : wpPre P ops C T (⟨some d, op, ty, pos, aft, some g⟩ :: rest) (fr l) := by
  have h1 : Region.wanted ⟨some d, op, ty, pos, aft, some g⟩ (yielded ops (fr l).tmps) = false := by simp [Region.wanted, fr, hg]
  exact ⟨undef, .inr ⟨h1, rfl⟩, by rw [put_fr]; exact h⟩
theorem p_part {os : List Oper} (t : Nat) {b : Bool} (hb : l.getD t undef = .bool b) (ht : b = true → wpPre P ops C T os (fr (l.set t (.bool true)))) (hf : b = false → wpPre P ops C T os (fr (l.set t (.bool false)))) : wpPre P ops C T os (fr l) := by
  cases b
  · have := hf rfl; rw [← hb, set_getD] at this; exact this
  · have := ht rfl; rw [← hb, set_getD] at this; exact this
theorem p_nil {a : Act} (h : T a) : wpPre P ops C T [] a := h
end

section
variable {P : Program} {n r : Act → World → Prop} {ex : List (Nat × (Act → World → Prop))} {w : World} {l : List Value} {S : Nat → Prop} {w0 : World} {L : List Res}
theorem Qx_panic {c : List PanicEntry} {a : Act} {w : World} : ¬ Qx n r ex (.panic c) a w := fun h => h
/-- M: what holds behind the region -/
theorem x_mixed {id : Nat} {ops : List Oper} (lt : List Nat) (m : Nat) (M : Act → World → Prop) (hm : P.follows .mixedOrders = true) (hs : Region.noSelect ops.toArray = true) (hB : preB .any ops.toArray lt m 0 (Array.replicate ops.length false) = true) (hml : m ≤ ops.length)
    (hS : St S w0 w L) (h : ∀ w', St S w0 w' L → wpPre P ops.toArray (fun w => St S w0 w L) (fun a' => AnyE P .any ops.toArray (fun w => St S w0 w L) lt (Qx M r ex) (ops.length - m) (setAll m 0 (Array.replicate ops.length false)) a' w') (ops.take m) (fr l))
    (hM : ∀ a' w', M a' w' → n a' w') : (Code.region id ops.toArray true).wp P (Qx n r ex) (fr l) w := by
  refine wp_mono ?_ (fun e a w q => ?_) (Q := Qx M r ex)
  · refine wp_region_any hm (AnyE.any (C := fun w => St S w0 w L) (lt := lt) _ ?_)
    have hlen : (ops.take m).length = m := by simp; omega
    have := AnyE.pre (P := P) (md := .any) (ops := ops.toArray) (C := fun w => St S w0 w L) (lt := lt) (Q := Qx M r ex) hs (fun _ _ _ => Qx_panic) (ops.length - m) w.drew (ops.take m) 0 (Array.replicate ops.length false) (fr l) (fun k _ => by simp [Array.getD_eq_getD_getElem?, Array.getElem?_replicate]; split <;> rfl) (fun j hj => by
      rw [List.getElem?_take, if_pos (by omega)]; simp) (by rw [hlen]; exact hB) (by rw [hlen]; exact h _ (hS.ext (Ext.drew w)))
    rw [hlen, show ops.length - m + m = ops.length by omega] at this
    simpa using this
  · cases e <;> first | exact hM _ _ q | exact q
def MixM (l : List Value) (V : List Nat) (R : (Nat → Value) → World → Prop) (a : Act) (w : World) : Prop := ∃ f, a = fr (clob l V f) ∧ R f w
theorem mix_leaf {lnow : List Value} {V : List Nat} {R : (Nat → Value) → World → Prop} (he : lnow = clob l V (fun d => lnow.getD d undef)) (hR : R (fun d => lnow.getD d undef) w) : MixM l V R (fr lnow) w := ⟨_, congrArg fr he, hR⟩
/-- the same, the written slots told by R alone -/
theorem x_mixed_f {id : Nat} {ops : List Oper} (lt : List Nat) (m : Nat) (V : List Nat) (R : (Nat → Value) → World → Prop) (hm : P.follows .mixedOrders = true) (hs : Region.noSelect ops.toArray = true) (hB : preB .any ops.toArray lt m 0 (Array.replicate ops.length false) = true) (hml : m ≤ ops.length)
    (hS : St S w0 w L) (h : ∀ w', St S w0 w' L → wpPre P ops.toArray (fun w => St S w0 w L) (fun a' => AnyE P .any ops.toArray (fun w => St S w0 w L) lt (Qx (MixM l V R) r ex) (ops.length - m) (setAll m 0 (Array.replicate ops.length false)) a' w') (ops.take m) (fr l))
    (hM : ∀ f w', R f w' → n (fr (clob l V f)) w') : (Code.region id ops.toArray true).wp P (Qx n r ex) (fr l) w :=
  x_mixed lt m (MixM l V R) hm hs hB hml hS h fun a' w' ⟨f, e, hR⟩ => by subst e; exact hM f w' hR
variable {ops : Array Oper} {C : World → Prop} {lt : List Nat} {M : Act → World → Prop} {a : Act}
theorem any_nil {listed : Array Bool} (hr : Region.ready .any ops listed = []) (h : ∀ w1, Ext w w1 → (noLate lt listed → C w1) ∧ M a w1) : AnyE P .any ops C lt (Qx M r ex) 0 listed a w := fun w1 hE => ⟨(h w1 hE).1, hr, (h w1 hE).2⟩
theorem any_step {k : Nat} {listed : Array Bool} (is : List Nat) (hr : Region.ready .any ops listed = is) (hne : is ≠ []) (h : ∀ w1, Ext w w1 → (noLate lt listed → C w1) ∧ ∀ i ∈ is, wpOp P ops (Qx M r ex) i (AnyE P .any ops C lt (Qx M r ex) k (listed.setIfInBounds i true)) a w1) : AnyE P .any ops C lt (Qx M r ex) (k + 1) listed a w := fun w1 hE => by
  refine ⟨(h w1 hE).1, fun h0 => absurd (hr.symm.trans h0) hne, fun i hi => (h w1 hE).2 i (hr ▸ hi)⟩
/-- one operation of those that may come now -/
theorem any_op {i : Nat} {o : Oper} {K : Act → World → Prop} (ho : ops[i]? = some o) (h : WL P ops (Qx K r ex) [o] a w) : wpOp P ops (Qx M r ex) i K a w := by
  replace h := h.run
  unfold wpList at h
  unfold Go.wpOp
  simp only [ho]
  split
  · rename_i hw
    rw [if_pos hw] at h
    rcases h with h | ⟨_, a', w', h⟩
    · refine .inl ?_
      unfold Oper.wp at *
      generalize (execOp a.eval o).run P w = q at *
      cases q with
      | ok n w' =>
        cases n <;> simp only [Oper.upon] at h ⊢
        case enter f args =>
          refine Calls.mono h fun e w'' he => ?_
          cases e with
          | returned u => exact he
          | panicked c => exact he.elim
          | outgrown => obtain ⟨_, _, h⟩ := he; exact h.elim
        all_goals exact h
      | halt x w' =>
        cases x <;> simp only [Oper.upon] at h ⊢
        case panic u => exact h.elim
    · exact h.elim
  · rename_i hw
    rw [if_neg hw] at h
    exact h
end
end Go.Proofs.Ytpjpaipkkcengaa
