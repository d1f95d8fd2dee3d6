/-
  A region that draws its order: operations that may come first are taken first; only the others are walked in each order. No program here.
-/
import Derived.Test.YtpjpaipkkcengaaVk
namespace Go.Proofs.Ytpjpaipkkcengaa
open Go.RowKit
def takeB (ops : Array Oper) (lt : List Nat) (listed : Array Bool) (i : Nat) : Bool := lateB .any ops lt i && (Region.ready .any ops listed).contains i && Region.free .any ops listed i
section
variable {P : Program} {n r : Act → World → Prop} {ex : List (Nat × (Act → World → Prop))} {w : World} {l : List Value} {M : Act → World → Prop} {a : Act}
variable {ops : Array Oper} {C : World → Prop} {lt : List Nat} {listed : Array Bool} {k i d : Nat} {v : Value} {ty : TypeId} {pos : String} {aft : Array Edge}
theorem any_take {o : Oper} (ho : ops[i]? = some o) (hB : takeB ops lt listed i = true) (hs : Region.noSelect ops = true) (hnl : noLate lt listed) (hy : YieldsE P ops C o v a)
    (h : AnyE P .any ops C lt (Qx M r ex) k (listed.setIfInBounds i true) (a.put o.dst v) w) : AnyE P .any ops C lt (Qx M r ex) (k + 1) listed a w := by
  simp only [takeB, Bool.and_eq_true] at hB
  obtain ⟨⟨hlB, hr⟩, hf⟩ := hB
  simp only [lateB, Bool.and_eq_true, Bool.not_eq_true', List.all_eq_true] at hlB
  have hil : i ∉ lt := fun hk => by have := hlB.1; simp [hk] at this
  have hlw : ∀ k' ∈ lt, ∀ o', ops[k']? = some o' → ∃ e ∈ o'.after, Region.binds .any e = true ∧ e.on = i := fun k' hk' o' ho' => by
    have := hlB.2 k' hk'
    rw [ho'] at this
    obtain ⟨e, he, hb⟩ := Array.any_eq_true'.1 this
    simp only [Bool.and_eq_true, beq_iff_eq] at hb
    exact ⟨e, he, hb.1, hb.2⟩
  exact AnyE.first hil hlw ho (Region.noSelect_spec hs) (fun c a w => Qx_panic) k listed a w hnl (Region.free_spec ho hf) (by simpa using hr) hy h
theorem go_yields {op : Op} {g : Option (Nat × Bool)} (hw : Region.wanted ⟨some d, op, ty, pos, aft, g⟩ (yielded ops (fr l).tmps) = true) (H : ∀ w, C w → Go1 P l w ⟨some d, op, ty, pos, aft, none⟩ v) : YieldsE P ops C ⟨some d, op, ty, pos, aft, g⟩ v (fr l) :=
  .inl ⟨hw, fun w hC => by
    have := H w hC
    unfold Go1 at this
    show QuietU P w v ((execOp (fr l).eval ⟨some d, op, ty, pos, aft, none⟩).run P w)
    rw [eval_fr, this]
    exact ⟨rfl, rfl⟩⟩
theorem call_yields {dst : Option Nat} {f : Nat} {args : Array Operand} {tys : Array TypeId} {g : Option (Nat × Bool)} (hw : Region.wanted ⟨dst, .call { callee := .value (.func f), args := args, argTypes := tys }, ty, pos, aft, g⟩ (yielded ops (fr l).tmps) = true) (he : Enters P f) (H : ∀ w, C w → CallR P f (args.map (opv l)) w fun v' w' => v' = v ∧ Ext w w') :
    YieldsE P ops C ⟨dst, .call { callee := .value (.func f), args := args, argTypes := tys }, ty, pos, aft, g⟩ v (fr l) :=
  .inl ⟨hw, fun w hC => by
    have := he (args.map (opv l) ++ #[]) w
    simp only [Array.append_empty] at this
    have hr : (execOp (opv l) ⟨dst, .call { callee := .value (.func f), args := args, argTypes := tys }, ty, pos, aft, g⟩).run P w = .ok (.enter f (args.map (opv l))) w := by simp [execOp, resolve, opv, Deferred.ofValue, invoke, this]
    rw [eval_fr, hr]
    refine ⟨rfl, Calls.mono (H w hC) ?_⟩
    rintro e w' ⟨v', rfl, rfl, hC'⟩
    exact ⟨rfl, hC'⟩⟩
theorem callv_yields {dst : Option Nat} {t f : Nat} {args : Array Operand} {tys : Array TypeId} {cap : Array Value} {g : Option (Nat × Bool)} (hv : l.getD t undef = .func (.func f) #[] cap) (hw : Region.wanted ⟨dst, .call { callee := .value (.tmp t), args := args, argTypes := tys }, ty, pos, aft, g⟩ (yielded ops (fr l).tmps) = true) (he : Enters P f) (H : ∀ w, C w → CallR P f (args.map (opv l) ++ cap) w fun v' w' => v' = v ∧ Ext w w') :
    YieldsE P ops C ⟨dst, .call { callee := .value (.tmp t), args := args, argTypes := tys }, ty, pos, aft, g⟩ v (fr l) :=
  .inl ⟨hw, fun w hC => by
    have := he (args.map (opv l) ++ cap) w
    have hv' : opv l (.tmp t) = .func (.func f) #[] cap := hv
    have hr : (execOp (opv l) ⟨dst, .call { callee := .value (.tmp t), args := args, argTypes := tys }, ty, pos, aft, g⟩).run P w = .ok (.enter f (args.map (opv l) ++ cap)) w := by simp [execOp, resolve, hv', Deferred.ofValue, invoke, this]
    rw [eval_fr, hr]
    refine ⟨rfl, Calls.mono (H w hC) ?_⟩
    rintro e w' ⟨v', rfl, rfl, hC'⟩
    exact ⟨rfl, hC'⟩⟩
theorem w_none {dst : Option Nat} {op : Op} {f : Nat → Option Bool} : Region.wanted ⟨dst, op, ty, pos, aft, none⟩ f = true := wanted_none
theorem w_on {dst : Option Nat} {op : Op} {g : Nat × Bool} (hg : yielded ops (l.toArray) g.1 = some g.2) : Region.wanted ⟨dst, op, ty, pos, aft, some g⟩ (yielded ops (fr l).tmps) = true := by simp [Region.wanted, fr, hg]
theorem off_yields {dst : Option Nat} {op : Op} {g : Nat × Bool} (hg : yielded ops (l.toArray) g.1 = some (!g.2)) : YieldsE P ops C ⟨dst, op, ty, pos, aft, some g⟩ undef (fr l) := .inr ⟨by simp [Region.wanted, fr, hg], rfl⟩
theorem un_yields {dst : Option Nat} {op : Op} {g : Nat × Bool} (hg : yielded ops (l.toArray) g.1 = none) : YieldsE P ops C ⟨dst, op, ty, pos, aft, some g⟩ undef (fr l) := .inr ⟨by simp [Region.wanted, fr, hg], rfl⟩
/-- one operation that yields a value is taken first -/
theorem any_go {op : Op} {g : Option (Nat × Bool)} (ho : ops[i]? = some ⟨some d, op, ty, pos, aft, g⟩) (hB : takeB ops lt listed i = true) (hs : Region.noSelect ops = true) (hnl : noLate lt listed) (hy : YieldsE P ops C ⟨some d, op, ty, pos, aft, g⟩ v (fr l))
    (h : AnyE P .any ops C lt (Qx M r ex) k (listed.setIfInBounds i true) (fr (l.set d v)) w) : AnyE P .any ops C lt (Qx M r ex) (k + 1) listed (fr l) w :=
  any_take ho hB hs hnl hy (by rw [put_fr]; exact h)
theorem any_go_none {op : Op} {g : Option (Nat × Bool)} (ho : ops[i]? = some ⟨none, op, ty, pos, aft, g⟩) (hB : takeB ops lt listed i = true) (hs : Region.noSelect ops = true) (hnl : noLate lt listed) (hy : YieldsE P ops C ⟨none, op, ty, pos, aft, g⟩ v (fr l))
    (h : AnyE P .any ops C lt (Qx M r ex) k (listed.setIfInBounds i true) (fr l) w) : AnyE P .any ops C lt (Qx M r ex) (k + 1) listed (fr l) w :=
  any_take ho hB hs hnl hy (by rw [put_fr_none]; exact h)
theorem any_part (t : Nat) {b : Bool} (hb : l.getD t undef = .bool b) (ht : b = true → AnyE P .any ops C lt (Qx M r ex) k listed (fr (l.set t (.bool true))) w) (hf : b = false → AnyE P .any ops C lt (Qx M r ex) k listed (fr (l.set t (.bool false))) w) : AnyE P .any ops C lt (Qx M r ex) k listed (fr l) w := by
  cases b
  · have := hf rfl; rw [← hb, set_getD] at this; exact this
  · have := ht rfl; rw [← hb, set_getD] at this; exact this
theorem noLate_nil {listed : Array Bool} : noLate [] listed := fun _ h => by cases h
end
end Go.Proofs.Ytpjpaipkkcengaa
