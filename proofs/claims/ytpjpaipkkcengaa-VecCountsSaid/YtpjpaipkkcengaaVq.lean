/-
  A region that draws its order and whose operations leave the owned blocks alone: walked once, in the text's order. No program here.
-/
import Derived.Test.YtpjpaipkkcengaaVf
import Derived.Deep.Quiet
namespace Go.Proofs.Ytpjpaipkkcengaa
open Go.RowKit

/-- the walk in the text's order, shut -/
structure WQ (P : Program) (ops : Array Oper) (C : World → Prop) (Q : Act → Prop) (os : List Oper) (a : Act) : Prop where
  run : wpQuiet P ops C Q os a

section
variable {P : Program} {ops : Array Oper} {C : World → Prop} {Q : Act → Prop} {rest : List Oper} {l : List Value} {d : Nat} {v : Value} {ty : TypeId} {pos : String} {aft : Array Edge}

theorem q_step {o : Oper} {x : Value} (hw : Region.wanted o (yielded ops (fr l).tmps) = true) (h1 : ∀ w, C w → o.quietAt P (fr l) C w x) (h : WQ P ops C Q rest ((fr l).put o.dst x)) : WQ P ops C Q (o :: rest) (fr l) := by
  refine ⟨?_⟩
  simp only [wpQuiet, hw, if_true]
  exact ⟨x, h1, h.run⟩
theorem wanted_none {dst : Option Nat} {op : Op} {f : Nat → Option Bool} : Region.wanted ⟨dst, op, ty, pos, aft, none⟩ f = true := by simp [Region.wanted]
theorem q_go {op : Op} (H : ∀ w, C w → Go1 P l w ⟨some d, op, ty, pos, aft, none⟩ v) (h : WQ P ops C Q rest (fr (l.set d v))) : WQ P ops C Q (⟨some d, op, ty, pos, aft, none⟩ :: rest) (fr l) :=
  q_step (x := v) wanted_none (fun w hC => by
    have := H w hC
    unfold Go1 at this
    unfold Oper.quietAt
    rw [eval_fr, this]
    exact ⟨rfl, rfl⟩) (by rw [put_fr]; exact h)
theorem q_call_any {dst : Option Nat} {op : Op} {f : Nat} {args : Array Value} (hr : ∀ w, C w → (execOp (opv l) ⟨dst, op, ty, pos, aft, none⟩).run P w = .ok (.enter f args) w) (H : ∀ w, C w → CallR P f args w fun v' w' => v' = v ∧ C w') (h : WQ P ops C Q rest ((fr l).put dst v)) : WQ P ops C Q (⟨dst, op, ty, pos, aft, none⟩ :: rest) (fr l) :=
  q_step (x := v) wanted_none (fun w hC => by
    unfold Oper.quietAt
    rw [eval_fr, hr w hC]
    refine ⟨rfl, Calls.mono (H w hC) ?_⟩
    rintro e w' ⟨v', rfl, rfl, hC'⟩
    exact ⟨rfl, hC'⟩) h
theorem q_call {f : Nat} {args : Array Operand} {tys : Array TypeId} (he : Enters P f) (H : ∀ w, C w → CallR P f (args.map (opv l)) w fun v' w' => v' = v ∧ C w') (h : WQ P ops C Q rest (fr (l.set d v))) : WQ P ops C Q (⟨some d, .call { callee := .value (.func f), args := args, argTypes := tys }, ty, pos, aft, none⟩ :: rest) (fr l) :=
  q_call_any (fun w _ => by
    have := he (args.map (opv l) ++ #[]) w
    simp only [Array.append_empty] at this
    simp [execOp, resolve, opv, Deferred.ofValue, invoke, this]) H (by rw [put_fr]; exact h)
theorem q_callv {t f : Nat} {args : Array Operand} {tys : Array TypeId} {cap : Array Value} (hv : l.getD t undef = .func (.func f) #[] cap) (he : Enters P f) (H : ∀ w, C w → CallR P f (args.map (opv l) ++ cap) w fun v' w' => v' = v ∧ C w') (h : WQ P ops C Q rest (fr (l.set d v))) : WQ P ops C Q (⟨some d, .call { callee := .value (.tmp t), args := args, argTypes := tys }, ty, pos, aft, none⟩ :: rest) (fr l) :=
  q_call_any (fun w _ => by
    have := he (args.map (opv l) ++ cap) w
    have hv' : opv l (.tmp t) = .func (.func f) #[] cap := hv
    simp [execOp, resolve, hv', Deferred.ofValue, invoke, this]) H (by rw [put_fr]; exact h)
theorem q_on {dst : Option Nat} {op : Op} {g : Nat × Bool} (hg : yielded ops (l.toArray) g.1 = some g.2) (h : WQ P ops C Q (⟨dst, op, ty, pos, aft, none⟩ :: rest) (fr l)) : WQ P ops C Q (⟨dst, op, ty, pos, aft, some g⟩ :: rest) (fr l) := by
  have h1 : Region.wanted ⟨dst, op, ty, pos, aft, some g⟩ (yielded ops (fr l).tmps) = true := by simp [Region.wanted, fr, hg]
  replace h := h.run
  refine ⟨?_⟩
  simp only [wpQuiet, h1, wanted_none, if_true] at h ⊢
  exact h
theorem q_off {op : Op} {g : Nat × Bool} (hg : yielded ops (l.toArray) g.1 = some (!g.2)) (h : WQ P ops C Q rest (fr (l.set d undef))) : WQ P ops C Q (⟨some d, op, ty, pos, aft, some g⟩ :: rest) (fr l) := by
  have h1 : Region.wanted ⟨some d, op, ty, pos, aft, some g⟩ (yielded ops (fr l).tmps) = false := by simp [Region.wanted, fr, hg]
  refine ⟨?_⟩
  simp only [wpQuiet, h1, Bool.false_eq_true, if_false, put_fr]
  exact h.run
theorem q_un {op : Op} {g : Nat × Bool} (hg : yielded ops (l.toArray) g.1 = none) (h : WQ P ops C Q rest (fr (l.set d undef))) : WQ P ops C Q (⟨some d, op, ty, pos, aft, some g⟩ :: rest) (fr l) := by
  have h1 : Region.wanted ⟨some d, op, ty, pos, aft, some g⟩ (yielded ops (fr l).tmps) = false := by simp [Region.wanted, fr, hg]
  refine ⟨?_⟩
  simp only [wpQuiet, h1, Bool.false_eq_true, if_false, put_fr]
  exact h.run
theorem q_part {os : List Oper} (t : Nat) {b : Bool} (hb : l.getD t undef = .bool b) (ht : b = true → WQ P ops C Q os (fr (l.set t (.bool true)))) (hf : b = false → WQ P ops C Q os (fr (l.set t (.bool false)))) : WQ P ops C Q os (fr l) := by
  cases b
  · have := hf rfl; rw [← hb, set_getD] at this; exact this
  · have := ht rfl; rw [← hb, set_getD] at this; exact this
end

section
variable {P : Program} {n r : Act → World → Prop} {ex : List (Nat × (Act → World → Prop))} {w : World} {l : List Value} {S : Nat → Prop} {w0 : World} {L : List Res}
theorem x_quiet {id : Nat} {ops : List Oper} (hm : P.follows .mixedOrders = true) (hB : Region.lexB .any ops.toArray = true) (hS : St S w0 w L) (h : WQ P ops.toArray (fun w => St S w0 w L) (fun a' => ∀ w', St S w0 w' L → n a' w') ops (fr l)) : (Code.region id ops.toArray true).wp P (Qx n r ex) (fr l) w :=
  wp_region_quiet (C := fun w => St S w0 w L) hm hB (hS.ext (Ext.drew w)) (by simpa only [Qx, List.toList_toArray] using h.run)
theorem q_nil {ops : Array Oper} {C : World → Prop} {n : Act → World → Prop} {a : Act} (h : ∀ w', C w' → n a w') : WQ P ops C (fun a' => ∀ w', C w' → n a' w') [] a := ⟨h⟩
end
end Go.Proofs.Ytpjpaipkkcengaa
