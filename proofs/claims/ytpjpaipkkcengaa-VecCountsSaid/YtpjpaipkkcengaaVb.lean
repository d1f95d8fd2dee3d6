/-
  The walk's rules over a frame that is a list: control, loops, and one rule for each kind of operation. No program here.
-/
import Derived.Test.YtpjpaipkkcengaaVa
namespace Go.Proofs.Ytpjpaipkkcengaa
open Go.RowKit

def fr (l : List Value) : Act := { tmps := l.toArray, defers := [] }
def opv (l : List Value) : Operand → Value
  | .tmp t => l.getD t undef
  | .const v => v
  | .global g => .pointer (some ⟨g, 0, none⟩)
  | .func f => .func (.func f) #[] #[]
theorem eval_fr (l : List Value) : (fr l).eval = opv l := by
  funext x
  cases x <;> simp [fr, opv, Act.eval, Array.getD_eq_getD_getElem?, List.getD]
theorem put_fr (l : List Value) (d : Nat) (v : Value) : (fr l).put (some d) v = fr (l.set d v) := by simp [fr, Act.put]
theorem put_fr_none (l : List Value) (v : Value) : (fr l).put none v = fr l := rfl

theorem n1 {v : Value} {l : List Value} {n : Nat} {d : Value} : (v :: l).getD (n + 1) d = l.getD n d := List.getD_cons_succ
theorem n2 {v : Value} {l : List Value} {d : Value} : (v :: l).getD 0 d = v := List.getD_cons_zero
theorem n3 {v u : Value} {l : List Value} {n : Nat} : (v :: l).set (n + 1) u = v :: l.set n u := List.set_cons_succ
theorem n4 {v u : Value} {l : List Value} : (v :: l).set 0 u = u :: l := List.set_cons_zero

/-! ### rows of integers -/
def ic (k : IntKind) (l : List Int) : Array Value := (l.map (Value.int k)).toArray
@[simp] theorem ic_size (k : IntKind) (l : List Int) : (ic k l).size = l.length := by simp [ic]
theorem ic_get {k : IntKind} {l : List Int} {i : Nat} (h : i < l.length) : (ic k l)[i]? = some (.int k (l.getD i 0)) := by
  simp [ic, List.getElem?_eq_getElem h, List.getD]
theorem il_get {k : IntKind} {l : List Int} {i : Nat} (h : i < l.length) : (l.map (Value.int k))[i]? = some (.int k (l.getD i 0)) := by
  simp [List.getElem?_eq_getElem h, List.getD]
theorem ic_one (k : IntKind) (l : List Int) : ∀ u ∈ (ic k l).toList, u.oneCell' = true := by
  intro u hu; simp [ic] at hu; obtain ⟨a, _, rfl⟩ := hu; rfl
theorem il_one (k : IntKind) (l : List Int) : ∀ u ∈ l.map (Value.int k), u.oneCell' = true := by
  intro u hu; simp at hu; obtain ⟨a, _, rfl⟩ := hu; rfl


/-- written slots hold whatever they hold -/
def clob (l : List Value) (V : List Nat) (f : Nat → Value) : List Value := V.foldl (fun l d => l.set d (f d)) l
theorem set_getD (l : List Value) (d : Nat) : l.set d (l.getD d undef) = l := by
  by_cases h : d < l.length
  · rw [List.getD_eq_getElem?_getD, List.getElem?_eq_getElem h]; simp
  · rw [List.set_eq_of_length_le (by omega)]
theorem clob_self (l : List Value) (V : List Nat) : clob l V (fun d => l.getD d undef) = l := by
  suffices h : ∀ m : List Value, m = l → V.foldl (fun m d => m.set d (l.getD d undef)) m = l from h l rfl
  induction V with
  | nil => exact fun m hm => hm
  | cons d V ih =>
    intro m hm
    subst hm
    exact ih _ (set_getD m d)

def look (i : Nat) : List (Nat × (Act → World → Prop)) → Act → World → Prop
  | [], _, _ => False
  | (j, k) :: ex, a, w => if i = j then k a w else look i ex a w

/-- What stands behind a piece of code: on, out by a return, out of a block. -/
def Qx (n r : Act → World → Prop) (ex : List (Nat × (Act → World → Prop))) : Exit → Act → World → Prop
  | .normal, a, w => n a w
  | .ret, a, w => r a w
  | .exit i, a, w => look i ex a w
  | _, _, _ => False

/-- the walk over a list of operations, shut -/
structure WL (P : Program) (ops : Array Oper) (Q : Exit → Act → World → Prop) (os : List Oper) (a : Act) (w : World) : Prop where
  run : wpList P ops Q os a w

section
variable {P : Program} {n r : Act → World → Prop} {ex : List (Nat × (Act → World → Prop))} {a : Act} {w w' : World} {l : List Value}

theorem x_seq {x y : Code} (h : ∀ K : Act → World → Prop, (∀ a w, y.wp P (Qx n r ex) a w → K a w) → x.wp P (Qx K r ex) a w) : (Code.seq x y).wp P (Qx n r ex) a w :=
  wp_seq (wp_mono (h _ fun _ _ h => h) fun e a w q => by cases e <;> first | exact q | exact q.elim)
theorem x_block {id : Nat} {c : Code} (h : c.wp P (Qx n r ((id, n) :: ex)) a w) : (Code.block id c).wp P (Qx n r ex) a w :=
  wp_block (wp_mono h fun e a w q => by
    cases e with
    | exit i =>
      simp only [Exit.inBlock, Qx, look] at q ⊢
      split
      · rename_i hi; rw [if_pos hi] at q; exact q
      · rename_i hi; rw [if_neg hi] at q; exact q
    | _ => first | exact q | exact q.elim)
theorem x_exit {id : Nat} (h : look id ex a w) : (Code.exit id).wp P (Qx n r ex) a w := wp_exit h
theorem look_here {id : Nat} {k : Act → World → Prop} (h : k a w) : look id ((id, k) :: ex) a w := by simp only [look]; exact h
theorem look_on {i j : Nat} {k : Act → World → Prop} (hne : i ≠ j) (h : look i ex a w) : look i ((j, k) :: ex) a w := by simp only [look, if_neg hne]; exact h
theorem x_ret (h : r a w) : Code.ret.wp P (Qx n r ex) a w := wp_ret h
theorem x_skip (h : n a w) : Code.skip.wp P (Qx n r ex) a w := wp_skip h
theorem x_label {i : Nat} (h : n a w) : (Code.label i).wp P (Qx n r ex) a w := wp_label h
theorem x_cond_t {c : Operand} {x y : Code} (hc : opv l c = .bool true := by rfl) (h : x.wp P (Qx n r ex) (fr l) w) : (Code.cond c x y).wp P (Qx n r ex) (fr l) w := wp_cond_true (by rw [eval_fr]; exact hc) h
theorem x_cond_f {c : Operand} {x y : Code} (hc : opv l c = .bool false := by rfl) (h : y.wp P (Qx n r ex) (fr l) w) : (Code.cond c x y).wp P (Qx n r ex) (fr l) w := wp_cond_false (by rw [eval_fr]; exact hc) h
theorem x_cond {c : Operand} {x y : Code} {b : Bool} (hc : opv l c = .bool b := by rfl) (ht : b = true → x.wp P (Qx n r ex) (fr l) w) (hf : b = false → y.wp P (Qx n r ex) (fr l) w) : (Code.cond c x y).wp P (Qx n r ex) (fr l) w :=
  wp_cond_split (by rw [eval_fr]; exact hc) ht hf
theorem wl_plain {o : Oper} {ops : Array Oper} {rest : List Oper} {Q : Exit → Act → World → Prop} (hg : o.guard = none) (h : ∀ K : Act → World → Prop, (∀ a w, WL P ops Q rest a w → K a w) → o.wp P a w K Q) : WL P ops Q (o :: rest) a w := ⟨wpList_plain hg fun K hK => h K fun a w hh => hK a w hh.run⟩
theorem x_region {id : Nat} {ops : List Oper} (h : WL P ops.toArray (Qx n r ex) ops a w) : (Code.region id ops.toArray false).wp P (Qx n r ex) a w := wp_region_lit h.run
theorem x_nil {ops : Array Oper} (h : n a w) : WL P ops (Qx n r ex) [] a w := ⟨h⟩

def LoopJ (I : Nat → (Nat → Value) → World → Prop) (l : List Value) (V : List Nat) (m : Nat) (a' : Act) (w' : World) : Prop := ∃ m' f', a' = fr (clob l V f') ∧ I m' f' w' ∧ m' < m
theorem loop_back {I : Nat → (Nat → Value) → World → Prop} {l lnow : List Value} {V : List Nat} {m m' : Nat} {w : World} (he : lnow = clob l V (fun d => lnow.getD d undef)) (hI : I m' (fun d => lnow.getD d undef) w) (hm : m' < m) : LoopJ I l V m (fr lnow) w :=
  ⟨m', _, congrArg fr he, hI, hm⟩
theorem x_loop {c : Code} (V : List Nat) (I : Nat → (Nat → Value) → World → Prop) (m0 : Nat) (h0 : I m0 (fun d => l.getD d undef) w)
    (hr : ∀ m f w, I m f w → c.wp P (Qx (LoopJ I l V m) r ex) (fr (clob l V f)) w) : (Code.loop c).wp P (Qx n r ex) (fr l) w := by
  let J : Nat → Act → World → Prop := fun m a w => ∃ f, a = fr (clob l V f) ∧ I m f w
  have key : ∀ m a w, J m a w → (Code.loop c).wp P (Qx n r ex) a w := by
    intro m
    induction m using Nat.strongRecOn with
    | _ m ih =>
      rintro a w ⟨f, rfl, hI⟩
      -- one round of the loop, then the loop again
      refine wp_loop (fun a' w' => ∃ m' ≤ m, J m' a' w') (fun a' w' => Classical.epsilon fun k => (∃ f, a' = fr (clob l V f) ∧ I k f w') ∧ ∀ j, (∃ f, a' = fr (clob l V f) ∧ I j f w') → k ≤ j) ⟨m, Nat.le_refl _, f, rfl, hI⟩ ?_
      rintro a1 w1 ⟨m1, hm1, hJ1⟩
      -- the least number that fits
      have hex : ∃ k, J k a1 w1 := ⟨m1, hJ1⟩
      have hleast : ∃ k, J k a1 w1 ∧ ∀ j, J j a1 w1 → k ≤ j := by
        refine Nat.strongRecOn (motive := fun q => J q a1 w1 → ∃ k, J k a1 w1 ∧ ∀ j, J j a1 w1 → k ≤ j) m1 (fun q ihq hq => ?_) hJ1
        by_cases hx : ∃ j, j < q ∧ J j a1 w1
        · obtain ⟨j, hj, hjj⟩ := hx
          exact ihq j hj hjj
        · exact ⟨q, hq, fun j hj => by
            rcases Nat.lt_or_ge j q with h | h
            · exact absurd ⟨j, h, hj⟩ hx
            · exact h⟩
      have hk := Classical.epsilon_spec hleast
      generalize hke : (Classical.epsilon fun k => (∃ f, a1 = fr (clob l V f) ∧ I k f w1) ∧ ∀ j, (∃ f, a1 = fr (clob l V f) ∧ I j f w1) → k ≤ j) = k at hk ⊢
      obtain ⟨⟨f1, rfl, hI1⟩, hmin⟩ := hk
      have hkm : k ≤ m := Nat.le_trans (hmin m1 hJ1) hm1
      refine wp_mono (hr k f1 w1 hI1) fun e a2 w2 q => ?_
      cases e with
      | normal =>
        obtain ⟨m2, f2, rfl, hI2, hlt⟩ := q
        refine ⟨⟨m2, by omega, f2, rfl, hI2⟩, ?_⟩
        have h2 : ∃ k', J k' (fr (clob l V f2)) w2 ∧ ∀ j, J j (fr (clob l V f2)) w2 → k' ≤ j := by
          refine Nat.strongRecOn (motive := fun q => J q (fr (clob l V f2)) w2 → ∃ k, J k (fr (clob l V f2)) w2 ∧ ∀ j, J j (fr (clob l V f2)) w2 → k ≤ j) m2 (fun q ihq hq => ?_) ⟨f2, rfl, hI2⟩
          by_cases hx : ∃ j, j < q ∧ J j (fr (clob l V f2)) w2
          · obtain ⟨j, hj, hjj⟩ := hx
            exact ihq j hj hjj
          · exact ⟨q, hq, fun j hj => by
              rcases Nat.lt_or_ge j q with h | h
              · exact absurd ⟨j, h, hj⟩ hx
              · exact h⟩
        have hs := Classical.epsilon_spec h2
        exact Nat.lt_of_le_of_lt (hs.2 m2 ⟨f2, rfl, hI2⟩) hlt
      | ret => exact q
      | exit i => exact q
      | goto i => exact q.elim
      | panic ch => exact q.elim
      | outgrown => exact q.elim
  have := key m0 (fr l) w ⟨fun d => l.getD d undef, by rw [clob_self], h0⟩
  exact this
end
end Go.Proofs.Ytpjpaipkkcengaa
