/-
  More rules: wraps, equality of structs and arrays of integers, append, make, texts and bytes. No program here.
-/
import Derived.Test.YtpjpaipkkcengaaVd
namespace Go.Proofs.Ytpjpaipkkcengaa
open Go.RowKit

/-! ### wraps that do nothing -/
theorem wr_i64 {a : Int} (h0 : -9223372036854775808 ≤ a) (h1 : a ≤ 9223372036854775807) : IntKind.i64.wrap a = a := IntWalk.i64_in a ⟨h0, h1⟩
theorem wr_u8 {a : Int} (h0 : 0 ≤ a) (h1 : a ≤ 255) : IntKind.u8.wrap a = a := IntWalk.u8_in a ⟨h0, h1⟩
theorem wr_u16 {a : Int} (h0 : 0 ≤ a) (h1 : a ≤ 65535) : IntKind.u16.wrap a = a := IntWalk.u16_in a ⟨h0, h1⟩
theorem wr_u32 {a : Int} (h0 : 0 ≤ a) (h1 : a ≤ 4294967295) : IntKind.u32.wrap a = a := IntWalk.u32_in a ⟨h0, h1⟩
theorem wr_u64 {a : Int} (h0 : 0 ≤ a) (h1 : a ≤ 18446744073709551615) : IntKind.u64.wrap a = a := IntWalk.u64_in a ⟨h0, h1⟩
theorem wr_i32 {a : Int} (h0 : -2147483648 ≤ a) (h1 : a ≤ 2147483647) : IntKind.i32.wrap a = a := IntWalk.i32_in a ⟨h0, h1⟩
theorem tdiv_nat {a b : Int} (h0 : 0 ≤ a) : a.tdiv b = a / b := Int.tdiv_eq_ediv_of_nonneg h0
theorem div_le {a b M : Int} (h0 : 0 ≤ a) (h1 : a ≤ M) (hb : 0 < b) : 0 ≤ a / b ∧ a / b ≤ M := by
  refine ⟨Int.ediv_nonneg h0 (by omega), ?_⟩
  have := Int.ediv_le_self b h0
  omega
theorem wq_i64 {a b : Int} (h0 : 0 ≤ a) (h1 : a ≤ 9223372036854775807) (hb : 0 < b) : IntKind.i64.wrap (a.tdiv b) = a / b := by
  rw [tdiv_nat h0]; have := div_le h0 h1 hb; exact wr_i64 (by omega) (by omega)
theorem wq_u64 {a b : Int} (h0 : 0 ≤ a) (h1 : a ≤ 18446744073709551615) (hb : 0 < b) : IntKind.u64.wrap (a.tdiv b) = a / b := by
  rw [tdiv_nat h0]; have := div_le h0 h1 hb; exact wr_u64 (by omega) (by omega)
theorem wq_u16 {a b : Int} (h0 : 0 ≤ a) (h1 : a ≤ 65535) (hb : 0 < b) : IntKind.u16.wrap (a.tdiv b) = a / b := by
  rw [tdiv_nat h0]; have := div_le h0 h1 hb; exact wr_u16 (by omega) (by omega)
theorem wq_u8 {a b : Int} (h0 : 0 ≤ a) (h1 : a ≤ 255) (hb : 0 < b) : IntKind.u8.wrap (a.tdiv b) = a / b := by
  rw [tdiv_nat h0]; have := div_le h0 h1 hb; exact wr_u8 (by omega) (by omega)

/-! ### equality of structs and arrays whose leaves are integers -/
def CAt (cs : Array Value) (off : Nat) (vs : List Value) : Prop := ∀ j u, vs[j]? = some u → cs[off + j]? = some u
theorem CAt.app {cs : Array Value} {off : Nat} {a b : List Value} (h : CAt cs off (a ++ b)) : CAt cs off a ∧ CAt cs (off + a.length) b := by
  refine ⟨fun j u hu => h j u ?_, fun j u hu => ?_⟩
  · rw [List.getElem?_append_left (List.getElem?_eq_some_iff.1 hu).1]; exact hu
  · rw [Nat.add_assoc]; refine h _ u ?_
    rw [List.getElem?_append_right (by omega)]; simpa using hu
theorem CAt.extract {cs : Array Value} {off : Nat} {vs : List Value} (h : CAt cs off vs) : CAt (cs.extract off (off + vs.length)) 0 vs := fun j u hu => by
  have hj := (List.getElem?_eq_some_iff.1 hu).1
  have := h j u hu
  have hlt := (Array.getElem?_eq_some_iff.1 this).1
  rw [Nat.zero_add, Array.getElem?_extract, if_pos (by omega)]
  exact this
theorem CAt.of_list (vs : List Value) : CAt vs.toArray 0 vs := fun j u hu => by simpa using hu

def zi (ks : List IntKind) (xs : List Int) : List Value := List.zipWith Value.int ks xs
theorem zi_app {k1 k2 : List IntKind} {x1 x2 : List Int} (h : x1.length = k1.length) : zi (k1 ++ k2) (x1 ++ x2) = zi k1 x1 ++ zi k2 x2 := List.zipWith_append h.symm
theorem zi_len {ks : List IntKind} {xs : List Int} (h : xs.length = ks.length) : (zi ks xs).length = ks.length := by simp [zi, h]
theorem zi_rep (k : IntKind) : ∀ (l : List Int), zi (List.replicate l.length k) l = l.map (Value.int k)
  | [] => rfl
  | x :: l => by
    have := zi_rep k l
    simp only [zi] at this
    simp [zi, List.replicate_succ, this]

/-- what '==' answers at two parts -/
def EqP (P : Program) (D : Nat) (t : TypeId) (ks : List IntKind) : Prop := ∀ d, D ≤ d → ∀ (w : World) (c1 c2 : Array Value) (o1 o2 : Nat) (xs ys : List Int), xs.length = ks.length → ys.length = ks.length → CAt c1 o1 (zi ks xs) → CAt c2 o2 (zi ks ys) →
  ∃ a b, (part t c1 o1).run P w = .ok a w ∧ (part t c2 o2).run P w = .ok b w ∧ (Op.equalIn d t a b).run P w = .ok (decide (xs = ys)) w
def EqV (P : Program) (D : Nat) (t : TypeId) (ks : List IntKind) : Prop := ∀ d, D ≤ d → ∀ (w : World) (c1 c2 : Array Value) (xs ys : List Int), xs.length = ks.length → ys.length = ks.length → CAt c1 0 (zi ks xs) → CAt c2 0 (zi ks ys) →
  (Op.equalIn d t (.agg c1) (.agg c2)).run P w = .ok (decide (xs = ys)) w

theorem eq_int {P : Program} {t : TypeId} {k : IntKind} (h : P.underlying t = some (.int k)) : EqP P 1 t [k] := by
  intro d hd w c1 c2 o1 o2 xs ys hx hy h1 h2
  match xs, hx, ys, hy with
  | [x], _, [y], _ =>
    refine ⟨.int k x, .int k y, part_one h rfl ?_, part_one h rfl ?_, ?_⟩
    · simpa using h1 0 _ rfl
    · simpa using h2 0 _ rfl
    · obtain ⟨d, rfl⟩ : ∃ e, d = e + 1 := ⟨d - 1, by omega⟩
      rw [run_equalIn_int w d t k k x y h]
      congr 1
      by_cases e : x = y <;> simp [e]
theorem eq_part {P : Program} {D : Nat} {t : TypeId} {ks : List IntKind} {dsc : TypeDesc} {sz by' : Nat} {z : Value} (hv : EqV P D t ks) (hu : P.underlying t = some dsc) (hd : isAggD dsc = true) (hi : TI P t sz by' z) (hs : ks.length = sz) : EqP P D t ks := by
  intro d hd' w c1 c2 o1 o2 xs ys hx hy h1 h2
  have e1 := h1.extract
  have e2 := h2.extract
  rw [zi_len hx, hs] at e1
  rw [zi_len hy, hs] at e2
  exact ⟨_, _, part_agg hu hd hi, part_agg hu hd hi, hv d hd' w _ _ xs ys hx hy e1 e2⟩

inductive FieldsEq (P : Program) (D : Nat) : List Field → Nat → List IntKind → Prop
  | nil {o : Nat} : FieldsEq P D [] o []
  | cons {f : Field} {fs : List Field} {o : Nat} {k1 k2 : List IntKind} {D' : Nat} : f.offset = o → f.name ≠ "_" → EqP P D' f.type k1 → D' ≤ D → FieldsEq P D fs (o + k1.length) k2 → FieldsEq P D (f :: fs) o (k1 ++ k2)

theorem eqFields_run {P : Program} {D d : Nat} (hd : D ≤ d) {fs : List Field} {o : Nat} {ks : List IntKind} (hf : FieldsEq P D fs o ks) : ∀ (w : World) (c1 c2 : Array Value) (xs ys : List Int), xs.length = ks.length → ys.length = ks.length → CAt c1 o (zi ks xs) → CAt c2 o (zi ks ys) →
    (Op.eqFields d c1 c2 fs).run P w = .ok (decide (xs = ys)) w := by
  induction hf with
  | nil =>
    intro w c1 c2 xs ys hx hy _ _
    have := List.eq_nil_of_length_eq_zero hx
    have := List.eq_nil_of_length_eq_zero hy
    subst_vars
    simp [Op.eqFields]
  | @cons f fs o k1 k2 D' ho hn hp hD _ ih =>
    intro w c1 c2 xs ys hx hy h1 h2
    obtain ⟨xa, xb, rfl, hxa⟩ : ∃ xa xb, xs = xa ++ xb ∧ xa.length = k1.length := ⟨xs.take k1.length, xs.drop k1.length, (List.take_append_drop _ _).symm, by simp at hx ⊢; omega⟩
    obtain ⟨ya, yb, rfl, hya⟩ : ∃ ya yb, ys = ya ++ yb ∧ ya.length = k1.length := ⟨ys.take k1.length, ys.drop k1.length, (List.take_append_drop _ _).symm, by simp at hy ⊢; omega⟩
    rw [zi_app hxa] at h1
    rw [zi_app hya] at h2
    obtain ⟨h1a, h1b⟩ := h1.app
    obtain ⟨h2a, h2b⟩ := h2.app
    rw [zi_len hxa] at h1b
    rw [zi_len hya] at h2b
    obtain ⟨a, b, ra, rb, re⟩ := hp d (Nat.le_trans hD hd) w c1 c2 o o xa ya hxa hya h1a h2a
    have hi := ih w c1 c2 xb yb (by simp at hx; omega) (by simp at hy; omega) h1b h2b
    subst ho
    simp only [Op.eqFields, if_pos hn, Sem.run_bind, ra, rb, re, Result.andThen_ok]
    by_cases e : xa = ya
    · subst e
      simp [hi]
    · have : ¬ (xa ++ xb = ya ++ yb) := fun h => e (List.append_inj h (by omega)).1
      simp [e, this]

theorem eq_struct {P : Program} {D : Nat} {t : TypeId} {fs : Array Field} {ks : List IntKind} (h : P.underlying t = some (.struct fs)) (hp : P.stoodInHeld t = false) (hf : FieldsEq P D fs.toList 0 ks) : EqV P (D + 1) t ks := by
  intro d hd w c1 c2 xs ys hx hy h1 h2
  obtain ⟨d, rfl⟩ : ∃ e, d = e + 1 := ⟨d - 1, by omega⟩
  have hfo : P.fieldsOf t = fs := by simp [Program.fieldsOf, h]
  rw [run_equalIn_struct w d t c1 c2 (by rw [hfo]; exact h) hp, hfo]
  exact eqFields_run (by omega) hf w c1 c2 xs ys hx hy h1 h2

theorem eq_arr {P : Program} {D : Nat} {t e : TypeId} {n : Nat} {ks : List IntKind} {sz by' : Nat} {z : Value} (h : P.underlying t = some (.array n e)) (hi : TI P e sz by' z) (hs : ks.length = sz) (hp : EqP P D e ks) : EqV P (D + 1) t (List.replicate n ks).flatten := by
  intro d hd w c1 c2 xs ys hx hy h1 h2
  obtain ⟨d, rfl⟩ : ∃ e, d = e + 1 := ⟨d - 1, by omega⟩
  obtain ⟨i, hi, rfl, _, _⟩ := hi
  simp only [Op.equalIn, Sem.run_bind, run_underlying h, Result.andThen_ok, sizeOf, typeInfo, Sem.run_pure]
  have hti : (program).run P w = .ok P w := rfl
  simp only [hti, Result.andThen_ok, hi, Sem.run_pure]
  rw [Std.Legacy.Range.forIn_eq_forIn_range']
  simp only [Std.Legacy.Range.size, Nat.sub_zero, Nat.add_sub_cancel, Nat.div_one]
  -- the rounds from number s on
  have key : ∀ (m s : Nat) (xs ys : List Int), xs.length = (List.replicate m ks).flatten.length → ys.length = (List.replicate m ks).flatten.length → CAt c1 (s * i.size) (zi (List.replicate m ks).flatten xs) → CAt c2 (s * i.size) (zi (List.replicate m ks).flatten ys) →
      (((forIn (List.range' s m) ((none, ()) : Option Bool × Unit) fun j _ => do
        let a ← part e c1 (j * i.size)
        let b ← part e c2 (j * i.size)
        let r ← Op.equalIn d e a b
        if (!r) = true then pure (ForInStep.done (some false, ())) else
          pure (ForInStep.yield (none, ()))) : Sem _).run P w) = .ok (if xs = ys then (none, ()) else (some false, ())) w := by
    intro m
    induction m with
    | zero =>
      intro s xs ys hx hy _ _
      have := List.eq_nil_of_length_eq_zero (by simpa using hx)
      have := List.eq_nil_of_length_eq_zero (by simpa using hy)
      subst_vars
      simp
    | succ m ih =>
      intro s xs ys hx hy h1 h2
      rw [List.replicate_succ, List.flatten_cons] at hx hy h1 h2
      obtain ⟨xa, xb, rfl, hxa⟩ : ∃ xa xb, xs = xa ++ xb ∧ xa.length = ks.length := ⟨xs.take ks.length, xs.drop ks.length, (List.take_append_drop _ _).symm, by simp at hx ⊢; omega⟩
      obtain ⟨ya, yb, rfl, hya⟩ : ∃ ya yb, ys = ya ++ yb ∧ ya.length = ks.length := ⟨ys.take ks.length, ys.drop ks.length, (List.take_append_drop _ _).symm, by simp at hy ⊢; omega⟩
      rw [zi_app hxa] at h1
      rw [zi_app hya] at h2
      obtain ⟨h1a, h1b⟩ := h1.app
      obtain ⟨h2a, h2b⟩ := h2.app
      rw [zi_len hxa, hs, ← Nat.succ_mul] at h1b
      rw [zi_len hya, hs, ← Nat.succ_mul] at h2b
      obtain ⟨a, b, ra, rb, re⟩ := hp d (by omega) w c1 c2 _ _ xa ya hxa hya h1a h2a
      have hI := ih (s + 1) xb yb (by simp at hx ⊢; omega) (by simp at hy ⊢; omega) h1b h2b
      simp only [List.range'_succ, List.forIn_cons, Sem.run_bind, ra, rb, re, Result.andThen_ok]
      by_cases e : xa = ya
      · subst e
        simp only [decide_true, Bool.not_true, Bool.false_eq_true, if_false, Sem.run_pure, Result.andThen_ok, List.append_cancel_left_eq]
        exact hI
      · have : ¬ (xa ++ xb = ya ++ yb) := fun h => e (List.append_inj h (by omega)).1
        simp [e, this]
  have hk := key n 0 xs ys hx hy (by simpa using h1) (by simpa using h2)
  rw [hk]
  by_cases e : xs = ys <;> simp [e]
end Go.Proofs.Ytpjpaipkkcengaa
