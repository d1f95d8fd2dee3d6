/-
  Maps whose keys are integers, or structs or arrays of these: made, looked up, stored into, counted, ranged over. No program here.
-/
import Derived.Test.YtpjpaipkkcengaaVk
import Derived.Laws.IdiomRangeMap
namespace Go.Proofs.Ytpjpaipkkcengaa
open Go.RowKit

/-! keys that may be hashed -/
def ChP (P : Program) (D : Nat) (t : TypeId) (ks : List IntKind) : Prop := ∀ d, D ≤ d → ∀ (em : Bool) (w : World) (c : Array Value) (o : Nat) (xs : List Int), xs.length = ks.length → CAt c o (zi ks xs) →
  ∃ a, (part t c o).run P w = .ok a w ∧ (Instr.checkKey em d t a).run P w = .ok () w
def ChV (P : Program) (D : Nat) (t : TypeId) (ks : List IntKind) : Prop := ∀ d, D ≤ d → ∀ (em : Bool) (w : World) (c : Array Value) (xs : List Int), xs.length = ks.length → CAt c 0 (zi ks xs) → (Instr.checkKey em d t (.agg c)).run P w = .ok () w
theorem ch_int {P : Program} {t : TypeId} {k : IntKind} (h : P.underlying t = some (.int k)) : ChP P 1 t [k] := by
  intro d hd em w c o xs hx h1
  match xs, hx with
  | [x], _ =>
    obtain ⟨d, rfl⟩ : ∃ e, d = e + 1 := ⟨d - 1, by omega⟩
    refine ⟨.int k x, part_one h rfl (by simpa using h1 0 _ rfl), ?_⟩
    simp [Instr.checkKey, run_underlying h]
theorem ch_part {P : Program} {D : Nat} {t : TypeId} {ks : List IntKind} {dsc : TypeDesc} {sz by' : Nat} {z : Value} (hv : ChV P D t ks) (hu : P.underlying t = some dsc) (hd : isAggD dsc = true) (hi : TI P t sz by' z) (hs : ks.length = sz) : ChP P D t ks := by
  intro d hd' em w c o xs hx h1
  have e1 := h1.extract
  rw [zi_len hx, hs] at e1
  exact ⟨_, part_agg hu hd hi, hv d hd' em w _ xs hx e1⟩
inductive FieldsCh (P : Program) (D : Nat) : List Field → Nat → List IntKind → Prop
  | nil {o : Nat} : FieldsCh P D [] o []
  | cons {f : Field} {fs : List Field} {o : Nat} {k1 k2 : List IntKind} {D' : Nat} : f.offset = o → f.name ≠ "_" → ChP P D' f.type k1 → D' ≤ D → FieldsCh P D fs (o + k1.length) k2 → FieldsCh P D (f :: fs) o (k1 ++ k2)
theorem ch_struct {P : Program} {D : Nat} {t : TypeId} {fs : Array Field} {ks : List IntKind} (h : P.underlying t = some (.struct fs)) (hf : FieldsCh P D fs.toList 0 ks) : ChV P (D + 1) t ks := by
  intro d hd em w c xs hx h1
  obtain ⟨d, rfl⟩ : ∃ e, d = e + 1 := ⟨d - 1, by omega⟩
  have key : ∀ {l : List Field} {o : Nat} {ks : List IntKind}, FieldsCh P D l o ks → ∀ (xs : List Int), xs.length = ks.length → CAt c o (zi ks xs) →
      ((forIn l PUnit.unit fun f _ => do
        if f.name ≠ "_" then do
          let a ← part f.type c f.offset
          Instr.checkKey em d f.type a
          pure (ForInStep.yield PUnit.unit)
        else pure (ForInStep.yield PUnit.unit)) : Sem PUnit).run P w = .ok PUnit.unit w := by
    intro l o ks hf
    induction hf with
    | nil => intro xs _ _; simp
    | @cons f fs o k1 k2 D' ho hn hp hD _ ih =>
      intro xs hx h1
      obtain ⟨xa, xb, rfl, hxa⟩ : ∃ xa xb, xs = xa ++ xb ∧ xa.length = k1.length := ⟨xs.take k1.length, xs.drop k1.length, (List.take_append_drop _ _).symm, by simp at hx ⊢; omega⟩
      rw [zi_app hxa] at h1
      obtain ⟨h1a, h1b⟩ := h1.app
      rw [zi_len hxa] at h1b
      subst ho
      obtain ⟨a, ra, rc⟩ := hp d (by omega) em w c _ xa hxa h1a
      have hi := ih xb (by simp at hx; omega) h1b
      simp only [List.forIn_cons, if_pos hn, Sem.run_bind, ra, rc, Result.andThen_ok, Sem.run_pure]
      exact hi
  have hk := key hf xs hx h1
  simp only [Instr.checkKey, Sem.run_bind, run_underlying h, Result.andThen_ok]
  rw [← Array.forIn_toList]
  simp only [hk, Result.andThen_ok, Sem.run_pure]
theorem ch_arr {P : Program} {D : Nat} {t e : TypeId} {n : Nat} {ks : List IntKind} {sz by' : Nat} {z : Value} (h : P.underlying t = some (.array n e)) (hi : TI P e sz by' z) (hs : ks.length = sz) (hp : ChP P D e ks) : ChV P (D + 1) t (List.replicate n ks).flatten := by
  intro d hd em w c xs hx h1
  obtain ⟨d, rfl⟩ : ∃ e, d = e + 1 := ⟨d - 1, by omega⟩
  obtain ⟨i, hi, rfl, _, _⟩ := hi
  simp only [Instr.checkKey, Sem.run_bind, run_underlying h, Result.andThen_ok]
  have hsz : (sizeOf e).run P w = .ok i.size w := by simp [sizeOf, typeInfo, hi]
  rw [Std.Legacy.Range.forIn_eq_forIn_range']
  simp only [Std.Legacy.Range.size, Nat.sub_zero, Nat.add_sub_cancel, Nat.div_one]
  have key : ∀ (m s : Nat) (xs : List Int), xs.length = (List.replicate m ks).flatten.length → CAt c (s * i.size) (zi (List.replicate m ks).flatten xs) →
      ((forIn (List.range' s m) PUnit.unit fun j _ => do
        let z ← sizeOf e
        let a ← part e c (j * z)
        Instr.checkKey em d e a
        pure (ForInStep.yield PUnit.unit)) : Sem PUnit).run P w = .ok PUnit.unit w := by
    intro m
    induction m with
    | zero => intro s xs _ _; simp
    | succ m ih =>
      intro s xs hx h1
      rw [List.replicate_succ, List.flatten_cons] at hx h1
      obtain ⟨xa, xb, rfl, hxa⟩ : ∃ xa xb, xs = xa ++ xb ∧ xa.length = ks.length := ⟨xs.take ks.length, xs.drop ks.length, (List.take_append_drop _ _).symm, by simp at hx ⊢; omega⟩
      rw [zi_app hxa] at h1
      obtain ⟨h1a, h1b⟩ := h1.app
      rw [zi_len hxa, hs, ← Nat.succ_mul] at h1b
      obtain ⟨a, ra, rc⟩ := hp d (by omega) em w c _ xa hxa h1a
      have hI := ih (s + 1) xb (by simp at hx ⊢; omega) h1b
      simp only [List.range'_succ, List.forIn_cons, Sem.run_bind, hsz, Sem.run_pure, ra, rc, Result.andThen_ok]
      exact hI
  have hk := key n 0 xs hx (by simpa using h1)
  simp only [hk, Result.andThen_ok, Sem.run_pure]

/-! keys, and the maps over them -/
structure KeyT (P : Program) (t : TypeId) {κ : Type} [DecidableEq κ] (kv : κ → Value) (ok : κ → Prop) : Prop where
  chk : ∀ (em : Bool) (w : World) (a : κ), ok a → (Instr.checkKey em 10000 t (kv a)).run P w = .ok () w
  eq : ∀ (w : World) (a b : κ), ok a → ok b → (Op.equal t (kv a) (kv b)).run P w = .ok (decide (a = b)) w
  now : ∃ kd, P.underlying t = some kd ∧ ((∀ a b, ok a → ok b → Instr.sameNow kd (kv a) (kv b) = none) ∨ ∀ a b, ok a → ok b → Instr.sameNow kd (kv a) (kv b) = some (decide (a = b)))
  same : ∀ a, Instr.sameBits 10000 (kv a) (kv a) = true
theorem sameBits_ints (n : Nat) (vs : List Value) (h : ∀ v ∈ vs, ∃ k x, v = .int k x) : Instr.sameBits (n + 1) (.agg vs.toArray) (.agg vs.toArray) = true := by
  simp only [Instr.sameBits, beq_self_eq_true, Bool.true_and, List.all_eq_true]
  rintro ⟨a, b⟩ hab
  simp only [List.zip_eq_zipWith] at hab
  obtain ⟨i, hi, e⟩ := List.getElem_of_mem hab
  simp only [List.getElem_zipWith, Prod.mk.injEq] at e
  obtain ⟨rfl, rfl⟩ := e
  obtain ⟨k, x, hx⟩ := h (vs.toArray.toList[i]'(by simp at hi; simpa using hi)) (by simp)
  simp only [List.toList_toArray] at hx ⊢
  rw [hx]
  cases n <;> simp [Instr.sameBits]
theorem keyT_agg {P : Program} {t : TypeId} {D D' : Nat} {ks : List IntKind} {dsc : TypeDesc} (hu : P.underlying t = some dsc) (hd : isAggD dsc = true) (hc : ChV P D t ks) (he : EqV P D' t ks) (h1 : D ≤ 10000) (h2 : D' ≤ 10000) : KeyT P t (fun xs : List Int => .agg (zi ks xs).toArray) (fun xs => xs.length = ks.length) := by
  refine ⟨fun em w a ha => hc 10000 h1 em w _ a ha (CAt.of_list _), fun w a b ha hb => run_eql_agg he h2 rfl rfl ha hb w, ⟨dsc, hu, .inl fun a b _ _ => ?_⟩, fun a => sameBits_ints 9999 _ ?_⟩
  · cases dsc <;> first | (cases hd; done) | rfl
  · intro v hv
    simp only [zi] at hv
    obtain ⟨i, hi, rfl⟩ := List.getElem_of_mem hv
    simp
theorem keyT_int {P : Program} {t : TypeId} {k : IntKind} (hu : P.underlying t = some (.int k)) : KeyT P t (fun x : Int => .int k x) (fun _ => True) := by
  have hck : ∀ (d : Nat) (em : Bool) (w : World) (a : Int), (Instr.checkKey em (d + 1) t (.int k a)).run P w = .ok () w := fun d em w a => by simp [Instr.checkKey, run_underlying hu]
  have hsb : ∀ (d : Nat) (a : Int), Instr.sameBits d (.int k a) (.int k a) = true := fun d a => by cases d <;> simp [Instr.sameBits]
  refine ⟨fun em w a _ => hck 9999 em w a, fun w a b _ _ => ?_, ⟨_, hu, .inr fun a b _ _ => ?_⟩, fun a => hsb 10000 a⟩
  · have h := run_equalIn_int (P := P) w 9999 t k k a b hu
    have h2 : (Op.equal t (.int k a) (.int k b)).run P w = _ := h
    rw [h2]
    by_cases e : a = b <;> simp [e]
  · simp [Instr.sameNow]; rfl

section
variable {P : Program} {κ : Type}
def mEs (kv : κ → Value) (s : Nat) : List (κ × Value) → List MapEntry
  | [] => []
  | (a, v) :: D => ⟨kv a, v, s⟩ :: mEs kv (s + 1) D
def mObj (kv : κ → Value) (D : List (κ × Value)) : Obj := .map (mEs kv 0 D).toArray D.length
def MOk (ok : κ → Prop) (D : List (κ × Value)) : Prop := ∀ p ∈ D, ok p.1
theorem mEs_len (kv : κ → Value) : ∀ (s : Nat) (D : List (κ × Value)), (mEs kv s D).length = D.length
  | _, [] => rfl
  | s, (a, v) :: D => by simp [mEs, mEs_len kv (s + 1) D]
theorem mEs_get (kv : κ → Value) : ∀ (s : Nat) (D : List (κ × Value)) (i : Nat), (mEs kv s D)[i]? = D[i]?.map fun p => ⟨kv p.1, p.2, s + i⟩
  | _, [], _ => by simp [mEs]
  | s, (a, v) :: D, 0 => by simp [mEs]
  | s, (a, v) :: D, i + 1 => by simp only [mEs, List.getElem?_cons_succ, mEs_get kv (s + 1) D i]; congr 1; funext p; congr 1; omega
theorem mEs_app (kv : κ → Value) : ∀ (s : Nat) (D E : List (κ × Value)), mEs kv s (D ++ E) = mEs kv s D ++ mEs kv (s + D.length) E
  | s, [], E => by simp [mEs]
  | s, (a, v) :: D, E => by simp only [List.cons_append, mEs, mEs_app kv (s + 1) D E, List.length_cons]; rw [show s + 1 + D.length = s + (D.length + 1) by omega]
theorem mEs_find (kv : κ → Value) : ∀ (s : Nat) (D : List (κ × Value)) (i : Nat), (mEs kv s D).find? (fun e => e.born == s + i) = D[i]?.map fun p => ⟨kv p.1, p.2, s + i⟩
  | _, [], _ => by simp [mEs]
  | s, (a, v) :: D, 0 => by simp [mEs]
  | s, (a, v) :: D, i + 1 => by
    have h := mEs_find kv (s + 1) D i
    rw [show s + 1 + i = s + (i + 1) by omega] at h
    have hne : (s == s + (i + 1)) = false := by simp
    simp only [mEs, List.find?_cons, hne, List.getElem?_cons_succ]
    exact h
theorem run_getObj_mp {kv : κ → Value} {w : World} {g : Nat} {D : List (κ × Value)} (h : w.heap[g]? = some (mObj kv D)) : (getObj g).run P w = .ok (mObj kv D) w := MapKept.run_getObj_map h
theorem run_getObj_it {w : World} {r a b : Nat} {m : Option Nat} {s : Array Nat} (h : w.heap[r]? = some (.mapIter m a s b)) : (getObj r).run P w = .ok (.mapIter m a s b) w := by simp [getObj, Sem.run, h]
theorem run_setObj_it {w : World} {r a b : Nat} {m : Option Nat} {s : Array Nat} (o : Obj) (h : w.heap[r]? = some (.mapIter m a s b)) : (setObj r o).run P w = .ok () { w with heap := w.heap.setIfInBounds r o } := by simp [setObj, Sem.run, h]
end
section
variable {κ : Type} [DecidableEq κ]
def mfind (a : κ) : List (κ × Value) → Nat → Option (Nat × Value)
  | [], _ => none
  | (b, v) :: D, i => if a = b then some (i, v) else mfind a D (i + 1)
def mget (a : κ) : List (κ × Value) → Option Value
  | [] => none
  | (b, v) :: D => if a = b then some v else mget a D
def mput (a : κ) (v : Value) : List (κ × Value) → List (κ × Value)
  | [] => [(a, v)]
  | (b, u) :: D => if a = b then (a, v) :: D else (b, u) :: mput a v D
theorem mfind_get (a : κ) : ∀ (D : List (κ × Value)) (i : Nat), (mfind a D i).map (·.2) = mget a D
  | [], _ => rfl
  | (b, v) :: D, i => by simp only [mfind, mget]; split; rfl; exact mfind_get a D (i + 1)
theorem mput_none {a : κ} {v : Value} : ∀ {D : List (κ × Value)} {i : Nat}, mfind a D i = none → mput a v D = D ++ [(a, v)]
  | [], _, _ => rfl
  | (b, u) :: D, i, h => by
    simp only [mfind] at h
    split at h
    · cases h
    · rename_i hne
      simp only [mput, if_neg hne, List.cons_append, mput_none h]
theorem mput_some {kv : κ → Value} {a : κ} {v : Value} : ∀ {D : List (κ × Value)} {s i j : Nat} {u : Value}, mfind a D s = some (i, u) → i = s + j → j < D.length ∧ (mEs kv 0 D)[j]?.map (·.key) = some (kv a) ∧ ∀ q, mEs kv q (mput a v D) = (mEs kv q D).modify j fun e => { e with key := kv a, val := v }
  | [], _, _, _, _, h, _ => by cases h
  | (b, x) :: D, s, i, j, u, h, hj => by
    simp only [mfind] at h
    split at h
    · rename_i he
      subst he
      simp only [Option.some.injEq, Prod.mk.injEq] at h
      obtain rfl : j = 0 := by omega
      exact ⟨by simp, by simp [mEs], fun q => by simp [mput, mEs]⟩
    · rename_i hne
      have hs : s + 1 ≤ i := by
        have : ∀ (D : List (κ × Value)) (s i : Nat) (u : Value), mfind a D s = some (i, u) → s ≤ i := by
          intro D
          induction D with
          | nil => intro s i u h; cases h
          | cons p D ih =>
            intro s i u h
            simp only [mfind] at h
            split at h
            · simp at h; omega
            · have := ih _ _ _ h; omega
        exact this _ _ _ _ h
      obtain ⟨j, rfl⟩ : ∃ k, j = k + 1 := ⟨j - 1, by omega⟩
      obtain ⟨h1, h2, h3⟩ := mput_some (kv := kv) (v := v) h (show i = (s + 1) + j by omega)
      refine ⟨by simp; omega, ?_, fun q => ?_⟩
      · rw [mEs_get] at h2 ⊢
        simpa using h2
      · simp only [mput, if_neg hne, mEs, h3, List.modify_succ_cons]
theorem mput_len_le (a : κ) (v : Value) : ∀ (D : List (κ × Value)), (mput a v D).length ≤ D.length + 1
  | [] => by simp [mput]
  | (b, u) :: D => by
    have := mput_len_le a v D
    simp only [mput]; split <;> simp; omega
theorem mput_ok {ok : κ → Prop} {a : κ} {v : Value} (ha : ok a) : ∀ {D : List (κ × Value)}, MOk ok D → MOk ok (mput a v D)
  | [], _ => by intro p hp; simp [mput] at hp; subst hp; exact ha
  | (b, u) :: D, h => by
    have hD : MOk ok D := fun p hp => h p (by simp [hp])
    intro p hp
    simp only [mput] at hp
    split at hp
    · rcases List.mem_cons.1 hp with rfl | hp
      · exact ha
      · exact hD p hp
    · rcases List.mem_cons.1 hp with rfl | hp
      · exact h _ (by simp)
      · exact mput_ok ha hD p hp
theorem mget_put (a b : κ) (v : Value) : ∀ (D : List (κ × Value)), mget b (mput a v D) = if b = a then some v else mget b D
  | [] => by simp [mput, mget]
  | (c, u) :: D => by
    simp only [mput]
    by_cases hac : a = c
    · subst hac; simp only [if_true, mget]; split <;> rfl
    · simp only [if_neg hac, mget, mget_put a b v D]
      by_cases hbc : b = c
      · subst hbc; simp [Ne.symm hac]
      · simp [hbc]
end

section
variable {P : Program} {κ : Type} [DecidableEq κ] {t : TypeId} {kv : κ → Value} {ok : κ → Prop}
theorem run_findKey (K : KeyT P t kv ok) (w : World) {a : κ} (ha : ok a) {D : List (κ × Value)} (hD : MOk ok D) : (Instr.findKey t (kv a) (mEs kv 0 D)).run P w = .ok (mfind a D 0) w := by
  have ask : ∀ (D : List (κ × Value)) (s q : Nat), MOk ok D → (Instr.findAsking t (kv a) (mEs kv q D) s).run P w = .ok (mfind a D s) w := by
    intro D
    induction D with
    | nil => intro s q _; simp [mEs, Instr.findAsking, mfind]
    | cons p D ih =>
      intro s q hD
      obtain ⟨b, v⟩ := p
      have hb : ok b := hD (b, v) (by simp)
      simp only [mEs, Instr.findAsking, Sem.run_bind, K.eq w a b ha hb, Result.andThen_ok, mfind]
      by_cases e : a = b
      · simp [e]
      · simp only [e, decide_false, Bool.false_eq_true, if_false]
        exact ih (s + 1) (q + 1) (fun p hp => hD p (by simp [hp]))
  obtain ⟨kd, hu, hk⟩ := K.now
  simp only [Instr.findKey, Sem.run_bind, run_underlying hu, Result.andThen_ok]
  rcases hk with hk | hk
  · rcases D with _ | ⟨⟨b, v⟩, D⟩
    · simp [mEs, Instr.findNow, mfind]
    · have hb : ok b := hD (b, v) (by simp)
      simp only [mEs, Instr.findNow, hk a b ha hb]
      exact ask ((b, v) :: D) 0 0 hD
  · have now : ∀ (D : List (κ × Value)) (s q : Nat), MOk ok D → Instr.findNow kd (kv a) (mEs kv q D) s = some (mfind a D s) := by
      intro D
      induction D with
      | nil => intro s q _; rfl
      | cons p D ih =>
        intro s q hD
        obtain ⟨b, v⟩ := p
        simp only [mEs, Instr.findNow, hk a b ha (hD (b, v) (by simp)), mfind]
        by_cases e : a = b
        · simp [e]
        · simp only [e, decide_false, if_false]
          exact ih (s + 1) (q + 1) (fun p hp => hD p (by simp [hp]))
    rw [now D 0 0 hD]
    simp
end

section
variable {P : Program} {κ : Type} {kt et T : TypeId} {kv : κ → Value}
variable {ops : Array Oper} {Q : Exit → Act → World → Prop} {rest : List Oper} {l : List Value} {w : World} {d : Nat} {ty : TypeId} {pos : String} {aft : Array Edge}
variable {S : Nat → Prop} {w0 : World} {L L' : List Res}
theorem setObj_keep (w : World) (g : Nat) (o : Obj) : Keep (fun k => some g = some k) w { w with heap := w.heap.setIfInBounds g o } :=
  ⟨rfl, rfl, rfl, by simp, fun k _ hk => by
    show (w.heap.setIfInBounds g o)[k]? = _
    rw [Array.getElem?_setIfInBounds_ne]
    exact fun e => hk (by rw [e])⟩
theorem m_makeMap {T : TypeId} (kv : κ → Value) (hS : St S w0 w L) (h : ∀ w' g, St S w0 w' (.obj g (mObj kv []) :: L) → WL P ops Q rest (fr (l.set d (.map (some g)))) w') : WL P ops Q (⟨some d, .makeMap T none, ty, pos, aft, none⟩ :: rest) (fr l) w :=
  s_val (w' := w.alloc (.map #[] 0)) (v := .map (some w.heap.size)) (by simp [execOp, run_makeMap]) (h _ _ (hS.alloc _))
theorem m_makeMap_n {T kt et : TypeId} (kv : κ → Value) {x : Operand} {k : IntKind} {n : Int} (hT : P.underlying T = some (.map kt et)) (hx : opv l x = .int k n := by rfl) (hS : St S w0 w L) (h : ∀ w' g, St S w0 w' (.obj g (mObj kv []) :: L) → WL P ops Q rest (fr (l.set d (.map (some g)))) w') : WL P ops Q (⟨some d, .makeMap T (some x), ty, pos, aft, none⟩ :: rest) (fr l) w :=
  s_val (w' := w.alloc (.map #[] 0)) (v := .map (some w.heap.size)) (by simp [execOp, Instr.makeMap, run_underlying hT, hx, asInt, asIntOf, newObj]; rfl) (h _ _ (hS.alloc _))
theorem s_len_map {x : Operand} {kt et : TypeId} {g : Nat} {D : List (κ × Value)} (hT : P.underlying T = some (.map kt et)) (hx : opv l x = .map (some g) := by rfl) (hS : St S w0 w L) (hm : Has L (.obj g (mObj kv D)) := by repeat (first | exact Has.head | apply Has.tail)) : Go1 P l w ⟨some d, .call { callee := .builtin .len, args := #[x], argTypes := #[T] }, ty, pos, aft, none⟩ (.int .i64 (D.length : Int)) := by
  unfold Go1
  have hgo := run_getObj_mp (P := P) (w := w) (hS.has hm)
  simp only [mObj] at hgo
  simp [execOp, resolve, invoke, builtin, Builtin.len_, hx, run_underlying hT, hgo, mEs_len, goInt]
/-- an iterator over a map: what it has seen -/
def itObj (g n : Nat) (seen : List Nat) : Obj := .mapIter (some g) n seen.toArray n
theorem m_range {x : Operand} {g : Nat} {D : List (κ × Value)} (hT : P.underlying T = some (.map kt et)) (hx : opv l x = .map (some g) := by rfl) (hS : St S w0 w L) (hm : Has L (.obj g (mObj kv D)) := by repeat (first | exact Has.head | apply Has.tail)) (h : ∀ w' r, St S w0 w' (.obj r (itObj g D.length []) :: L) → WL P ops Q rest (fr (l.set d (.pointer (some ⟨r, 0, none⟩)))) w') : WL P ops Q (⟨some d, .range T x, ty, pos, aft, none⟩ :: rest) (fr l) w := by
  have hr := run_range_map (P := P) w T kt et g _ _ hT (show w.heap[g]? = some (mObj kv D) from hS.has hm)
  exact s_val (w' := w.alloc (.mapIter (some g) D.length #[] D.length)) (v := .pointer (some ⟨w.heap.size, 0, none⟩)) (by simp [execOp, hx, hr]) (h _ _ (hS.alloc _))
theorem run_next_at {w : World} {g r : Nat} {D : List (κ × Value)} {seen : List Nat} {tt : TypeId} (hg : w.heap[g]? = some (mObj kv D)) (hr : w.heap[r]? = some (itObj g D.length seen)) :
    ((∀ i, i < D.length → i ∈ seen) ∧ (Instr.next (.pointer (some ⟨r, 0, none⟩)) false tt).run P w = .ok (.tuple #[.bool false]) w) ∨
    ∃ i p, D[i]? = some p ∧ i ∉ seen ∧ ∃ w1 : World, Ext w w1 ∧ (Instr.next (.pointer (some ⟨r, 0, none⟩)) false tt).run P w = .ok (.tuple #[.bool true, kv p.1, p.2]) { w1 with heap := w1.heap.setIfInBounds r (itObj g D.length (seen ++ [i])) } := by
  have hgo := run_getObj_mp (P := P) hg
  have hro := run_getObj_it (P := P) (show w.heap[r]? = some (.mapIter (some g) D.length seen.toArray D.length) from hr)
  have hborn : ∀ x ∈ (mEs kv 0 D), x.born < D.length := fun x hx => by
    obtain ⟨i, hi, rfl⟩ := List.getElem_of_mem hx
    have := mEs_get kv 0 D i
    rw [List.getElem?_eq_getElem hi] at this
    rw [mEs_len] at hi
    rw [List.getElem?_eq_getElem hi] at this
    simp at this
    rw [this]; simpa using hi
  have hf := next_test_false seen.toArray (mEs kv 0 D).toArray D.length D.length (fun x hx => hborn x (by simpa using hx)) (Nat.le_refl _)
  simp only [mObj] at hgo
  simp only [Instr.next, Sem.run_bind, hro, Result.andThen_ok, hgo, hf, Bool.false_eq_true, if_false]
  have hmem : ∀ x ∈ (Array.filter (fun e => !seen.toArray.contains e.born) (mEs kv 0 D).toArray).toList, x ∈ mEs kv 0 D ∧ x.born ∉ seen := fun x hx => by
    simp at hx; exact hx
  have hall : ∀ x ∈ mEs kv 0 D, x.born ∉ seen → x ∈ (Array.filter (fun e => !seen.toArray.contains e.born) (mEs kv 0 D).toArray).toList := fun x hx hn => by
    simp; exact ⟨hx, hn⟩
  generalize Array.filter (fun e => !seen.toArray.contains e.born) (mEs kv 0 D).toArray = M at hmem hall ⊢
  have e1 : M.filter (fun x => decide (x.born < D.length)) = M := Array.filter_eq_self.2 (fun x hx => by simpa using hborn x (hmem x (by simpa using hx)).1)
  have e2 : M.filter (fun x => decide (x.born ≥ D.length)) = #[] := by
    rw [Array.filter_eq_empty_iff]
    intro x hx
    have := hborn x (hmem x (by simpa using hx)).1
    simp
    omega
  simp only [e1, e2, Array.append_empty]
  by_cases h0 : M.size = 0
  · left
    have : M = #[] := Array.eq_empty_of_size_eq_zero h0
    subst this
    refine ⟨fun i hi => ?_, by simp [choose, Sem.run, Question.forced]⟩
    by_cases hs : i ∈ seen
    · exact hs
    · have hx := mEs_get kv 0 D i
      rw [List.getElem?_eq_getElem hi] at hx
      simp only [Option.map_some, Nat.zero_add] at hx
      have := hall _ (List.mem_of_getElem? hx) hs
      simp at this
  · right
    have hne : M.isEmpty = false := by simp [Array.isEmpty, h0]
    simp only [hne, Bool.false_eq_true, if_false, Array.empty_append, Array.size_map]
    have hch : ∃ (j : Nat) (w1 : World), j < M.size ∧ Ext w w1 ∧ w1.heap = w.heap ∧ (choose (Question.mapNext M.size)).run P w = .ok j w1 := by
      by_cases hf : M.size ≤ 1
      · exact ⟨0, w, by omega, Ext.rfl', rfl, by simp [choose, Sem.run, Question.forced, hf]⟩
      · exact ⟨w.tape w.drawn (Question.mapNext M.size) % M.size, w.drew, Nat.mod_lt _ (by omega), Ext.drew w, rfl, by
          simp only [choose, Sem.run, Question.forced, decide_eq_true_eq, hf, if_false, Question.cut]; rfl⟩
    obtain ⟨j, w1, hj, hE, hh, hrun⟩ := hch
    have hj' := hmem M[j] (by simp)
    obtain ⟨i, hi, hx⟩ := List.getElem_of_mem hj'.1
    have hx2 := mEs_get kv 0 D i
    rw [List.getElem?_eq_getElem hi, hx] at hx2
    have hiD : i < D.length := by rwa [mEs_len] at hi
    rw [List.getElem?_eq_getElem hiD] at hx2
    simp only [Option.map_some, Nat.zero_add, Option.some.injEq] at hx2
    refine ⟨i, D[i], by simp [hiD], by have := hj'.2; rw [hx2] at this; exact this, w1, hE, ?_⟩
    simp only [hrun, Array.getElem?_map, Array.getElem?_eq_getElem hj, Option.map_some, Sem.run_bind, Result.andThen_ok]
    rw [hx2]
    have hso := run_setObj_it (P := P) (w := w1) (itObj g D.length (seen ++ [i])) (by rw [hh]; exact hr)
    simp only [itObj] at hso ⊢
    simp [hso]
theorem m_next {LI : Nat → List Res} {x : Operand} {g r : Nat} {D : List (κ × Value)} {seen : List Nat} (hx : opv l x = .pointer (some ⟨r, 0, none⟩) := by rfl) (hS : St S w0 w L) (hm : Has L (.obj g (mObj kv D)) := by repeat (first | exact Has.head | apply Has.tail))
    (hu : ∀ i, Upd L (.obj r (itObj g D.length seen)) (.obj r (itObj g D.length (seen ++ [i]))) (LI i))
    (h1 : (∀ i, i < D.length → i ∈ seen) → WL P ops Q rest (fr (l.set d (.tuple #[.bool false]))) w)
    (h2 : ∀ w' i p, D[i]? = some p → i ∉ seen → St S w0 w' (LI i) → WL P ops Q rest (fr (l.set d (.tuple #[.bool true, kv p.1, p.2]))) w') : WL P ops Q (⟨some d, .next x false, ty, pos, aft, none⟩ :: rest) (fr l) w := by
  have hr := hS.holds _ (hu 0).mem
  have hlt : r < w.heap.size := (Array.getElem?_eq_some_iff.1 (show w.heap[r]? = some _ from hr)).1
  rcases run_next_at (P := P) (tt := ty) (show w.heap[g]? = some (mObj kv D) from hS.has hm) hr with ⟨hall, hrun⟩ | ⟨i, p, hp, hn, w1, hE, hrun⟩
  · exact s_val (v := .tuple #[.bool false]) (w' := w) (by simp [execOp, hx, hrun]) (h1 hall)
  · refine s_val (v := .tuple #[.bool true, kv p.1, p.2]) (w' := { w1 with heap := w1.heap.setIfInBounds r (itObj g D.length (seen ++ [i])) }) (by simp [execOp, hx, hrun]) (h2 _ i p hp hn (hS.turn (hu i) (hE.keep.trans (setObj_keep w1 r _)) ?_ ?_ ?_))
    · show (w1.heap.setIfInBounds r _)[r]? = _
      have := hE.size
      rw [Array.getElem?_setIfInBounds_self_of_lt (by omega)]
    · intro k hk; simp [Res.own] at hk ⊢; exact .inl hk
    · intro k hk; simp [Res.reads] at hk
theorem m_entry {x : Operand} {g r n i : Nat} {D : List (κ × Value)} {seen : List Nat} {p : κ × Value} (hx : opv l x = .pointer (some ⟨r, 0, none⟩) := by rfl) (hn : n = D.length) (hp : D[i]? = some p) (hS : St S w0 w L) (hm : Has L (.obj g (mObj kv D)) := by repeat (first | exact Has.head | apply Has.tail)) (hr : Has L (.obj r (itObj g n (seen ++ [i]))) := by repeat (first | exact Has.head | apply Has.tail)) : Go1 P l w ⟨some d, .entry x, ty, pos, aft, none⟩ (.tuple #[kv p.1, p.2]) := by
  subst hn
  unfold Go1
  have hgo := run_getObj_mp (P := P) (w := w) (hS.has hm)
  have hro := run_getObj_it (P := P) (show w.heap[r]? = some (.mapIter (some g) D.length (seen ++ [i]).toArray D.length) from hS.has hr)
  simp only [mObj] at hgo
  have hfi := mEs_find kv 0 D i
  rw [hp, Nat.zero_add] at hfi
  have hbk : (seen ++ [i]).toArray.back? = some i := by simp
  simp only [execOp, hx, Instr.entry, Sem.run_bind, hro, Result.andThen_ok, hbk, hgo]
  simp [hfi]
end
section
variable {P : Program} {κ : Type} [DecidableEq κ] {kt et T : TypeId} {kv : κ → Value} {ok : κ → Prop}
variable {ops : Array Oper} {Q : Exit → Act → World → Prop} {rest : List Oper} {l : List Value} {w : World} {d : Nat} {ty : TypeId} {pos : String} {aft : Array Edge}
variable {S : Nat → Prop} {w0 : World} {L L' : List Res}
theorem run_lookup (K : KeyT P kt kv ok) (hT : P.underlying T = some (.map kt et)) {sz by' : Nat} {z : Value} (hi : TI P et sz by' z) {g : Nat} {D : List (κ × Value)} (hg : w.heap[g]? = some (mObj kv D)) {a : κ} (ha : ok a) (hD : MOk ok D) (c : Bool) :
    (Instr.lookup T (.map (some g)) (kv a) c).run P w = .ok (if c then .tuple #[(mget a D).getD z, .bool (mget a D).isSome] else (mget a D).getD z) w := by
  obtain ⟨i, hi, _, _, hz⟩ := hi
  have hf := run_findKey K w ha hD
  have hgo := run_getObj_mp (P := P) hg
  simp only [mObj] at hgo
  simp only [Instr.lookup, Sem.run_bind, run_underlying hT, Result.andThen_ok, hgo, Sem.run_pure, K.chk _ w a ha, hf]
  rw [← mfind_get a D 0]
  cases mfind a D 0 with
  | none => cases c <;> simp [zeroValue, typeInfo, hi, hz]
  | some p => cases c <;> simp
theorem m_lookup {x y : Operand} {sz by' : Nat} {z : Value} {g : Nat} {D : List (κ × Value)} {a : κ} (K : KeyT P kt kv ok) (hT : P.underlying T = some (.map kt et)) (hi : TI P et sz by' z) (hx : opv l x = .map (some g) := by rfl) (hy : opv l y = kv a) (ha : ok a) (hS : St S w0 w L) (hm : Has L (.obj g (mObj kv D)) := by repeat (first | exact Has.head | apply Has.tail)) (hD : MOk ok D) : Go1 P l w ⟨some d, .lookup T x y false, ty, pos, aft, none⟩ ((mget a D).getD z) := by
  unfold Go1
  have h := run_lookup K hT hi (w := w) (hS.has hm) ha hD false
  simp [execOp, hx, hy, h]
theorem m_lookup_ok {x y : Operand} {sz by' : Nat} {z : Value} {g : Nat} {D : List (κ × Value)} {a : κ} (K : KeyT P kt kv ok) (hT : P.underlying T = some (.map kt et)) (hi : TI P et sz by' z) (hx : opv l x = .map (some g) := by rfl) (hy : opv l y = kv a) (ha : ok a) (hS : St S w0 w L) (hm : Has L (.obj g (mObj kv D)) := by repeat (first | exact Has.head | apply Has.tail)) (hD : MOk ok D) : Go1 P l w ⟨some d, .lookup T x y true, ty, pos, aft, none⟩ (.tuple #[(mget a D).getD z, .bool (mget a D).isSome]) := by
  unfold Go1
  have h := run_lookup K hT hi (w := w) (hS.has hm) ha hD true
  simp [execOp, hx, hy, h]
theorem run_mapUpdate (K : KeyT P kt kv ok) (hT : P.underlying T = some (.map kt et)) {g : Nat} {D : List (κ × Value)} (hg : w.heap[g]? = some (mObj kv D)) {a : κ} {v : Value} (ha : ok a) (hD : MOk ok D) :
    (Instr.mapUpdate T (.map (some g)) (kv a) v).run P w = .ok () { w with heap := w.heap.setIfInBounds g (mObj kv (mput a v D)) } := by
  have hf := run_findKey K w ha hD
  have hgo := run_getObj_mp (P := P) hg
  have hlt : g < w.heap.size := (Array.getElem?_eq_some_iff.1 hg).1
  simp only [mObj] at hgo
  simp only [Instr.mapUpdate, Sem.run_bind, run_underlying hT, Result.andThen_ok, hgo, K.chk _ w a ha, hf]
  cases hfd : mfind a D 0 with
  | none =>
    simp only [mObj, mput_none hfd, mEs_app, List.length_append, List.length_cons, List.length_nil, Nat.zero_add]
    have hso := MapKept.run_setObj_map (P := P) (Obj.map (mEs kv 0 D ++ [({ key := kv a, val := v, born := D.length } : MapEntry)]).toArray (D.length + 1)) hg
    simpa [mEs] using hso
  | some p =>
    obtain ⟨i, u⟩ := p
    obtain ⟨h1, h2, h3⟩ := mput_some (kv := kv) (v := v) hfd (show i = 0 + i by omega)
    have hl : (mput a v D).length = D.length := by
      have := congrArg List.length (h3 0)
      simpa [mEs_len] using this
    have h2' : Option.map (fun e => e.key) (mEs kv 0 D)[i]? = some (kv a) := h2
    simp only [mObj, List.getElem?_toArray, h2', Option.getD_some, Instr.keyThatStays, K.same, if_true, Sem.run_pure, Result.andThen_ok, h3, hl]
    have hso := MapKept.run_setObj_map (P := P) (.map ((mEs kv 0 D).modify i fun e => { e with key := kv a, val := v }).toArray D.length) hg
    simpa [List.modify_toArray] using hso
theorem m_mapUpdate {x y z : Operand} {g : Nat} {D : List (κ × Value)} {a : κ} {v : Value} {dst : Option Nat} (K : KeyT P kt kv ok) (hT : P.underlying T = some (.map kt et)) (hx : opv l x = .map (some g) := by rfl) (hy : opv l y = kv a) (hz : opv l z = v := by rfl) (ha : ok a) (hS : St S w0 w L) (hd : Upd L (.obj g (mObj kv D)) (.obj g (mObj kv (mput a v D))) L' := by repeat (first | exact Upd.head | apply Upd.tail)) (hD : MOk ok D)
    (h : ∀ w', St S w0 w' L' → WL P ops Q rest (fr l) w') : WL P ops Q (⟨none, .mapUpdate T x y z, ty, pos, aft, none⟩ :: rest) (fr l) w := by
  have hg := hS.holds _ hd.mem
  have hlt : g < w.heap.size := (Array.getElem?_eq_some_iff.1 (show w.heap[g]? = some _ from hg)).1
  have hr := run_mapUpdate K hT (w := w) (v := v) hg ha hD
  refine s_unit (w' := { w with heap := w.heap.setIfInBounds g (mObj kv (mput a v D)) }) (by simp [execOp, hx, hy, hz, hr]) (h _ (hS.turn hd (setObj_keep w g _) ?_ ?_ ?_))
  · show (w.heap.setIfInBounds g _)[g]? = _
    simp [hlt]
  · intro k hk; simp [Res.own] at hk ⊢; exact .inl hk
  · intro k hk; simp [Res.reads] at hk
end
/-! an entry asked for, and stored into -/
section
variable {κ : Type} [DecidableEq κ]
def midx (a : κ) : List (κ × Value) → Nat
  | [] => 0
  | (b, _) :: D => if a = b then 0 else midx a D + 1
theorem mfind_idx {a : κ} : ∀ {D : List (κ × Value)} {s i : Nat} {u : Value}, mfind a D s = some (i, u) → i = s + midx a D
  | [], _, _, _, h => by cases h
  | (b, v) :: D, s, i, u, h => by
    simp only [mfind] at h
    simp only [midx]
    split at h
    · rename_i e; simp only [Option.some.injEq, Prod.mk.injEq] at h; rw [if_pos e]; omega
    · rename_i e; have := mfind_idx h; rw [if_neg e]; omega
theorem mfind_none_idx {a : κ} : ∀ {D : List (κ × Value)} {s : Nat}, mfind a D s = none → midx a D = D.length
  | [], _, _ => rfl
  | (b, v) :: D, s, h => by
    simp only [mfind] at h
    split at h
    · cases h
    · rename_i e; simp only [midx, if_neg e, List.length_cons, mfind_none_idx h]
theorem midx_put (a : κ) (u : Value) : ∀ (D : List (κ × Value)), midx a (mput a u D) = midx a D
  | [] => by simp [mput, midx]
  | (b, v) :: D => by
    by_cases e : a = b
    · simp [mput, midx, e]
    · simp [mput, midx, e, midx_put a u D]
theorem mput_put (a : κ) (u v : Value) : ∀ (D : List (κ × Value)), mput a v (mput a u D) = mput a v D
  | [] => by simp [mput]
  | (b, x) :: D => by
    by_cases e : a = b
    · simp [mput, e]
    · simp [mput, e, mput_put a u v D]
theorem mput_mid {a : κ} {u : Value} : ∀ (D : List (κ × Value)), mfind a (mput a u D) 0 = some (midx a D, u) := by
  have : ∀ (D : List (κ × Value)) (s : Nat), mfind a (mput a u D) s = some (s + midx a D, u) := by
    intro D
    induction D with
    | nil => intro s; simp [mput, mfind, midx]
    | cons p D ih =>
      intro s
      obtain ⟨b, x⟩ := p
      by_cases e : a = b
      · simp [mput, mfind, midx, e]
      · simp only [mput, if_neg e, mfind, midx, ih]; congr 2; omega
  intro D; simpa using this D 0
theorem modify_at {α : Type} {l : List α} {i : Nat} {x : α} {f g : α → α} (hx : l[i]? = some x) (h : f x = g x) : l.modify i f = l.modify i g := by
  refine List.ext_getElem? fun j => ?_
  simp only [List.getElem?_modify]
  by_cases e : i = j
  · subst e; simp [hx, h]
  · simp [e]
theorem modify_id {α : Type} {l : List α} {i : Nat} {x : α} {f : α → α} (hx : l[i]? = some x) (h : f x = x) : l.modify i f = l := by
  refine List.ext_getElem? fun j => ?_
  simp only [List.getElem?_modify]
  by_cases e : i = j
  · subst e; simp [hx, h]
  · simp [e]
theorem mput_same {a : κ} {u : Value} : ∀ {D : List (κ × Value)} {s i : Nat}, mfind a D s = some (i, u) → mput a u D = D
  | [], _, _, h => by cases h
  | (b, v) :: D, s, i, h => by
    simp only [mfind] at h
    split at h
    · rename_i e; simp only [Option.some.injEq, Prod.mk.injEq] at h; simp [mput, e, h.2]
    · rename_i e; simp [mput, e, mput_same h]
theorem mEs_findIdx (kv : κ → Value) : ∀ (s : Nat) (D : List (κ × Value)) (i : Nat), i < D.length → (mEs kv s D).findIdx? (fun e => (e.born : Int) == ((s + i : Nat) : Int)) = some i
  | _, [], _, h => absurd h (by simp)
  | s, (a, v) :: D, 0, _ => by simp [mEs, List.findIdx?_cons]
  | s, (a, v) :: D, i + 1, h => by
    have h2 := mEs_findIdx kv (s + 1) D i (by simpa using h)
    rw [show s + 1 + i = s + (i + 1) by omega] at h2
    have hne : ((s : Int) == ((s + (i + 1) : Nat) : Int)) = false := by simp; omega
    simp only [mEs, List.findIdx?_cons, hne, Bool.false_eq_true, if_false, h2, Option.map_some]
end
section
variable {P : Program} {κ : Type} [DecidableEq κ] {kt et T : TypeId} {kv : κ → Value} {ok : κ → Prop}
variable {ops : Array Oper} {Q : Exit → Act → World → Prop} {rest : List Oper} {l : List Value} {w : World} {d : Nat} {ty : TypeId} {pos : String} {aft : Array Edge}
variable {S : Nat → Prop} {w0 : World} {L L' : List Res}
theorem run_mapEntry (K : KeyT P kt kv ok) (hT : P.underlying T = some (.map kt et)) {sz by' : Nat} {z : Value} (hi : TI P et sz by' z) {g : Nat} {D : List (κ × Value)} (hg : w.heap[g]? = some (mObj kv D)) {a : κ} (ha : ok a) (hD : MOk ok D) :
    (Instr.mapEntry T (.map (some g)) (kv a)).run P w = .ok (.tuple #[(mget a D).getD z, .int .i64 (midx a D : Int)]) { w with heap := w.heap.setIfInBounds g (mObj kv (mput a ((mget a D).getD z) D)) } := by
  obtain ⟨i', hi, _, _, hz⟩ := hi
  have hf := run_findKey K w ha hD
  have hgo := run_getObj_mp (P := P) hg
  simp only [mObj] at hgo
  simp only [Instr.mapEntry, Sem.run_bind, run_underlying hT, Result.andThen_ok, hgo, K.chk _ w a ha, hf]
  have hget := mfind_get a D 0
  cases hfd : mfind a D 0 with
  | none =>
    rw [hfd] at hget
    simp only [Option.map_none] at hget
    simp only [← hget, Option.getD_none, mObj, mput_none hfd, mEs_app, List.length_append, List.length_cons, List.length_nil, Nat.zero_add, mfind_none_idx hfd]
    have hso := MapKept.run_setObj_map (P := P) (Obj.map (mEs kv 0 D ++ [({ key := kv a, val := z, born := D.length } : MapEntry)]).toArray (D.length + 1)) hg
    have hzv : (zeroValue et).run P w = .ok z w := by simp [zeroValue, typeInfo, hi, hz]
    simp only [Sem.run_bind, hzv, Result.andThen_ok, Sem.run_pure, List.push_toArray, hso, goInt, mEs]
  | some p =>
    obtain ⟨i, u⟩ := p
    rw [hfd] at hget
    simp only [Option.map_some] at hget
    obtain ⟨h1, h2, h3⟩ := mput_some (kv := kv) (v := u) hfd (show i = 0 + i by omega)
    have hidx : i = 0 + midx a D := mfind_idx hfd
    have h2' : Option.map (fun e => e.key) (mEs kv 0 D)[i]? = some (kv a) := h2
    have hx := mEs_get kv 0 D i
    have hlt : i < D.length := h1
    rw [List.getElem?_eq_getElem hlt] at hx
    simp only [Option.map_some, Nat.zero_add] at hx
    have hkey : kv D[i].1 = kv a := by rw [hx] at h2'; simpa using h2'
    have hmod : (mEs kv 0 D).modify i (fun e => { e with key := kv a }) = mEs kv 0 D := modify_id hx (by simp [hkey])
    have hso := MapKept.run_setObj_map (P := P) (.map (mEs kv 0 D).toArray D.length) hg
    rw [hkey] at hx
    obtain rfl : i = midx a D := by omega
    simp only [← hget, Option.getD_some, mput_same hfd, mObj, List.getElem?_toArray, Instr.keyThatStays, K.same, if_true, Sem.run_pure, Result.andThen_ok, Sem.run_bind, List.modify_toArray, hmod, hso, hx, Option.map_some, goInt]
theorem m_mapEntry {x y : Operand} {sz by' : Nat} {z : Value} {g : Nat} {D : List (κ × Value)} {a : κ} (K : KeyT P kt kv ok) (hT : P.underlying T = some (.map kt et)) (hi : TI P et sz by' z) (hx : opv l x = .map (some g) := by rfl) (hy : opv l y = kv a) (ha : ok a) (hS : St S w0 w L) (hd : Upd L (.obj g (mObj kv D)) (.obj g (mObj kv (mput a ((mget a D).getD z) D))) L' := by repeat (first | exact Upd.head | apply Upd.tail)) (hD : MOk ok D)
    (h : ∀ w', St S w0 w' L' → WL P ops Q rest (fr (l.set d (.tuple #[(mget a D).getD z, .int .i64 (midx a D : Int)]))) w') : WL P ops Q (⟨some d, .mapEntry T x y, ty, pos, aft, none⟩ :: rest) (fr l) w := by
  have hg := hS.holds _ hd.mem
  have hlt : g < w.heap.size := (Array.getElem?_eq_some_iff.1 (show w.heap[g]? = some _ from hg)).1
  have hr := run_mapEntry K hT hi (w := w) hg ha hD
  refine s_val (w' := { w with heap := w.heap.setIfInBounds g (mObj kv (mput a ((mget a D).getD z) D)) }) (by simp [execOp, hx, hy, hr]) (h _ (hS.turn hd (setObj_keep w g _) ?_ ?_ ?_))
  · show (w.heap.setIfInBounds g _)[g]? = _
    simp [hlt]
  · intro k hk; simp [Res.own] at hk ⊢; exact .inl hk
  · intro k hk; simp [Res.reads] at hk
theorem run_entryStore {g : Nat} {D : List (κ × Value)} {a : κ} {u v : Value} (hg : w.heap[g]? = some (mObj kv (mput a u D))) :
    (Instr.entryStore T (.map (some g)) (.int .i64 (midx a D : Int)) v).run P w = .ok () { w with heap := w.heap.setIfInBounds g (mObj kv (mput a v D)) } := by
  have hgo := run_getObj_mp (P := P) hg
  simp only [mObj] at hgo
  have hfd := mput_mid (a := a) (u := u) D
  obtain ⟨h1, h2, h3⟩ := mput_some (kv := kv) (v := v) hfd (show midx a D = 0 + midx a D by omega)
  rw [mput_put] at h3
  have hfi := mEs_findIdx kv 0 (mput a u D) (midx a D) h1
  rw [Nat.zero_add] at hfi
  have hx := mEs_get kv 0 (mput a u D) (midx a D)
  rw [List.getElem?_eq_getElem h1] at hx
  simp only [Option.map_some, Nat.zero_add] at hx
  have hkey : kv (mput a u D)[midx a D].1 = kv a := by rw [hx] at h2; simpa using h2
  have hmod : (mEs kv 0 (mput a u D)).modify (midx a D) (fun e => { e with val := v }) = mEs kv 0 (mput a v D) := by
    rw [h3 0]; exact modify_at hx (by simp [hkey])
  have hl : (mput a u D).length = (mput a v D).length := by
    have := congrArg List.length (h3 0)
    simpa [mEs_len] using this.symm
  have hso := MapKept.run_setObj_map (P := P) (.map (mEs kv 0 (mput a v D)).toArray (mput a v D).length) hg
  simp only [Instr.entryStore, Sem.run_bind, hgo, Result.andThen_ok, asInt, asIntOf, Sem.run_pure, List.findIdx?_toArray, hfi, List.modify_toArray, hmod, hl, hso, mObj]
theorem m_entryStore {x y z : Operand} {g : Nat} {D : List (κ × Value)} {a : κ} {u v : Value} (hx : opv l x = .map (some g) := by rfl) (hy : opv l y = .int .i64 (midx a D : Int) := by rfl) (hz : opv l z = v := by rfl) (hS : St S w0 w L) (hd : Upd L (.obj g (mObj kv (mput a u D))) (.obj g (mObj kv (mput a v D))) L' := by repeat (first | exact Upd.head | apply Upd.tail))
    (h : ∀ w', St S w0 w' L' → WL P ops Q rest (fr l) w') : WL P ops Q (⟨none, .entryStore T x y z, ty, pos, aft, none⟩ :: rest) (fr l) w := by
  have hg := hS.holds _ hd.mem
  have hlt : g < w.heap.size := (Array.getElem?_eq_some_iff.1 (show w.heap[g]? = some _ from hg)).1
  have hr := run_entryStore (P := P) (T := T) (v := v) (w := w) hg
  refine s_unit (w' := { w with heap := w.heap.setIfInBounds g (mObj kv (mput a v D)) }) (by simp [execOp, hx, hy, hz, hr]) (h _ (hS.turn hd (setObj_keep w g _) ?_ ?_ ?_))
  · show (w.heap.setIfInBounds g _)[g]? = _
    simp [hlt]
  · intro k hk; simp [Res.own] at hk ⊢; exact .inl hk
  · intro k hk; simp [Res.reads] at hk
end
theorem KeyT.to {P : Program} {t : TypeId} {κ : Type} [DecidableEq κ] {kv kv' : κ → Value} {ok : κ → Prop} (K : KeyT P t kv ok) (h : ∀ a, ok a → kv a = kv' a) (hs : ∀ a, Instr.sameBits 10000 (kv' a) (kv' a) = true) : KeyT P t kv' ok := by
  refine ⟨fun em w a ha => by rw [← h a ha]; exact K.chk em w a ha, fun w a b ha hb => by rw [← h a ha, ← h b hb]; exact K.eq w a b ha hb, ?_, hs⟩
  obtain ⟨kd, hu, hk⟩ := K.now
  refine ⟨kd, hu, ?_⟩
  rcases hk with hk | hk
  · exact .inl fun a b ha hb => by rw [← h a ha, ← h b hb]; exact hk a b ha hb
  · exact .inr fun a b ha hb => by rw [← h a ha, ← h b hb]; exact hk a b ha hb
theorem keyT_arr {P : Program} {t : TypeId} {D D' n : Nat} {k : IntKind} {dsc : TypeDesc} (hu : P.underlying t = some dsc) (hd : isAggD dsc = true) (hc : ChV P D t (List.replicate n k)) (he : EqV P D' t (List.replicate n k)) (h1 : D ≤ 10000) (h2 : D' ≤ 10000) : KeyT P t (fun xs : List Int => .agg (ic k xs)) (fun xs => xs.length = n) := by
  have K := keyT_agg hu hd hc he h1 h2
  simp only [List.length_replicate] at K
  refine K.to (fun a ha => by rw [zi_ic ha]) (fun a => sameBits_ints 9999 _ ?_)
  intro v hv
  obtain ⟨x, _, rfl⟩ := List.mem_map.1 hv
  exact ⟨k, x, rfl⟩
theorem mok_nil {κ : Type} {ok : κ → Prop} : MOk ok ([] : List (κ × Value)) := fun p hp => by cases hp
theorem mok_all {κ : Type} {D : List (κ × Value)} : MOk (fun _ => True) D := fun _ _ => trivial
theorem nodup_len : ∀ {n : Nat} {l : List Nat}, l.Nodup → (∀ i ∈ l, i < n) → l.length ≤ n
  | 0, [], _, _ => Nat.le_refl _
  | 0, a :: _, _, h => absurd (h a (by simp)) (by omega)
  | n + 1, l, hn, h => by
    have h1 := nodup_len (n := n) (l := l.erase n) (hn.erase n) (fun i hi => by
      have h2 := (hn.mem_erase_iff).1 hi
      have := h i h2.2
      have := h2.1
      omega)
    have h2 : l.length - 1 ≤ (l.erase n).length := by rw [List.length_erase]; split <;> omega
    omega
end Go.Proofs.Ytpjpaipkkcengaa
