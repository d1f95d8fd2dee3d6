/-
  What a law's arguments are: structs, arrays, texts and slices of these, opened by their types. No program here.
-/
import Derived.Test.YtpjpaipkkcengaaVz
import Derived.OpenShut
namespace Go.Proofs.Ytpjpaipkkcengaa
open Go.ChangeShapes Go.WideShapes Go.ChangeAt Go.RowKit

theorem add_at0 (g o k : Nat) : (⟨g, o, none⟩ : Addr).add k = ⟨g, o + k, none⟩ := by unfold Addr.add; split <;> simp_all

/-- what a cell may hold, in a world -/
def LK := World → Value → Prop
def LK.int (k : IntKind) : LK := fun _ v => ∃ n, v = .int k n ∧ (Lit.int k n).wf = true
def LK.bool : LK := fun _ v => ∃ b, v = .bool b
def LK.str : LK := fun _ v => ∃ s : ByteArray, v = .string s ∧ s.size ≤ maxLen
def AllOk (w : World) : List LK → List Value → Prop
  | [], [] => True
  | k :: ks, v :: vs => k w v ∧ AllOk w ks vs
  | _, _ => False
/-- a slice, and what its elements may hold -/
def LK.sl (sz : Nat) (ks : List LK) : LK := fun w v => ∃ A n c xs, v = .slice A n c ∧ n ≤ c ∧ c ≤ maxLen ∧ Rd w A sz n xs ∧ ∀ i, i < n → AllOk w ks ((xs.drop (i * sz)).take sz)
theorem AllOk.len {w : World} : ∀ {ks : List LK} {vs : List Value}, AllOk w ks vs → vs.length = ks.length
  | [], [], _ => rfl
  | _ :: _, _ :: _, h => by simp [AllOk.len h.2]
  | [], _ :: _, h => h.elim
  | _ :: _, [], h => h.elim
theorem AllOk.app {w : World} : ∀ {ks js : List LK} {vs us : List Value}, AllOk w ks vs → AllOk w js us → AllOk w (ks ++ js) (vs ++ us)
  | [], _, [], _, _, h => h
  | _ :: _, _, _ :: _, _, h, h' => ⟨h.1, AllOk.app h.2 h'⟩
  | [], _, _ :: _, _, h, _ => h.elim
  | _ :: _, _, [], _, h, _ => h.elim

/-- the cells of a type that holds no pointer -/
def Flat (P : Program) (t : TypeId) (ks : List LK) : Prop := ∀ {H : Type} (enc : TypeId × Value → H) (w : World) (base : Nat) (sp : Nat → Bool) (held : Bool) (fuel : Nat) (cs : List Value) (x : DataW H × List MemPlace),
  DataW.trod enc P w base sp held fuel t cs = some x → AllOk w ks cs
section
variable {P : Program} {t e : TypeId} {ks : List LK}
theorem flat_int {k : IntKind} (h : P.underlying t = some (.int k)) : Flat P t [.int k] := fun _ _ _ _ _ _ _ _ hx => by
  obtain ⟨n, rfl, _, hw⟩ := DataW.trod_int h hx
  exact ⟨⟨n, rfl, hw⟩, trivial⟩
theorem flat_bool (h : P.underlying t = some .bool) : Flat P t [.bool] := fun _ _ _ _ _ _ _ _ hx => by
  obtain ⟨b, rfl, _⟩ := DataW.trod_bool h hx
  exact ⟨⟨b, rfl⟩, trivial⟩
theorem flat_str (h : P.underlying t = some .string) : Flat P t [.str] := fun _ _ _ _ _ _ _ _ hx => by
  obtain ⟨s, rfl, _, hs⟩ := DataW.trod_string h hx
  exact ⟨⟨s, rfl, hs⟩, trivial⟩
theorem allOk_rep {w : World} {c : Nat} (hc : ks.length = c) : ∀ (n : Nat) (cs : List Value), cs.length = n * c → (∀ i, i < n → AllOk w ks ((cs.drop (i * c)).take c)) → AllOk w (List.replicate n ks).flatten cs
  | 0, cs, hl, _ => by
    have : cs = [] := List.eq_nil_of_length_eq_zero (by simpa using hl)
    subst this; trivial
  | n + 1, cs, hl, h => by
    rw [List.replicate_succ, List.flatten_cons, ← List.take_append_drop c cs]
    refine AllOk.app (by simpa using h 0 (by omega)) (allOk_rep hc n _ (by simp [hl, Nat.succ_mul]) fun i hi => ?_)
    have := h (i + 1) (by omega)
    rwa [List.drop_drop, Nat.add_comm c, ← Nat.succ_mul]
theorem flat_arr {n c : Nat} (h : P.underlying t = some (.array n e)) (he : Flat P e ks) (hc : ks.length = c) (hce : P.cellsOf e = c) (hct : P.cellsOf t = n * c) : Flat P t (List.replicate n ks).flatten := fun enc w base sp held fuel cs x hx => by
  obtain ⟨xs, m, _, _, hl, hxl, hi⟩ := DataW.trod_array h hx
  refine allOk_rep hc n cs (hl.trans hct) fun i hin => ?_
  have := hi i hin
  rw [hce] at this
  have hlt : i < xs.length := by omega
  rw [List.getElem?_eq_getElem hlt] at this
  exact he enc w base sp held m _ _ this

inductive FlatFs (P : Program) : List Field → Nat → List LK → Prop
  | nil {o : Nat} : FlatFs P [] o []
  | cons {f : Field} {fs : List Field} {o c : Nat} {k1 k2 : List LK} : f.offset = o → Flat P f.type k1 → k1.length = c → P.cellsOf f.type = c → FlatFs P fs (o + c) k2 → FlatFs P (f :: fs) o (k1 ++ k2)
theorem flatFs_run {H : Type} {enc : TypeId × Value → H} {w : World} {base : Nat} {sp : Nat → Bool} {held : Bool} {m : Nat} {fs : List Field} {o : Nat} {ks : List LK} (hf : FlatFs P fs o ks) :
    ∀ (cs : List Value), cs.length = o + ks.length → (∀ f ∈ fs, ∃ y, DataW.trod enc P w base sp held m f.type ((cs.drop f.offset).take (P.cellsOf f.type)) = some y) → AllOk w ks (cs.drop o) := by
  induction hf with
  | nil => intro cs hl _; rw [List.drop_eq_nil_of_le (by simp at hl; omega)]; trivial
  | @cons f fs o c k1 k2 ho hfl hk hc _ ih =>
    intro cs hl h
    have hl' : cs.length = o + c + k2.length := by simp at hl; omega
    rw [← List.take_append_drop c (cs.drop o), List.drop_drop]
    obtain ⟨y, hy⟩ := h f (by simp)
    rw [ho, hc] at hy
    exact AllOk.app (hfl _ _ _ _ _ _ _ _ hy) (ih cs hl' (fun g hg => h g (by simp [hg])))
theorem flat_struct {fs : Array Field} (h : P.underlying t = some (.struct fs)) (hf : FlatFs P fs.toList 0 ks) (hct : P.cellsOf t = ks.length) : Flat P t ks := fun enc w base sp held fuel cs x hx => by
  obtain ⟨xs, m, _, _, hl, hxl, hi⟩ := DataW.trod_struct h hx
  have := flatFs_run (enc := enc) (w := w) (base := base) (sp := sp) (held := held) (m := m) hf cs (by rw [hl, hct]; simp) (fun f hf => by
    obtain ⟨i, hi', e⟩ := List.getElem_of_mem hf
    have h1 := hi i f (by rw [← e]; simp at hi' ⊢)
    have hlt : i < xs.length := by simp at hi'; omega
    rw [List.getElem?_eq_getElem hlt] at h1
    exact ⟨_, h1⟩)
  simpa using this
end

/-! cells all of one kind -/
theorem allOk_ints {w : World} {k : IntKind} : ∀ {n : Nat} {vs : List Value}, AllOk w (List.replicate n [LK.int k]).flatten vs → ∃ l : List Int, vs = l.map (Value.int k) ∧ l.length = n ∧ ∀ x ∈ l, (Lit.int k x).wf = true
  | 0, [], _ => ⟨[], rfl, rfl, by simp⟩
  | 0, _ :: _, h => h.elim
  | n + 1, [], h => h.elim
  | n + 1, v :: vs, h => by
    obtain ⟨⟨x, rfl, hx⟩, h2⟩ := h
    obtain ⟨l, rfl, hl, hw⟩ := allOk_ints (n := n) h2
    exact ⟨x :: l, rfl, by simp [hl], by intro y hy; rcases List.mem_cons.1 hy with rfl | hy; exact hx; exact hw y hy⟩

section
variable {H : Type} {enc : TypeId × Value → H} {P : Program} {w : World} {base : Nat} {sp : Nat → Bool} {held : Bool} {t e : TypeId} {r : Reach} {b0 : Nat} {v : Value} {d : DataW H} {ps : List MemPlace} {ks : List LK}
/-- a struct or an array -/
theorem open_flat {dsc : TypeDesc} (hu : P.underlying t = some dsc) (hd : isAggD dsc = true) (hf : Flat P t ks) (hval : Value.okWide P w r b0 t v) (h : DataW.Trod enc P w base sp held t v d ps) : ∃ cs : List Value, v = .agg cs.toArray ∧ AllOk w ks cs := by
  have : ∃ cs : Array Value, v = .agg cs := by
    cases dsc <;> first | (cases hd; done) | (simp only [Value.okWide, hu] at hval; obtain ⟨cs, h1, _⟩ := hval; exact ⟨cs, h1⟩)
  obtain ⟨cs, rfl⟩ := this
  obtain ⟨n, hn⟩ := h
  exact ⟨cs.toList, by simp, hf _ _ _ _ _ _ _ _ hn⟩
theorem open_str (hu : P.underlying t = some .string) (hval : Value.okWide P w r b0 t v) (h : DataW.Trod enc P w base sp held t v d ps) : ∃ s : ByteArray, v = .string s ∧ s.size ≤ maxLen ∧ d = .lit (.string s.data.toList) := by
  obtain ⟨s, rfl⟩ := okWide_string hu hval
  obtain ⟨n, hn⟩ := h
  obtain ⟨s', e, hd, hs⟩ := DataW.trod_string hu hn
  simp [Value.cells] at e
  subst e
  simp only [Prod.mk.injEq] at hd
  exact ⟨s, rfl, hs, hd.1⟩
/-- a slice's elements, out of the look at its cells -/
theorem slice_trod {sz : Nat} (hu : P.underlying t = some (.slice e)) (hf : Flat P e ks) (hk : ks.length = sz) (hce : P.cellsOf e = sz) (h0 : 0 < sz) {m : Nat} {cs : List Value} (hm : DataW.trod enc P w base sp held m t cs = some (d, ps)) :
    ∃ A n c xs, cs = [.slice A n c] ∧ n ≤ c ∧ c ≤ maxLen ∧ Rd w A sz n xs ∧ (∀ i, i < n → AllOk w ks ((xs.drop (i * sz)).take sz)) ∧ (n = 0 ∨ ∃ es rs, d = .slice es rs ∧ es.length = n) := by
  rcases DataW.trod_slice hu hm with ⟨e1, _⟩ | ⟨a, len, cap, elems, rest, n, _, e1, hx, hb, hlc, hcm, hel, hcells, _, _⟩
  · exact ⟨none, 0, 0, [], e1, Nat.le_refl _, Nat.zero_le _, ⟨by simp, fun h => absurd h (by omega)⟩, fun i hi => absurd hi (by omega), .inl rfl⟩
  · subst e1
    simp only [Prod.mk.injEq] at hx
    -- the elements' cells, one by one
    have hone : ∀ i, i < len → ∃ cs : List Value, cs.length = sz ∧ AllOk w ks cs ∧ ∀ j, j < sz → w.cell? ((a.add (i * sz)).add j) = cs[j]? := fun i hi => by
      have h1 := hcells i hi
      rw [hce] at h1
      have hlt : i < elems.length := by omega
      rw [List.getElem?_eq_getElem hlt] at h1
      cases hc : w.cells? base (a.add (i * sz)) sz with
      | none => rw [hc] at h1; cases h1
      | some cs =>
        rw [hc] at h1
        obtain ⟨_, hl, hj⟩ := World.cells?_some hc
        exact ⟨cs, hl, hf _ _ _ _ _ _ _ _ h1, hj⟩
    have hrow : ∀ n, n ≤ len → ∃ xs : List Value, xs.length = n * sz ∧ (∀ i, i < n → AllOk w ks ((xs.drop (i * sz)).take sz)) ∧ ∀ i j, i < n → j < sz → w.cell? ((a.add (i * sz)).add j) = xs[i * sz + j]? := by
      intro n
      induction n with
      | zero => exact fun _ => ⟨[], by simp, fun i hi => absurd hi (by omega), fun i j hi => absurd hi (by omega)⟩
      | succ n ih =>
        intro hn
        obtain ⟨xs, hl, hok, hc⟩ := ih (by omega)
        obtain ⟨cs, hcl, hcok, hcc⟩ := hone n (by omega)
        refine ⟨xs ++ cs, by simp [hl, hcl, Nat.succ_mul], fun i hi => ?_, fun i j hi hj => ?_⟩
        · rcases Nat.lt_or_ge i n with h | h
          · have h2 : i * sz + sz ≤ n * sz := by rw [← Nat.succ_mul]; exact Nat.mul_le_mul_right _ h
            rw [List.drop_append_of_le_length (by omega), List.take_append_of_le_length (by simp; omega)]
            exact hok i h
          · obtain rfl : i = n := by omega
            rw [List.drop_append, hl, List.drop_eq_nil_of_le (by omega)]
            simp only [Nat.sub_self, List.drop_zero, List.nil_append]
            rwa [List.take_of_length_le (by omega)]
        · rcases Nat.lt_or_ge i n with h | h
          · have h2 : i * sz + sz ≤ n * sz := by rw [← Nat.succ_mul]; exact Nat.mul_le_mul_right _ h
            rw [List.getElem?_append_left (by omega)]
            exact hc i j h hj
          · obtain rfl : i = n := by omega
            rw [List.getElem?_append_right (by omega), hl, Nat.add_sub_cancel_left]
            exact hcc j hj
    obtain ⟨xs, hl, hok, hc⟩ := hrow len (Nat.le_refl _)
    refine ⟨some a, len, cap, xs, rfl, hlc, hcm, ⟨hl, fun hn => ?_⟩, hok, .inr ⟨_, _, hx.1, by simpa using hel⟩⟩
    -- the address is a plain one
    have h0' := hc 0 0 hn h0
    have hlt : 0 < xs.length := by rw [hl]; exact Nat.mul_pos hn h0
    obtain ⟨b, o, spot⟩ := a
    simp only [Nat.zero_mul, Nat.add_zero, Addr.add, if_true] at h0'
    rw [List.getElem?_eq_getElem hlt] at h0'
    have hsp : spot = none := by
      unfold World.cell? at h0'
      split at h0'
      · split at h0'
        · cases h0'
        · rename_i hs; simpa using hs
      · cases h0'
    subst hsp
    refine ⟨b, o, rfl, World.block_lt_of_cell? _ _ h0', fun j u hu => ?_⟩
    have hj := (List.getElem?_eq_some_iff.1 hu).1
    have hdm := Nat.div_add_mod j sz
    have h3 := hc (j / sz) (j % sz) (by rw [hl] at hj; exact Nat.div_lt_of_lt_mul (by rw [Nat.mul_comm]; exact hj)) (Nat.mod_lt _ h0)
    have hdm' : j / sz * sz + j % sz = j := by rw [Nat.mul_comm]; exact hdm
    rw [add_at0, add_at0, Nat.add_assoc, hdm'] at h3
    rw [← hu, ← h3]
theorem open_slice {sz : Nat} (hu : P.underlying t = some (.slice e)) (hf : Flat P e ks) (hk : ks.length = sz) (hce : P.cellsOf e = sz) (h0 : 0 < sz) (hval : Value.okWide P w r b0 t v) (h : DataW.Trod enc P w base sp held t v d ps) :
    ∃ A n c xs, v = .slice A n c ∧ n ≤ c ∧ c ≤ maxLen ∧ Rd w A sz n xs ∧ (∀ i, i < n → AllOk w ks ((xs.drop (i * sz)).take sz)) ∧ (n = 0 ∨ ∃ es rs, d = .slice es rs ∧ es.length = n) := by
  obtain ⟨A, len, cap, rfl⟩ := okWide_slice hu hval
  obtain ⟨m, hm⟩ := h
  obtain ⟨A', n, c, xs, e1, h⟩ := slice_trod hu hf hk hce h0 hm
  simp [Value.cells] at e1
  obtain ⟨rfl, rfl, rfl⟩ := e1
  exact ⟨_, _, _, xs, rfl, h⟩
/-- a type of slices -/
theorem flat_slice {P : Program} {t e : TypeId} {ks : List LK} {sz : Nat} (hu : P.underlying t = some (.slice e)) (hf : Flat P e ks) (hk : ks.length = sz) (hce : P.cellsOf e = sz) (h0 : 0 < sz) : Flat P t [LK.sl sz ks] := fun enc w base sp held fuel cs x hx => by
  obtain ⟨d, ps⟩ := x
  obtain ⟨A, n, c, xs, rfl, h1, h2, h3, h4, _⟩ := slice_trod hu hf hk hce h0 hx
  exact ⟨⟨A, n, c, xs, rfl, h1, h2, h3, h4⟩, trivial⟩
/-- a slice of integers -/
theorem allOk_int1 {w : World} {k : IntKind} : ∀ {vs : List Value}, (∀ i, i < vs.length → AllOk w [LK.int k] ((vs.drop (i * 1)).take 1)) → ∃ l : List Int, vs = l.map (Value.int k) ∧ l.length = vs.length ∧ ∀ x ∈ l, (Lit.int k x).wf = true
  | [], _ => ⟨[], rfl, rfl, by simp⟩
  | v :: vs, h => by
    have h0 := h 0 (by simp)
    simp only [Nat.zero_mul, List.drop_zero, List.take_succ_cons, List.take_zero] at h0
    obtain ⟨⟨x, rfl, hx⟩, _⟩ := h0
    obtain ⟨l, rfl, hl, hw⟩ := allOk_int1 (vs := vs) (fun i hi => by have := h (i + 1) (by simpa using hi); simpa using this)
    exact ⟨x :: l, rfl, by simp, by intro y hy; rcases List.mem_cons.1 hy with rfl | hy; exact hx; exact hw y hy⟩
theorem open_ints {k : IntKind} (hu : P.underlying t = some (.slice e)) (he : P.underlying e = some (.int k)) (hce : P.cellsOf e = 1) (hval : Value.okWide P w r b0 t v) (h : DataW.Trod enc P w base sp held t v d ps) :
    ∃ (A : Option Addr) (n c : Nat) (l : List Int), v = .slice A n c ∧ n ≤ c ∧ Rd w A 1 n (l.map (Value.int k)) ∧ l.length = n ∧ (∀ x ∈ l, (Lit.int k x).wf = true) ∧ (n = 0 ∨ ∃ es rs, d = .slice es rs ∧ es.length = n) := by
  obtain ⟨A, n, c, xs, rfl, hnc, _, hr, hok, hd⟩ := open_slice hu (flat_int he) rfl hce Nat.one_pos hval h
  have hl : xs.length = n := by simpa using hr.1
  obtain ⟨l, rfl, hll, hw⟩ := allOk_int1 (vs := xs) (fun i hi => hok i (by omega))
  exact ⟨A, n, c, l, rfl, hnc, hr, by omega, hw, hd⟩
/-- the weight of a slice -/
theorem slice_weight {t e : TypeId} {ts : List TypeId} {d : DataW H} {ds : List (DataW H)} {n by' : Nat} (hu : P.underlying t = some (.slice e)) (hby : P.bytesOf e = by') (h : ∀ x ∈ DataW.weightsEach P (t :: ts) (d :: ds), x ≤ reachBytes) (hd : n = 0 ∨ ∃ es rs, d = .slice es rs ∧ es.length = n) : n * by' ≤ reachBytes := by
  rcases hd with rfl | ⟨es, rs, rfl, rfl⟩
  · simp
  · have := h ((es.length + rs.length) * P.bytesOf e) (by simp [DataW.weightsEach, DataW.weights, hu])
    rw [hby] at this
    exact Nat.le_trans (Nat.mul_le_mul_right _ (by omega)) this
theorem str_weight {t : TypeId} {ts : List TypeId} {s : ByteArray} {ds : List (DataW H)} (h : ∀ x ∈ DataW.weightsEach P (t :: ts) (.lit (.string s.data.toList) :: ds), x ≤ reachBytes) : s.size ≤ reachBytes := by
  have := h s.data.toList.length (by simp [DataW.weightsEach, DataW.weights])
  simpa using this
theorem rest_weight {t : TypeId} {ts : List TypeId} {d : DataW H} {ds : List (DataW H)} (h : ∀ x ∈ DataW.weightsEach P (t :: ts) (d :: ds), x ≤ reachBytes) : ∀ x ∈ DataW.weightsEach P ts ds, x ≤ reachBytes := fun x hx => h x (by simp [DataW.weightsEach, hx])
end
end Go.Proofs.Ytpjpaipkkcengaa
