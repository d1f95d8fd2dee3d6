/-
  How often things stand in a list, as a map tells it; rows of numbers of several kinds. No program here.
-/
import Derived.Test.YtpjpaipkkcengaaProws
import Derived.Test.YtpjpaipkkcengaaVp
namespace Go.Proofs.Ytpjpaipkkcengaa
/-- cells of several kinds, as many as there are kinds -/
def padL (ks : List IntKind) (xs : List Int) : List Value := ks.mapIdx fun i k => .int k (xs.getD i 0)
theorem padL_len (ks : List IntKind) (xs : List Int) : (padL ks xs).length = ks.length := by simp [padL]
theorem padL_zi {ks : List IntKind} {xs : List Int} (h : xs.length = ks.length) : padL ks xs = zi ks xs := by
  refine List.ext_getElem (by rw [padL_len, zi_len h]) fun i h1 h2 => ?_
  have h3 : i < xs.length := by rw [padL_len] at h1; omega
  simp [padL, zi, List.getD_eq_getElem?_getD, List.getElem?_eq_getElem h3]
theorem padL_get {ks : List IntKind} {xs : List Int} {i : Nat} {k : IntKind} (h : ks[i]? = some k) : (padL ks xs)[i]? = some (.int k (xs.getD i 0)) := by
  simp [padL, List.getElem?_mapIdx, h]
theorem padL_ic {n : Nat} {k : IntKind} {xs : List Int} (h : xs.length = n) : (padL (List.replicate n k) xs).toArray = ic k xs := by
  rw [padL_zi (by simpa using h), zi_ic h]
/-- rows whose cells are numbers -/
def rowsZ (ks : List IntKind) (l : List (List Int)) : List Value := rowsOf (padL ks) l
theorem rowsZ_len (ks : List IntKind) (l : List (List Int)) : (rowsZ ks l).length = l.length * ks.length := rows_len (padL_len ks) l
theorem rowsZ_get {ks : List IntKind} {l : List (List Int)} {k : Nat} (hk : k < l.length) (h : (l.getD k []).length = ks.length) : ((rowsZ ks l).drop (k * ks.length)).take ks.length = zi ks (l.getD k []) := by
  rw [rowsZ, rows_get (padL_len ks) [] hk, padL_zi h]
theorem rowsZ_at {ks : List IntKind} {l : List (List Int)} {k j : Nat} {q : IntKind} (hk : k < l.length) (hj : ks[j]? = some q) : (rowsZ ks l)[k * ks.length + j]? = some (.int q ((l.getD k []).getD j 0)) := by
  have : j < ks.length := (List.getElem?_eq_some_iff.1 hj).1
  rw [rowsZ, rows_at (padL_len ks) [] hk this, padL_get hj]
theorem rowsZ_one (ks : List IntKind) (x : List Int) : rowsZ ks [x] = padL ks x := by simp [rowsZ, rowsOf]
theorem rowsZ_app (ks : List IntKind) (l m : List (List Int)) : rowsZ ks (l ++ m) = rowsZ ks l ++ rowsZ ks m := rowsOf_app l m
theorem rowsZ_cells (ks : List IntKind) (l : List (List Int)) : ∀ u ∈ rowsZ ks l, u.oneCell' = true := by
  intro u hu
  obtain ⟨a, ha, hu⟩ := List.mem_flatten.1 hu
  obtain ⟨x, _, rfl⟩ := List.mem_map.1 ha
  simp only [padL, List.mem_mapIdx] at hu
  obtain ⟨i, h, rfl⟩ := hu
  rfl
theorem getD_mem' {α : Type} {l : List α} {k : Nat} {d : α} (h : k < l.length) : l.getD k d ∈ l := by
  rw [List.getD_eq_getElem?_getD, List.getElem?_eq_getElem h]; simp
theorem rowsZ_open {w : World} {ks : List IntKind} {n : Nat} {xs : List Value} (hl : xs.length = n * ks.length) (h : ∀ i, i < n → AllOk w (ks.map LK.int) ((xs.drop (i * ks.length)).take ks.length)) : ∃ l : List (List Int), l.length = n ∧ xs = rowsZ ks l ∧ ∀ x ∈ l, x.length = ks.length ∧ ∀ i k, ks[i]? = some k → (Lit.int k (x.getD i 0)).wf = true :=
  rows_open (cells := padL ks) (ok := fun x => x.length = ks.length ∧ ∀ i k, ks[i]? = some k → (Lit.int k (x.getD i 0)).wf = true) (fun cs hcs => by
    obtain ⟨x, rfl, hx, hw⟩ := allOk_zi hcs
    exact ⟨x, (padL_zi hx).symm, hx, hw⟩) n xs hl h
/-! counts -/
/-- how often each stands in a list, the last one first -/
def cntR : List (List Int) → List (List Int × Value)
  | [] => []
  | x :: l => mput x (.int .i64 ((l.count x : Int) + 1)) (cntR l)
theorem cnt_get (x : List Int) : ∀ (l : List (List Int)), mget x (cntR l) = if l.count x = 0 then none else some (.int .i64 (l.count x : Int))
  | [] => rfl
  | y :: l => by
    rw [cntR, mget_put, List.count_cons]
    by_cases e : x = y
    · subst e; simp
    · have e' : ¬ (y == x) = true := by simpa using fun h => e h.symm
      rw [if_neg e, if_neg e', Nat.add_zero]; exact cnt_get x l
theorem cnt_getD (x : List Int) (l : List (List Int)) : (mget x (cntR l)).getD (.int .i64 0) = .int .i64 (l.count x : Int) := by
  rw [cnt_get]; split
  · next h => rw [h]; rfl
  · rfl
theorem cnt_step {l : List (List Int)} {k : Nat} (hk : k < l.length) : cntR (l.take (k + 1)).reverse = mput (l.getD k []) (.int .i64 (((l.take k).reverse.count (l.getD k []) : Int) + 1)) (cntR (l.take k).reverse) := by
  have e : (l.take (k + 1)).reverse = l.getD k [] :: (l.take k).reverse := by
    rw [List.take_succ_eq_append_getElem hk, List.reverse_append]
    simp [List.getD_eq_getElem?_getD, List.getElem?_eq_getElem hk]
  rw [e]; rfl
theorem cnt_ok {n : Nat} : ∀ {l : List (List Int)}, (∀ x ∈ l, x.length = n) → MOk (fun xs : List Int => xs.length = n) (cntR l)
  | [], _ => mok_nil
  | x :: _, h => mput_ok (ok := fun xs : List Int => xs.length = n) (h x (by simp)) (cnt_ok fun y hy => h y (by simp [hy]))
theorem mput_keys (a : List Int) (v : Value) : ∀ (D : List (List Int × Value)) (y : List Int), (∃ p ∈ mput a v D, p.1 = y) ↔ y = a ∨ ∃ p ∈ D, p.1 = y
  | [], y => by simp [mput]; exact ⟨fun h => h.symm, fun h => h.symm⟩
  | (b, u) :: D, y => by
    have ih := mput_keys a v D y
    simp only [mput]
    by_cases e : a = b
    · subst e
      simp only [if_true, List.mem_cons, exists_eq_or_imp]
      constructor
      · rintro (h | h)
        · exact .inl h.symm
        · exact .inr (.inr h)
      · rintro (h | h | h)
        · exact .inl h.symm
        · exact .inl h
        · exact .inr h
    · simp only [if_neg e, List.mem_cons, exists_eq_or_imp]
      rw [ih]
      constructor
      · rintro (h | h | h)
        · exact .inr (.inl h)
        · exact .inl h
        · exact .inr (.inr h)
      · rintro (h | h | h)
        · exact .inr (.inl h)
        · exact .inl h
        · exact .inr (.inr h)
theorem cnt_keys (y : List Int) : ∀ (l : List (List Int)), (∃ p ∈ cntR l, p.1 = y) ↔ y ∈ l
  | [] => by simp [cntR]
  | x :: l => by rw [cntR, mput_keys, cnt_keys y l, List.mem_cons]
theorem mput_len (a : List Int) (v : Value) : ∀ (D : List (List Int × Value)), (mput a v D).length = if mget a D = none then D.length + 1 else D.length
  | [] => rfl
  | (b, u) :: D => by
    simp only [mput, mget]
    by_cases e : a = b
    · simp [e]
    · simp only [if_neg e, List.length_cons, mput_len a v D]; split <;> rfl
theorem cnt_len {l : List (List Int)} {k : Nat} (hk : k < l.length) : (cntR (l.take (k + 1)).reverse).length = if (l.take k).count (l.getD k []) = 0 then (cntR (l.take k).reverse).length + 1 else (cntR (l.take k).reverse).length := by
  rw [cnt_step hk, mput_len, cnt_get, List.count_reverse]
  by_cases h : (l.take k).count (l.getD k []) = 0 <;> simp [h]
theorem cnt_le {x : List Int} {l : List (List Int)} {k : Nat} : (l.take k).reverse.count x ≤ l.length := by
  have := List.count_le_length (a := x) (l := (l.take k).reverse)
  simp at this ⊢; omega
theorem cntR_len : ∀ (r : List (List Int)), (cntR r).length ≤ r.length
  | [] => Nat.le_refl _
  | x :: r => by have := cntR_len r; have h2 := mput_len_le x (.int .i64 ((r.count x : Int) + 1)) (cntR r); rw [cntR, List.length_cons]; omega
theorem cnt_lle (l : List (List Int)) (j : Nat) : (cntR (l.take j).reverse).length ≤ l.length := by
  have := cntR_len (l.take j).reverse
  simp at this ⊢; omega
/-- no thing of a list is beyond x -/
def topL (cmp : List Int → List Int → Int) (x : List Int) (l : List (List Int)) : Bool := l.all fun y => !decide (cmp x y = 1)
theorem topL_keys {cmp : List Int → List Int → Int} {x : List Int} {l : List (List Int)} : topL cmp x ((cntR l.reverse).map (·.1)) = topL cmp x l := by
  have key : ∀ y, y ∈ (cntR l.reverse).map (·.1) ↔ y ∈ l := fun y => by
    rw [List.mem_map]
    have := cnt_keys y l.reverse
    simp only [List.mem_reverse] at this
    rw [← this]
  unfold topL
  rw [Bool.eq_iff_iff, List.all_eq_true, List.all_eq_true]
  exact ⟨fun h y hy => h y ((key y).2 hy), fun h y hy => h y ((key y).1 hy)⟩
/-- the places, up to k, of those that nothing is beyond -/
def pkL (cmp : List Int → List Int → Int) (l : List (List Int)) : Nat → List Int
  | 0 => []
  | k + 1 => if topL cmp (l.getD k []) l then pkL cmp l k ++ [(k : Int)] else pkL cmp l k
theorem pkL_len (cmp : List Int → List Int → Int) (l : List (List Int)) : ∀ k, (pkL cmp l k).length ≤ k
  | 0 => Nat.le_refl _
  | k + 1 => by have := pkL_len cmp l k; rw [pkL]; split <;> simp <;> omega
theorem topL_take {cmp : List Int → List Int → Int} {x : List Int} {l : List (List Int)} {j : Nat} (hj : j < l.length) : topL cmp x (l.take (j + 1)) = (topL cmp x (l.take j) && !decide (cmp x (l.getD j []) = 1)) := by
  have e : l.getD j [] = l[j] := by rw [List.getD_eq_getElem?_getD, List.getElem?_eq_getElem hj]; rfl
  unfold topL
  rw [e, List.take_succ_eq_append_getElem hj, List.all_append]
  simp only [List.all_cons, List.all_nil, Bool.and_true]
theorem nodup_snoc {l : List Nat} {i : Nat} (h : l.Nodup) (hi : i ∉ l) : (l ++ [i]).Nodup := by
  rw [List.nodup_append]
  exact ⟨h, by simp, fun a ha b hb e => by simp at hb; subst hb; subst e; exact hi ha⟩
theorem top_all {cmp : List Int → List Int → Int} {x : List Int} {D : List (List Int × Value)} (h : ∀ i, i < D.length → ∀ p, D[i]? = some p → ¬ cmp x p.1 = 1) : topL cmp x (D.map (·.1)) = true := by
  unfold topL
  rw [List.all_eq_true]
  intro y hy
  obtain ⟨p, hp, rfl⟩ := List.mem_map.1 hy
  obtain ⟨i, hi, rfl⟩ := List.getElem_of_mem hp
  have := h i hi _ (List.getElem?_eq_getElem hi)
  simp [this]
theorem top_not {cmp : List Int → List Int → Int} {x : List Int} {D : List (List Int × Value)} {i : Nat} {p : List Int × Value} (hp : D[i]? = some p) (h : cmp x p.1 = 1) : topL cmp x (D.map (·.1)) = false := by
  unfold topL
  rw [List.all_eq_false]
  exact ⟨p.1, List.mem_map.2 ⟨p, List.mem_of_getElem? hp, rfl⟩, by simp [h]⟩
theorem count_take {x : List Int} {l : List (List Int)} {k : Nat} (hk : k < l.length) : (l.take (k + 1)).count x = (l.take k).count x + if l.getD k [] = x then 1 else 0 := by
  have e : l.getD k [] = l[k] := by rw [List.getD_eq_getElem?_getD, List.getElem?_eq_getElem hk]; rfl
  rw [List.take_succ_eq_append_getElem hk, List.count_append, e]
  simp [List.count_cons]
theorem take_snoc {l : List (List Int)} {k : Nat} (hk : k < l.length) : l.take (k + 1) = l.take k ++ [l.getD k []] := by
  have e : l.getD k [] = l[k] := by rw [List.getD_eq_getElem?_getD, List.getElem?_eq_getElem hk]; rfl
  rw [e]; exact List.take_succ_eq_append_getElem hk
theorem fill_one {pl : Nat → Option (Nat × Nat)} {base cs : Array Value} {sz : Nat} (hp : pl 0 = some (0, sz)) (hs : cs.size = sz) (hb : base.size = sz) : Instr.fill pl base [(0, .agg cs)] = some cs := by
  refine fill_cons hp hs (by omega) ?_
  rw [splice_whole (by simp only [Value.cells, Array.length_toList]; omega)]
  simp only [Value.cells, fill_nil]
end Go.Proofs.Ytpjpaipkkcengaa
