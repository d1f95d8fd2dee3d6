/-
  What a cursor reads keys and atoms as; that what was written is read as it was; that keys have an order. No program here.
-/
import Derived.Test.YtpjpaipkkcengaaPread
namespace Go.Proofs.Ytpjpaipkkcengaa
/-! after an error nothing comes -/
section
variable {e : Int} {xs : List Int} {m : Nat}
theorem numS_err (h : ¬ e = 0) : numS m e xs = (0, e, xs) := by simp [numS, h]
theorem oneS_err (h : ¬ e = 0) : oneS e xs = (0, e, xs) := by simp [oneS, h]
theorem namS_err (h : ¬ e = 0) : namS e xs = (nm0, e, xs) := by simp [namS, h]
theorem bytS_err (h : ¬ e = 0) : bytS m e xs = ([], e, xs) := by simp [bytS, numS_err h, h]
end
/-- no bytes come behind an error -/
def ErrOk (e : Int) (xs : List Int) : Prop := ¬ e = 0 → xs = []
theorem numS_ok {m : Nat} {e : Int} {xs : List Int} (h : ErrOk e xs) : ErrOk (numS m e xs).2.1 (numS m e xs).2.2 := by
  unfold numS
  repeat' split
  all_goals first | exact h | (intro h2; first | rfl | exact absurd rfl h2)
theorem oneS_ok {e : Int} {xs : List Int} (h : ErrOk e xs) : ErrOk (oneS e xs).2.1 (oneS e xs).2.2 := by
  unfold oneS
  repeat' split
  all_goals first | exact h | (intro h2; first | rfl | exact absurd rfl h2)
theorem namS_ok {e : Int} {xs : List Int} (h : ErrOk e xs) : ErrOk (namS e xs).2.1 (namS e xs).2.2 := by
  unfold namS
  repeat' split
  all_goals first | exact h | (intro h2; first | rfl | exact absurd rfl h2)
theorem bytS_ok {m : Nat} {e : Int} {xs : List Int} (h : ErrOk e xs) : ErrOk (bytS m e xs).2.1 (bytS m e xs).2.2 := by
  have h1 := numS_ok (m := m) h
  unfold bytS
  repeat' split
  all_goals first | exact h1 | (intro h2; first | rfl | exact absurd rfl h2)
def keyS (e : Int) (xs : List Int) : List Int × Int × List Int :=
  if (oneS e xs).2.1 = 0 then
    if 1 ≤ (oneS e xs).1 ∧ (oneS e xs).1 ≤ 4 then
      if (numS 65535 (oneS e xs).2.1 (oneS e xs).2.2).2.1 = 0 then
        if (oneS e xs).1 = 4 then (mkKey 4 (numS 65535 (oneS e xs).2.1 (oneS e xs).2.2).1 nm0 0 0, (numS 65535 (oneS e xs).2.1 (oneS e xs).2.2).2) else
        keyT (oneS e xs).1 (numS 65535 (oneS e xs).2.1 (oneS e xs).2.2).1 (numS 65535 (oneS e xs).2.1 (oneS e xs).2.2).2.1 (numS 65535 (oneS e xs).2.1 (oneS e xs).2.2).2.2
      else (key0, (numS 65535 (oneS e xs).2.1 (oneS e xs).2.2).2)
    else (key0, 3, [])
  else (key0, (oneS e xs).2)
where
  /-- a name, a replica, a number -/
  keyT (s : Int) (c : Nat) (e : Int) (xs : List Int) : List Int × Int × List Int :=
    if (namS e xs).2.1 = 0 then
      if (namS e xs).1 = nm0 then (key0, 3, []) else
      if (oneS (namS e xs).2.1 (namS e xs).2.2).2.1 = 0 then
        if 16 ≤ (oneS (namS e xs).2.1 (namS e xs).2.2).1 then (key0, 2, []) else
        if s = 1 then keyQ c (namS e xs).1 (oneS (namS e xs).2.1 (namS e xs).2.2).1 (oneS (namS e xs).2.1 (namS e xs).2.2).2.1 (oneS (namS e xs).2.1 (namS e xs).2.2).2.2 else
        (mkKey s.toNat c (namS e xs).1 (oneS (namS e xs).2.1 (namS e xs).2.2).1.toNat 0, (oneS (namS e xs).2.1 (namS e xs).2.2).2)
      else (key0, (oneS (namS e xs).2.1 (namS e xs).2.2).2)
    else (key0, (namS e xs).2)
  keyQ (c : Nat) (nm : List Int) (r : Int) (e : Int) (xs : List Int) : List Int × Int × List Int :=
    if (numS 4294967295 e xs).2.1 = 0 then
      if (numS 4294967295 e xs).1 = 0 then (key0, 3, []) else (mkKey 1 c nm r.toNat (numS 4294967295 e xs).1, (numS 4294967295 e xs).2)
    else (key0, (numS 4294967295 e xs).2)
theorem nright_ne {l : List Int} (h : nright l = true) : ¬ l = nm0 := fun e => by subst e; revert h; decide
theorem keyR_cases {x : List Int} (hk : KeyOk x) (h : keyR x = true) :
    (kn x 0 = 4 ∧ x = bareK x) ∨ ((kn x 0 = 1 ∨ kn x 0 = 2 ∨ kn x 0 = 3) ∧ nright (kitem x) = true ∧ kn x 10 < 16 ∧ (kn x 0 = 1 ↔ ¬ kn x 11 = 0)) := by
  unfold keyR at h
  split at h
  · next h4 => exact .inl ⟨h4, by simpa using h⟩
  · split at h
    · next h1 =>
      simp only [Bool.and_eq_true, decide_eq_true_eq] at h
      exact .inr ⟨.inl h1, h.1.2, h.2, by simp [h1, h.1.1]⟩
    · split at h
      · next h1 h23 =>
        simp only [Bool.and_eq_true, decide_eq_true_eq] at h
        exact .inr ⟨.inr h23, h.1.2, h.2, by simp [h1, h.1.1]⟩
      · cases h
theorem keyS_back {x : List Int} (hk : KeyOk x) (h : keyR x = true) (l : List Int) : keyS 0 (keyOut x ++ l) = (x, 0, l) := by
  have h1 : kn x 1 < 18446744073709551616 := by have := hk.b1; omega
  have h11 : kn x 11 < 18446744073709551616 := by have := hk.b11; omega
  have hm1 : kn x 1 ≤ 65535 := by have := hk.b1; omega
  have hm11 : kn x 11 ≤ 4294967295 := by have := hk.b11; omega
  have hil := kitem_len hk.len
  have e1 : keyOut x ++ l = (kn x 0 : Int) :: (vari (kn x 1) ++ ((if kn x 0 = 4 then [] else nmOut (kitem x) ++ [(kn x 10 : Int)] ++ (if kn x 0 = 1 then vari (kn x 11) else [])) ++ l)) := by
    simp [keyOut]
  have hx := key_mk hk
  rw [e1]
  unfold keyS
  rw [oneS_back]
  simp only [numS_back h1 hm1, if_true]
  rcases keyR_cases hk h with ⟨h4, hb⟩ | ⟨hs, hn, hr, hq⟩
  · rw [if_pos (by omega), if_pos (by omega), if_pos h4]
    have e2 : x = mkKey 4 (kn x 1) nm0 0 0 := by rw [bareK, h4] at hb; exact hb
    rw [← e2]; rfl
  · have hne4 : ¬ kn x 0 = 4 := by omega
    rw [if_pos (by omega), if_neg (by omega), if_neg hne4]
    have e2 : nmOut (kitem x) ++ [(kn x 10 : Int)] ++ (if kn x 0 = 1 then vari (kn x 11) else []) ++ l = nmOut (kitem x) ++ ((kn x 10 : Int) :: ((if kn x 0 = 1 then vari (kn x 11) else []) ++ l)) := by simp
    rw [e2]
    unfold keyS.keyT
    simp only [namS_back hil (.inr hn), if_true, if_neg (nright_ne hn), oneS_back]
    rw [if_neg (by omega)]
    by_cases hs1 : kn x 0 = 1
    · rw [if_pos (by omega), if_pos hs1]
      unfold keyS.keyQ
      simp only [numS_back h11 hm11, if_true, if_neg (hq.1 hs1), Int.toNat_natCast]
      rw [show mkKey 1 (kn x 1) (kitem x) (kn x 10) (kn x 11) = mkKey (kn x 0) (kn x 1) (kitem x) (kn x 10) (kn x 11) by rw [hs1], ← hx]
    · rw [if_neg (by omega), if_neg hs1]
      have h0 : kn x 11 = 0 := by
        by_cases hz : kn x 11 = 0
        · exact hz
        · exact absurd (hq.2 hz) hs1
      simp only [Int.toNat_natCast, List.nil_append]
      rw [show mkKey (kn x 0) (kn x 1) (kitem x) (kn x 10) 0 = mkKey (kn x 0) (kn x 1) (kitem x) (kn x 10) (kn x 11) by rw [h0], ← hx]
theorem key0_ok : KeyOk key0 := mkKey_ok rfl nm0_byt (by decide) (by decide) (by decide) (by decide)
theorem keyS_key {e : Int} {xs : List Int} (hb : Byt xs) : KeyOk (keyS e xs).1 := by
  have hb1 := oneS_byt (e := e) hb
  have hv := oneS_val (e := e) hb
  have hn := numS_le 65535 (oneS e xs).2.1 (oneS e xs).2.2
  have hb2 := numS_byt (m := 65535) (e := (oneS e xs).2.1) hb1
  unfold keyS
  split
  · split
    · split
      · split
        · exact mkKey_ok rfl nm0_byt (by decide) (by omega) (by decide) (by decide)
        · generalize numS 65535 (oneS e xs).2.1 (oneS e xs).2.2 = b at hn hb2
          obtain ⟨c, e2, ys⟩ := b
          have hb3 := namS_byt' (e := e2) hb2
          have hv3 := oneS_val (e := (namS e2 ys).2.1) hb3
          have hb4 := oneS_byt (e := (namS e2 ys).2.1) hb3
          unfold keyS.keyT
          split
          · split
            · exact key0_ok
            · split
              · split
                · exact key0_ok
                · split
                  · unfold keyS.keyQ
                    split
                    · split
                      · exact key0_ok
                      · exact mkKey_ok (namS_len _ _) (namS_byt hb2) (by decide) (by dsimp only at hn ⊢; omega) (by dsimp only at hv3 ⊢; omega) (Nat.lt_of_le_of_lt (numS_le _ _ _) (by decide))
                    · exact key0_ok
                  · exact mkKey_ok (namS_len _ _) (namS_byt hb2) (by omega) (by dsimp only at hn ⊢; omega) (by dsimp only at hv3 ⊢; omega) (by decide)
              · exact key0_ok
          · exact key0_ok
      · exact key0_ok
    · exact key0_ok
  · exact key0_ok
/-! the order of keys -/
theorem snoc_cut {n : Nat} {a : List Int} (h : a.length = n + 1) : ∃ x y, a = x ++ [y] ∧ x.length = n := by
  refine ⟨a.take n, a.getD n 0, ?_, by simp [h]⟩
  rw [← take_succ_getD (by omega), List.take_of_length_le (by omega)]
theorem numN_inj : ∀ {n : Nat} {a b : List Int}, a.length = n → b.length = n → Byt a → Byt b → numN a = numN b → a = b
  | 0, a, b, ha, hb, _, _, _ => by rw [List.eq_nil_of_length_eq_zero ha, List.eq_nil_of_length_eq_zero hb]
  | n + 1, a, b, ha, hb, ba, bb, h => by
    obtain ⟨a, x, rfl, ha'⟩ := snoc_cut ha
    obtain ⟨b, y, rfl, hb'⟩ := snoc_cut hb
    have la := ba x (by simp)
    have lb := bb y (by simp)
    rw [numN_snoc, numN_snoc] at h
    have h1 : numN a = numN b := by omega
    have h2 : x = y := by omega
    rw [numN_inj ha' hb' (fun z hz => ba z (by simp [hz])) (fun z hz => bb z (by simp [hz])) h1, h2]
theorem numN_nmOf {x : Nat} (h : x < 18446744073709551616) : numN (nmOf x) = x := by
  have key : ∀ k, k ≤ 8 → numN ((nmOf x).take k) = x / 256 ^ (8 - k) := by
    intro k
    induction k with
    | zero => intro _; rw [Nat.div_eq_of_lt (Nat.lt_of_lt_of_le h (by decide))]; rfl
    | succ k ih =>
      intro hk
      have hb : bt (nmOf x) k = x / 256 ^ (7 - k) % 256 := by
        have : (nmOf x)[k]? = some ((x / 256 ^ (7 - k) % 256 : Nat) : Int) := by rw [nmOf, List.getElem?_map, List.getElem?_range (by omega)]; rfl
        rw [bt, List.getD_eq_getElem?_getD, this]; exact Int.toNat_natCast _
      rw [numN_take (by rw [nmOf_len]; omega), ih (by omega), hb, show 8 - k = (7 - k) + 1 by omega, show 8 - (k + 1) = 7 - k by omega, Nat.pow_succ, ← Nat.div_div_eq_div_mul]
      exact Nat.div_add_mod _ _
  have := key 8 (by omega)
  rw [List.take_of_length_le (by rw [nmOf_len]; exact Nat.le_refl 8)] at this
  simpa using this
theorem nmOf_numN {l : List Int} (h : l.length = 8) (hb : Byt l) : nmOf (numN l) = l :=
  numN_inj (nmOf_len _) h (nmOf_byt _) hb (numN_nmOf (numN_64 hb h))
theorem words_inj {x y : List Int} (hx : KeyOk x) (hy : KeyOk y) : wordsL x = wordsL y ↔ x = y := by
  refine ⟨fun h => ?_, fun h => by rw [h]⟩
  simp only [wordsL, List.cons.injEq, and_true] at h
  obtain ⟨h1, h2, h3⟩ := h
  have a1 := hx.b1; have a2 := hy.b1; have a3 := hx.b11; have a4 := hy.b11
  simp only [headN, dotN] at h1 h3
  have hi := numN_inj (kitem_len hx.len) (kitem_len hy.len) hx.item hy.item (by omega)
  rw [key_mk hx, key_mk hy, hi]
  congr 1 <;> omega
theorem lexLt_irr : ∀ (a b : List Int), a.length = b.length → (lexLt a b = true ∧ lexLt b a = false ∧ ¬ a = b) ∨ (lexLt a b = false ∧ lexLt b a = true ∧ ¬ a = b) ∨ (lexLt a b = false ∧ lexLt b a = false ∧ a = b)
  | [], [], _ => .inr (.inr ⟨rfl, rfl, rfl⟩)
  | a :: x, b :: y, h => by
    by_cases e : a = b
    · subst e
      have := lexLt_irr x y (by simpa using h)
      simpa [lexLt] using this
    · have e' : ¬ b = a := fun h => e h.symm
      rcases Int.lt_or_gt_of_ne e with hlt | hgt
      · exact .inl ⟨by simp [lexLt, e, hlt], by simp [lexLt, e']; omega, by simp [e]⟩
      · exact .inr (.inl ⟨by simp [lexLt, e]; omega, by simp [lexLt, e']; omega, by simp [e]⟩)
  | [], _ :: _, h => by simp at h
  | _ :: _, [], h => by simp at h
theorem keyLt_tri {x y : List Int} (hx : KeyOk x) (hy : KeyOk y) : (keyLt x y = true ∧ keyLt y x = false ∧ ¬ x = y) ∨ (keyLt x y = false ∧ keyLt y x = true ∧ ¬ x = y) ∨ (keyLt x y = false ∧ keyLt y x = false ∧ x = y) := by
  have := lexLt_irr (wordsL x) (wordsL y) rfl
  rw [words_inj hx hy] at this
  exact this
theorem from_words {x : List Int} (hk : KeyOk x) (h : keyR x = true) : rawK (headN x) (numN (kitem x)) (dotN x) = x := by
  have h0 := hk.b0; have h1 := hk.b1; have h10 := hk.b10; have h11 := hk.b11
  have hi := kitem_len hk.len
  have e1 : headN x / 65536 % 256 = kn x 0 := by unfold headN; omega
  have e2 : headN x % 65536 = kn x 1 := by unfold headN; omega
  have e3 : dotN x / 4294967296 % 256 = kn x 10 := by unfold dotN; omega
  have e4 : dotN x % 4294967296 = kn x 11 := by unfold dotN; omega
  have e5 : nmFrom (numN (kitem x)) = kitem x := by
    unfold nmFrom
    rw [nmOf_numN hi hk.item]
    split
    · rfl
    · next hn =>
      rcases keyR_cases hk h with ⟨_, hb⟩ | ⟨_, hr, _⟩
      · have : kitem x = kitem (bareK x) := by rw [← hb]
        rw [this, bareK, mk_item rfl]
      · exact absurd hr hn
  unfold rawK
  rw [e1, e2, e3, e4, e5, ← key_mk hk]
theorem from_back {x : List Int} (hk : KeyOk x) (h : keyR x = true) : fromK (headN x) (numN (kitem x)) (dotN x) = x ∧ fromKE (headN x) (numN (kitem x)) (dotN x) = 0 := by
  have e := from_words hk h
  have : fromOk (headN x) (numN (kitem x)) (dotN x) = true := from_good (by rw [e]; exact h) (by rw [e]; rfl)
  simp [fromK, fromKE, this, e]
/-! atoms -/
def val0 : List Int := (0 : Int) :: nm0
/-- a sort's value -/
def valS (s : Nat) (e : Int) (xs : List Int) : List Int × Int × List Int :=
  if s = 1 then (if (oneS e xs).2.1 = 0 then (if (oneS e xs).1 = 1 ∨ (oneS e xs).1 = 2 then ((oneS e xs).1 :: nm0, (oneS e xs).2) else (val0, 3, [])) else (val0, (oneS e xs).2)) else
  if s = 2 ∨ s = 3 then (if (numS 4294967295 e xs).2.1 = 0 then (if (numS 4294967295 e xs).1 = 0 then (val0, 3, []) else (((numS 4294967295 e xs).1 : Int) :: nm0, (numS 4294967295 e xs).2)) else (val0, (numS 4294967295 e xs).2)) else
  if s = 4 then
    (if (numS 1099511627775 e xs).2.1 = 0 then
      (if stampE (numS 1099511627775 e xs).1 = 0 then
        (if (namS (numS 1099511627775 e xs).2.1 (numS 1099511627775 e xs).2.2).2.1 = 0 then (((numS 1099511627775 e xs).1 : Int) :: (namS (numS 1099511627775 e xs).2.1 (numS 1099511627775 e xs).2.2).1, (namS (numS 1099511627775 e xs).2.1 (numS 1099511627775 e xs).2.2).2) else (val0, (namS (numS 1099511627775 e xs).2.1 (numS 1099511627775 e xs).2.2).2))
      else (val0, stampE (numS 1099511627775 e xs).1, []))
    else (val0, (numS 1099511627775 e xs).2)) else (val0, e, xs)
def atomS (e : Int) (xs : List Int) : List Int × Int × List Int :=
  if (keyS e xs).2.1 = 0 then
    (if (valS (kn (keyS e xs).1 0) (keyS e xs).2.1 (keyS e xs).2.2).2.1 = 0 then ((keyS e xs).1 ++ (valS (kn (keyS e xs).1 0) (keyS e xs).2.1 (keyS e xs).2.2).1, (valS (kn (keyS e xs).1 0) (keyS e xs).2.1 (keyS e xs).2.2).2) else (key0 ++ val0, (valS (kn (keyS e xs).1 0) (keyS e xs).2.1 (keyS e xs).2.2).2))
  else (key0 ++ val0, (keyS e xs).2)
theorem val_cut {v : List Int} (h : ValOk v) : v = (kn v 0 : Int) :: vtext v := by
  have := h.len
  match v, this with
  | x :: l, _ =>
    have := h.e0
    simp only [vtext, List.drop_succ_cons, List.drop_zero] at this ⊢
    rw [← this]; rfl
theorem valS_back {s : Nat} {v : List Int} (hv : ValOk v) (h : valR s v = true) (l : List Int) : valS s 0 (valOut s v ++ l) = (v, 0, l) := by
  have h0 := hv.b0
  have hc := val_cut hv
  have htl := vtext_len hv.len
  unfold valR at h
  unfold valS valOut
  split at h
  · next h1 =>
    simp only [Bool.and_eq_true, decide_eq_true_eq, bareV] at h
    rw [if_pos h1, if_pos h1]
    rw [List.cons_append, List.nil_append, oneS_back]
    have hm : kn v 0 % 256 = kn v 0 := by omega
    simp only [hm, if_true]
    rw [if_pos (by omega), ← h.1, ← hc]
  · next h1 =>
    rw [if_neg h1, if_neg h1]
    split at h
    · next h2 =>
      simp only [Bool.and_eq_true, decide_eq_true_eq, bareV] at h
      rw [if_pos h2, if_neg (show ¬ s = 4 by omega), numS_back h0 (show kn v 0 ≤ 4294967295 from h.2.2)]
      simp only [if_true]
      rw [if_neg (by omega), ← h.1, ← hc]
    · next h2 =>
      split at h
      · next h4 =>
        simp only [Bool.and_eq_true, Bool.or_eq_true, decide_eq_true_eq, bareV] at h
        have hs := stampE_0.1 h.1
        rw [if_neg h2, if_pos h4, if_pos h4, List.append_assoc, numS_back h0 (show kn v 0 ≤ 1099511627775 by omega)]
        simp only [if_true, h.1, namS_back htl h.2]
        rw [← hc]
      · cases h
theorem atom_cut {a : List Int} (h : AtomOk a) : a = akey a ++ aval a := (List.take_append_drop 12 a).symm
theorem akey_0 {a : List Int} (h : AtomOk a) : kn (akey a) 0 = kn a 0 := by
  simp [kn, akey, List.getD_eq_getElem?_getD]
theorem atomS_back {a : List Int} (ha : AtomOk a) (h : atomR a = true) (l : List Int) : atomS 0 (atomOut a ++ l) = (a, 0, l) := by
  have hb := h
  simp only [atomR, Bool.and_eq_true] at h
  unfold atomS
  rw [atomOut, if_pos hb, List.append_assoc, keyS_back ha.key h.1]
  simp only [if_true, akey_0 ha, valS_back ha.val h.2, ← atom_cut ha]
/-! how long -/
theorem keyOut_most {x : List Int} (h : KeyOk x) : (keyOut x).length ≤ (if kn x 0 = 4 then 4 else if kn x 0 = 1 then 19 else 14) := by
  have h1 : (vari (kn x 1)).length ≤ 3 := vari_len_le (by omega) (by have := h.b1; omega)
  have h2 : (vari (kn x 11)).length ≤ 5 := vari_len_le (by omega) (by have := h.b11; omega)
  have h3 := nmOut_len (kitem x)
  have h4 := nsz_le (kitem x)
  have h5 := kitem_len h.len
  unfold keyOut
  repeat' split
  all_goals simp
  all_goals omega
theorem atomOut_most {a : List Int} (ha : AtomOk a) : (atomOut a).length ≤ 20 := by
  unfold atomOut
  split
  · next hr =>
    simp only [atomR, Bool.and_eq_true] at hr
    have hk := keyOut_most ha.key
    have h0 := akey_0 ha
    have hv := hr.2
    have htl := vtext_len ha.val.len
    have h3 := nmOut_len (vtext (aval a))
    have h4 := nsz_le (vtext (aval a))
    rw [h0] at hk
    rw [List.length_append]
    unfold valR at hv
    unfold valOut
    split at hv
    · next h1 => rw [if_neg (by omega), if_pos h1] at hk; rw [if_pos h1]; simp; omega
    · next h1 =>
      rw [if_neg h1]
      split at hv
      · next h2 =>
        simp only [Bool.and_eq_true, decide_eq_true_eq] at hv
        have : (vari (kn (aval a) 0)).length ≤ 5 := vari_len_le (by omega) (by omega)
        rw [if_neg (by omega), if_neg h1] at hk
        rw [if_neg (by omega)]; omega
      · split at hv
        · next h4' =>
          simp only [Bool.and_eq_true, Bool.or_eq_true, decide_eq_true_eq] at hv
          have hs := stampE_0.1 hv.1
          have : (vari (kn (aval a) 0)).length ≤ 6 := vari_len_le (by omega) (by omega)
          rw [if_pos h4'] at hk
          rw [if_pos h4', List.length_append]; omega
        · cases hv
  · simp
end Go.Proofs.Ytpjpaipkkcengaa
