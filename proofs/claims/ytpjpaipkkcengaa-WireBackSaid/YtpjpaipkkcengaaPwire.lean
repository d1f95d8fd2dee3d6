/-
  Pieces: what they are written as, and read as. No program here.
-/
import Derived.Test.YtpjpaipkkcengaaProws
import Derived.Test.YtpjpaipkkcengaaPread2
namespace Go.Proofs.Ytpjpaipkkcengaa
def pcOut (p : Pc) : List Int := if p.d = 0 then vari p.x else if p.d = 1 then [p.c] else if p.d = 2 then nmOut p.nm else vari p.b.length ++ p.b
def allOut (l : List Pc) : List Int := (l.map pcOut).flatten
def largeP (l : List Pc) : Bool := (l.take 40).any (fun p => decide (60 < p.b.length)) || decide (40 < l.length)
theorem large_no {l : List Pc} (h : largeP l = false) : l.length ≤ 40 ∧ ∀ p ∈ l, p.b.length ≤ 60 := by
  simp only [largeP, Bool.or_eq_false_iff, decide_eq_false_iff_not, List.any_eq_false, decide_eq_true_eq] at h
  refine ⟨by omega, fun p hp => ?_⟩
  have := h.1 p (by rw [List.take_of_length_le (by omega)]; exact hp)
  omega
theorem large_at {l : List Pc} {k : Nat} (hk : k < l.length) (h4 : k < 40) (h : 60 < (l.getD k pc0).b.length) : largeP l = true := by
  rw [largeP, Bool.or_eq_true]
  refine .inl (List.any_eq_true.2 ⟨l.getD k pc0, ?_, by simpa using h⟩)
  rw [List.getD_eq_getElem?_getD, List.getElem?_eq_getElem hk]
  exact List.mem_take_iff_getElem.2 ⟨k, by omega, rfl⟩
theorem large_all {l : List Pc} {k : Nat} (h : ∀ j, j < k → (l.getD j pc0).b.length ≤ 60) (hk : k = l.length ∨ k = 40) : largeP l = decide (40 < l.length) := by
  have : (l.take 40).any (fun p => decide (60 < p.b.length)) = false := by
    rw [List.any_eq_false]
    intro p hp
    obtain ⟨j, hj, rfl⟩ := List.mem_take_iff_getElem.1 hp
    have := h j (by omega)
    rw [List.getD_eq_getElem?_getD, List.getElem?_eq_getElem (by omega)] at this
    simpa using this
  rw [largeP, this, Bool.false_or]
theorem pcOut_len {p : Pc} (hx : p.x < 18446744073709551616) (hn : p.nm.length = 8) (hb : p.b.length ≤ 60) : (pcOut p).length ≤ 70 := by
  have h1 := vari_len10 hx
  have h2 := vari_len10 (x := p.b.length) (by omega)
  have h3 := nmOut_len p.nm
  have h4 := nsz_le p.nm
  unfold pcOut
  repeat' split
  all_goals simp
  all_goals omega
theorem pcOut_byt {w : World} {p : Pc} (h : PcOk w p) : Byt (pcOut p) := by
  unfold pcOut
  have h4 := nsz_le p.nm
  have hnl := h.nl
  repeat' split
  · exact vari_byt _
  · intro y hy; simp at hy; subst hy; exact h.c
  · intro y hy
    rcases List.mem_cons.1 hy with rfl | hy
    · omega
    · exact nmTxt_byt h.nb y hy
  · exact Byt.app (vari_byt _) h.bb
theorem allOut_take {l : List Pc} {k : Nat} (h : k < l.length) : allOut (l.take (k + 1)) = allOut (l.take k) ++ pcOut (l.getD k pc0) := by
  have : l.take (k + 1) = l.take k ++ [l.getD k pc0] := by
    rw [List.take_add_one, List.getD_eq_getElem?_getD]
    simp [List.getElem?_eq_getElem h]
  simp [allOut, this]
theorem getD_mem {l : List Pc} {k : Nat} (h : k < l.length) : l.getD k pc0 ∈ l := by
  rw [List.getD_eq_getElem?_getD, List.getElem?_eq_getElem h]; simp
theorem allOut_len {w : World} {l : List Pc} (h : ∀ p ∈ l, PcOk w p) (hb : ∀ p ∈ l, p.b.length ≤ 60) : (allOut l).length ≤ 70 * l.length := by
  induction l with
  | nil => simp [allOut]
  | cons p l ih =>
    have h1 := pcOut_len (h p (by simp)).x (h p (by simp)).nl (hb p (by simp))
    have h2 := ih (fun q hq => h q (by simp [hq])) (fun q hq => hb q (by simp [hq]))
    simp [allOut] at h2 ⊢; omega
/-- the cells of a piece -/
abbrev pA (d : Int) (x : Nat) (c : Int) (nm : List Int) (B : Option Addr) (m k : Nat) (n : Int) : Array Value := #[.int .i64 d, .int .u64 (x : Int), .int .u8 c, .int .u8 (nm.getD 0 0), .int .u8 (nm.getD 1 0), .int .u8 (nm.getD 2 0), .int .u8 (nm.getD 3 0), .int .u8 (nm.getD 4 0), .int .u8 (nm.getD 5 0), .int .u8 (nm.getD 6 0), .int .u8 (nm.getD 7 0), .slice B m k, .int .i64 n]
abbrev pP (p : Pc) : Array Value := pA p.d p.x p.c p.nm p.A p.b.length p.cap p.n
/-- read as it was written -/
theorem rdS_back {w : World} {p : Pc} (h : PcOk w p) (hb : p.b.length ≤ 60) (hn : p.d = 2 → p.nm = nm0 ∨ nright p.nm = true) (l : List Int) :
    (rdS p.d p.x (p.b.length : Int) 0 (pcOut p ++ l)).2 = (0, l) ∧ (p.d = 0 → (rdS p.d p.x (p.b.length : Int) 0 (pcOut p ++ l)).1.1 = p.x) ∧ (p.d = 1 → (rdS p.d p.x (p.b.length : Int) 0 (pcOut p ++ l)).1.2.1 = p.c) ∧
    (p.d = 2 → (rdS p.d p.x (p.b.length : Int) 0 (pcOut p ++ l)).1.2.2.1 = p.nm) ∧ (¬ p.d = 0 → ¬ p.d = 1 → ¬ p.d = 2 → (rdS p.d p.x (p.b.length : Int) 0 (pcOut p ++ l)).1.2.2.2 = p.b) := by
  unfold rdS pcOut
  by_cases h0 : p.d = 0
  · have := numS_back h.x (Nat.le_refl _) l
    simp [h0, this]
  · by_cases h1 : p.d = 1
    · have := oneS_back p.c l
      simp [h1, this]
    · by_cases h2 : p.d = 2
      · have := namS_back h.nl (hn h2) l
        simp [h2, this]
      · have := bytS_back (ys := p.b) (m := p.b.length) (by omega) (Nat.le_refl _) l
        simp [h0, h1, h2, this]
theorem rdS_byt {w : World} {p : Pc} (_h : PcOk w p) {e : Int} {xs : List Int} (hw : Byt xs) (n : Int) : Byt (rdS p.d p.x n e xs).2.2 := by
  unfold rdS
  repeat' split
  · exact numS_byt hw
  · exact oneS_byt hw
  · exact namS_byt' hw
  · exact bytS_byt' hw
theorem rdS_len (p : Pc) (e : Int) (xs : List Int) (n : Int) : (rdS p.d p.x n e xs).2.2.length ≤ xs.length := by
  unfold rdS
  repeat' split
  · exact numS_len _ _ _
  · exact oneS_len _ _
  · exact namS_len' _ _
  · exact bytS_len' _ _ _
end Go.Proofs.Ytpjpaipkkcengaa
