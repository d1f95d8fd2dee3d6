/-
  Atoms and values as arguments of a law. No program here.
-/
import Derived.Test.YtpjpaipkkcengaaPopen
import Derived.Test.YtpjpaipkkcengaaPatom
namespace Go.Proofs.Ytpjpaipkkcengaa
theorem val_open {w : World} {cs : List Value} (h : AllOk w (valKs.map LK.int) cs) : ∃ v, cs = zi valKs v ∧ ValOk v := by
  obtain ⟨x, rfl, hl, hx⟩ := allOk_zi h
  have hl : x.length = 9 := hl
  refine ⟨x, rfl, hl, (wf_u64 (hx 0 _ rfl)).1, (wf_u64 (hx 0 _ rfl)).2, ?_⟩
  have hb : ∀ i, 1 ≤ i → i < 9 → 0 ≤ x.getD i 0 ∧ x.getD i 0 ≤ 255 := fun i h1 h2 => by
    have : valKs[i]? = some .u8 := by
      have : i = 1 ∨ i = 2 ∨ i = 3 ∨ i = 4 ∨ i = 5 ∨ i = 6 ∨ i = 7 ∨ i = 8 := by omega
      rcases this with rfl | rfl | rfl | rfl | rfl | rfl | rfl | rfl <;> rfl
    exact bounds_u8 (hx i _ this)
  intro y hy
  obtain ⟨j, hj, rfl⟩ := List.getElem_of_mem hy
  have hj8 : j < 8 := by rw [vtext_len hl] at hj; exact hj
  have := hb (1 + j) (by omega) (by omega)
  rw [List.getD_eq_getElem?_getD, List.getElem?_eq_getElem (by omega)] at this
  simpa [vtext, Nat.add_comm] using this
theorem atom_open {w : World} {cs : List Value} (h : AllOk w (atomKs.map LK.int) cs) : ∃ a, cs = zi atomKs a ∧ AtomOk a := by
  obtain ⟨x, rfl, hl, hx⟩ := allOk_zi h
  have hl : x.length = 21 := hl
  have hk : AllOk w (keyKs.map LK.int) (zi keyKs (akey x)) := allOk_of (by simp [akey, hl]) fun i k hi => by
    have h12 : i < 12 := (List.getElem?_eq_some_iff.1 hi).1
    have e : (akey x).getD i 0 = x.getD i 0 := by simp [akey, List.getD_eq_getElem?_getD, List.getElem?_take_of_lt h12]
    rw [e]
    refine hx i k ?_
    have : atomKs = keyKs ++ valKs := rfl
    rw [this, List.getElem?_append_left h12]; exact hi
  have hv : AllOk w (valKs.map LK.int) (zi valKs (aval x)) := allOk_of (by simp [aval, hl]) fun i k hi => by
    have h9 : i < 9 := (List.getElem?_eq_some_iff.1 hi).1
    have e : (aval x).getD i 0 = x.getD (12 + i) 0 := by simp [aval, List.getD_eq_getElem?_getD]
    rw [e]
    refine hx (12 + i) k ?_
    have : atomKs = keyKs ++ valKs := rfl
    rw [this, List.getElem?_append_right (by simp)]; simpa using hi
  obtain ⟨k, ek, hk'⟩ := key_open hk
  obtain ⟨v, ev, hv'⟩ := val_open hv
  have ek' : akey x = k := zi_inj (ks := keyKs) (by simp [akey, hl]) hk'.len ek
  have ev' : aval x = v := zi_inj (ks := valKs) (by simp [aval, hl]) hv'.len ev
  exact ⟨x, rfl, hl, by rw [ek']; exact hk', by rw [ev']; exact hv'⟩
end Go.Proofs.Ytpjpaipkkcengaa
