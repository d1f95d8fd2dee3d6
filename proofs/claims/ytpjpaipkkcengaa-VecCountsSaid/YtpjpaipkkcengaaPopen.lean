/-
  Keys and rows of numbers as arguments of a law. No program here.
-/
import Derived.Test.YtpjpaipkkcengaaVo
import Derived.Test.YtpjpaipkkcengaaPkey
namespace Go.Proofs.Ytpjpaipkkcengaa
theorem allOk_zi {w : World} : ∀ {ks : List IntKind} {cs : List Value}, AllOk w (ks.map LK.int) cs → ∃ xs : List Int, cs = zi ks xs ∧ xs.length = ks.length ∧ ∀ i k, ks[i]? = some k → (Lit.int k (xs.getD i 0)).wf = true
  | [], [], _ => ⟨[], rfl, rfl, fun i k h => by simp at h⟩
  | [], _ :: _, h => h.elim
  | k :: ks, [], h => h.elim
  | k :: ks, v :: vs, ⟨⟨n, hn, hw⟩, h⟩ => by
    obtain ⟨xs, rfl, hl, hx⟩ := allOk_zi h
    refine ⟨n :: xs, by rw [hn]; rfl, by simp [hl], fun i k' hi => ?_⟩
    rcases i with _ | i
    · simp at hi; subst hi; simpa using hw
    · simpa using hx i k' (by simpa using hi)
theorem allOk_of {w : World} : ∀ {ks : List IntKind} {xs : List Int}, xs.length = ks.length → (∀ i k, ks[i]? = some k → (Lit.int k (xs.getD i 0)).wf = true) → AllOk w (ks.map LK.int) (zi ks xs)
  | [], [], _, _ => trivial
  | [], _ :: _, h, _ => by simp at h
  | _ :: _, [], h, _ => by simp at h
  | k :: ks, x :: xs, h, hx => ⟨⟨x, rfl, by simpa using hx 0 k rfl⟩, allOk_of (by simpa using h) fun i k' hi => by simpa using hx (i + 1) k' (by simpa using hi)⟩
theorem zi_inj : ∀ {ks : List IntKind} {xs ys : List Int}, xs.length = ks.length → ys.length = ks.length → zi ks xs = zi ks ys → xs = ys
  | [], [], [], _, _, _ => rfl
  | [], _ :: _, _, h, _, _ => by simp at h
  | [], [], _ :: _, _, h, _ => by simp at h
  | _ :: _, [], _, h, _, _ => by simp at h
  | _ :: _, _ :: _, [], _, h, _ => by simp at h
  | k :: ks, x :: xs, y :: ys, h1, h2, h => by
    simp only [zi, List.zipWith_cons_cons, List.cons.injEq, Value.int.injEq, true_and] at h
    rw [h.1, zi_inj (by simpa using h1) (by simpa using h2) h.2]
theorem wf_u8 {x : Int} (h : (Lit.int .u8 x).wf = true) : x = (x.toNat : Int) ∧ x.toNat < 256 := by have := bounds_u8 h; omega
theorem wf_u16 {x : Int} (h : (Lit.int .u16 x).wf = true) : x = (x.toNat : Int) ∧ x.toNat < 65536 := by have := bounds_u16 h; omega
theorem wf_u32 {x : Int} (h : (Lit.int .u32 x).wf = true) : x = (x.toNat : Int) ∧ x.toNat < 4294967296 := by have := bounds_u32 h; omega
theorem wf_u64 {x : Int} (h : (Lit.int .u64 x).wf = true) : x = (x.toNat : Int) ∧ x.toNat < 18446744073709551616 := by have := bounds_u64 h; omega
theorem key_open {w : World} {cs : List Value} (h : AllOk w (keyKs.map LK.int) cs) : ∃ x, cs = zi keyKs x ∧ KeyOk x := by
  obtain ⟨x, rfl, hl, hx⟩ := allOk_zi h
  refine ⟨x, rfl, hl, (wf_u8 (hx 0 _ rfl)).1, (wf_u8 (hx 0 _ rfl)).2, (wf_u16 (hx 1 _ rfl)).1, (wf_u16 (hx 1 _ rfl)).2, ?_, (wf_u8 (hx 10 _ rfl)).1, (wf_u8 (hx 10 _ rfl)).2, (wf_u32 (hx 11 _ rfl)).1, (wf_u32 (hx 11 _ rfl)).2⟩
  have hl : x.length = 12 := hl
  have hb : ∀ i, 2 ≤ i → i < 10 → 0 ≤ x.getD i 0 ∧ x.getD i 0 ≤ 255 := fun i h1 h2 => by
    have : keyKs[i]? = some .u8 := by
      have : i = 2 ∨ i = 3 ∨ i = 4 ∨ i = 5 ∨ i = 6 ∨ i = 7 ∨ i = 8 ∨ i = 9 := by omega
      rcases this with rfl | rfl | rfl | rfl | rfl | rfl | rfl | rfl <;> rfl
    exact bounds_u8 (hx i _ this)
  intro y hy
  obtain ⟨j, hj, rfl⟩ := List.getElem_of_mem hy
  have hj8 : j < 8 := by rw [kitem_len hl] at hj; exact hj
  have := hb (2 + j) (by omega) (by omega)
  rw [List.getD_eq_getElem?_getD, List.getElem?_eq_getElem (by omega)] at this
  simpa [kitem] using this
theorem three_open {l : List Int} (hl : l.length = 3) (hw : ∀ x ∈ l, (Lit.int .u64 x).wf = true) : ∃ a b c : Nat, a < 18446744073709551616 ∧ b < 18446744073709551616 ∧ c < 18446744073709551616 ∧ l = [(a : Int), (b : Int), (c : Int)] := by
  match l, hl with
  | [x, y, z], _ =>
    have h1 := wf_u64 (hw x (by simp))
    have h2 := wf_u64 (hw y (by simp))
    have h3 := wf_u64 (hw z (by simp))
    exact ⟨x.toNat, y.toNat, z.toNat, h1.2, h2.2, h3.2, by rw [← h1.1, ← h2.1, ← h3.1]⟩
end Go.Proofs.Ytpjpaipkkcengaa
