/-
  What is handed to a call that turns it, and comes back turned, beside what the call never sees. No program here.
-/
import Derived.Test.YtpjpaipkkcengaaVi
namespace Go.Proofs.Ytpjpaipkkcengaa
open Go.RowKit
/-- the blocks of a row of resources -/
def OwnB (M : List Res) : Nat → Prop := fun g => ∃ r ∈ M, r.own = some g
/-- M is chosen out of L; R is left. -/
inductive Spl : List Res → List Res → List Res → Prop
  | nil {L : List Res} : Spl [] L L
  | cons {r : Res} {L L1 M R : List Res} : Del L r L1 → Spl M L1 R → Spl (r :: M) L R
theorem Spl.perm {M L R : List Res} (h : Spl M L R) : L.Perm (M ++ R) := by
  induction h with
  | nil => exact List.Perm.refl _
  | cons hd _ ih => exact hd.perm.trans (List.Perm.cons _ ih)
section
variable {S : Nat → Prop} {w0 w w' : World} {L M M' R : List Res}
theorem St.owns (h : St S w0 w L) (hs : Spl M L R) : St (OwnB M) w w M := by
  have h := h.perm hs.perm
  refine ⟨Keep.refl _ _, fun r hr => h.holds r (List.mem_append_left _ hr), fun r hr g hg => .inl ⟨r, hr, hg⟩, (List.pairwise_append.1 h.apart).1⟩
theorem St.frame (h : St S w0 w L) (hs : Spl M L R) (k : St (OwnB M) w w' M') (hr : ∀ r ∈ M', ∀ g, r.reads = some g → w.heap.size ≤ g ∨ ∃ s ∈ M, s.own = some g ∨ s.reads = some g) : St S w0 w' (M' ++ R) := by
  have h := h.perm hs.perm
  obtain ⟨_, hR, hMR⟩ := List.pairwise_append.1 h.apart
  have out : ∀ s ∈ R, ∀ g, s.own = some g ∨ s.reads = some g → w'.heap[g]? = w.heap[g]? := fun s hs' g hg => by
    have hw := h.holds s (List.mem_append_right _ hs')
    have hlt : g < w.heap.size := by rcases hg with hg | hg; exact own_lt hw hg; exact reads_lt hw hg
    refine k.keep.block g hlt ?_
    rintro ⟨r, hr', ho⟩
    have := (hMR r hr' s hs' g).1 ho
    rcases hg with hg | hg
    · exact this.1 hg
    · exact this.2 hg
  refine ⟨h.keep.comp k.keep ?_, ?_, ?_, ?_⟩
  · rintro g hg ⟨r, hr', ho⟩
    rcases h.own r (List.mem_append_left _ hr') g ho with h1 | h1
    · exact h1
    · omega
  · intro r hr'
    rcases List.mem_append.1 hr' with hm | hm
    · exact k.holds r hm
    · exact Res.holds_of (h.holds r (List.mem_append_right _ hm)) k.keep.size (fun g hg => out r hm g (.inl hg)) (fun g hg => out r hm g (.inr hg))
  · intro r hr' g hg
    rcases List.mem_append.1 hr' with hm | hm
    · rcases k.own r hm g hg with ⟨s, hs', ho⟩ | h1
      · exact h.own s (List.mem_append_left _ hs') g ho
      · have := h.keep.size; exact .inr (by omega)
    · exact h.own r (List.mem_append_right _ hm) g hg
  · refine List.pairwise_append.2 ⟨k.apart, hR, fun r hr' s hs' g => ?_⟩
    have hsw := h.holds s (List.mem_append_right _ hs')
    refine ⟨fun ho => ?_, fun ho => ?_⟩
    · rcases k.own r hr' g ho with ⟨q, hq, hoq⟩ | h1
      · exact (hMR q hq s hs' g).1 hoq
      · exact ⟨fun e => by have := own_lt hsw e; omega, fun e => by have := reads_lt hsw e; omega⟩
    · have hlt := own_lt hsw ho
      refine ⟨fun e => ?_, fun e => ?_⟩
      · rcases k.own r hr' g e with ⟨q, hq, hoq⟩ | h1
        · exact ((hMR q hq s hs' g).2 ho).1 hoq
        · omega
      · rcases hr r hr' g e with h1 | ⟨q, hq, hoq | hoq⟩
        · omega
        · exact ((hMR q hq s hs' g).2 ho).1 hoq
        · exact ((hMR q hq s hs' g).2 ho).2 hoq
/-- what lay there from the first is looked at -/
theorem St.rd_old {A : Option Addr} {sz n : Nat} {xs : List Value} (h : St NoB w0 w L) (hr : Rd w0 A sz n xs) : St NoB w0 w (.rd A sz n xs :: L) :=
  h.add_rd (Res.holds_ext (r := .rd A sz n xs) hr h.ext_of) (fun r hm g ho e => by
    have h1 := reads_lt (r := .rd A sz n xs) (w := w0) hr e
    rcases h.own r hm g ho with h2 | h2
    · exact h2.elim
    · omega)
theorem Spl.mem {r : Res} {M : List Res} (h : Spl M L R) (hr : r ∈ M) : r ∈ L := (h.perm.mem_iff).2 (List.mem_append_left _ hr)
/-- what is read is looked at once more -/
theorem St.rd_dup {A : Option Addr} {sz n : Nat} {xs : List Value} (h : St S w0 w L) (hm : Has L (.rd A sz n xs)) : St S w0 w (.rd A sz n xs :: L) :=
  h.add_rd_of hm (h.hasRd hm) (fun h0 => ⟨h0, rfl⟩)
end
end Go.Proofs.Ytpjpaipkkcengaa
