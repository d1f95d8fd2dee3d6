/-
  The plain words of a small separation logic over the walk: what a call owns, what it may read, and how steps on the heap keep it. No program here.
-/
import Derived.WalkKit
import Derived.WalkSpells
import Derived.WalkLawsBesides
import Derived.Shelf.Abstract
namespace Go.Proofs.Ytpjpaipkkcengaa
open Go.RowKit

/-- The blocks outside S are as they were. -/
structure Keep (S : Nat → Prop) (w w' : World) : Prop where
  os : w'.os = w.os
  tape : w'.tape = w.tape
  output : w'.output = w.output
  size : w.heap.size ≤ w'.heap.size
  block : ∀ k, k < w.heap.size → ¬ S k → w'.heap[k]? = w.heap[k]?

def NoB : Nat → Prop := fun _ => False
abbrev Ext (w w' : World) : Prop := Keep NoB w w'

theorem Keep.refl (S : Nat → Prop) (w : World) : Keep S w w := ⟨rfl, rfl, rfl, Nat.le_refl _, fun _ _ _ => rfl⟩
theorem Ext.rfl' {w : World} : Ext w w := Keep.refl _ w
theorem Keep.trans {S : Nat → Prop} {a b c : World} (h : Keep S a b) (k : Keep S b c) : Keep S a c :=
  ⟨k.os.trans h.os, k.tape.trans h.tape, k.output.trans h.output, Nat.le_trans h.size k.size, fun i hi hs => (k.block i (Nat.lt_of_lt_of_le hi h.size) hs).trans (h.block i hi hs)⟩
theorem Keep.mono {S T : Nat → Prop} {a b : World} (h : Keep S a b) (hs : ∀ k, k < a.heap.size → S k → T k) : Keep T a b :=
  ⟨h.os, h.tape, h.output, h.size, fun i hi ht => h.block i hi fun hx => ht (hs i hi hx)⟩
theorem Keep.comp {S T : Nat → Prop} {a b c : World} (h : Keep S a b) (k : Keep T b c) (hs : ∀ k, k < a.heap.size → T k → S k) : Keep S a c :=
  ⟨k.os.trans h.os, k.tape.trans h.tape, k.output.trans h.output, Nat.le_trans h.size k.size, fun i hi hS => (k.block i (Nat.lt_of_lt_of_le hi h.size) (fun ht => hS (hs i hi ht))).trans (h.block i hi hS)⟩
theorem Ext.keep {S : Nat → Prop} {a b : World} (h : Ext a b) : Keep S a b := h.mono fun _ _ f => f.elim
theorem Ext.below {a b : World} (h : Ext a b) : Below a.heap.size a b := ⟨h.os, h.tape, h.output, h.size, fun k hk => h.block k hk (fun f => f)⟩
theorem Ext.of_below {a b : World} (h : Below a.heap.size a b) : Ext a b := ⟨h.os, h.tape, h.output, h.size, fun k hk _ => h.block k hk⟩
theorem Ext.cell {a b : World} (h : Ext a b) {p : Addr} {v : Value} (hc : a.cell? p = some v) : b.cell? p = some v :=
  (World.cell?_of_block (h.block _ (World.block_lt_of_cell? a p hc) (fun f => f))).trans hc
theorem Ext.drew (w : World) : Ext w w.drew := ⟨rfl, rfl, rfl, Nat.le_refl _, fun _ _ _ => rfl⟩
theorem Ext.drewN (w : World) (n : Nat) : Ext w (w.drewN n) := ⟨rfl, rfl, rfl, Nat.le_refl _, fun _ _ _ => rfl⟩
theorem Ext.alloc (w : World) (o : Obj) : Ext w (w.alloc o) := ⟨rfl, rfl, rfl, by simp, fun k hk _ => Below.heap_alloc w o k hk⟩

inductive Res where
  | obj (g : Nat) (o : Obj)
  | vec (A : Option Addr) (c : Nat) (e : TypeId) (sz n : Nat) (xs : List Value)
  | rd (A : Option Addr) (sz n : Nat) (xs : List Value)

/-- Cells that may be read at a slice's address. -/
def Rd (w : World) (A : Option Addr) (sz n : Nat) (xs : List Value) : Prop :=
  xs.length = n * sz ∧ (0 < n → ∃ g o, A = some ⟨g, o, none⟩ ∧ g < w.heap.size ∧ ∀ j u, xs[j]? = some u → w.cell? ⟨g, o + j, none⟩ = some u)

def Res.holds (w : World) : Res → Prop
  | .obj g o => w.heap[g]? = some o
  | .vec A c e sz n xs => w.ownsRow 0 e sz (.slice A n c) n xs
  | .rd A sz n xs => Rd w A sz n xs

def Res.own : Res → Option Nat
  | .obj g _ => some g
  | .vec A _ _ _ _ _ => A.map (·.block)
  | .rd _ _ _ _ => none
def Res.reads : Res → Option Nat
  | .rd A _ n _ => if n = 0 then none else A.map (·.block)
  | _ => none

def Res.compat (r s : Res) : Prop := ∀ g, (r.own = some g → s.own ≠ some g ∧ s.reads ≠ some g) ∧ (s.own = some g → r.own ≠ some g ∧ r.reads ≠ some g)
theorem Res.compat.symm {r s : Res} (h : r.compat s) : s.compat r := fun g => ⟨(h g).2, (h g).1⟩

structure St (S : Nat → Prop) (w0 w : World) (L : List Res) : Prop where
  keep : Keep S w0 w
  holds : ∀ r ∈ L, r.holds w
  own : ∀ r ∈ L, ∀ g, r.own = some g → S g ∨ w0.heap.size ≤ g
  apart : L.Pairwise Res.compat

theorem own_lt {r : Res} {w : World} (h : r.holds w) {g : Nat} (hg : r.own = some g) : g < w.heap.size := by
  cases r with
  | obj b o =>
    simp only [Res.own, Option.some.injEq] at hg
    subst hg
    exact (Array.getElem?_eq_some_iff.1 h).1
  | vec A c e sz n xs =>
    refine (World.ownsRow.lt h g ?_).2
    cases A <;> simp_all [Res.own, Value.ownBlock]
  | rd A sz n xs => simp [Res.own] at hg

theorem reads_lt {r : Res} {w : World} (h : r.holds w) {g : Nat} (hg : r.reads = some g) : g < w.heap.size := by
  cases r with
  | obj b o => simp [Res.reads] at hg
  | vec A c e sz n xs => simp [Res.reads] at hg
  | rd A sz n xs =>
    simp only [Res.reads] at hg
    split at hg
    · cases hg
    · obtain ⟨_, h2⟩ := h
      obtain ⟨b, o, rfl, hlt, _⟩ := h2 (by omega)
      simp at hg
      omega

theorem Rd.of_blocks {w w' : World} {A : Option Addr} {sz n : Nat} {xs : List Value} (h : Rd w A sz n xs) (hsz : w.heap.size ≤ w'.heap.size) (hb : ∀ g, (Res.rd A sz n xs).reads = some g → w'.heap[g]? = w.heap[g]?) : Rd w' A sz n xs := by
  refine ⟨h.1, fun hn => ?_⟩
  obtain ⟨g, o, rfl, hlt, hc⟩ := h.2 hn
  refine ⟨g, o, rfl, by omega, fun j u hu => ?_⟩
  have he := hb g (by simp [Res.reads, Nat.ne_of_gt hn])
  exact (World.cell?_of_block (a := ⟨g, o + j, none⟩) he).trans (hc j u hu)

theorem vec_of_blocks {w w' : World} {A : Option Addr} {c : Nat} {e : TypeId} {sz n : Nat} {xs : List Value} (h : w.ownsRow 0 e sz (.slice A n c) n xs) (hb : ∀ g, (Res.vec A c e sz n xs).own = some g → w'.heap[g]? = w.heap[g]?) : w'.ownsRow 0 e sz (.slice A n c) n xs := by
  refine ⟨h.1, ?_⟩
  rcases h.2 with h2 | ⟨g, cap, cur, hv, h0, hg, h3⟩
  · exact .inl h2
  · refine .inr ⟨g, cap, cur, hv, h0, ?_, h3⟩
    simp only [Value.slice.injEq] at hv
    rw [hb g (by simp [Res.own, hv.1])]
    exact hg

/-- A resource holds in whatever world has its blocks unturned. -/
theorem Res.holds_of {r : Res} {w w' : World} (h : r.holds w) (hsz : w.heap.size ≤ w'.heap.size) (ho : ∀ g, r.own = some g → w'.heap[g]? = w.heap[g]?) (hr : ∀ g, r.reads = some g → w'.heap[g]? = w.heap[g]?) : r.holds w' := by
  cases r with
  | obj g o => exact (ho g rfl).trans h
  | vec A c e sz n xs => exact vec_of_blocks h ho
  | rd A sz n xs => exact Rd.of_blocks h hsz hr

theorem Res.holds_ext {r : Res} {w w' : World} (h : r.holds w) (hE : Ext w w') : r.holds w' :=
  r.holds_of h hE.size (fun g hg => hE.block g (own_lt h hg) (fun f => f)) (fun g hg => hE.block g (reads_lt h hg) (fun f => f))

section
variable {S : Nat → Prop} {w0 w w' : World} {L L' : List Res} {r r' : Res}

theorem St.start {S : Nat → Prop} (w : World) : St S w w [] := ⟨Keep.refl _ _, by simp, by simp, .nil⟩

theorem St.ext (h : St S w0 w L) (hE : Ext w w') : St S w0 w' L :=
  ⟨h.keep.trans hE.keep, fun r hr => Res.holds_ext (h.holds r hr) hE, h.own, h.apart⟩

/-- Something that may be read is laid beside. It lies in no owned block. -/
theorem St.add_rd {A : Option Addr} {sz n : Nat} {xs : List Value} (h : St S w0 w L) (hr : Rd w A sz n xs) (hf : ∀ r ∈ L, ∀ g, r.own = some g → (Res.rd A sz n xs).reads ≠ some g) : St S w0 w (.rd A sz n xs :: L) := by
  refine ⟨h.keep, ?_, ?_, ?_⟩
  · intro r hr'
    rcases List.mem_cons.1 hr' with rfl | hr'
    · exact hr
    · exact h.holds r hr'
  · intro r hr' g hg
    rcases List.mem_cons.1 hr' with rfl | hr'
    · simp [Res.own] at hg
    · exact h.own r hr' g hg
  · refine List.pairwise_cons.2 ⟨fun s hs g => ⟨fun hg => by simp [Res.own] at hg, fun hg => ⟨by simp [Res.own], hf s hs g hg⟩⟩, h.apart⟩

/-- Something new, owned or to be read, whose blocks lie beyond all that was. -/
theorem St.add (h : St S w0 w L) (hE : Ext w w') (hr : r.holds w') (hf : ∀ g, r.own = some g ∨ r.reads = some g → w.heap.size ≤ g) : St S w0 w' (r :: L) := by
  have h' := h.ext hE
  refine ⟨h'.keep, ?_, ?_, ?_⟩
  · intro s hs
    rcases List.mem_cons.1 hs with rfl | hs
    · exact hr
    · exact h'.holds s hs
  · intro s hs g hg
    rcases List.mem_cons.1 hs with rfl | hs
    · exact .inr (Nat.le_trans h.keep.size (hf g (.inl hg)))
    · exact h'.own s hs g hg
  · refine List.pairwise_cons.2 ⟨fun s hs g => ⟨fun hg => ?_, fun hg => ?_⟩, h'.apart⟩
    · have h1 := hf g (.inl hg)
      exact ⟨fun e => by have := own_lt (h.holds s hs) e; omega, fun e => by have := reads_lt (h.holds s hs) e; omega⟩
    · have h1 := own_lt (h.holds s hs) hg
      exact ⟨fun e => by have := hf g (.inl e); omega, fun e => by have := hf g (.inr e); omega⟩

theorem St.alloc (h : St S w0 w L) (o : Obj) : St S w0 (w.alloc o) (.obj w.heap.size o :: L) :=
  h.add (Ext.alloc w o) (heap_alloc_new w o) (by
    intro g hg
    rcases hg with hg | hg
    · simp [Res.own] at hg; omega
    · simp [Res.reads] at hg)

/-- r stands in L; with r' in its place the list is L'. -/
inductive Upd : List Res → Res → Res → List Res → Prop
  | head {r r' : Res} {L : List Res} : Upd (r :: L) r r' (r' :: L)
  | tail {s r r' : Res} {L L' : List Res} : Upd L r r' L' → Upd (s :: L) r r' (s :: L')

theorem Upd.mem (h : Upd L r r' L') : r ∈ L := by
  induction h with
  | head => simp
  | tail _ ih => simp [ih]
theorem Upd.mem' (h : Upd L r r' L') : ∀ s ∈ L', s = r' ∨ s ∈ L := by
  induction h with
  | head => intro s hs; rcases List.mem_cons.1 hs with rfl | hs <;> simp_all
  | tail _ ih => intro s hs; rcases List.mem_cons.1 hs with rfl | hs
                 · simp
                 · rcases ih s hs with h | h <;> simp [h]

theorem Upd.pairwise (h : Upd L r r' L') (hp : L.Pairwise Res.compat) (hc : ∀ s ∈ L, r.compat s → r'.compat s) : L'.Pairwise Res.compat := by
  induction h with
  | head =>
    obtain ⟨h1, h2⟩ := List.pairwise_cons.1 hp
    exact List.pairwise_cons.2 ⟨fun s hs => hc s (by simp [hs]) (h1 s hs), h2⟩
  | tail hu ih =>
    obtain ⟨h1, h2⟩ := List.pairwise_cons.1 hp
    refine List.pairwise_cons.2 ⟨fun s hs => ?_, ih h2 (fun s hs => hc s (by simp [hs]))⟩
    rcases hu.mem' s hs with rfl | hs
    · exact (hc _ (by simp) (h1 _ hu.mem).symm).symm
    · exact h1 s hs

/-- of a resource that stands in a pairwise list: what is not it is compatible with it, or it is at its very place -/
theorem Upd.others (h : Upd L r r' L') (hp : L.Pairwise Res.compat) : ∀ s ∈ L', s = r' ∨ r.compat s := by
  induction h with
  | head =>
    obtain ⟨h1, _⟩ := List.pairwise_cons.1 hp
    intro s hs
    rcases List.mem_cons.1 hs with rfl | hs
    · exact .inl rfl
    · exact .inr (h1 s hs)
  | tail hu ih =>
    obtain ⟨h1, h2⟩ := List.pairwise_cons.1 hp
    intro s hs
    rcases List.mem_cons.1 hs with rfl | hs
    · exact .inr (h1 _ hu.mem).symm
    · exact ih h2 s hs

/-- One resource turns: the world changes in its own block alone (or new blocks are laid). -/
theorem St.turn (h : St S w0 w L) (hu : Upd L r r' L') (hk : Keep (fun k => r.own = some k) w w') (hr : r'.holds w')
    (ho : ∀ g, r'.own = some g → r.own = some g ∨ w.heap.size ≤ g) (hn : ∀ g, r'.reads = some g → r.own = some g ∨ r.reads = some g ∨ w.heap.size ≤ g) : St S w0 w' L' := by
  have hmem := hu.mem
  have hS : ∀ k, r.own = some k → S k ∨ w0.heap.size ≤ k := h.own r hmem
  refine ⟨?_, ?_, ?_, ?_⟩
  · exact h.keep.comp hk (fun k hk0 hk1 => by rcases hS k hk1 with h1 | h1; exact h1; omega)
  · intro s hs
    rcases hu.others h.apart s hs with rfl | hc
    · exact hr
    · have hs' : s ∈ L ∨ s = r' := (hu.mem' s hs).symm
      rcases hs' with hs' | rfl
      · refine s.holds_of (h.holds s hs') hk.size (fun g hg => hk.block g (own_lt (h.holds s hs') hg) (fun e => ((hc g).1 e).1 hg)) (fun g hg => hk.block g (reads_lt (h.holds s hs') hg) (fun e => ((hc g).1 e).2 hg))
      · exact hr
  · intro s hs g hg
    rcases hu.mem' s hs with rfl | hs
    · rcases ho g hg with h1 | h1
      · exact hS g h1
      · exact .inr (Nat.le_trans h.keep.size h1)
    · exact h.own s hs g hg
  · refine hu.pairwise h.apart fun s hs hc g => ?_
    have hs := h.holds s hs
    refine ⟨fun hg => ?_, fun hg => ?_⟩
    · rcases ho g hg with h1 | h1
      · exact (hc g).1 h1
      · exact ⟨fun e => by have := own_lt hs e; omega, fun e => by have := reads_lt hs e; omega⟩
    · refine ⟨fun e => ?_, fun e => ?_⟩
      · rcases ho g e with h1 | h1
        · exact ((hc g).1 h1).1 hg
        · have := own_lt hs hg; omega
      · rcases hn g e with h1 | h1 | h1
        · exact ((hc g).1 h1).1 hg
        · exact ((hc g).2 hg).2 h1
        · have := own_lt hs hg; omega

/-- A resource is taken for another one that says less of the same blocks. -/
theorem St.weaken (h : St S w0 w L) (hu : Upd L r r' L') (hr : r'.holds w) (ho : ∀ g, r'.own = some g → r.own = some g) (hn : ∀ g, r'.reads = some g → r.own = some g ∨ r.reads = some g) : St S w0 w L' :=
  h.turn hu (Keep.refl _ _) hr (fun g hg => .inl (ho g hg)) (fun g hg => by rcases hn g hg with h1 | h1; exact .inl h1; exact .inr (.inl h1))

/-- r stands in L; behind it L' is left. -/
inductive Del : List Res → Res → List Res → Prop
  | head {r : Res} {L : List Res} : Del (r :: L) r L
  | tail {s r : Res} {L L' : List Res} : Del L r L' → Del (s :: L) r (s :: L')

theorem Del.perm {L L' : List Res} {r : Res} (h : Del L r L') : L.Perm (r :: L') := by
  induction h with
  | head => exact .refl _
  | tail _ ih => exact (ih.cons _).trans (.swap _ _ _)

theorem St.perm (h : St S w0 w L) (hp : L.Perm L') : St S w0 w L' :=
  ⟨h.keep, fun r hr => h.holds r (hp.mem_iff.2 hr), fun r hr => h.own r (hp.mem_iff.2 hr), (hp.pairwise_iff (fun h => h.symm)).1 h.apart⟩
theorem St.drop (h : St S w0 w (r :: L)) : St S w0 w L :=
  ⟨h.keep, fun s hs => h.holds s (by simp [hs]), fun s hs => h.own s (by simp [hs]), (List.pairwise_cons.1 h.apart).2⟩

/-- L' is chosen out of L, in any order. -/
inductive Sel : List Res → List Res → Prop
  | nil {L : List Res} : Sel [] L
  | cons {r : Res} {L L1 L' : List Res} : Del L r L1 → Sel L' L1 → Sel (r :: L') L

theorem Sel.sub {L L' : List Res} (h : Sel L' L) : ∃ M, L.Perm (L' ++ M) := by
  induction h with
  | nil => exact ⟨_, .refl _⟩
  | cons hd _ ih =>
    obtain ⟨M, hM⟩ := ih
    exact ⟨M, hd.perm.trans (hM.cons _)⟩

theorem St.left {L M : List Res} (h : St S w0 w (L ++ M)) : St S w0 w L :=
  ⟨h.keep, fun s hs => h.holds s (by simp [hs]), fun s hs => h.own s (by simp [hs]), (List.pairwise_append.1 h.apart).1⟩
theorem St.sel (h : St S w0 w L) (hs : Sel L' L) : St S w0 w L' := by
  obtain ⟨M, hM⟩ := hs.sub
  exact (h.perm hM).left

/-- A resource that stands there. -/
inductive Has : List Res → Res → Prop
  | head {r : Res} {L : List Res} : Has (r :: L) r
  | tail {s r : Res} {L : List Res} : Has L r → Has (s :: L) r
theorem Has.mem {L : List Res} {r : Res} (h : Has L r) : r ∈ L := by
  induction h with
  | head => simp
  | tail _ ih => simp [ih]
theorem St.has (h : St S w0 w L) (hr : Has L r) : r.holds w := h.holds r hr.mem

theorem St.ext_of (h : St NoB w0 w L) : Ext w0 w := h.keep
end
end Go.Proofs.Ytpjpaipkkcengaa
