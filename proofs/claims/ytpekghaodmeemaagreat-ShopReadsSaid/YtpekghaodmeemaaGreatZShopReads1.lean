/- Rules, plain words and walks that the claim leans on: Va, Vb, Vc, Vd, Ve, Vf, Vq, Vm, Vg, Vh, Vi, Vn, Vk, Vw, Ta, Ppack, Vs, Cb, Pname, Cn. -/
import Derived.WalkKit
import Derived.WalkSpells
import Derived.WalkLawsBesides
import Derived.Shelf.Abstract
import Derived.Maps.AppendAt
import Derived.Deep.Quiet
import Derived.Lib.ConvBytes
import Derived.Lib.BitFns
import Derived.WideShapes
import Derived.Lib.ItoaNum
import Derived.WalkMore
import Derived.Scope
import Derived.Test.YtpekghaodmeemaaGreatRows
import Derived.Shelf.SlSortCmp.NoneTotal
import Derived.Shelf.Small.Bits
import Derived.Shelf.Strconv.Itoa0
import Derived.Lib.AppendStr
import Derived.RangeFuncRecord
import Derived.RangeFuncIn
import Derived.RangeFuncCalls
import Derived.OrdersIn
import Derived.ProofKit
import Derived.Carry
import Derived.SizedLaws
import Derived.OpenShut
import Derived.Laws.IdiomRangeMap
import Derived.Recover
import Derived.JoinedOf
set_option linter.unusedSimpArgs false
set_option linter.unusedVariables false
namespace Go.Proofs.YtpekghaodmeemaaGreat
open Go.RowKit
/-- The blocks outside S are as they were. -/
structure Keep (S : Nat → Prop) (w w' : World) : Prop where
  os : w'.os = w.os
  tape : w'.tape = w.tape
  output : w'.output = w.output
  size : w.heap.size ≤ w'.heap.size
  block : ∀ k, k < w.heap.size → ¬ S k → w'.heap[k]? = w.heap[k]?
  drawn : w.drawn ≤ w'.drawn
def NoB : Nat → Prop := fun _ => False
abbrev Ext (w w' : World) : Prop := Keep NoB w w'
theorem Keep.refl (S : Nat → Prop) (w : World) : Keep S w w := ⟨rfl, rfl, rfl, Nat.le_refl _, fun _ _ _ => rfl, Nat.le_refl _⟩
theorem Ext.rfl' {w : World} : Ext w w := Keep.refl _ w
theorem Keep.trans {S : Nat → Prop} {a b c : World} (h : Keep S a b) (k : Keep S b c) : Keep S a c :=
  ⟨k.os.trans h.os, k.tape.trans h.tape, k.output.trans h.output, Nat.le_trans h.size k.size, fun i hi hs => (k.block i (Nat.lt_of_lt_of_le hi h.size) hs).trans (h.block i hi hs), Nat.le_trans h.drawn k.drawn⟩
theorem Keep.mono {S T : Nat → Prop} {a b : World} (h : Keep S a b) (hs : ∀ k, k < a.heap.size → S k → T k) : Keep T a b :=
  ⟨h.os, h.tape, h.output, h.size, fun i hi ht => h.block i hi fun hx => ht (hs i hi hx), h.drawn⟩
theorem Keep.comp {S T : Nat → Prop} {a b c : World} (h : Keep S a b) (k : Keep T b c) (hs : ∀ k, k < a.heap.size → T k → S k) : Keep S a c :=
  ⟨k.os.trans h.os, k.tape.trans h.tape, k.output.trans h.output, Nat.le_trans h.size k.size, fun i hi hS => (k.block i (Nat.lt_of_lt_of_le hi h.size) (fun ht => hS (hs i hi ht))).trans (h.block i hi hS), Nat.le_trans h.drawn k.drawn⟩
theorem Ext.keep {S : Nat → Prop} {a b : World} (h : Ext a b) : Keep S a b := h.mono fun _ _ f => f.elim
theorem Ext.below {a b : World} (h : Ext a b) : Below a.heap.size a b := ⟨h.os, h.tape, h.output, h.size, fun k hk => h.block k hk (fun f => f)⟩
theorem Ext.cell {a b : World} (h : Ext a b) {p : Addr} {v : Value} (hc : a.cell? p = some v) : b.cell? p = some v :=
  (World.cell?_of_block (h.block _ (World.block_lt_of_cell? a p hc) (fun f => f))).trans hc
theorem Ext.drew (w : World) : Ext w w.drew := ⟨rfl, rfl, rfl, Nat.le_refl _, fun _ _ _ => rfl, Nat.le_succ _⟩
theorem Ext.drewN (w : World) (n : Nat) : Ext w (w.drewN n) := ⟨rfl, rfl, rfl, Nat.le_refl _, fun _ _ _ => rfl, Nat.le_add_right _ _⟩
theorem Ext.alloc (w : World) (o : Obj) : Ext w (w.alloc o) := ⟨rfl, rfl, rfl, by simp, fun k hk _ => Below.heap_alloc w o k hk, Nat.le_refl _⟩
inductive Res where
  | obj (g : Nat) (o : Obj)
  | vec (A : Option Addr) (c : Nat) (e : TypeId) (sz n : Nat) (xs : List Value)
  | rd (A : Option Addr) (sz n : Nat) (xs : List Value)
/-- Cells that may be read at a slice's address. -/
def Rd (w : World) (A : Option Addr) (sz n : Nat) (xs : List Value) : Prop :=
  xs.length = n * sz ∧ (0 < n → ∃ g o, A = some ⟨g, o, none⟩ ∧ g < w.heap.size ∧ ∀ j u, xs[j]? = some u → w.cell? ⟨g, o + j, none⟩ = some u)
def Res.holds (w : World) : Res → Prop
  | .obj g o => w.heap[g]? = some o
  | .vec A c e sz n xs => w.ownsRow 0 e sz (.slice A n c) n xs
  | .rd A sz n xs => Rd w A sz n xs
def Res.own : Res → Option Nat
  | .obj g _ => some g
  | .vec A _ _ _ _ _ => A.map (·.block)
  | .rd _ _ _ _ => none
def Res.reads : Res → Option Nat
  | .rd A _ n _ => if n = 0 then none else A.map (·.block)
  | _ => none
def Res.compat (r s : Res) : Prop := ∀ g, (r.own = some g → s.own ≠ some g ∧ s.reads ≠ some g) ∧ (s.own = some g → r.own ≠ some g ∧ r.reads ≠ some g)
theorem Res.compat.symm {r s : Res} (h : r.compat s) : s.compat r := fun g => ⟨(h g).2, (h g).1⟩
structure St (S : Nat → Prop) (w0 w : World) (L : List Res) : Prop where
  keep : Keep S w0 w
  holds : ∀ r ∈ L, r.holds w
  own : ∀ r ∈ L, ∀ g, r.own = some g → S g ∨ w0.heap.size ≤ g
  apart : L.Pairwise Res.compat
theorem own_lt {r : Res} {w : World} (h : r.holds w) {g : Nat} (hg : r.own = some g) : g < w.heap.size := by
  cases r with
  | obj b o =>
    simp only [Res.own, Option.some.injEq] at hg
    subst hg
    exact (Array.getElem?_eq_some_iff.1 h).1
  | vec A c e sz n xs =>
    refine (World.ownsRow.lt h g ?_).2
    cases A <;> simp_all [Res.own, Value.ownBlock]
  | rd A sz n xs => simp [Res.own] at hg
theorem reads_lt {r : Res} {w : World} (h : r.holds w) {g : Nat} (hg : r.reads = some g) : g < w.heap.size := by
  cases r with
  | obj b o => simp [Res.reads] at hg
  | vec A c e sz n xs => simp [Res.reads] at hg
  | rd A sz n xs =>
    simp only [Res.reads] at hg
    split at hg
    · cases hg
    · obtain ⟨_, h2⟩ := h
      obtain ⟨b, o, rfl, hlt, _⟩ := h2 (by omega)
      simp at hg
      omega
theorem Rd.of_blocks {w w' : World} {A : Option Addr} {sz n : Nat} {xs : List Value} (h : Rd w A sz n xs) (hsz : w.heap.size ≤ w'.heap.size) (hb : ∀ g, (Res.rd A sz n xs).reads = some g → w'.heap[g]? = w.heap[g]?) : Rd w' A sz n xs := by
  refine ⟨h.1, fun hn => ?_⟩
  obtain ⟨g, o, rfl, hlt, hc⟩ := h.2 hn
  refine ⟨g, o, rfl, by omega, fun j u hu => ?_⟩
  have he := hb g (by simp [Res.reads, Nat.ne_of_gt hn])
  exact (World.cell?_of_block (a := ⟨g, o + j, none⟩) he).trans (hc j u hu)
theorem vec_of_blocks {w w' : World} {A : Option Addr} {c : Nat} {e : TypeId} {sz n : Nat} {xs : List Value} (h : w.ownsRow 0 e sz (.slice A n c) n xs) (hb : ∀ g, (Res.vec A c e sz n xs).own = some g → w'.heap[g]? = w.heap[g]?) : w'.ownsRow 0 e sz (.slice A n c) n xs := by
  refine ⟨h.1, ?_⟩
  rcases h.2 with h2 | ⟨g, cap, cur, hv, h0, hg, h3⟩
  · exact .inl h2
  · refine .inr ⟨g, cap, cur, hv, h0, ?_, h3⟩
    simp only [Value.slice.injEq] at hv
    rw [hb g (by simp [Res.own, hv.1])]
    exact hg
/-- A resource holds in whatever world has its blocks unturned. -/
theorem Res.holds_of {r : Res} {w w' : World} (h : r.holds w) (hsz : w.heap.size ≤ w'.heap.size) (ho : ∀ g, r.own = some g → w'.heap[g]? = w.heap[g]?) (hr : ∀ g, r.reads = some g → w'.heap[g]? = w.heap[g]?) : r.holds w' := by
  cases r with
  | obj g o => exact (ho g rfl).trans h
  | vec A c e sz n xs => exact vec_of_blocks h ho
  | rd A sz n xs => exact Rd.of_blocks h hsz hr
theorem Res.holds_ext {r : Res} {w w' : World} (h : r.holds w) (hE : Ext w w') : r.holds w' :=
  r.holds_of h hE.size (fun g hg => hE.block g (own_lt h hg) (fun f => f)) (fun g hg => hE.block g (reads_lt h hg) (fun f => f))
section
variable {S : Nat → Prop} {w0 w w' : World} {L L' : List Res} {r r' : Res}
theorem St.start {S : Nat → Prop} (w : World) : St S w w [] := ⟨Keep.refl _ _, by simp, by simp, .nil⟩
theorem St.ext (h : St S w0 w L) (hE : Ext w w') : St S w0 w' L :=
  ⟨h.keep.trans hE.keep, fun r hr => Res.holds_ext (h.holds r hr) hE, h.own, h.apart⟩
/-- Something that may be read is laid beside. It lies in no owned block. -/
theorem St.add_rd {A : Option Addr} {sz n : Nat} {xs : List Value} (h : St S w0 w L) (hr : Rd w A sz n xs) (hf : ∀ r ∈ L, ∀ g, r.own = some g → (Res.rd A sz n xs).reads ≠ some g) : St S w0 w (.rd A sz n xs :: L) := by
  refine ⟨h.keep, ?_, ?_, ?_⟩
  · intro r hr'
    rcases List.mem_cons.1 hr' with rfl | hr'
    · exact hr
    · exact h.holds r hr'
  · intro r hr' g hg
    rcases List.mem_cons.1 hr' with rfl | hr'
    · simp [Res.own] at hg
    · exact h.own r hr' g hg
  · refine List.pairwise_cons.2 ⟨fun s hs g => ⟨fun hg => by simp [Res.own] at hg, fun hg => ⟨by simp [Res.own], hf s hs g hg⟩⟩, h.apart⟩
/-- Something new, owned or to be read, whose blocks lie beyond all that was. -/
theorem St.add (h : St S w0 w L) (hE : Ext w w') (hr : r.holds w') (hf : ∀ g, r.own = some g ∨ r.reads = some g → w.heap.size ≤ g) : St S w0 w' (r :: L) := by
  have h' := h.ext hE
  refine ⟨h'.keep, ?_, ?_, ?_⟩
  · intro s hs
    rcases List.mem_cons.1 hs with rfl | hs
    · exact hr
    · exact h'.holds s hs
  · intro s hs g hg
    rcases List.mem_cons.1 hs with rfl | hs
    · exact .inr (Nat.le_trans h.keep.size (hf g (.inl hg)))
    · exact h'.own s hs g hg
  · refine List.pairwise_cons.2 ⟨fun s hs g => ⟨fun hg => ?_, fun hg => ?_⟩, h'.apart⟩
    · have h1 := hf g (.inl hg)
      exact ⟨fun e => by have := own_lt (h.holds s hs) e; omega, fun e => by have := reads_lt (h.holds s hs) e; omega⟩
    · have h1 := own_lt (h.holds s hs) hg
      exact ⟨fun e => by have := hf g (.inl e); omega, fun e => by have := hf g (.inr e); omega⟩
theorem St.alloc (h : St S w0 w L) (o : Obj) : St S w0 (w.alloc o) (.obj w.heap.size o :: L) :=
  h.add (Ext.alloc w o) (heap_alloc_new w o) (by
    intro g hg
    rcases hg with hg | hg
    · simp [Res.own] at hg; omega
    · simp [Res.reads] at hg)
/-- r stands in L; with r' in its place the list is L'. -/
inductive Upd : List Res → Res → Res → List Res → Prop
  | head {r r' : Res} {L : List Res} : Upd (r :: L) r r' (r' :: L)
  | tail {s r r' : Res} {L L' : List Res} : Upd L r r' L' → Upd (s :: L) r r' (s :: L')
theorem Upd.mem (h : Upd L r r' L') : r ∈ L := by
  induction h with
  | head => simp
  | tail _ ih => simp [ih]
theorem Upd.mem' (h : Upd L r r' L') : ∀ s ∈ L', s = r' ∨ s ∈ L := by
  induction h with
  | head => intro s hs; rcases List.mem_cons.1 hs with rfl | hs <;> simp_all
  | tail _ ih => intro s hs; rcases List.mem_cons.1 hs with rfl | hs
                 · simp
                 · rcases ih s hs with h | h <;> simp [h]
theorem Upd.pairwise (h : Upd L r r' L') (hp : L.Pairwise Res.compat) (hc : ∀ s ∈ L, r.compat s → r'.compat s) : L'.Pairwise Res.compat := by
  induction h with
  | head =>
    obtain ⟨h1, h2⟩ := List.pairwise_cons.1 hp
    exact List.pairwise_cons.2 ⟨fun s hs => hc s (by simp [hs]) (h1 s hs), h2⟩
  | tail hu ih =>
    obtain ⟨h1, h2⟩ := List.pairwise_cons.1 hp
    refine List.pairwise_cons.2 ⟨fun s hs => ?_, ih h2 (fun s hs => hc s (by simp [hs]))⟩
    rcases hu.mem' s hs with rfl | hs
    · exact (hc _ (by simp) (h1 _ hu.mem).symm).symm
    · exact h1 s hs
/-- of a resource that stands in a pairwise list: what is not it is compatible with it, or it is at its very place -/
theorem Upd.others (h : Upd L r r' L') (hp : L.Pairwise Res.compat) : ∀ s ∈ L', s = r' ∨ r.compat s := by
  induction h with
  | head =>
    obtain ⟨h1, _⟩ := List.pairwise_cons.1 hp
    intro s hs
    rcases List.mem_cons.1 hs with rfl | hs
    · exact .inl rfl
    · exact .inr (h1 s hs)
  | tail hu ih =>
    obtain ⟨h1, h2⟩ := List.pairwise_cons.1 hp
    intro s hs
    rcases List.mem_cons.1 hs with rfl | hs
    · exact .inr (h1 _ hu.mem).symm
    · exact ih h2 s hs
/-- One resource turns: the world changes in its own block alone (or new blocks are laid). -/
theorem St.turn (h : St S w0 w L) (hu : Upd L r r' L') (hk : Keep (fun k => r.own = some k) w w') (hr : r'.holds w')
    (ho : ∀ g, r'.own = some g → r.own = some g ∨ w.heap.size ≤ g) (hn : ∀ g, r'.reads = some g → r.own = some g ∨ r.reads = some g ∨ w.heap.size ≤ g) : St S w0 w' L' := by
  have hmem := hu.mem
  have hS : ∀ k, r.own = some k → S k ∨ w0.heap.size ≤ k := h.own r hmem
  refine ⟨?_, ?_, ?_, ?_⟩
  · exact h.keep.comp hk (fun k hk0 hk1 => by rcases hS k hk1 with h1 | h1; exact h1; omega)
  · intro s hs
    rcases hu.others h.apart s hs with rfl | hc
    · exact hr
    · have hs' : s ∈ L ∨ s = r' := (hu.mem' s hs).symm
      rcases hs' with hs' | rfl
      · refine s.holds_of (h.holds s hs') hk.size (fun g hg => hk.block g (own_lt (h.holds s hs') hg) (fun e => ((hc g).1 e).1 hg)) (fun g hg => hk.block g (reads_lt (h.holds s hs') hg) (fun e => ((hc g).1 e).2 hg))
      · exact hr
  · intro s hs g hg
    rcases hu.mem' s hs with rfl | hs
    · rcases ho g hg with h1 | h1
      · exact hS g h1
      · exact .inr (Nat.le_trans h.keep.size h1)
    · exact h.own s hs g hg
  · refine hu.pairwise h.apart fun s hs hc g => ?_
    have hs := h.holds s hs
    refine ⟨fun hg => ?_, fun hg => ?_⟩
    · rcases ho g hg with h1 | h1
      · exact (hc g).1 h1
      · exact ⟨fun e => by have := own_lt hs e; omega, fun e => by have := reads_lt hs e; omega⟩
    · refine ⟨fun e => ?_, fun e => ?_⟩
      · rcases ho g e with h1 | h1
        · exact ((hc g).1 h1).1 hg
        · have := own_lt hs hg; omega
      · rcases hn g e with h1 | h1 | h1
        · exact ((hc g).1 h1).1 hg
        · exact ((hc g).2 hg).2 h1
        · have := own_lt hs hg; omega
/-- A resource is taken for another one that says less of the same blocks. -/
theorem St.weaken (h : St S w0 w L) (hu : Upd L r r' L') (hr : r'.holds w) (ho : ∀ g, r'.own = some g → r.own = some g) (hn : ∀ g, r'.reads = some g → r.own = some g ∨ r.reads = some g) : St S w0 w L' :=
  h.turn hu (Keep.refl _ _) hr (fun g hg => .inl (ho g hg)) (fun g hg => by rcases hn g hg with h1 | h1; exact .inl h1; exact .inr (.inl h1))
/-- r stands in L; behind it L' is left. -/
inductive Del : List Res → Res → List Res → Prop
  | head {r : Res} {L : List Res} : Del (r :: L) r L
  | tail {s r : Res} {L L' : List Res} : Del L r L' → Del (s :: L) r (s :: L')
theorem Del.perm {L L' : List Res} {r : Res} (h : Del L r L') : L.Perm (r :: L') := by
  induction h with
  | head => exact .refl _
  | tail _ ih => exact (ih.cons _).trans (.swap _ _ _)
theorem St.perm (h : St S w0 w L) (hp : L.Perm L') : St S w0 w L' :=
  ⟨h.keep, fun r hr => h.holds r (hp.mem_iff.2 hr), fun r hr => h.own r (hp.mem_iff.2 hr), (hp.pairwise_iff (fun h => h.symm)).1 h.apart⟩
theorem St.drop (h : St S w0 w (r :: L)) : St S w0 w L :=
  ⟨h.keep, fun s hs => h.holds s (by simp [hs]), fun s hs => h.own s (by simp [hs]), (List.pairwise_cons.1 h.apart).2⟩
/-- L' is chosen out of L, in any order. -/
inductive Sel : List Res → List Res → Prop
  | nil {L : List Res} : Sel [] L
  | cons {r : Res} {L L1 L' : List Res} : Del L r L1 → Sel L' L1 → Sel (r :: L') L
theorem Sel.sub {L L' : List Res} (h : Sel L' L) : ∃ M, L.Perm (L' ++ M) := by
  induction h with
  | nil => exact ⟨_, .refl _⟩
  | cons hd _ ih =>
    obtain ⟨M, hM⟩ := ih
    exact ⟨M, hd.perm.trans (hM.cons _)⟩
theorem St.left {L M : List Res} (h : St S w0 w (L ++ M)) : St S w0 w L :=
  ⟨h.keep, fun s hs => h.holds s (by simp [hs]), fun s hs => h.own s (by simp [hs]), (List.pairwise_append.1 h.apart).1⟩
theorem St.sel (h : St S w0 w L) (hs : Sel L' L) : St S w0 w L' := by
  obtain ⟨M, hM⟩ := hs.sub
  exact (h.perm hM).left
theorem St.selA {S : Nat → Prop} {w0 w : World} {L L' : List Res} (h : St S w0 w L) (hs : Sel L' L := by repeat (first | exact Sel.nil | (refine Sel.cons (by repeat (first | exact Del.head | apply Del.tail)) ?_))) : St S w0 w L' := h.sel hs
/-- A resource that stands there. -/
inductive Has : List Res → Res → Prop
  | head {r : Res} {L : List Res} : Has (r :: L) r
  | tail {s r : Res} {L : List Res} : Has L r → Has (s :: L) r
theorem Has.mem {L : List Res} {r : Res} (h : Has L r) : r ∈ L := by
  induction h with
  | head => simp
  | tail _ ih => simp [ih]
theorem St.has (h : St S w0 w L) (hr : Has L r) : r.holds w := h.holds r hr.mem
theorem St.ext_of (h : St NoB w0 w L) : Ext w0 w := h.keep
end
end Go.Proofs.YtpekghaodmeemaaGreat
namespace Go.Proofs.YtpekghaodmeemaaGreat
open Go.RowKit
def fr (l : List Value) : Act := { tmps := l.toArray, defers := [] }
def opv (l : List Value) : Operand → Value
  | .tmp t => l.getD t undef
  | .const v => v
  | .global g => .pointer (some ⟨g, 0, none⟩)
  | .func f => .func (.func f) #[] #[]
theorem eval_fr (l : List Value) : (fr l).eval = opv l := by
  funext x
  cases x <;> simp [fr, opv, Act.eval, Array.getD_eq_getD_getElem?, List.getD]
theorem put_fr (l : List Value) (d : Nat) (v : Value) : (fr l).put (some d) v = fr (l.set d v) := by simp [fr, Act.put]
theorem put_fr_none (l : List Value) (v : Value) : (fr l).put none v = fr l := rfl
theorem n1 {v : Value} {l : List Value} {n : Nat} {d : Value} : (v :: l).getD (n + 1) d = l.getD n d := List.getD_cons_succ
theorem n2 {v : Value} {l : List Value} {d : Value} : (v :: l).getD 0 d = v := List.getD_cons_zero
theorem n3 {v u : Value} {l : List Value} {n : Nat} : (v :: l).set (n + 1) u = v :: l.set n u := List.set_cons_succ
theorem n4 {v u : Value} {l : List Value} : (v :: l).set 0 u = u :: l := List.set_cons_zero
theorem nY : (∀ (v : Value) (l : List Value) (n : Nat) (d : Value), (v :: l).getD (n + 1) d = l.getD n d) ∧ (∀ (v : Value) (l : List Value) (d : Value), (v :: l).getD 0 d = v) ∧ (∀ (v u : Value) (l : List Value) (n : Nat), (v :: l).set (n + 1) u = v :: l.set n u) ∧ (∀ (v u : Value) (l : List Value), (v :: l).set 0 u = u :: l) ∧
    (∀ (l : List Value) (t : Nat), opv l (.tmp t) = l.getD t undef) ∧ (∀ (l : List Value) (v : Value), opv l (.const v) = v) ∧ (∀ (l : List Value) (g : Nat), opv l (.global g) = .pointer (some ⟨g, 0, none⟩)) ∧ (∀ (l : List Value) (f : FuncId), opv l (.func f) = .func (.func f) #[] #[]) ∧
    (∀ c, (Value.agg c).cells = c) ∧ (∀ k n, (Value.int k n).cells = #[.int k n]) ∧ (∀ b, (Value.bool b).cells = #[.bool b]) ∧ (∀ s, (Value.string s).cells = #[.string s]) ∧ (∀ a, (Value.pointer a).cells = #[.pointer a]) ∧ (∀ a n c, (Value.slice a n c).cells = #[.slice a n c]) ∧ (∀ r, (Value.map r).cells = #[.map r]) ∧ (∀ f a b, (Value.func f a b).cells = #[.func f a b]) ∧ (Value.nilFunc.cells = #[.nilFunc]) ∧ (∀ t v, (Value.iface t v).cells = #[.iface t v]) ∧ (Value.nilIface.cells = #[.nilIface]) ∧ (∀ vs, (Value.tuple vs).cells = #[.tuple vs]) :=
  ⟨fun _ _ _ _ => n1, fun _ _ _ => n2, fun _ _ _ _ => n3, fun _ _ _ => n4, fun _ _ => rfl, fun _ _ => rfl, fun _ _ => rfl, fun _ _ => rfl, fun _ => rfl, fun _ _ => rfl, fun _ => rfl, fun _ => rfl, fun _ => rfl, fun _ _ _ => rfl, fun _ => rfl, fun _ _ _ => rfl, rfl, fun _ _ => rfl, rfl, fun _ => rfl⟩
theorem nZ : (∀ (v : Value) (l : List Value) (n : Nat) (d : Value), (v :: l).getD (n + 1) d = l.getD n d) ∧ (∀ (v : Value) (l : List Value) (d : Value), (v :: l).getD 0 d = v) ∧ (∀ (v u : Value) (l : List Value) (n : Nat), (v :: l).set (n + 1) u = v :: l.set n u) ∧ (∀ (v u : Value) (l : List Value), (v :: l).set 0 u = u :: l) := ⟨fun _ _ _ _ => n1, fun _ _ _ => n2, fun _ _ _ _ => n3, fun _ _ _ => n4⟩
theorem gY : (∀ (α : Type) (l : List α) (i : Nat) (h : i < l.toArray.size), l.toArray[i]'h = l[i]'(by simpa using h)) ∧ (∀ (α : Type) (a : α) (l : List α) (h : 0 < (a :: l).length), (a :: l)[0]'h = a) ∧ (∀ (α : Type) (a : α) (l : List α) (i : Nat) (h : i + 1 < (a :: l).length), (a :: l)[i + 1]'h = l[i]'(by simpa using h)) := ⟨fun _ _ _ _ => rfl, fun _ _ _ _ => rfl, fun _ _ _ _ _ => rfl⟩
theorem fY : (∀ n : Nat, 0 + n = n) ∧ (∀ n : Nat, n + 0 = n) := ⟨Nat.zero_add, Nat.add_zero⟩
theorem mY : (∀ (f : Operand → Value) (l : List Operand), l.toArray.map f = (l.map f).toArray) ∧ (∀ (f : Operand → Value) (a : Operand) (l : List Operand), (a :: l).map f = f a :: l.map f) ∧ (∀ (f : Operand → Value), [].map f = []) ∧ (∀ l m : List Value, l.toArray ++ m.toArray = (l ++ m).toArray) ∧ (∀ (a : Value) (l m : List Value), (a :: l) ++ m = a :: (l ++ m)) ∧ (∀ l : List Value, [] ++ l = l) ∧ (∀ a : Array Value, a ++ #[] = a) := ⟨fun _ _ => List.map_toArray .., fun _ _ _ => rfl, fun _ => rfl, fun _ _ => List.append_toArray .., fun _ _ _ => rfl, fun _ => rfl, fun _ => Array.append_empty⟩
theorem aY (a : Array Value) : a.toList.toArray = a := Array.toArray_toList
theorem dZ : (∀ (p : Prop) [Decidable p], (decide p = true) = p) ∧ (∀ (p : Prop) [Decidable p], (decide p = false) = ¬p) ∧ (∀ b : Bool, ((!b) = true) = (b = false)) ∧ (∀ b : Bool, ((!b) = false) = (b = true)) ∧ (∀ a b : Int, (¬ a < b) = (b ≤ a)) ∧ (∀ a b : Int, (¬ a ≤ b) = (b < a)) ∧ (∀ (p : Prop) [Decidable p], (¬ ¬p) = p) ∧ ((¬ True) = False) ∧ ((¬ False) = True) := ⟨fun _ _ => decide_eq_true_eq, fun _ _ => propext decide_eq_false_iff_not, fun b => by cases b <;> simp, fun b => by cases b <;> simp, fun _ _ => propext Int.not_lt, fun _ _ => propext Int.not_le, fun _ _ => propext Decidable.not_not, not_true_eq_false, not_false_eq_true⟩
theorem dY : (∀ (p : Prop) [Decidable p], (decide p = true) = p) ∧ (∀ (p : Prop) [Decidable p], (decide p = false) = ¬p) ∧ (∀ b : Bool, ((!b) = true) = (b = false)) ∧ (∀ b : Bool, ((!b) = false) = (b = true)) ∧ (∀ a b : Int, (¬ a < b) = (b ≤ a)) ∧ (∀ a b : Int, (¬ a ≤ b) = (b < a)) ∧ (∀ (p : Prop) [Decidable p], (¬ ¬p) = p) ∧ ((¬ True) = False) ∧ ((¬ False) = True) ∧ (∀ (α : Type) (a b : α), (a ≠ b) = ¬ (a = b)) ∧ (∀ (α : Type) [BEq α] [LawfulBEq α] (a b : α), ((a != b) = true) = (a ≠ b)) ∧ (∀ (α : Type) [BEq α] [LawfulBEq α] (a b : α), ((a == b) = true) = (a = b)) := ⟨dZ.1, dZ.2.1, dZ.2.2.1, dZ.2.2.2.1, dZ.2.2.2.2.1, dZ.2.2.2.2.2.1, dZ.2.2.2.2.2.2.1, dZ.2.2.2.2.2.2.2.1, dZ.2.2.2.2.2.2.2.2, fun _ _ _ => rfl, fun _ _ _ _ _ => propext bne_iff_ne, fun _ _ _ _ _ => propext beq_iff_eq⟩
def ic (k : IntKind) (l : List Int) : Array Value := (l.map (Value.int k)).toArray
@[simp] theorem ic_size (k : IntKind) (l : List Int) : (ic k l).size = l.length := by simp [ic]
theorem ic_get {k : IntKind} {l : List Int} {i : Nat} (h : i < l.length) : (ic k l)[i]? = some (.int k (l.getD i 0)) := by
  simp [ic, List.getElem?_eq_getElem h, List.getD]
theorem il_get {k : IntKind} {l : List Int} {i : Nat} (h : i < l.length) : (l.map (Value.int k))[i]? = some (.int k (l.getD i 0)) := by
  simp [List.getElem?_eq_getElem h, List.getD]
theorem ic_one (k : IntKind) (l : List Int) : ∀ u ∈ (ic k l).toList, u.oneCell' = true := by
  intro u hu; simp [ic] at hu; obtain ⟨a, _, rfl⟩ := hu; rfl
theorem il_one (k : IntKind) (l : List Int) : ∀ u ∈ l.map (Value.int k), u.oneCell' = true := by
  intro u hu; simp at hu; obtain ⟨a, _, rfl⟩ := hu; rfl

/-- written slots hold whatever they hold -/
def clob (l : List Value) (V : List Nat) (f : Nat → Value) : List Value := V.foldl (fun l d => l.set d (f d)) l
theorem set_getD (l : List Value) (d : Nat) : l.set d (l.getD d undef) = l := by
  by_cases h : d < l.length
  · rw [List.getD_eq_getElem?_getD, List.getElem?_eq_getElem h]; simp
  · rw [List.set_eq_of_length_le (by omega)]
theorem clob_self (l : List Value) (V : List Nat) : clob l V (fun d => l.getD d undef) = l := by
  suffices h : ∀ m : List Value, m = l → V.foldl (fun m d => m.set d (l.getD d undef)) m = l from h l rfl
  induction V with
  | nil => exact fun m hm => hm
  | cons d V ih =>
    intro m hm
    subst hm
    exact ih _ (set_getD m d)
def look (i : Nat) : List (Nat × (Act → World → Prop)) → Act → World → Prop
  | [], _, _ => False
  | (j, k) :: ex, a, w => if i = j then k a w else look i ex a w
/-- What stands behind a piece of code: on, out by a return, out of a block. -/
def Qx (n r : Act → World → Prop) (ex : List (Nat × (Act → World → Prop))) : Exit → Act → World → Prop
  | .normal, a, w => n a w
  | .ret, a, w => r a w
  | .exit i, a, w => look i ex a w
  | _, _, _ => False
/-- the walk over a list of operations, shut -/
structure WL (P : Program) (ops : Array Oper) (Q : Exit → Act → World → Prop) (os : List Oper) (a : Act) (w : World) : Prop where
  run : wpList P ops Q os a w
section
variable {P : Program} {n r : Act → World → Prop} {ex : List (Nat × (Act → World → Prop))} {a : Act} {w w' : World} {l : List Value}
theorem x_seq {x y : Code} (h : ∀ K : Act → World → Prop, (∀ a w, y.wp P (Qx n r ex) a w → K a w) → x.wp P (Qx K r ex) a w) : (Code.seq x y).wp P (Qx n r ex) a w :=
  wp_seq (wp_mono (h _ fun _ _ h => h) fun e a w q => by cases e <;> first | exact q | exact q.elim)
theorem x_block {id : Nat} {c : Code} (h : c.wp P (Qx n r ((id, n) :: ex)) a w) : (Code.block id c).wp P (Qx n r ex) a w :=
  wp_block (wp_mono h fun e a w q => by
    cases e with
    | exit i =>
      simp only [Exit.inBlock, Qx, look] at q ⊢
      split
      · rename_i hi; rw [if_pos hi] at q; exact q
      · rename_i hi; rw [if_neg hi] at q; exact q
    | _ => first | exact q | exact q.elim)
theorem x_exit {id : Nat} (h : look id ex a w) : (Code.exit id).wp P (Qx n r ex) a w := wp_exit h
theorem look_here {id : Nat} {k : Act → World → Prop} (h : k a w) : look id ((id, k) :: ex) a w := by simp only [look]; exact h
theorem look_on {i j : Nat} {k : Act → World → Prop} (hne : i ≠ j) (h : look i ex a w) : look i ((j, k) :: ex) a w := by simp only [look, if_neg hne]; exact h
theorem x_ret (h : r a w) : Code.ret.wp P (Qx n r ex) a w := wp_ret h
theorem x_skip (h : n a w) : Code.skip.wp P (Qx n r ex) a w := wp_skip h
theorem x_cond_t {c : Operand} {x y : Code} (hc : opv l c = .bool true := by rfl) (h : x.wp P (Qx n r ex) (fr l) w) : (Code.cond c x y).wp P (Qx n r ex) (fr l) w := wp_cond_true (by rw [eval_fr]; exact hc) h
theorem x_cond_f {c : Operand} {x y : Code} (hc : opv l c = .bool false := by rfl) (h : y.wp P (Qx n r ex) (fr l) w) : (Code.cond c x y).wp P (Qx n r ex) (fr l) w := wp_cond_false (by rw [eval_fr]; exact hc) h
theorem x_cond {c : Operand} {x y : Code} {b : Bool} (hc : opv l c = .bool b := by rfl) (ht : b = true → x.wp P (Qx n r ex) (fr l) w) (hf : b = false → y.wp P (Qx n r ex) (fr l) w) : (Code.cond c x y).wp P (Qx n r ex) (fr l) w :=
  wp_cond_split (by rw [eval_fr]; exact hc) ht hf
theorem wl_plain {o : Oper} {ops : Array Oper} {rest : List Oper} {Q : Exit → Act → World → Prop} (hg : o.guard = none) (h : ∀ K : Act → World → Prop, (∀ a w, WL P ops Q rest a w → K a w) → o.wp P a w K Q) : WL P ops Q (o :: rest) a w := ⟨wpList_plain hg fun K hK => h K fun a w hh => hK a w hh.run⟩
theorem x_region {id : Nat} {ops : List Oper} (h : WL P ops.toArray (Qx n r ex) ops a w) : (Code.region id ops.toArray false).wp P (Qx n r ex) a w := wp_region_lit h.run
theorem x_nil {ops : Array Oper} (h : n a w) : WL P ops (Qx n r ex) [] a w := ⟨h⟩
def LoopJ (I : Nat → (Nat → Value) → World → Prop) (l : List Value) (V : List Nat) (m : Nat) (a' : Act) (w' : World) : Prop := ∃ m' f', a' = fr (clob l V f') ∧ I m' f' w' ∧ m' < m
theorem loop_back {I : Nat → (Nat → Value) → World → Prop} {l lnow : List Value} {V : List Nat} {m m' : Nat} {w : World} (he : lnow = clob l V (fun d => lnow.getD d undef)) (hI : I m' (fun d => lnow.getD d undef) w) (hm : m' < m) : LoopJ I l V m (fr lnow) w :=
  ⟨m', _, congrArg fr he, hI, hm⟩
theorem x_loop {c : Code} (V : List Nat) (I : Nat → (Nat → Value) → World → Prop) (m0 : Nat) (h0 : I m0 (fun d => l.getD d undef) w)
    (hr : ∀ m f w, I m f w → c.wp P (Qx (LoopJ I l V m) r ex) (fr (clob l V f)) w) : (Code.loop c).wp P (Qx n r ex) (fr l) w := by
  let J : Nat → Act → World → Prop := fun m a w => ∃ f, a = fr (clob l V f) ∧ I m f w
  have key : ∀ m a w, J m a w → (Code.loop c).wp P (Qx n r ex) a w := by
    intro m
    induction m using Nat.strongRecOn with
    | _ m ih =>
      rintro a w ⟨f, rfl, hI⟩
      -- one round of the loop, then the loop again
      refine wp_loop (fun a' w' => ∃ m' ≤ m, J m' a' w') (fun a' w' => Classical.epsilon fun k => (∃ f, a' = fr (clob l V f) ∧ I k f w') ∧ ∀ j, (∃ f, a' = fr (clob l V f) ∧ I j f w') → k ≤ j) ⟨m, Nat.le_refl _, f, rfl, hI⟩ ?_
      rintro a1 w1 ⟨m1, hm1, hJ1⟩
      -- the least number that fits
      have hex : ∃ k, J k a1 w1 := ⟨m1, hJ1⟩
      have hleast : ∃ k, J k a1 w1 ∧ ∀ j, J j a1 w1 → k ≤ j := by
        refine Nat.strongRecOn (motive := fun q => J q a1 w1 → ∃ k, J k a1 w1 ∧ ∀ j, J j a1 w1 → k ≤ j) m1 (fun q ihq hq => ?_) hJ1
        by_cases hx : ∃ j, j < q ∧ J j a1 w1
        · obtain ⟨j, hj, hjj⟩ := hx
          exact ihq j hj hjj
        · exact ⟨q, hq, fun j hj => by
            rcases Nat.lt_or_ge j q with h | h
            · exact absurd ⟨j, h, hj⟩ hx
            · exact h⟩
      have hk := Classical.epsilon_spec hleast
      generalize hke : (Classical.epsilon fun k => (∃ f, a1 = fr (clob l V f) ∧ I k f w1) ∧ ∀ j, (∃ f, a1 = fr (clob l V f) ∧ I j f w1) → k ≤ j) = k at hk ⊢
      obtain ⟨⟨f1, rfl, hI1⟩, hmin⟩ := hk
      have hkm : k ≤ m := Nat.le_trans (hmin m1 hJ1) hm1
      refine wp_mono (hr k f1 w1 hI1) fun e a2 w2 q => ?_
      cases e with
      | normal =>
        obtain ⟨m2, f2, rfl, hI2, hlt⟩ := q
        refine ⟨⟨m2, by omega, f2, rfl, hI2⟩, ?_⟩
        have h2 : ∃ k', J k' (fr (clob l V f2)) w2 ∧ ∀ j, J j (fr (clob l V f2)) w2 → k' ≤ j := by
          refine Nat.strongRecOn (motive := fun q => J q (fr (clob l V f2)) w2 → ∃ k, J k (fr (clob l V f2)) w2 ∧ ∀ j, J j (fr (clob l V f2)) w2 → k ≤ j) m2 (fun q ihq hq => ?_) ⟨f2, rfl, hI2⟩
          by_cases hx : ∃ j, j < q ∧ J j (fr (clob l V f2)) w2
          · obtain ⟨j, hj, hjj⟩ := hx
            exact ihq j hj hjj
          · exact ⟨q, hq, fun j hj => by
              rcases Nat.lt_or_ge j q with h | h
              · exact absurd ⟨j, h, hj⟩ hx
              · exact h⟩
        have hs := Classical.epsilon_spec h2
        exact Nat.lt_of_le_of_lt (hs.2 m2 ⟨f2, rfl, hI2⟩) hlt
      | ret => exact q
      | exit i => exact q
      | goto i => exact q.elim
      | panic ch => exact q.elim
      | outgrown => exact q.elim
  have := key m0 (fr l) w ⟨fun d => l.getD d undef, by rw [clob_self], h0⟩
  exact this
end
end Go.Proofs.YtpekghaodmeemaaGreat
namespace Go.Proofs.YtpekghaodmeemaaGreat
open Go.RowKit
/-- a type's size in cells and in bytes, and its zero value -/
def TI (P : Program) (t : TypeId) (sz by' : Nat) (z : Value) : Prop := ∃ i, P.info? t = some i ∧ i.size = sz ∧ i.bytes = by' ∧ i.zero = some z
theorem TI.of {P : Program} {t : TypeId} {sz by' : Nat} {z : Value} (h : (P.info? t).map (fun i => (i.size, i.bytes, i.zero)) = some (sz, by', some z)) : TI P t sz by' z := by
  cases hi : P.info? t with
  | none => rw [hi] at h; cases h
  | some i => rw [hi] at h; simp at h; exact ⟨i, hi, h.1, h.2.1, h.2.2⟩
section
variable {P : Program} {ops : Array Oper} {Q : Exit → Act → World → Prop} {rest : List Oper} {l : List Value} {w w' : World} {d : Nat} {ty : TypeId} {pos : String} {aft : Array Edge}
/-- an operation that yields a value and turns nothing -/
def Go1 (P : Program) (l : List Value) (w : World) (o : Oper) (v : Value) : Prop := (execOp (opv l) o).run P w = .ok (.value v) w
theorem s_val {op : Op} {v : Value} (hr : (execOp (opv l) ⟨some d, op, ty, pos, aft, none⟩).run P w = .ok (.value v) w') (h : WL P ops Q rest (fr (l.set d v)) w') : WL P ops Q (⟨some d, op, ty, pos, aft, none⟩ :: rest) (fr l) w :=
  wl_plain rfl fun K hK => by
    unfold Oper.wp
    rw [eval_fr, hr]
    simp only [Oper.upon_value, put_fr]
    exact hK _ _ h
theorem s_unit {op : Op} (hr : (execOp (opv l) ⟨none, op, ty, pos, aft, none⟩).run P w = .ok .skip w') (h : WL P ops Q rest (fr l) w') : WL P ops Q (⟨none, op, ty, pos, aft, none⟩ :: rest) (fr l) w :=
  wl_plain rfl fun K hK => by
    unfold Oper.wp
    rw [eval_fr, hr]
    simp only [Oper.upon_skip, put_fr_none]
    exact hK _ _ h
theorem s_go {op : Op} {v : Value} (hr : Go1 P l w ⟨some d, op, ty, pos, aft, none⟩ v) (h : WL P ops Q rest (fr (l.set d v)) w) : WL P ops Q (⟨some d, op, ty, pos, aft, none⟩ :: rest) (fr l) w := s_val hr h
theorem yi {os : List Oper} {l : List Value} {j t : Nat} {b : Bool} (ho : ((os[j]?).bind (·.dst)) = some t) (hl : l[t]? = some (.bool b)) : yielded os.toArray l.toArray j = some b := by
  simp [yielded, ho, hl]
theorem yn {os : List Oper} {l : List Value} {j t : Nat} (ho : ((os[j]?).bind (·.dst)) = some t) (hl : l[t]? = some undef) : yielded os.toArray l.toArray j = none := by
  simp [yielded, ho, hl, undef]
/-- a guard that says yes -/
theorem g_on {dst : Option Nat} {op : Op} {g : Nat × Bool} (hg : yielded ops (l.toArray) g.1 = some g.2) (h : WL P ops Q (⟨dst, op, ty, pos, aft, none⟩ :: rest) (fr l) w) : WL P ops Q (⟨dst, op, ty, pos, aft, some g⟩ :: rest) (fr l) w := by
  obtain ⟨h⟩ := h
  refine ⟨?_⟩
  unfold wpList at h ⊢
  have h1 : Region.wanted ⟨dst, op, ty, pos, aft, some g⟩ (yielded ops (fr l).tmps) = true := by simp [Region.wanted, fr, hg]
  have h2 : Region.wanted ⟨dst, op, ty, pos, aft, none⟩ (yielded ops (fr l).tmps) = true := by simp [Region.wanted]
  rw [if_pos h1]
  rw [if_pos h2] at h
  exact h
/-- a guard that says no -/
theorem g_off {op : Op} {g : Nat × Bool} (hg : yielded ops (l.toArray) g.1 = some (!g.2)) (h : WL P ops Q rest (fr (l.set d undef)) w) : WL P ops Q (⟨some d, op, ty, pos, aft, some g⟩ :: rest) (fr l) w := by
  obtain ⟨h⟩ := h
  refine ⟨?_⟩
  unfold wpList
  have h1 : Region.wanted ⟨some d, op, ty, pos, aft, some g⟩ (yielded ops (fr l).tmps) = false := by simp [Region.wanted, fr, hg]
  simp only [h1, Bool.false_eq_true, if_false, put_fr]
  exact h
/-- a guard whose own operation was passed over says no -/
theorem g_un {op : Op} {g : Nat × Bool} (hg : yielded ops (l.toArray) g.1 = none) (h : WL P ops Q rest (fr (l.set d undef)) w) : WL P ops Q (⟨some d, op, ty, pos, aft, some g⟩ :: rest) (fr l) w := by
  obtain ⟨h⟩ := h
  refine ⟨?_⟩
  unfold wpList
  have h1 : Region.wanted ⟨some d, op, ty, pos, aft, some g⟩ (yielded ops (fr l).tmps) = false := by simp [Region.wanted, fr, hg]
  simp only [h1, Bool.false_eq_true, if_false, put_fr]
  exact h
/-- the walk parts on a Bool in a slot -/
theorem s_part {os : List Oper} (t : Nat) {b : Bool} (hb : l.getD t undef = .bool b) (ht : b = true → WL P ops Q os (fr (l.set t (.bool true))) w) (hf : b = false → WL P ops Q os (fr (l.set t (.bool false))) w) : WL P ops Q os (fr l) w := by
  cases b
  · have := hf rfl; rw [← hb, set_getD] at this; exact this
  · have := ht rfl; rw [← hb, set_getD] at this; exact this
theorem s_move {x : Operand} : Go1 P l w ⟨some d, .move x, ty, pos, aft, none⟩ (opv l x) := (by unfold Go1; simp [execOp])
theorem s_assign {x : Operand} : Go1 P l w ⟨some d, .assign x, ty, pos, aft, none⟩ (opv l x) := (by unfold Go1; simp [execOp])
theorem s_pick_t {c x y : Operand} (hc : opv l c = .bool true := by rfl) : Go1 P l w ⟨some d, .pick c x y, ty, pos, aft, none⟩ (opv l x) := (by unfold Go1; simp [execOp, hc, asBool])
theorem s_pick_f {c x y : Operand} (hc : opv l c = .bool false := by rfl) : Go1 P l w ⟨some d, .pick c x y, ty, pos, aft, none⟩ (opv l y) := (by unfold Go1; simp [execOp, hc, asBool])
theorem s_extract {x : Operand} {i : Nat} {vs : Array Value} {v : Value} (hx : opv l x = .tuple vs := by rfl) (hv : vs[i]? = some v := by rfl) : Go1 P l w ⟨some d, .extract x i, ty, pos, aft, none⟩ v := (by unfold Go1; simp [execOp, hx, Instr.extract, hv])
section
variable {x y : Operand} {T yT : TypeId} {k : IntKind} {a b c : Int}
theorem s_add (hx : opv l x = .int k a := by rfl) (hy : opv l y = .int k b := by rfl) (hc : k.wrap (a + b) = c) : Go1 P l w ⟨some d, .binOp .add T x y yT, ty, pos, aft, none⟩ (.int k c) :=
  (by subst hc; unfold Go1; simp [execOp, hx, hy, eqGuard, binOp, Op.intArith])
theorem s_sub (hx : opv l x = .int k a := by rfl) (hy : opv l y = .int k b := by rfl) (hc : k.wrap (a - b) = c) : Go1 P l w ⟨some d, .binOp .sub T x y yT, ty, pos, aft, none⟩ (.int k c) :=
  (by subst hc; unfold Go1; simp [execOp, hx, hy, eqGuard, binOp, Op.intArith])
theorem s_mul (hx : opv l x = .int k a := by rfl) (hy : opv l y = .int k b := by rfl) (hc : k.wrap (a * b) = c) : Go1 P l w ⟨some d, .binOp .mul T x y yT, ty, pos, aft, none⟩ (.int k c) :=
  (by subst hc; unfold Go1; simp [execOp, hx, hy, eqGuard, binOp, Op.intArith])
theorem s_quo (hx : opv l x = .int k a := by rfl) (hy : opv l y = .int k b := by rfl) (hb : b ≠ 0 := by first | decide | omega) (hc : k.wrap (a.tdiv b) = c) : Go1 P l w ⟨some d, .binOp .quo T x y yT, ty, pos, aft, none⟩ (.int k c) :=
  (by subst hc; unfold Go1; simp [execOp, hx, hy, eqGuard, binOp, Op.intDiv, hb])
theorem s_rem (hx : opv l x = .int k a := by rfl) (hy : opv l y = .int k b := by rfl) (hb : b ≠ 0 := by first | decide | omega) (hc : a.tmod b = c) : Go1 P l w ⟨some d, .binOp .rem T x y yT, ty, pos, aft, none⟩ (.int k c) :=
  (by subst hc; unfold Go1; simp [execOp, hx, hy, eqGuard, binOp, Op.intDiv, hb])
theorem s_lss (hx : opv l x = .int k a := by rfl) (hy : opv l y = .int k b := by rfl) : Go1 P l w ⟨some d, .binOp .lss T x y yT, ty, pos, aft, none⟩ (.bool (decide (a < b))) :=
  (by unfold Go1; simp [execOp, hx, hy, eqGuard, binOp, Op.intCmp])
theorem s_leq (hx : opv l x = .int k a := by rfl) (hy : opv l y = .int k b := by rfl) : Go1 P l w ⟨some d, .binOp .leq T x y yT, ty, pos, aft, none⟩ (.bool (decide (a ≤ b))) :=
  (by unfold Go1; simp [execOp, hx, hy, eqGuard, binOp, Op.intCmp])
theorem s_gtr (hx : opv l x = .int k a := by rfl) (hy : opv l y = .int k b := by rfl) : Go1 P l w ⟨some d, .binOp .gtr T x y yT, ty, pos, aft, none⟩ (.bool (decide (b < a))) :=
  (by unfold Go1; simp [execOp, hx, hy, eqGuard, binOp, Op.intCmp])
theorem s_geq (hx : opv l x = .int k a := by rfl) (hy : opv l y = .int k b := by rfl) : Go1 P l w ⟨some d, .binOp .geq T x y yT, ty, pos, aft, none⟩ (.bool (decide (b ≤ a))) :=
  (by unfold Go1; simp [execOp, hx, hy, eqGuard, binOp, Op.intCmp])
theorem s_eql (hx : opv l x = .int k a := by rfl) (hy : opv l y = .int k b := by rfl) : Go1 P l w ⟨some d, .binOp .eql T x y yT, ty, pos, aft, none⟩ (.bool (decide (a = b))) := by
  have e : (a == b) = decide (a = b) := by by_cases e : a = b <;> simp [e]
  unfold Go1
  simp [execOp, hx, hy, eqGuard, binOp, Op.intCmp, e]
theorem s_neq (hx : opv l x = .int k a := by rfl) (hy : opv l y = .int k b := by rfl) : Go1 P l w ⟨some d, .binOp .neq T x y yT, ty, pos, aft, none⟩ (.bool (decide (a ≠ b))) := by
  have e : (a != b) = decide (a ≠ b) := by by_cases e : a = b <;> simp [e, bne]
  unfold Go1
  rw [← e]
  simp [execOp, hx, hy, eqGuard, binOp, Op.intCmp]
theorem s_bits {op : BinOp} (hop : op = .and ∨ op = .or ∨ op = .xor ∨ op = .andNot) (hx : opv l x = .int k a := by rfl) (hy : opv l y = .int k b := by rfl) (hc : bits op k a b = c) : Go1 P l w ⟨some d, .binOp op T x y yT, ty, pos, aft, none⟩ (.int k c) := by
  subst hc
  rcases hop with rfl | rfl | rfl | rfl <;> exact (by unfold Go1; simp [execOp, hx, hy, eqGuard, binOp, Op.intBits, bits])
theorem s_shl {ky : IntKind} (hx : opv l x = .int k a := by rfl) (hy : opv l y = .int ky b := by rfl) (hb : 0 ≤ b := by first | decide | omega) (hc : k.wrap (a * 2 ^ (min b.toNat k.bits)) = c) : Go1 P l w ⟨some d, .binOp .shl T x y yT, ty, pos, aft, none⟩ (.int k c) :=
  (by subst hc; unfold Go1; simp [execOp, hx, hy, eqGuard, binOp, Op.shift, Int.not_lt.2 hb])
theorem s_shr {ky : IntKind} (hx : opv l x = .int k a := by rfl) (hy : opv l y = .int ky b := by rfl) (hb : 0 ≤ b := by first | decide | omega) (hc : a.fdiv (2 ^ (min b.toNat k.bits)) = c) : Go1 P l w ⟨some d, .binOp .shr T x y yT, ty, pos, aft, none⟩ (.int k c) :=
  (by subst hc; unfold Go1; simp [execOp, hx, hy, eqGuard, binOp, Op.shift, Int.not_lt.2 hb])
theorem s_conv {S D : TypeId} {k' : IntKind} (hS : P.underlying S = some (.int k)) (hD : P.underlying D = some (.int k')) (hx : opv l x = .int k a := by rfl) (hc : k'.wrap a = c) : Go1 P l w ⟨some d, .convert S D x, ty, pos, aft, none⟩ (.int k' c) :=
  (by subst hc; unfold Go1; simp [execOp, hx, convert, run_underlying hS, run_underlying hD, Conv.intToInt])
theorem s_neg (hx : opv l x = .int k a := by rfl) (hc : k.wrap (-a) = c) : Go1 P l w ⟨some d, .unOp .neg T x, ty, pos, aft, none⟩ (.int k c) :=
  (by subst hc; unfold Go1; simp [execOp, hx, Op.unary, Op.intArith])
theorem s_not {v : Bool} (hx : opv l x = .bool v := by rfl) : Go1 P l w ⟨some d, .unOp .not T x, ty, pos, aft, none⟩ (.bool (!v)) :=
  (by unfold Go1; simp [execOp, hx, Op.unary])
theorem s_max {tys : Array TypeId} (hx : opv l x = .int k a := by rfl) (hy : opv l y = .int k b := by rfl) : Go1 P l w ⟨some d, .call { callee := .builtin .max, args := #[x, y], argTypes := tys }, ty, pos, aft, none⟩ (.int k (max a b)) := by
  have e : (if b > a then b else a) = max a b := by simp only [Int.max_def]; split <;> split <;> omega
  unfold Go1
  rw [← e]
  simp [execOp, resolve, invoke, builtin, hx, hy, Builtin.max_, Builtin.max2]
theorem s_min {tys : Array TypeId} (hx : opv l x = .int k a := by rfl) (hy : opv l y = .int k b := by rfl) : Go1 P l w ⟨some d, .call { callee := .builtin .min, args := #[x, y], argTypes := tys }, ty, pos, aft, none⟩ (.int k (min a b)) := by
  have e : (if b < a then b else a) = min a b := by simp only [Int.min_def]; split <;> split <;> omega
  unfold Go1
  rw [← e]
  simp [execOp, resolve, invoke, builtin, hx, hy, Builtin.min_, Builtin.min2]
end
theorem s_len_str {x : Operand} {T : TypeId} {s : ByteArray} (hT : P.underlying T = some .string) (hx : opv l x = .string s := by rfl) : Go1 P l w ⟨some d, .call { callee := .builtin .len, args := #[x], argTypes := #[T] }, ty, pos, aft, none⟩ (.int .i64 s.size) :=
  (by unfold Go1; simp [execOp, resolve, invoke, builtin, hx, Builtin.len_, run_underlying hT, goInt])
theorem s_len_sl {x : Operand} {T e : TypeId} {A : Option Addr} {n c : Nat} (hT : P.underlying T = some (.slice e)) (hx : opv l x = .slice A n c := by rfl) : Go1 P l w ⟨some d, .call { callee := .builtin .len, args := #[x], argTypes := #[T] }, ty, pos, aft, none⟩ (.int .i64 n) :=
  (by unfold Go1; simp [execOp, resolve, invoke, builtin, hx, Builtin.len_, run_underlying hT, goInt])
theorem s_makeFunc {fn : Fn} {f c : Array Operand} : Go1 P l w ⟨some d, .makeFunc fn f c, ty, pos, aft, none⟩ (.func fn (f.map (opv l)) (c.map (opv l))) :=
  (by unfold Go1; simp [execOp, Instr.makeFunc])
def isAggD : TypeDesc → Bool
  | .struct _ | .array _ _ => true
  | _ => false
theorem run_isAgg_yes {P : Program} {t : TypeId} {dsc : TypeDesc} (hu : P.underlying t = some dsc) (hd : isAggD dsc = true) (w : World) : (isAgg t).run P w = .ok true w := by
  cases dsc <;> simp_all [isAgg, run_underlying hu, isAggD]
theorem run_isAgg_no {P : Program} {t : TypeId} {dsc : TypeDesc} (hu : P.underlying t = some dsc) (hd : isAggD dsc = false) (w : World) : (isAgg t).run P w = .ok false w := by
  cases dsc <;> simp_all [isAgg, run_underlying hu, isAggD]
theorem part_agg {P : Program} {w : World} {t : TypeId} {cs : Array Value} {off sz by' : Nat} {z : Value} {dsc : TypeDesc} (hu : P.underlying t = some dsc) (hd : isAggD dsc = true) (hi : TI P t sz by' z) :
    (part t cs off).run P w = .ok (.agg (cs.extract off (off + sz))) w := by
  obtain ⟨i, hi, rfl, _, _⟩ := hi
  simp [part, run_isAgg_yes hu hd, sizeOf, typeInfo, hi]
theorem part_one {P : Program} {w : World} {t : TypeId} {cs : Array Value} {off : Nat} {v : Value} {dsc : TypeDesc} (hu : P.underlying t = some dsc) (hd : isAggD dsc = false) (hv : cs[off]? = some v := by first | rfl | exact ic_get (by first | omega | (simp [*]; done) | (simp [*]; omega))) :
    (part t cs off).run P w = .ok v w := by
  simp [part, run_isAgg_no hu hd, hv]
theorem s_index_one {x y : Operand} {T e : TypeId} {n sz by' : Nat} {z : Value} {k : IntKind} {i : Int} {cs : Array Value} {v : Value} {dsc : TypeDesc} (hT : P.underlying T = some (.array n e)) (hi : TI P e sz by' z) (hu : P.underlying e = some dsc) (hd : isAggD dsc = false := by rfl)
    (hx : opv l x = .agg cs := by rfl) (hy : opv l y = .int k i := by rfl) (h0 : 0 ≤ i := by omega) (h1 : i < n := by omega) (hv : cs[i.toNat * sz]? = some v := by first | rfl | exact ic_get (by first | omega | (simp [*]; done) | (simp [*]; omega))) : Go1 P l w ⟨some d, .index T x y, ty, pos, aft, none⟩ v := by
  obtain ⟨i', hi', rfl, _, _⟩ := hi
  exact (by unfold Go1; simp [execOp, Instr.index, run_underlying hT, hx, hy, asIntOf, h0, h1, sizeOf, typeInfo, hi', part_one hu hd hv])
theorem s_index_str {x y : Operand} {T : TypeId} {s : ByteArray} {k : IntKind} {i : Int} {b : UInt8} (hT : P.underlying T = some .string) (hx : opv l x = .string s := by rfl) (hy : opv l y = .int k i := by rfl) (h0 : 0 ≤ i := by omega) (hb : s[i.toNat]? = some b) : Go1 P l w ⟨some d, .index T x y, ty, pos, aft, none⟩ (.int .u8 b.toNat) :=
  (by unfold Go1; simp [execOp, Instr.index, run_underlying hT, hx, hy, asIntOf, h0, hb])
/-- A call comes back with a value. -/
def CallR (P : Program) (f : FuncId) (args : Array Value) (w : World) (R : Value → World → Prop) : Prop := Calls P f args w fun e w' => ∃ v, e = .returned v ∧ R v w'
theorem CallR.mono {f : FuncId} {args : Array Value} {w : World} {R R' : Value → World → Prop} (h : CallR P f args w R) (hr : ∀ v w', R v w' → R' v w') : CallR P f args w R' :=
  Calls.mono h fun _ _ ⟨v, he, q⟩ => ⟨v, he, hr _ _ q⟩
theorem s_call_any {o : Oper} {f : Nat} {args : Array Value} {K : Act → World → Prop} {Q : Exit → Act → World → Prop} (hr : (execOp (opv l) o).run P w = .ok (.enter f args) w) (h : CallR P f args w fun v w'' => K ((fr l).put o.dst v) w'') : o.wp P (fr l) w K Q := by
  unfold Oper.wp
  rw [eval_fr, hr, Oper.upon_enter]
  refine Calls.mono h ?_
  rintro e w1 ⟨v, rfl, q⟩
  exact q
theorem s_call {f : Nat} {args : Array Operand} {tys : Array TypeId} (he : Enters P f) (h : CallR P f (args.map (opv l)) w fun v w'' => WL P ops Q rest (fr (l.set d v)) w'') : WL P ops Q (⟨some d, .call { callee := .value (.func f), args := args, argTypes := tys }, ty, pos, aft, none⟩ :: rest) (fr l) w :=
  wl_plain rfl fun K hK => by
    have := he (args.map (opv l) ++ #[]) w
    simp only [Array.append_empty] at this
    refine s_call_any (f := f) (args := args.map (opv l)) (by simp [execOp, resolve, opv, Deferred.ofValue, invoke, this]) (h.mono fun v w1 q => ?_)
    show K ((fr l).put (some d) v) w1
    rw [put_fr]; exact hK _ _ q
/-- a call of a function value -/
theorem s_callv {t f : Nat} {args : Array Operand} {tys : Array TypeId} {cap : Array Value} (hv : l.getD t undef = .func (.func f) #[] cap) (he : Enters P f) (h : CallR P f (args.map (opv l) ++ cap) w fun v w'' => WL P ops Q rest (fr (l.set d v)) w'') : WL P ops Q (⟨some d, .call { callee := .value (.tmp t), args := args, argTypes := tys }, ty, pos, aft, none⟩ :: rest) (fr l) w :=
  wl_plain rfl fun K hK => by
    have := he (args.map (opv l) ++ cap) w
    have hv' : opv l (.tmp t) = .func (.func f) #[] cap := hv
    refine s_call_any (f := f) (args := args.map (opv l) ++ cap) (by simp [execOp, resolve, hv', Deferred.ofValue, invoke, this]) (h.mono fun v w1 q => ?_)
    show K ((fr l).put (some d) v) w1
    rw [put_fr]; exact hK _ _ q
end
section
variable {P : Program}
/-- a function's end -/
def Rt (P : Program) (fn : Func) (R : Value → World → Prop) (a : Act) (w : World) : Prop := a.defers = [] ∧ ∃ v, (results fn a.tmps).run P w = .ok v w ∧ R v w
theorem c_enter {f : FuncId} {fn : Func} {c : Code} {args : Array Value} {w : World} {R : Value → World → Prop} {l : List Value} (hf : P.funcs[f]? = some fn) (hb : fn.body = some c)
    (hl : (args ++ Array.replicate (fn.ntmps - args.size) undef) = l.toArray)
    (h : c.wp P (Qx (Rt P fn R) (Rt P fn R) []) (fr l) w) : CallR P f args w R := by
  refine calls_of_wp hf hb ?_
  rw [hl]
  refine wp_mono h fun e a w' q => ?_
  cases e with
  | normal => obtain ⟨h1, v, h2, h3⟩ := q; exact ⟨h1, v, h2, v, rfl, h3⟩
  | ret => obtain ⟨h1, v, h2, h3⟩ := q; exact ⟨h1, v, h2, v, rfl, h3⟩
  | exit i => exact q.elim
  | goto i => exact q.elim
  | panic ch => exact q.elim
  | outgrown => exact q.elim
theorem r_tmp {fn : Func} {t : Nat} {l : List Value} {w : World} {R : Value → World → Prop} (h : fn.results = #[.tmp t]) (hR : R (l.getD t undef) w) :
    Rt P fn R (fr l) w :=
  ⟨rfl, _, results_tmp h _ _ _, by simpa [fr, Array.getD_eq_getD_getElem?, List.getD] using hR⟩
theorem r_none {fn : Func} {l : List Value} {w : World} {R : Value → World → Prop} (h : fn.results = #[]) (hR : R (.tuple #[]) w) :
    Rt P fn R (fr l) w := ⟨rfl, _, results_none h _ _ _, hR⟩
theorem r_tmp2 {fn : Func} {t u : Nat} {l : List Value} {w : World} {R : Value → World → Prop} (h : fn.results = #[.tmp t, .tmp u]) (hR : R (.tuple #[l.getD t undef, l.getD u undef]) w) :
    Rt P fn R (fr l) w :=
  ⟨rfl, _, results_tmp2 h _ _ _, by simpa [fr, Array.getD_eq_getD_getElem?, List.getD] using hR⟩
/-- one result that lies in a box -/
theorem r_cell {fn : Func} {t : Nat} {T : TypeId} {l : List Value} {w : World} {R : Value → World → Prop} {p : Addr} {v : Value} (h : fn.results = #[.cell t T]) (hp : l.getD t undef = .pointer (some p)) (hv : (loadVar T p).run P w = .ok v w) (hR : R v w) :
    Rt P fn R (fr l) w := by
  have hp' : ((fr l).tmps[t]?.getD undef) = .pointer (some p) := by rw [← hp]; simp [fr, List.getD]
  exact ⟨rfl, v, by simp [results, h, hp', asAddr, hv], hR⟩
theorem r_cell_tmp {fn : Func} {t u : Nat} {T : TypeId} {l : List Value} {w : World} {R : Value → World → Prop} {p : Addr} {v : Value} (h : fn.results = #[.cell t T, .tmp u]) (hp : l.getD t undef = .pointer (some p)) (hv : (loadVar T p).run P w = .ok v w) (hR : R (.tuple #[v, l.getD u undef]) w) :
    Rt P fn R (fr l) w := by
  have hp' : ((fr l).tmps[t]?.getD undef) = .pointer (some p) := by rw [← hp]; simp [fr, List.getD]
  have hu : ((fr l).tmps[u]?.getD undef) = l[u]?.getD undef := by simp [fr]
  exact ⟨rfl, .tuple #[v, l.getD u undef], by simp [results, h, hp', asAddr, hv, hu], hR⟩
theorem r_cell_cell {fn : Func} {t u : Nat} {T U : TypeId} {l : List Value} {w : World} {R : Value → World → Prop} {p q : Addr} {v v' : Value} (h : fn.results = #[.cell t T, .cell u U]) (hp : l.getD t undef = .pointer (some p)) (hv : (loadVar T p).run P w = .ok v w) (hq : l.getD u undef = .pointer (some q)) (hv' : (loadVar U q).run P w = .ok v' w) (hR : R (.tuple #[v, v']) w) :
    Rt P fn R (fr l) w := by
  have hp' : ((fr l).tmps[t]?.getD undef) = .pointer (some p) := by rw [← hp]; simp [fr, List.getD]
  have hq' : ((fr l).tmps[u]?.getD undef) = .pointer (some q) := by rw [← hq]; simp [fr, List.getD]
  exact ⟨rfl, .tuple #[v, v'], by simp [results, h, hp', hq', asAddr, hv, hv'], hR⟩
end
end Go.Proofs.YtpekghaodmeemaaGreat
namespace Go.Proofs.YtpekghaodmeemaaGreat
open Go.RowKit
theorem add_at (g o k : Nat) : (⟨g, o, none⟩ : Addr).add k = ⟨g, o + k, none⟩ := by unfold Addr.add; split <;> simp_all
theorem Upd.has {L L' : List Res} {r r' : Res} (h : Upd L r r' L') : Has L' r' := by
  induction h with
  | head => exact .head
  | tail _ ih => exact .tail ih
/-- cells that lie at a place -/
def At (w : World) (g o : Nat) (cs : List Value) : Prop := ∀ j u, cs[j]? = some u → w.cell? ⟨g, o + j, none⟩ = some u
theorem At.of_obj {w : World} {g : Nat} {cs : Array Value} {t : TypeId} {f : Nat × Nat} (h : w.heap[g]? = some (.cells cs t f)) : At w g 0 cs.toList := fun j u hu => by
  rw [cell_of_row w g (0 + j) cs t f h]; simpa using hu
theorem At.drop {w : World} {g o : Nat} {cs : List Value} (h : At w g o cs) (k : Nat) : At w g (o + k) (cs.drop k) := fun j u hu => by
  rw [Nat.add_assoc]; exact h (k + j) u (by simpa [List.getElem?_drop] using hu)
theorem At.take {w : World} {g o : Nat} {cs : List Value} (h : At w g o cs) (k : Nat) : At w g o (cs.take k) := fun j u hu => by
  refine h j u ?_
  rw [List.getElem?_take] at hu
  split at hu
  · exact hu
  · cases hu
theorem loads_one {P : Program} {w : World} {T : TypeId} {dsc : TypeDesc} {p : Addr} {v : Value} (hu : P.underlying T = some dsc) (hd : isAggD dsc = false) (hv : w.cell? p = some v) : (loadVar T p).run P w = .ok v w := by
  simp [loadVar, run_isAgg_no hu hd, load, Sem.run, hv]
theorem loads_agg {P : Program} {w : World} {T : TypeId} {dsc : TypeDesc} {g o sz by' : Nat} {z : Value} {cs : List Value} (hu : P.underlying T = some dsc) (hd : isAggD dsc = true) (hi : TI P T sz by' z) (hl : cs.length = sz) (hc : At w g o cs) : (loadVar T ⟨g, o, none⟩).run P w = .ok (.agg cs.toArray) w := by
  obtain ⟨i, hi, rfl, _, _⟩ := hi
  have h := run_loadCells_list (P := P) w ⟨g, o, none⟩ cs (fun j v hv => by rw [add_at]; exact hc j v hv)
  rw [hl] at h
  simp [loadVar, run_isAgg_yes hu hd, sizeOf, typeInfo, hi, h]
def splice (cur : List Value) (o : Nat) (vs : List Value) : List Value := cur.take o ++ vs ++ cur.drop (o + vs.length)
theorem length_splice' {cur vs : List Value} {o : Nat} (h : o + vs.length ≤ cur.length) : (splice cur o vs).length = cur.length := by simp [splice]; omega
theorem splice_one {cur : List Value} {o : Nat} {v : Value} (h : o < cur.length) : splice cur o [v] = cur.set o v := by
  unfold splice
  rw [List.set_eq_take_append_cons_drop, if_pos h]
  simp
theorem splice_all {cur vs : List Value} (h : vs.length = cur.length) : splice cur 0 vs = vs := by
  simp [splice, h]
theorem splice_il {k : IntKind} {l : List Int} {i : Nat} {v : Int} (h : i < l.length) : splice (l.map (Value.int k)) i [.int k v] = (l.set i v).map (Value.int k) := by
  rw [splice_one (by simpa using h), List.map_set]
theorem splice_ic {k : IntKind} {l : List Int} {i : Nat} {v : Int} (h : i < l.length) : splice (ic k l).toList i [.int k v] = (l.set i v).map (Value.int k) := splice_il h
theorem splice_whole {cur : Array Value} {vs : List Value} (h : vs.length = cur.size) : splice cur.toList 0 vs = vs := splice_all (by simpa using h)
theorem stores {P : Program} {w : World} {T : TypeId} {g o sz by' : Nat} {z : Value} {cur : Array Value} {t : TypeId} {v : Value} (hi : TI P T sz by' z) (hv : v.cells.size = sz) (h1 : ∀ u ∈ v.cells.toList, u.oneCell' = true) (hg : w.heap[g]? = some (.cells cur t (0, 0))) (hfit : o + sz ≤ cur.size) :
    (storeVar T ⟨g, o, none⟩ v).run P w = .ok () (w.setRow g (splice cur.toList o v.cells.toList).toArray) := by
  obtain ⟨i, hi, rfl, _, _⟩ := hi
  have h := run_storeCells_at P g o t v.cells.toList 0 cur w hg (by simpa [hv] using hfit) h1
  simp only [Nat.add_zero] at h
  simp [storeVar, sizeOf, typeInfo, hi, hv, splice, h]
theorem setRow_keep (w : World) (g : Nat) (cs : Array Value) : Keep (fun k => some g = some k) w (w.setRow g cs) :=
  ⟨rfl, rfl, rfl, by simp, fun k _ hk => setRow_other w g k cs (fun e => hk (by rw [e])), Nat.le_refl _⟩
section
variable {S : Nat → Prop} {w0 w w' : World} {L L' : List Res}
theorem St.obj_at {g : Nat} {cs : Array Value} {t : TypeId} {f : Nat × Nat} (h : St S w0 w L) (hm : Has L (.obj g (.cells cs t f))) : At w g 0 cs.toList := At.of_obj (h.has hm)
theorem St.rd_at {A : Option Addr} {sz n : Nat} {xs : List Value} (h : St S w0 w L) (hm : Has L (.rd A sz n xs)) (hn : 0 < n) : ∃ g o, A = some ⟨g, o, none⟩ ∧ At w g o xs := by
  obtain ⟨_, h2⟩ := h.has hm
  obtain ⟨g, o, e, _, h3⟩ := h2 hn
  exact ⟨g, o, e, h3⟩
theorem vec_at {A : Option Addr} {c : Nat} {e : TypeId} {sz n : Nat} {xs : List Value} (h : w.ownsRow 0 e sz (.slice A n c) n xs) (hn : 0 < n) : ∃ g, A = some ⟨g, 0, none⟩ ∧ At w g 0 xs := by
  obtain ⟨hl, h2⟩ := h
  rcases h2 with ⟨hv, h0⟩ | ⟨g, cap, cur, hv, _, hg, hnc, hcm, hcs, ht⟩
  · omega
  · simp only [Value.slice.injEq] at hv
    refine ⟨g, hv.1, fun j u hu => ?_⟩
    rw [cell_of_row w g (0 + j) cur e (0, 0) hg]
    rw [← ht, List.getElem?_take] at hu
    split at hu
    · simpa using hu
    · cases hu
theorem St.vec_at {A : Option Addr} {c : Nat} {e : TypeId} {sz n : Nat} {xs : List Value} (h : St S w0 w L) (hm : Has L (.vec A c e sz n xs)) (hn : 0 < n) : ∃ g o, A = some ⟨g, o, none⟩ ∧ At w g o xs := by
  obtain ⟨g, e, hc⟩ := Go.Proofs.YtpekghaodmeemaaGreat.vec_at (h.has hm) hn
  exact ⟨g, 0, e, hc⟩
/-- what is owned may be given up and only read from then on -/
theorem St.vec_rd {A : Option Addr} {c : Nat} {e : TypeId} {sz n : Nat} {xs : List Value} (h : St S w0 w L) (hu : Upd L (.vec A c e sz n xs) (.rd A sz n xs) L') : St S w0 w L' := by
  have hv := h.holds _ hu.mem
  refine h.weaken hu ⟨hv.1, fun hn => ?_⟩ (by intro g hg; simp [Res.own] at hg) ?_
  · obtain ⟨g, e', hc⟩ := Go.Proofs.YtpekghaodmeemaaGreat.vec_at hv hn
    exact ⟨g, 0, e', own_lt hv (by simp [Res.own, e']), hc⟩
  · intro g hg
    simp only [Res.reads] at hg
    split at hg
    · cases hg
    · exact .inl hg
theorem St.obj_rd {g : Nat} {cs : Array Value} {t : TypeId} {f : Nat × Nat} {sz n : Nat} (h : St S w0 w L) (hn : cs.size = n * sz) (hu : Upd L (.obj g (.cells cs t f)) (.rd (some ⟨g, 0, none⟩) sz n cs.toList) L') : St S w0 w L' := by
  have hv := h.holds _ hu.mem
  refine h.weaken hu ⟨by simpa using hn, fun _ => ⟨g, 0, rfl, own_lt hv rfl, At.of_obj hv⟩⟩ (by intro k hk; simp [Res.own] at hk) ?_
  intro k hk
  simp only [Res.reads] at hk
  split at hk
  · cases hk
  · exact .inl (by simpa [Res.own] using hk)
theorem St.obj_vec {g : Nat} {cs : Array Value} {t : TypeId} {sz n : Nat} (h : St S w0 w L) (hn : cs.size = n * sz) (hm : n ≤ maxLen) (hu : Upd L (.obj g (.cells cs t (0, 0))) (.vec (some ⟨g, 0, none⟩) n t sz n cs.toList) L') : St S w0 w L' := by
  have hv := h.holds _ hu.mem
  refine h.weaken hu ⟨by simpa using hn, .inr ⟨g, n, cs, rfl, Nat.zero_le _, hv, Nat.le_refl _, hm, hn, by rw [← hn]; exact List.take_of_length_le (by simp)⟩⟩ (by intro k hk; simpa [Res.own] using hk) (by intro k hk; simp [Res.reads] at hk)
/-- the nil slice is owned by whoever wants it -/
theorem St.nil_vec (h : St S w0 w L) (e : TypeId) (sz : Nat) : St S w0 w (.vec none 0 e sz 0 [] :: L) :=
  h.add Ext.rfl' (World.ownsRow_nil w 0 e sz) (by intro g hg; rcases hg with hg | hg <;> simp [Res.own, Res.reads] at hg)
/-- nothing is read of an empty slice -/
theorem St.rd_none (h : St S w0 w L) (A : Option Addr) (sz : Nat) : St S w0 w (.rd A sz 0 [] :: L) :=
  h.add_rd ⟨by simp, fun hn => absurd hn (by omega)⟩ (by intro r _ g _; simp [Res.reads])
/-- a piece of what may be read may be read -/
theorem St.rd_sub {A : Option Addr} {sz n : Nat} {xs : List Value} (h : St S w0 w L) (hm : Has L (.rd A sz n xs)) (lo hi : Nat) (h1 : lo ≤ hi) (h2 : hi ≤ n) (A' : Option Addr) (hA : lo < hi → A' = A.map (·.add (lo * sz))) :
    St S w0 w (.rd A' sz (hi - lo) ((xs.drop (lo * sz)).take ((hi - lo) * sz)) :: L) := by
  have hr := h.has hm
  obtain ⟨hl, hc⟩ := hr
  refine h.add_rd ⟨?_, fun hn => ?_⟩ ?_
  · rw [List.length_take, List.length_drop, hl, ← Nat.sub_mul]
    exact Nat.min_eq_left (Nat.mul_le_mul_right _ (by omega))
  · obtain ⟨g, o, rfl, hlt, hcc⟩ := hc (by omega)
    have hcc' : At w g o xs := hcc
    refine ⟨g, o + lo * sz, by rw [hA (by omega)]; simp [add_at], hlt, ?_⟩
    exact (hcc'.drop (lo * sz)).take _
  · intro r hr g hg e
    simp only [Res.reads] at e
    split at e
    · cases e
    · have hn : 0 < n := by omega
      obtain ⟨g', o, rfl, hlt, hcc⟩ := hc hn
      rw [hA (by omega)] at e
      simp [add_at] at e
      subst e
      -- r owns what is read in L: they are apart
      have hmem := hm.mem
      have hap : ∀ {M : List Res}, M.Pairwise Res.compat → r ∈ M → Res.rd (some ⟨g', o, none⟩) sz n xs ∈ M → r.own = some g' → False := by
        intro M hp
        induction hp with
        | nil => intro h1; cases h1
        | cons hhd _ ih =>
          intro hr1 hr2 hg'
          have hread : (Res.rd (some ⟨g', o, none⟩) sz n xs).reads = some g' := by simp [Res.reads, Nat.ne_of_gt hn]
          rcases List.mem_cons.1 hr1 with rfl | hr1
          · rcases List.mem_cons.1 hr2 with e | hr2
            · rw [← e] at hg'; simp [Res.own] at hg'
            · exact ((hhd _ hr2 g').1 hg').2 hread
          · rcases List.mem_cons.1 hr2 with e | hr2
            · rw [← e] at hhd; exact ((hhd _ hr1 g').2 hg').2 hread
            · exact ih hr1 hr2 hg'
      exact hap h.apart hr hmem hg
end
section
variable {P : Program} {ops : Array Oper} {Q : Exit → Act → World → Prop} {rest : List Oper} {l : List Value} {w : World} {d : Nat} {ty : TypeId} {pos : String} {aft : Array Edge}
variable {S : Nat → Prop} {w0 : World} {L L' : List Res}
theorem m_box {elem : TypeId} {x : Operand} (hS : St S w0 w L) (h : ∀ w' g, St S w0 w' (.obj g (.cells (opv l x).cells elem (0, 0)) :: L) → WL P ops Q rest (fr (l.set d (.pointer (some ⟨g, 0, none⟩)))) w') : WL P ops Q (⟨some d, .box elem x, ty, pos, aft, none⟩ :: rest) (fr l) w :=
  s_val (w' := w.alloc (.cells (opv l x).cells elem)) (by simp [execOp, Instr.box, newVar, newRow]) (h _ _ (hS.alloc _))
theorem m_alloc {elem : TypeId} {sz by' : Nat} {z : Value} (hi : TI P elem sz by' z) (hS : St S w0 w L) (h : ∀ w' g, St S w0 w' (.obj g (.cells z.cells elem (0, 0)) :: L) → WL P ops Q rest (fr (l.set d (.pointer (some ⟨g, 0, none⟩)))) w') : WL P ops Q (⟨some d, .alloc elem, ty, pos, aft, none⟩ :: rest) (fr l) w := by
  obtain ⟨i, hi, _, _, hz⟩ := hi
  exact s_val (w' := w.alloc (.cells z.cells elem)) (by simp [execOp, Instr.alloc, newVar, newRow, zeroValue, typeInfo, hi, hz]) (h _ _ (hS.alloc _))
/-- a load of one cell -/
theorem m_load {T : TypeId} {x : Operand} {dsc : TypeDesc} {p : Addr} {v : Value} (hu : P.underlying T = some dsc) (hd : isAggD dsc = false := by rfl) (hx : opv l x = .pointer (some p) := by rfl) (hv : w.cell? p = some v) : Go1 P l w ⟨some d, .load T x, ty, pos, aft, none⟩ v :=
  (by unfold Go1; simp [execOp, Instr.loadAt, hx, Instr.sureAddr, loads_one hu hd hv])
theorem m_load_obj {T : TypeId} {x : Operand} {dsc : TypeDesc} {g o : Nat} {cs : Array Value} {t : TypeId} {f : Nat × Nat} {v : Value} (hu : P.underlying T = some dsc) (hd : isAggD dsc = false := by rfl) (hx : opv l x = .pointer (some ⟨g, o, none⟩) := by rfl) (hS : St S w0 w L) (hm : Has L (.obj g (.cells cs t f)) := by repeat (first | exact Has.head | apply Has.tail)) (hv : cs[o]? = some v := by first | rfl | exact ic_get (by first | omega | (simp [*]; done) | (simp [*]; omega)) | exact il_get (by first | omega | (simp [*]; done) | (simp [*]; omega))) : Go1 P l w ⟨some d, .load T x, ty, pos, aft, none⟩ v :=
  m_load hu hd hx (by have := hS.obj_at hm o v (by simpa using hv); simpa using this)
theorem m_load_rd {T : TypeId} {x : Operand} {dsc : TypeDesc} {k : Nat} {A : Option Addr} {sz n : Nat} {xs : List Value} {v : Value} (hu : P.underlying T = some dsc) (hd : isAggD dsc = false := by rfl) (hx : opv l x = .pointer (A.map (·.add k)) := by rfl) (hS : St S w0 w L) (hm : Has L (.rd A sz n xs) := by repeat (first | exact Has.head | apply Has.tail)) (hn : 0 < n := by omega) (hv : xs[k]? = some v := by first | rfl | exact ic_get (by first | omega | (simp [*]; done) | (simp [*]; omega)) | exact il_get (by first | omega | (simp [*]; done) | (simp [*]; omega))) : Go1 P l w ⟨some d, .load T x, ty, pos, aft, none⟩ v := by
  obtain ⟨g, o, rfl, hc⟩ := hS.rd_at hm hn
  exact m_load hu hd (p := ⟨g, o + k, none⟩) (by rw [hx]; simp [add_at]) (hc k v hv)
theorem m_load_vec {T : TypeId} {x : Operand} {dsc : TypeDesc} {k : Nat} {A : Option Addr} {c : Nat} {e : TypeId} {sz n : Nat} {xs : List Value} {v : Value} (hu : P.underlying T = some dsc) (hd : isAggD dsc = false := by rfl) (hx : opv l x = .pointer (A.map (·.add k)) := by rfl) (hS : St S w0 w L) (hm : Has L (.vec A c e sz n xs) := by repeat (first | exact Has.head | apply Has.tail)) (hn : 0 < n := by omega) (hv : xs[k]? = some v := by first | rfl | exact ic_get (by first | omega | (simp [*]; done) | (simp [*]; omega)) | exact il_get (by first | omega | (simp [*]; done) | (simp [*]; omega))) : Go1 P l w ⟨some d, .load T x, ty, pos, aft, none⟩ v := by
  obtain ⟨g, o, rfl, hc⟩ := hS.vec_at hm hn
  exact m_load hu hd (p := ⟨g, o + k, none⟩) (by rw [hx]; simp [add_at]) (hc k v hv)
/-- a load of a struct or an array -/
theorem m_loada {T : TypeId} {x : Operand} {dsc : TypeDesc} {g o sz by' : Nat} {z : Value} {cs : List Value} (hu : P.underlying T = some dsc) (hd : isAggD dsc = true := by rfl) (hi : TI P T sz by' z) (hx : opv l x = .pointer (some ⟨g, o, none⟩) := by rfl) (hl : cs.length = sz) (hc : At w g o cs) : Go1 P l w ⟨some d, .load T x, ty, pos, aft, none⟩ (.agg cs.toArray) :=
  (by unfold Go1; simp [execOp, Instr.loadAt, hx, Instr.sureAddr, loads_agg hu hd hi hl hc])
theorem m_loada_obj {T : TypeId} {x : Operand} {dsc : TypeDesc} {g o sz by' : Nat} {z : Value} {cs : Array Value} {t : TypeId} {f : Nat × Nat} (hu : P.underlying T = some dsc) (hd : isAggD dsc = true := by rfl) (hi : TI P T sz by' z) (hx : opv l x = .pointer (some ⟨g, o, none⟩) := by rfl) (hS : St S w0 w L) (hm : Has L (.obj g (.cells cs t f)) := by repeat (first | exact Has.head | apply Has.tail)) (hfit : o + sz ≤ cs.size := by first | omega | (simp only [ic_size, List.length_map, List.size_toArray]; omega) | (simp [*]; done) | rfl | (simp [*]; omega)) : Go1 P l w ⟨some d, .load T x, ty, pos, aft, none⟩ (.agg ((cs.toList.drop o).take sz).toArray) :=
  m_loada hu hd hi hx (by simp; omega) (by have := ((hS.obj_at hm).drop o).take sz; rwa [Nat.zero_add] at this)
/-- the whole row -/
theorem m_load_row {T : TypeId} {x : Operand} {dsc : TypeDesc} {g sz by' : Nat} {z : Value} {cs : Array Value} {t : TypeId} {f : Nat × Nat} (hu : P.underlying T = some dsc) (hd : isAggD dsc = true := by rfl) (hi : TI P T sz by' z) (hx : opv l x = .pointer (some ⟨g, 0, none⟩) := by rfl) (hS : St S w0 w L) (hm : Has L (.obj g (.cells cs t f)) := by repeat (first | exact Has.head | apply Has.tail)) (hfit : cs.size = sz := by first | omega | (simp only [ic_size, List.length_map, List.size_toArray]; omega) | (simp [*]; done) | rfl | (simp [*]; omega)) : Go1 P l w ⟨some d, .load T x, ty, pos, aft, none⟩ (.agg cs) :=
  by simpa using m_loada (d := d) (ty := ty) (pos := pos) (aft := aft) hu hd hi hx (cs := cs.toList) (by simpa using hfit) (hS.obj_at hm)
theorem m_loada_rd {T : TypeId} {x : Operand} {dsc : TypeDesc} {k sz by' : Nat} {z : Value} {A : Option Addr} {esz n : Nat} {xs : List Value} (hu : P.underlying T = some dsc) (hd : isAggD dsc = true := by rfl) (hi : TI P T sz by' z) (hx : opv l x = .pointer (A.map (·.add k)) := by rfl) (hS : St S w0 w L) (hm : Has L (.rd A esz n xs) := by repeat (first | exact Has.head | apply Has.tail)) (hn : 0 < n := by omega) (hfit : k + sz ≤ xs.length := by first | omega | (simp only [ic_size, List.length_map, List.size_toArray]; omega) | (simp [*]; done) | rfl | (simp [*]; omega)) : Go1 P l w ⟨some d, .load T x, ty, pos, aft, none⟩ (.agg ((xs.drop k).take sz).toArray) := by
  obtain ⟨g, o, rfl, hc⟩ := hS.rd_at hm hn
  exact m_loada hu hd hi (g := g) (o := o + k) (by rw [hx]; simp [add_at]) (by simp; omega) ((hc.drop k).take sz)
theorem m_loada_vec {T : TypeId} {x : Operand} {dsc : TypeDesc} {k sz by' : Nat} {z : Value} {A : Option Addr} {c : Nat} {e : TypeId} {esz n : Nat} {xs : List Value} (hu : P.underlying T = some dsc) (hd : isAggD dsc = true := by rfl) (hi : TI P T sz by' z) (hx : opv l x = .pointer (A.map (·.add k)) := by rfl) (hS : St S w0 w L) (hm : Has L (.vec A c e esz n xs) := by repeat (first | exact Has.head | apply Has.tail)) (hn : 0 < n := by omega) (hfit : k + sz ≤ xs.length := by first | omega | (simp only [ic_size, List.length_map, List.size_toArray]; omega) | (simp [*]; done) | rfl | (simp [*]; omega)) : Go1 P l w ⟨some d, .load T x, ty, pos, aft, none⟩ (.agg ((xs.drop k).take sz).toArray) := by
  obtain ⟨g, o, rfl, hc⟩ := hS.vec_at hm hn
  exact m_loada hu hd hi (g := g) (o := o + k) (by rw [hx]; simp [add_at]) (by simp; omega) ((hc.drop k).take sz)
/-- a store into an owned row -/
theorem m_store_obj {T : TypeId} {x y : Operand} {g o sz by' : Nat} {z : Value} {cs : Array Value} {t : TypeId} {cs' : List Value} (hi : TI P T sz by' z) (hx : opv l x = .pointer (some ⟨g, o, none⟩) := by rfl) (hv : (opv l y).cells.size = sz := by first | (simp [opv, Value.cells, *]; done) | rfl) (h1 : ∀ u ∈ (opv l y).cells.toList, u.oneCell' = true := by first | exact ic_one _ _ | simp [opv, Value.cells, Value.oneCell']) (hS : St S w0 w L) (_hm : Has L (.obj g (.cells cs t (0, 0))) := by repeat (first | exact Has.head | apply Has.tail)) (hc : splice cs.toList o (opv l y).cells.toList = cs' := by first | exact splice_ic (by first | omega | (simp [*]; done) | (simp [*]; omega)) | exact splice_il (by first | omega | (simp [*]; done) | (simp [*]; omega)) | exact splice_whole (by first | (simp [opv, Value.cells, *]; done) | rfl) | (simp only [opv, n1, n2, Value.cells, splice, List.take_succ_cons, List.take_zero, List.drop_succ_cons, List.drop_zero, List.length_cons, List.length_nil, Nat.zero_add, Nat.reduceAdd, List.append_assoc, List.cons_append, List.nil_append]; rfl)) (hu : Upd L (.obj g (.cells cs t (0, 0))) (.obj g (.cells cs'.toArray t (0, 0))) L' := by repeat (first | exact Upd.head | apply Upd.tail)) (hfit : o + sz ≤ cs.size := by first | omega | (simp only [ic_size, List.length_map, List.size_toArray]; omega) | (simp [*]; done) | rfl | (simp [*]; omega))
    (h : ∀ w', St S w0 w' L' → WL P ops Q rest (fr l) w') : WL P ops Q (⟨none, .store T x y, ty, pos, aft, none⟩ :: rest) (fr l) w := by
  have hg := hS.holds _ hu.mem
  subst hc
  refine s_unit (w' := w.setRow g (splice cs.toList o (opv l y).cells.toList).toArray) (by simp [execOp, Instr.storeAt, hx, Instr.sureAddr, stores hi hv h1 hg hfit]) (h _ ?_)
  exact hS.turn hu (setRow_keep _ _ _) (setRow_heap w g cs _ t (0, 0) hg) (by intro k hk; exact .inl hk) (by intro k hk; simp [Res.reads] at hk)
theorem m_store_vec {T : TypeId} {x y : Operand} {k sz by' : Nat} {z : Value} {A : Option Addr} {c : Nat} {e : TypeId} {esz n : Nat} {xs xs' : List Value} (hi : TI P T sz by' z) (hx : opv l x = .pointer (A.map (·.add k)) := by rfl) (hv : (opv l y).cells.size = sz := by first | (simp [opv, Value.cells, *]; done) | rfl) (h1 : ∀ u ∈ (opv l y).cells.toList, u.oneCell' = true := by first | exact ic_one _ _ | simp [opv, Value.cells, Value.oneCell']) (hS : St S w0 w L) (_hm : Has L (.vec A c e esz n xs) := by repeat (first | exact Has.head | apply Has.tail)) (hc : splice xs k (opv l y).cells.toList = xs' := by first | exact splice_ic (by first | omega | (simp [*]; done) | (simp [*]; omega)) | exact splice_il (by first | omega | (simp [*]; done) | (simp [*]; omega)) | exact splice_whole (by first | (simp [opv, Value.cells, *]; done) | rfl) | (simp only [opv, n1, n2, Value.cells, splice, List.take_succ_cons, List.take_zero, List.drop_succ_cons, List.drop_zero, List.length_cons, List.length_nil, Nat.zero_add, Nat.reduceAdd, List.append_assoc, List.cons_append, List.nil_append]; rfl)) (hu : Upd L (.vec A c e esz n xs) (.vec A c e esz n xs') L' := by repeat (first | exact Upd.head | apply Upd.tail)) (hn : 0 < n := by omega) (hfit : k + sz ≤ xs.length := by first | omega | (simp only [ic_size, List.length_map, List.size_toArray]; omega) | (simp [*]; done) | rfl | (simp [*]; omega))
    (h : ∀ w', St S w0 w' L' → WL P ops Q rest (fr l) w') : WL P ops Q (⟨none, .store T x y, ty, pos, aft, none⟩ :: rest) (fr l) w := by
  have hg := hS.holds _ hu.mem
  subst hc
  obtain ⟨hl, h2⟩ := hg
  rcases h2 with ⟨_, h0⟩ | ⟨g, cap, cur, hvv, _, hg, hnc, hcm, hcs, ht⟩
  · omega
  · simp only [Value.slice.injEq] at hvv
    obtain ⟨rfl, _, rfl⟩ := hvv
    have hlen : xs.length ≤ cur.size := by rw [hl, hcs]; exact Nat.mul_le_mul_right _ hnc
    refine s_unit (w' := w.setRow g (splice cur.toList k (opv l y).cells.toList).toArray) (by
      have hx' : opv l x = .pointer (some ⟨g, k, none⟩) := by rw [hx]; simp [add_at]
      simp [execOp, Instr.storeAt, hx', Instr.sureAddr, stores hi hv h1 hg (o := k) (by omega)]) (h _ ?_)
    have hsz : (splice cur.toList k (opv l y).cells.toList).length = cur.size := by
      rw [length_splice' (by simp [hv]; omega)]; simp
    refine hS.turn hu (setRow_keep _ _ _) ⟨?_, .inr ⟨g, c, _, rfl, Nat.zero_le _, setRow_heap w g cur _ e (0, 0) hg, hnc, hcm, by simpa using hsz.trans hcs, ?_⟩⟩ (by intro k hk; exact .inl hk) (by intro k hk; simp [Res.reads] at hk)
    · rw [length_splice' (by simp [hv]; omega)]; exact hl
    · -- the first cells of the spliced row are the spliced cells
      have hcells : (opv l y).cells.toList.length = sz := by simp [hv]
      unfold splice
      rw [← ht, hcells]
      have hkl : k + sz ≤ n * esz := by omega
      rw [List.take_append, List.take_append]
      have e1 : ((cur.toList.take k).take (n * esz)) = (cur.toList.take (n * esz)).take k := by rw [List.take_take, List.take_take, Nat.min_comm]
      have hkc : (cur.toList.take k).length = k := by simp; omega
      rw [hkc, e1]
      congr 1
      · congr 1
        exact List.take_of_length_le (by rw [hcells]; omega)
      · simp only [List.length_append, hkc, hcells]
        rw [List.drop_take]
theorem obj_loads_agg {T : TypeId} {dsc : TypeDesc} {g sz by' : Nat} {z : Value} {cs : Array Value} {t : TypeId} {f : Nat × Nat} (hu : P.underlying T = some dsc) (hd : isAggD dsc = true) (hi : TI P T sz by' z) (hS : St S w0 w L) (hm : Has L (.obj g (.cells cs t f))) (hfit : cs.size = sz) : (loadVar T ⟨g, 0, none⟩).run P w = .ok (.agg cs) w := by
  have := loads_agg (P := P) hu hd hi (g := g) (o := 0) (cs := cs.toList) (by simpa using hfit) (hS.obj_at hm)
  simpa using this
theorem obj_loads_one {T : TypeId} {dsc : TypeDesc} {g : Nat} {cs : Array Value} {t : TypeId} {f : Nat × Nat} {v : Value} (hu : P.underlying T = some dsc) (hd : isAggD dsc = false) (hS : St S w0 w L) (hm : Has L (.obj g (.cells cs t f))) (hv : cs[0]? = some v) : (loadVar T ⟨g, 0, none⟩).run P w = .ok v w :=
  loads_one hu hd (by have := hS.obj_at hm 0 v (by simpa using hv); simpa using this)
section
variable {fn : Func} {t u : Nat} {T U : TypeId} {dsc : TypeDesc} {g sz by' : Nat} {z : Value} {cs : Array Value} {ct : TypeId} {f : Nat × Nat} {R : Value → World → Prop} {v : Value}
theorem r_cell_agg (h : fn.results = #[.cell t T]) (hu : P.underlying T = some dsc) (hi : TI P T sz by' z) (hd : isAggD dsc = true := by rfl) (hp : l.getD t undef = .pointer (some ⟨g, 0, none⟩) := by rfl) (hS : St S w0 w L) (hm : Has L (.obj g (.cells cs ct f)) := by repeat (first | exact Has.head | apply Has.tail)) (hfit : cs.size = sz := by first | omega | (simp only [ic_size, List.length_map, List.size_toArray]; omega) | (simp [*]; done) | rfl) (hR : R (.agg cs) w) : Rt P fn R (fr l) w := r_cell h hp (obj_loads_agg hu hd hi hS hm hfit) hR
theorem r_cell_one (h : fn.results = #[.cell t T]) (hu : P.underlying T = some dsc) (hd : isAggD dsc = false := by rfl) (hp : l.getD t undef = .pointer (some ⟨g, 0, none⟩) := by rfl) (hS : St S w0 w L) (hm : Has L (.obj g (.cells cs ct f)) := by repeat (first | exact Has.head | apply Has.tail)) (hv : cs[0]? = some v := by rfl) (hR : R v w) : Rt P fn R (fr l) w := r_cell h hp (obj_loads_one hu hd hS hm hv) hR
theorem r_cell_tmp_agg (h : fn.results = #[.cell t T, .tmp u]) (hu : P.underlying T = some dsc) (hi : TI P T sz by' z) (hd : isAggD dsc = true := by rfl) (hp : l.getD t undef = .pointer (some ⟨g, 0, none⟩) := by rfl) (hS : St S w0 w L) (hm : Has L (.obj g (.cells cs ct f)) := by repeat (first | exact Has.head | apply Has.tail)) (hfit : cs.size = sz := by first | omega | (simp only [ic_size, List.length_map, List.size_toArray]; omega) | (simp [*]; done) | rfl) (hR : R (.tuple #[.agg cs, l.getD u undef]) w) : Rt P fn R (fr l) w := r_cell_tmp h hp (obj_loads_agg hu hd hi hS hm hfit) hR
end
theorem m_fieldAddr {T : TypeId} {x : Operand} {j g o : Nat} {fs : Array Field} {f : Field} {sz by' : Nat} {z : Value} (hT : P.underlying T = some (.struct fs)) (hf : fs[j]? = some f := by rfl) (hi : TI P f.type sz by' z) (h0 : 0 < sz := by decide) (hx : opv l x = .pointer (some ⟨g, o, none⟩) := by rfl) : Go1 P l w ⟨some d, .fieldAddr T x j, ty, pos, aft, none⟩ (.pointer (some ⟨g, o + f.offset, none⟩)) := by
  obtain ⟨i, hi, rfl, _, _⟩ := hi
  exact (by unfold Go1; simp [execOp, Instr.fieldAt, run_underlying hT, hf, hx, Instr.sureAddr, fieldPlace, sizeOf, typeInfo, hi, Nat.ne_of_gt h0, add_at])
theorem m_fieldAddr_at {T : TypeId} {x : Operand} {j k : Nat} {A : Option Addr} {g o : Nat} {fs : Array Field} {f : Field} {sz by' : Nat} {z : Value} (hT : P.underlying T = some (.struct fs)) (hf : fs[j]? = some f := by rfl) (hi : TI P f.type sz by' z) (h0 : 0 < sz := by decide) (hx : opv l x = .pointer (A.map (·.add k)) := by rfl) (hA : A = some ⟨g, o, none⟩) : Go1 P l w ⟨some d, .fieldAddr T x j, ty, pos, aft, none⟩ (.pointer (A.map (·.add (k + f.offset)))) := by
  subst hA
  have := m_fieldAddr (w := w) (d := d) (ty := ty) (pos := pos) (aft := aft) hT hf hi h0 (g := g) (o := o + k) (by rw [hx]; simp [add_at])
  simpa [add_at, Nat.add_assoc] using this
theorem m_fieldAddr_rd {T : TypeId} {x : Operand} {j k : Nat} {A : Option Addr} {esz n : Nat} {xs : List Value} {fs : Array Field} {f : Field} {sz by' : Nat} {z : Value} (hT : P.underlying T = some (.struct fs)) (hf : fs[j]? = some f := by rfl) (hi : TI P f.type sz by' z) (h0 : 0 < sz := by decide) (hx : opv l x = .pointer (A.map (·.add k)) := by rfl) (hS : St S w0 w L) (hm : Has L (.rd A esz n xs) := by repeat (first | exact Has.head | apply Has.tail)) (hn : 0 < n := by omega) : Go1 P l w ⟨some d, .fieldAddr T x j, ty, pos, aft, none⟩ (.pointer (A.map (·.add (k + f.offset)))) := by
  obtain ⟨g, o, e, _⟩ := hS.rd_at hm hn
  exact m_fieldAddr_at hT hf hi h0 hx e
theorem m_indexAddr_arr {T e : TypeId} {x y : Operand} {n g o : Nat} {sz by' : Nat} {z : Value} {k : IntKind} {i : Int} (hT : P.underlying T = some (.array n e)) (hi : TI P e sz by' z) (hx : opv l x = .pointer (some ⟨g, o, none⟩) := by rfl) (hy : opv l y = .int k i := by rfl) (h0 : 0 ≤ i := by omega) (h1 : i < n := by omega) : Go1 P l w ⟨some d, .indexAddr T x y, ty, pos, aft, none⟩ (.pointer (some ⟨g, o + i.toNat * sz, none⟩)) := by
  obtain ⟨i', hi, rfl, _, _⟩ := hi
  exact (by unfold Go1; simp [execOp, Instr.indexAt, run_underlying hT, hx, hy, asIntOf, Instr.sureAddr, h0, h1, sizeOf, typeInfo, hi, add_at])
theorem m_indexAddr_sl {T e : TypeId} {x y : Operand} {n c g o : Nat} {A : Option Addr} {sz by' : Nat} {z : Value} {k : IntKind} {i : Int} (hT : P.underlying T = some (.slice e)) (hi : TI P e sz by' z) (hx : opv l x = .slice A n c := by rfl) (hy : opv l y = .int k i := by rfl) (h0 : 0 ≤ i := by omega) (h1 : i < n := by omega) (hA : A = some ⟨g, o, none⟩) : Go1 P l w ⟨some d, .indexAddr T x y, ty, pos, aft, none⟩ (.pointer (A.map (·.add (i.toNat * sz)))) := by
  obtain ⟨i', hi, rfl, _, _⟩ := hi
  subst hA
  exact (by unfold Go1; simp [execOp, Instr.indexAt, run_underlying hT, hx, hy, asIntOf, h0, h1, sizeOf, typeInfo, hi, add_at])
theorem m_indexAddr_rd {T e : TypeId} {x y : Operand} {n c : Nat} {A : Option Addr} {esz : Nat} {xs : List Value} {sz by' : Nat} {z : Value} {k : IntKind} {i : Int} (hT : P.underlying T = some (.slice e)) (hi : TI P e sz by' z) (hx : opv l x = .slice A n c := by rfl) (hy : opv l y = .int k i := by rfl) (hS : St S w0 w L) (hm : Has L (.rd A esz n xs) := by repeat (first | exact Has.head | apply Has.tail)) (h0 : 0 ≤ i := by omega) (h1 : i < n := by omega) : Go1 P l w ⟨some d, .indexAddr T x y, ty, pos, aft, none⟩ (.pointer (A.map (·.add (i.toNat * sz)))) := by
  obtain ⟨g, o, e, _⟩ := hS.rd_at hm (by omega)
  exact m_indexAddr_sl hT hi hx hy h0 h1 e
theorem m_indexAddr_vec {T e : TypeId} {x y : Operand} {n c : Nat} {A : Option Addr} {e' : TypeId} {esz : Nat} {xs : List Value} {sz by' : Nat} {z : Value} {k : IntKind} {i : Int} (hT : P.underlying T = some (.slice e)) (hi : TI P e sz by' z) (hx : opv l x = .slice A n c := by rfl) (hy : opv l y = .int k i := by rfl) (hS : St S w0 w L) (hm : Has L (.vec A c e' esz n xs) := by repeat (first | exact Has.head | apply Has.tail)) (h0 : 0 ≤ i := by omega) (h1 : i < n := by omega) : Go1 P l w ⟨some d, .indexAddr T x y, ty, pos, aft, none⟩ (.pointer (A.map (·.add (i.toNat * sz)))) := by
  obtain ⟨g, o, e, _⟩ := hS.vec_at hm (by omega)
  exact m_indexAddr_sl hT hi hx hy h0 h1 e
theorem m_buildSlice {T e : TypeId} {n : Nat} {parts : Array (Nat × Operand)} {sz by' : Nat} {z : Value} {cells : Array Value} (hT : P.underlying T = some (.slice e)) (hi : TI P e sz by' z) (hsm : n * sz ≤ 2 ^ 24 := by decide)
    (hc : Instr.fill (fun i => some (i * sz, sz)) ((Array.range (n * sz)).map (fun j => z.cells[j % z.cells.size]!)) (parts.map fun (i, x) => (i, opv l x)).toList = some cells) (hS : St S w0 w L)
    (h : ∀ w' g, St S w0 w' (.obj g (.cells cells e (0, 0)) :: L) → WL P ops Q rest (fr (l.set d (.slice (some ⟨g, 0, none⟩) n n))) w') : WL P ops Q (⟨some d, .buildSlice T n parts, ty, pos, aft, none⟩ :: rest) (fr l) w := by
  obtain ⟨i, hi, rfl, _, hz⟩ := hi
  refine s_val (w' := w.alloc (.cells cells e)) ?_ (h _ _ (hS.alloc _))
  have h24 : ¬ (2 ^ 24 < n * i.size) := by omega
  by_cases h0 : n * i.size = 0
  · have hc' : Instr.fill (fun j => some (j * i.size, i.size)) ((Array.range (n * i.size)).map (fun j => (#[] : Array Value)[j % (#[] : Array Value).size]!)) (parts.map fun (j, x) => (j, opv l x)).toList = some cells := by
      have e0 : ∀ f : Nat → Value, (Array.range 0).map f = #[] := fun f => by simp
      rw [← hc, h0, e0, e0]
    simp [execOp, Instr.buildSlice, run_underlying hT, sizeOf, typeInfo, hi, newRow, h0] at hc' ⊢
    rw [hc']
    rfl
  · simp [execOp, Instr.buildSlice, run_underlying hT, sizeOf, typeInfo, hi, newRow, h0, zeroValue, hz, h24] at hc ⊢
    rw [hc]
    rfl
/-- a piece of an array that lies in a box that is only read -/
theorem m_slice_bx {T e : TypeId} {x : Operand} {g : Nat} {N : Nat} {sz by' : Nat} {z : Value} {lo hi : Nat} {lo' hi' : Option Operand} {xs : List Value} (hT : P.underlying T = some (.array N e)) (hi0 : TI P e sz by' z) (hx : opv l x = .pointer (some ⟨g, 0, none⟩) := by rfl)
    (hlo : (match lo' with | none => lo = 0 | some q => ∃ k, opv l q = .int k (lo : Int))) (hhi : (match hi' with | none => hi = N | some q => ∃ k, opv l q = .int k (hi : Int)))
    (h1 : lo ≤ hi := by omega) (h2 : hi ≤ N := by omega) (hS : St S w0 w L) (hm : Has L (.rd (some ⟨g, 0, none⟩) sz N xs) := by repeat (first | exact Has.head | apply Has.tail))
    (h : ∀ A', St S w0 w (.rd A' sz (hi - lo) ((xs.drop (lo * sz)).take ((hi - lo) * sz)) :: L) → WL P ops Q rest (fr (l.set d (.slice A' (hi - lo) (N - lo)))) w) : WL P ops Q (⟨some d, .slice T x lo' hi' none, ty, pos, aft, none⟩ :: rest) (fr l) w := by
  have hsub := hS.rd_sub hm lo hi h1 h2 (some (if N = lo then ⟨g, 0, none⟩ else ⟨g, lo * sz, none⟩)) (fun hlt => by rw [if_neg (by omega)]; simp [add_at])
  obtain ⟨i, hi0, rfl, _, _⟩ := hi0
  have hb : ∀ (k : IntKind) (a b : Nat) (code : BoundsCode), a ≤ b → (Instr.sliceBound (.int k (a : Int)) b code).run P w = .ok a w := fun k a b code hab => by
    simp [Instr.sliceBound, asIntOf, hab]
  refine s_val (w' := w) ?_ (h _ hsub)
  cases lo' with
  | none =>
    subst hlo
    cases hi' with
    | none =>
      simp only at hhi
      subst hhi
      simp [execOp, hx, Instr.sliceAt, run_underlying hT, Instr.sureAddr, Instr.sliceBounds, sizeOf, typeInfo, hi0, add_at]
    | some q =>
      obtain ⟨k, hk⟩ := hhi
      simp [execOp, hx, hk, Instr.sliceAt, run_underlying hT, Instr.sureAddr, Instr.sliceBounds, hb k hi N _ h2, sizeOf, typeInfo, hi0, add_at]
  | some p =>
    obtain ⟨kl, hkl⟩ := hlo
    cases hi' with
    | none =>
      simp only at hhi
      subst hhi
      simp [execOp, hx, hkl, Instr.sliceAt, run_underlying hT, Instr.sureAddr, Instr.sliceBounds, hb kl lo hi _ h1, sizeOf, typeInfo, hi0, add_at]
    | some q =>
      obtain ⟨k, hk⟩ := hhi
      simp [execOp, hx, hkl, hk, Instr.sliceAt, run_underlying hT, Instr.sureAddr, Instr.sliceBounds, hb k hi N _ h2, hb kl lo hi _ h1, sizeOf, typeInfo, hi0, add_at]
/-- a piece of an array that lies in a box that is only read from then on -/
theorem m_slice_arr {T e : TypeId} {x : Operand} {g : Nat} {N : Nat} {sz by' : Nat} {z : Value} {lo hi : Nat} {lo' hi' : Option Operand} {cs : Array Value} {t : TypeId} {f : Nat × Nat} (hT : P.underlying T = some (.array N e)) (hi0 : TI P e sz by' z) (hx : opv l x = .pointer (some ⟨g, 0, none⟩) := by rfl)
    (hlo : (match lo' with | none => lo = 0 | some q => ∃ k, opv l q = .int k (lo : Int))) (hhi : (match hi' with | none => hi = N | some q => ∃ k, opv l q = .int k (hi : Int)))
    (h1 : lo ≤ hi := by omega) (h2 : hi ≤ N := by omega) (hS : St S w0 w L) (_hm : Has L (.obj g (.cells cs t f)) := by repeat (first | exact Has.head | apply Has.tail)) (hN : cs.size = N * sz := by first | omega | (simp only [ic_size, List.length_map, List.size_toArray]; omega) | (simp [*]; done) | rfl | (simp [*]; omega)) (hu : Upd L (.obj g (.cells cs t f)) (.rd (some ⟨g, 0, none⟩) sz N cs.toList) L' := by repeat (first | exact Upd.head | apply Upd.tail))
    (h : ∀ A', St S w0 w (.rd A' sz (hi - lo) ((cs.toList.drop (lo * sz)).take ((hi - lo) * sz)) :: L') → WL P ops Q rest (fr (l.set d (.slice A' (hi - lo) (N - lo)))) w) : WL P ops Q (⟨some d, .slice T x lo' hi' none, ty, pos, aft, none⟩ :: rest) (fr l) w := by
  exact m_slice_bx hT hi0 hx hlo hhi h1 h2 (hS.obj_rd hN hu) hu.has h
end
end Go.Proofs.YtpekghaodmeemaaGreat
namespace Go.Proofs.YtpekghaodmeemaaGreat
open Go.RowKit
theorem wr_i64 {a : Int} (h0 : -9223372036854775808 ≤ a) (h1 : a ≤ 9223372036854775807) : IntKind.i64.wrap a = a := IntWalk.i64_in a ⟨h0, h1⟩
theorem wr_u8 {a : Int} (h0 : 0 ≤ a) (h1 : a ≤ 255) : IntKind.u8.wrap a = a := IntWalk.u8_in a ⟨h0, h1⟩
theorem wr_u32 {a : Int} (h0 : 0 ≤ a) (h1 : a ≤ 4294967295) : IntKind.u32.wrap a = a := IntWalk.u32_in a ⟨h0, h1⟩
theorem wr_u64 {a : Int} (h0 : 0 ≤ a) (h1 : a ≤ 18446744073709551615) : IntKind.u64.wrap a = a := IntWalk.u64_in a ⟨h0, h1⟩
def CAt (cs : Array Value) (off : Nat) (vs : List Value) : Prop := ∀ j u, vs[j]? = some u → cs[off + j]? = some u
theorem CAt.app {cs : Array Value} {off : Nat} {a b : List Value} (h : CAt cs off (a ++ b)) : CAt cs off a ∧ CAt cs (off + a.length) b := by
  refine ⟨fun j u hu => h j u ?_, fun j u hu => ?_⟩
  · rw [List.getElem?_append_left (List.getElem?_eq_some_iff.1 hu).1]; exact hu
  · rw [Nat.add_assoc]; refine h _ u ?_
    rw [List.getElem?_append_right (by omega)]; simpa using hu
theorem CAt.extract {cs : Array Value} {off : Nat} {vs : List Value} (h : CAt cs off vs) : CAt (cs.extract off (off + vs.length)) 0 vs := fun j u hu => by
  have hj := (List.getElem?_eq_some_iff.1 hu).1
  have := h j u hu
  have hlt := (Array.getElem?_eq_some_iff.1 this).1
  rw [Nat.zero_add, Array.getElem?_extract, if_pos (by omega)]
  exact this
theorem CAt.of_list (vs : List Value) : CAt vs.toArray 0 vs := fun j u hu => by simpa using hu
def zi (ks : List IntKind) (xs : List Int) : List Value := List.zipWith Value.int ks xs
theorem zi_app {k1 k2 : List IntKind} {x1 x2 : List Int} (h : x1.length = k1.length) : zi (k1 ++ k2) (x1 ++ x2) = zi k1 x1 ++ zi k2 x2 := List.zipWith_append h.symm
theorem zi_len {ks : List IntKind} {xs : List Int} (h : xs.length = ks.length) : (zi ks xs).length = ks.length := by simp [zi, h]
theorem zi_rep (k : IntKind) : ∀ (l : List Int), zi (List.replicate l.length k) l = l.map (Value.int k)
  | [] => rfl
  | x :: l => by
    have := zi_rep k l
    simp only [zi] at this
    simp [zi, List.replicate_succ, this]
/-- what '==' answers at two parts -/
def EqP (P : Program) (D : Nat) (t : TypeId) (ks : List IntKind) : Prop := ∀ d, D ≤ d → ∀ (w : World) (c1 c2 : Array Value) (o1 o2 : Nat) (xs ys : List Int), xs.length = ks.length → ys.length = ks.length → CAt c1 o1 (zi ks xs) → CAt c2 o2 (zi ks ys) →
  ∃ a b, (part t c1 o1).run P w = .ok a w ∧ (part t c2 o2).run P w = .ok b w ∧ (Op.equalIn d t a b).run P w = .ok (decide (xs = ys)) w
def EqV (P : Program) (D : Nat) (t : TypeId) (ks : List IntKind) : Prop := ∀ d, D ≤ d → ∀ (w : World) (c1 c2 : Array Value) (xs ys : List Int), xs.length = ks.length → ys.length = ks.length → CAt c1 0 (zi ks xs) → CAt c2 0 (zi ks ys) →
  (Op.equalIn d t (.agg c1) (.agg c2)).run P w = .ok (decide (xs = ys)) w
theorem eq_int {P : Program} {t : TypeId} {k : IntKind} (h : P.underlying t = some (.int k)) : EqP P 1 t [k] := by
  intro d hd w c1 c2 o1 o2 xs ys hx hy h1 h2
  match xs, hx, ys, hy with
  | [x], _, [y], _ =>
    refine ⟨.int k x, .int k y, part_one h rfl ?_, part_one h rfl ?_, ?_⟩
    · simpa using h1 0 _ rfl
    · simpa using h2 0 _ rfl
    · obtain ⟨d, rfl⟩ : ∃ e, d = e + 1 := ⟨d - 1, by omega⟩
      rw [run_equalIn_int w d t k k x y h]
      congr 1
      by_cases e : x = y <;> simp [e]
theorem eq_part {P : Program} {D : Nat} {t : TypeId} {ks : List IntKind} {dsc : TypeDesc} {sz by' : Nat} {z : Value} (hv : EqV P D t ks) (hu : P.underlying t = some dsc) (hd : isAggD dsc = true) (hi : TI P t sz by' z) (hs : ks.length = sz) : EqP P D t ks := by
  intro d hd' w c1 c2 o1 o2 xs ys hx hy h1 h2
  have e1 := h1.extract
  have e2 := h2.extract
  rw [zi_len hx, hs] at e1
  rw [zi_len hy, hs] at e2
  exact ⟨_, _, part_agg hu hd hi, part_agg hu hd hi, hv d hd' w _ _ xs ys hx hy e1 e2⟩
inductive FieldsEq (P : Program) (D : Nat) : List Field → Nat → List IntKind → Prop
  | nil {o : Nat} : FieldsEq P D [] o []
  | cons {f : Field} {fs : List Field} {o : Nat} {k1 k2 : List IntKind} {D' : Nat} : f.offset = o → f.name ≠ "_" → EqP P D' f.type k1 → D' ≤ D → FieldsEq P D fs (o + k1.length) k2 → FieldsEq P D (f :: fs) o (k1 ++ k2)
theorem eqFields_run {P : Program} {D d : Nat} (hd : D ≤ d) {fs : List Field} {o : Nat} {ks : List IntKind} (hf : FieldsEq P D fs o ks) : ∀ (w : World) (c1 c2 : Array Value) (xs ys : List Int), xs.length = ks.length → ys.length = ks.length → CAt c1 o (zi ks xs) → CAt c2 o (zi ks ys) →
    (Op.eqFields d c1 c2 fs).run P w = .ok (decide (xs = ys)) w := by
  induction hf with
  | nil =>
    intro w c1 c2 xs ys hx hy _ _
    have := List.eq_nil_of_length_eq_zero hx
    have := List.eq_nil_of_length_eq_zero hy
    subst_vars
    simp [Op.eqFields]
  | @cons f fs o k1 k2 D' ho hn hp hD _ ih =>
    intro w c1 c2 xs ys hx hy h1 h2
    obtain ⟨xa, xb, rfl, hxa⟩ : ∃ xa xb, xs = xa ++ xb ∧ xa.length = k1.length := ⟨xs.take k1.length, xs.drop k1.length, (List.take_append_drop _ _).symm, by simp at hx ⊢; omega⟩
    obtain ⟨ya, yb, rfl, hya⟩ : ∃ ya yb, ys = ya ++ yb ∧ ya.length = k1.length := ⟨ys.take k1.length, ys.drop k1.length, (List.take_append_drop _ _).symm, by simp at hy ⊢; omega⟩
    rw [zi_app hxa] at h1
    rw [zi_app hya] at h2
    obtain ⟨h1a, h1b⟩ := h1.app
    obtain ⟨h2a, h2b⟩ := h2.app
    rw [zi_len hxa] at h1b
    rw [zi_len hya] at h2b
    obtain ⟨a, b, ra, rb, re⟩ := hp d (Nat.le_trans hD hd) w c1 c2 o o xa ya hxa hya h1a h2a
    have hi := ih w c1 c2 xb yb (by simp at hx; omega) (by simp at hy; omega) h1b h2b
    subst ho
    simp only [Op.eqFields, if_pos hn, Sem.run_bind, ra, rb, re, Result.andThen_ok]
    by_cases e : xa = ya
    · subst e
      simp [hi]
    · have : ¬ (xa ++ xb = ya ++ yb) := fun h => e (List.append_inj h (by omega)).1
      simp [e, this]
theorem eq_struct {P : Program} {D : Nat} {t : TypeId} {fs : Array Field} {ks : List IntKind} (h : P.underlying t = some (.struct fs)) (hp : P.stoodInHeld t = false) (hf : FieldsEq P D fs.toList 0 ks) : EqV P (D + 1) t ks := by
  intro d hd w c1 c2 xs ys hx hy h1 h2
  obtain ⟨d, rfl⟩ : ∃ e, d = e + 1 := ⟨d - 1, by omega⟩
  have hfo : P.fieldsOf t = fs := by simp [Program.fieldsOf, h]
  rw [run_equalIn_struct w d t c1 c2 (by rw [hfo]; exact h) hp, hfo]
  exact eqFields_run (by omega) hf w c1 c2 xs ys hx hy h1 h2
theorem eq_arr {P : Program} {D : Nat} {t e : TypeId} {n : Nat} {ks : List IntKind} {sz by' : Nat} {z : Value} (h : P.underlying t = some (.array n e)) (hi : TI P e sz by' z) (hs : ks.length = sz) (hp : EqP P D e ks) : EqV P (D + 1) t (List.replicate n ks).flatten := by
  intro d hd w c1 c2 xs ys hx hy h1 h2
  obtain ⟨d, rfl⟩ : ∃ e, d = e + 1 := ⟨d - 1, by omega⟩
  obtain ⟨i, hi, rfl, _, _⟩ := hi
  simp only [Op.equalIn, Sem.run_bind, run_underlying h, Result.andThen_ok, sizeOf, typeInfo, Sem.run_pure]
  have hti : (program).run P w = .ok P w := rfl
  simp only [hti, Result.andThen_ok, hi, Sem.run_pure]
  rw [Std.Legacy.Range.forIn_eq_forIn_range']
  simp only [Std.Legacy.Range.size, Nat.sub_zero, Nat.add_sub_cancel, Nat.div_one]
  -- the rounds from number s on
  have key : ∀ (m s : Nat) (xs ys : List Int), xs.length = (List.replicate m ks).flatten.length → ys.length = (List.replicate m ks).flatten.length → CAt c1 (s * i.size) (zi (List.replicate m ks).flatten xs) → CAt c2 (s * i.size) (zi (List.replicate m ks).flatten ys) →
      (((forIn (List.range' s m) ((none, ()) : Option Bool × Unit) fun j _ => do
        let a ← part e c1 (j * i.size)
        let b ← part e c2 (j * i.size)
        let r ← Op.equalIn d e a b
        if (!r) = true then pure (ForInStep.done (some false, ())) else
          pure (ForInStep.yield (none, ()))) : Sem _).run P w) = .ok (if xs = ys then (none, ()) else (some false, ())) w := by
    intro m
    induction m with
    | zero =>
      intro s xs ys hx hy _ _
      have := List.eq_nil_of_length_eq_zero (by simpa using hx)
      have := List.eq_nil_of_length_eq_zero (by simpa using hy)
      subst_vars
      simp
    | succ m ih =>
      intro s xs ys hx hy h1 h2
      rw [List.replicate_succ, List.flatten_cons] at hx hy h1 h2
      obtain ⟨xa, xb, rfl, hxa⟩ : ∃ xa xb, xs = xa ++ xb ∧ xa.length = ks.length := ⟨xs.take ks.length, xs.drop ks.length, (List.take_append_drop _ _).symm, by simp at hx ⊢; omega⟩
      obtain ⟨ya, yb, rfl, hya⟩ : ∃ ya yb, ys = ya ++ yb ∧ ya.length = ks.length := ⟨ys.take ks.length, ys.drop ks.length, (List.take_append_drop _ _).symm, by simp at hy ⊢; omega⟩
      rw [zi_app hxa] at h1
      rw [zi_app hya] at h2
      obtain ⟨h1a, h1b⟩ := h1.app
      obtain ⟨h2a, h2b⟩ := h2.app
      rw [zi_len hxa, hs, ← Nat.succ_mul] at h1b
      rw [zi_len hya, hs, ← Nat.succ_mul] at h2b
      obtain ⟨a, b, ra, rb, re⟩ := hp d (by omega) w c1 c2 _ _ xa ya hxa hya h1a h2a
      have hI := ih (s + 1) xb yb (by simp at hx ⊢; omega) (by simp at hy ⊢; omega) h1b h2b
      simp only [List.range'_succ, List.forIn_cons, Sem.run_bind, ra, rb, re, Result.andThen_ok]
      by_cases e : xa = ya
      · subst e
        simp only [decide_true, Bool.not_true, Bool.false_eq_true, if_false, Sem.run_pure, Result.andThen_ok, List.append_cancel_left_eq]
        exact hI
      · have : ¬ (xa ++ xb = ya ++ yb) := fun h => e (List.append_inj h (by omega)).1
        simp [e, this]
  have hk := key n 0 xs ys hx hy (by simpa using h1) (by simpa using h2)
  rw [hk]
  by_cases e : xs = ys <;> simp [e]
end Go.Proofs.YtpekghaodmeemaaGreat
namespace Go.Proofs.YtpekghaodmeemaaGreat
open Go.RowKit
theorem Del.upd {L L1 : List Res} {r : Res} (h : Del L r L1) (r' : Res) : ∃ L', Upd L r r' L' ∧ L'.Perm (r' :: L1) := by
  induction h with
  | head => exact ⟨_, .head, .refl _⟩
  | @tail s r L L' _ ih =>
    obtain ⟨M, hu, hp⟩ := ih
    exact ⟨s :: M, .tail hu, (hp.cons s).trans (.swap _ _ _)⟩
theorem Del.mem {L L1 : List Res} {r : Res} (h : Del L r L1) : r ∈ L := by
  induction h with
  | head => simp
  | tail _ ih => simp [ih]
theorem Del.mem_of {L L1 : List Res} {r s : Res} (h : Del L r L1) (hs : s ∈ L1) : s ∈ L := by
  induction h with
  | head => simp [hs]
  | tail _ ih => rcases List.mem_cons.1 hs with rfl | hs
                 · simp
                 · simp [ih hs]
section
variable {S : Nat → Prop} {w0 w w' : World} {L L1 : List Res} {r r' : Res}
/-- one resource turns, and is put in front -/
theorem St.turn_front (h : St S w0 w L) (hd : Del L r L1) (hk : Keep (fun k => r.own = some k) w w') (hr : r'.holds w')
    (ho : ∀ g, r'.own = some g → r.own = some g ∨ w.heap.size ≤ g) (hn : ∀ g, r'.reads = some g → r.own = some g ∨ r.reads = some g ∨ w.heap.size ≤ g) : St S w0 w' (r' :: L1) := by
  obtain ⟨L', hu, hp⟩ := hd.upd r'
  exact (h.turn hu hk hr ho hn).perm hp
theorem St.front (h : St S w0 w L) (hd : Del L r L1) : St S w0 w (r :: L1) := h.perm hd.perm
end
theorem keep_of_grown {w w' : World} {v : Value} {A : Option Addr} {n c : Nat} (hv : v = .slice A n c) (h : w.grownBy w' v.ownBlock) (hd : w.drawn ≤ w'.drawn) : Keep (fun k => A.map (·.block) = some k) w w' := by
  subst hv
  refine ⟨h.os, h.tape, h.output, h.size, fun k hk hs => h.block k hk (fun e => hs ?_), hd⟩
  rw [e]
  cases A <;> rfl
section
variable {P : Program} {w : World}
/-- the append of nothing -/
theorem run_append_zero {t ty e : TypeId} {i : TypeInfo} (ht : P.underlying t = some (.slice e)) (hi : P.info? e = some i) {A B : Option Addr} {n c c2 : Nat} (hnc : n ≤ c) :
    (Builtin.append_ #[t, t] ty #[.slice A n c, .slice B 0 c2]).run P w = .ok (.slice A n c) w := by
  cases A <;> cases B <;> simp [Builtin.append_, run_underlying ht, sizeOf, typeInfo, hi, Builtin.lenOf, Builtin.firstCells, hnc, storeCells, loadCells, loadCellsFrom]
theorem append_drawn {t ty e : TypeId} {i : TypeInfo} {z : Value} (ht : P.underlying t = some (.slice e)) (hi : P.info? e = some i) (hz : i.zero = some z) (hsz : 0 < i.size) {A : Option Addr} {n c : Nat} {xs : List Value} (hown : w.ownsRow 0 e i.size (.slice A n c) n xs)
    {a : Addr} {m c2 : Nat} {news : List Value} (hm : 0 < m) (hl : news.length = m * i.size) (hnews : ∀ j u, news[j]? = some u → w.cell? (a.add j) = some u) (h1 : ∀ u ∈ news, u.oneCell' = true) (h63 : n + m ≤ maxLen) (hby : (n + m) * i.bytes ≤ 140737488355328) {v' : Value} {w' : World}
    (hrun : (Builtin.append_ #[t, t] ty #[.slice A n c, .slice (some a) m c2]).run P w = .ok v' w') : w.drawn ≤ w'.drawn := by
  have hsmall : n + m ≤ 9223372036854775807 := by simp only [maxLen] at h63; omega
  rcases hown.2 with ⟨hv, h0⟩ | ⟨g, cap, cur, hv, hbg, hg, hnc, hcm, hcs, htake⟩
  · simp only [Value.slice.injEq] at hv
    obtain ⟨rfl, rfl, rfl⟩ := hv
    have hr := run_append_nil (P := P) w t ty e i z ht hi hz a m c2 news hl hnews (by omega) (by omega) (by have hb := hby; simp only [Nat.zero_add] at hb; omega)
    rw [hr] at hrun
    simp only [Result.ok.injEq] at hrun
    rw [← hrun.2]; exact Nat.le_succ _
  · simp only [Value.slice.injEq] at hv
    obtain ⟨rfl, _, rfl⟩ := hv
    by_cases hroom : n + m ≤ c
    · have hfit : n * i.size + news.length ≤ cur.size := by rw [hl, hcs, ← Nat.add_mul]; exact Nat.mul_le_mul_right _ hroom
      have hr := run_append_room (P := P) w t ty e i ht hi g n c cur hg a m c2 news hl hnews h1 hroom hfit
      rw [hr] at hrun
      simp only [Result.ok.injEq] at hrun
      rw [← hrun.2]; exact Nat.le_refl _
    · have holds : ∀ j u, xs[j]? = some u → w.cell? ((⟨g, 0, none⟩ : Addr).add j) = some u := hown.cells (g := g) rfl
      have hr := run_append_grow (P := P) w t ty e i z ht hi hz ⟨g, 0, none⟩ n c xs hown.1 holds a m c2 news hl hnews (by omega) (by omega) (growslice_fits (by omega) hby)
      rw [hr] at hrun
      simp only [Result.ok.injEq] at hrun
      rw [← hrun.2]; exact Nat.le_succ _
theorem run_append_all {t ty e : TypeId} {sz by' : Nat} {z : Value} (ht : P.underlying t = some (.slice e)) (hi : TI P e sz by' z) (hsz : 0 < sz) (hzs : z.cells.size = sz) {A : Option Addr} {n c : Nat} {xs : List Value} (hown : w.ownsRow 0 e sz (.slice A n c) n xs)
    {B : Option Addr} {m c2 : Nat} {news : List Value} (hr : Rd w B sz m news) (h1 : ∀ u ∈ news, u.oneCell' = true) (h63 : n + m ≤ maxLen) (hby : (n + m) * by' ≤ 140737488355328) :
    ∃ A' c' w', (Builtin.append_ #[t, t] ty #[.slice A n c, .slice B m c2]).run P w = .ok (.slice A' (n + m) c') w' ∧ w'.ownsRow 0 e sz (.slice A' (n + m) c') (n + m) (xs ++ news) ∧ Keep (fun k => A.map (·.block) = some k) w w' ∧ (∀ g, A'.map (·.block) = some g → A.map (·.block) = some g ∨ w.heap.size ≤ g) := by
  obtain ⟨i, hi, rfl, rfl, hz⟩ := hi
  rcases Nat.eq_zero_or_pos m with rfl | hm
  · have hnil : news = [] := List.eq_nil_of_length_eq_zero (by simpa using hr.1)
    subst hnil
    have hnc : n ≤ c := by
      rcases hown.2 with ⟨hv, h0⟩ | ⟨g, cap, cur, hv, _, _, hnc, _⟩
      · omega
      · simp only [Value.slice.injEq] at hv; omega
    exact ⟨A, c, w, run_append_zero ht hi hnc, by simpa using hown, Keep.refl _ _, fun g hg => .inl hg⟩
  · obtain ⟨hl, h2⟩ := hr
    obtain ⟨g, o, rfl, _, hc⟩ := h2 hm
    obtain ⟨v', w', hrun, hown', hgrow, _, hat⟩ := run_append_own_at (P := P) w 0 t ty e i z i.size i.bytes ht hi hz rfl rfl hzs hsz _ n xs hown ⟨g, o, none⟩ m c2 news hl (fun j u hu => by rw [add_at]; exact hc j u hu) h1 h63 hby (Nat.zero_le _)
    have hdr := append_drawn ht hi hz hsz hown hm hl (fun j u hu => by rw [add_at]; exact hc j u hu) h1 h63 hby hrun
    rcases hown'.2 with ⟨_, h0⟩ | ⟨g', cap, cur, hv, hrest⟩
    · omega
    · subst hv
      refine ⟨some ⟨g', 0, none⟩, cap, w', hrun, hown', keep_of_grown rfl hgrow hdr, fun k hk => ?_⟩
      simp at hk
      subst hk
      rcases hat with h5 | h5
      · left
        have h6 : (Value.slice A n c).ownBlock = some g' := by rw [← h5]; rfl
        cases A with
        | none => simp [Value.ownBlock] at h6
        | some a => simpa [Value.ownBlock] using h6
      · right
        simp [Value.ownBlock] at h5
        omega
end
section
variable {P : Program} {ops : Array Oper} {Q : Exit → Act → World → Prop} {rest : List Oper} {l : List Value} {w : World} {d : Nat} {ty : TypeId} {pos : String} {aft : Array Edge}
variable {S : Nat → Prop} {w0 : World} {L L1 : List Res}
theorem m_append {T e : TypeId} {x y : Operand} {sz by' : Nat} {z : Value} {A B : Option Addr} {n c m c2 : Nat} {xs news : List Value} (hT : P.underlying T = some (.slice e)) (hi : TI P e sz by' z) (hsz : 0 < sz ∧ z.cells.size = sz := by decide) (hx : opv l x = .slice A n c := by rfl) (hy : opv l y = .slice B m c2 := by rfl) (hS : St S w0 w L)
    (hd : Del L (.vec A c e sz n xs) L1 := by repeat (first | exact Del.head | apply Del.tail)) (hm : Has L1 (.rd B sz m news) := by repeat (first | exact Has.head | apply Has.tail)) (h1 : ∀ u ∈ news, u.oneCell' = true := by first | exact ic_one _ _ | exact il_one _ _ | simp [Value.oneCell']) (h63 : n + m ≤ maxLen := by first | omega | (simp only [maxLen]; omega)) (hby : (n + m) * by' ≤ 140737488355328 := by omega)
    (h : ∀ w' A' c', St S w0 w' (.vec A' c' e sz (n + m) (xs ++ news) :: L1) → WL P ops Q rest (fr (l.set d (.slice A' (n + m) c'))) w') : WL P ops Q (⟨some d, .call { callee := .builtin .append, args := #[x, y], argTypes := #[T, T] }, ty, pos, aft, none⟩ :: rest) (fr l) w := by
  have hown := hS.holds _ hd.mem
  have hr : Rd w B sz m news := hS.holds _ (hd.mem_of hm.mem)
  obtain ⟨A', c', w', hrun, hown', hk, hat⟩ := run_append_all (t := T) (ty := ty) hT hi hsz.1 hsz.2 hown (c2 := c2) hr h1 h63 hby
  refine s_val (v := .slice A' (n + m) c') (w' := w') (by simp [execOp, resolve, invoke, builtin, hx, hy, hrun]) (h w' A' c' ?_)
  exact hS.turn_front hd hk hown' (fun g hg => hat g hg) (by intro g hg; simp [Res.reads] at hg)
theorem m_make {T e : TypeId} {x y : Operand} {sz by' n : Nat} {z : Value} {kl kc : IntKind} (hT : P.underlying T = some (.slice e)) (hi : TI P e sz by' z) (hx : opv l x = .int kl (n : Int) := by rfl) (hy : opv l y = .int kc (n : Int) := by rfl) (h63 : n ≤ maxLen) (hby : by' * n ≤ 281474976710656 := by omega) (hS : St S w0 w L)
    (h : ∀ w' A', St S w0 w' (.vec A' n e sz n (madeCells z.cells (n * sz)).toList :: L) → WL P ops Q rest (fr (l.set d (.slice A' n n))) w') : WL P ops Q (⟨some d, .makeSlice T x y, ty, pos, aft, none⟩ :: rest) (fr l) w := by
  obtain ⟨i, hi, rfl, rfl, hz⟩ := hi
  have h1 : (n : Int) ≤ 9223372036854775807 := by simp only [maxLen] at h63; omega
  have hb : (i.bytes : Int) * (n : Int) ≤ 281474976710656 := by
    have hh : ((i.bytes * n : Nat) : Int) ≤ 281474976710656 := by omega
    rwa [Int.natCast_mul] at hh
  have hr := run_make (P := P) w T e i z hT hi hz kl kc n n (by omega) (Int.le_refl _) hb h1
  simp only [Int.toNat_natCast] at hr
  refine s_val (v := .slice (some ⟨w.heap.size, 0, none⟩) n n) (w' := w.alloc (.cells (madeCells z.cells (n * i.size)) e)) (by simp [execOp, hx, hy, hr]) (h _ _ ?_)
  exact (hS.alloc _).obj_vec (size_madeCells _ _) h63 .head
theorem run_eql_agg {T : TypeId} {D : Nat} {ks : List IntKind} {X Y : Array Value} {xs ys : List Int} (he : EqV P D T ks) (hD : D ≤ 10000) (hX : X = (zi ks xs).toArray) (hY : Y = (zi ks ys).toArray) (h1 : xs.length = ks.length) (h2 : ys.length = ks.length) (w : World) : (Op.equal T (.agg X) (.agg Y)).run P w = .ok (decide (xs = ys)) w := by
  subst hX hY
  exact he 10000 hD w _ _ xs ys h1 h2 (CAt.of_list _) (CAt.of_list _)
theorem s_eql_agg {T yT : TypeId} {x y : Operand} {D : Nat} {ks : List IntKind} {X Y : Array Value} {xs ys : List Int} (he : EqV P D T ks) (hD : D ≤ 10000 := by decide) (hg : P.eqGuardType P.depth T = false) (hx : opv l x = .agg X := by rfl) (hy : opv l y = .agg Y := by rfl) (hX : X = (zi ks xs).toArray) (hY : Y = (zi ks ys).toArray) (h1 : xs.length = ks.length) (h2 : ys.length = ks.length) : Go1 P l w ⟨some d, .binOp .eql T x y yT, ty, pos, aft, none⟩ (.bool (decide (xs = ys))) := by
  have hr := run_eql_agg he hD hX hY h1 h2 w
  have hgu := run_eqGuard_agg (P := P) w .eql T x y X Y hg
  unfold Go1
  simp [execOp, hx, hy, hgu, binOp, hr]
theorem s_neq_agg {T yT : TypeId} {x y : Operand} {D : Nat} {ks : List IntKind} {X Y : Array Value} {xs ys : List Int} (he : EqV P D T ks) (hD : D ≤ 10000 := by decide) (hg : P.eqGuardType P.depth T = false) (hx : opv l x = .agg X := by rfl) (hy : opv l y = .agg Y := by rfl) (hX : X = (zi ks xs).toArray) (hY : Y = (zi ks ys).toArray) (h1 : xs.length = ks.length) (h2 : ys.length = ks.length) : Go1 P l w ⟨some d, .binOp .neq T x y yT, ty, pos, aft, none⟩ (.bool (!decide (xs = ys))) := by
  have hr := run_eql_agg he hD hX hY h1 h2 w
  have hgu := run_eqGuard_agg (P := P) w .neq T x y X Y hg
  unfold Go1
  simp [execOp, hx, hy, hgu, binOp, hr]
theorem zi_ic {k : IntKind} {n : Nat} {l : List Int} (h : l.length = n) : ic k l = (zi (List.replicate n k) l).toArray := by subst h; rw [zi_rep]; rfl
def strOf (ns : List Int) : ByteArray := ⟨(ns.map fun n => UInt8.ofNat n.toNat).toArray⟩
theorem strOf_eq (ns : List Int) : ns.foldl (fun r n => r.push (UInt8.ofNat n.toNat)) ByteArray.empty = strOf ns := by
  have key : ∀ (ns : List Int) (s : ByteArray), ns.foldl (fun r n => r.push (UInt8.ofNat n.toNat)) s = ⟨s.data ++ (ns.map fun n => UInt8.ofNat n.toNat).toArray⟩ := by
    intro ns
    induction ns with
    | nil => intro s; simp
    | cons n ns ih =>
      intro s
      rw [List.foldl_cons, ih]
      congr 1
      simp [ByteArray.push]
  rw [key]
  simp [strOf, ByteArray.empty, ByteArray.emptyWithCapacity]; rfl
theorem m_bytes_str {U D e : TypeId} {x : Operand} {A : Option Addr} {n c : Nat} {ns : List Int} (hU : P.underlying U = some (.slice e)) (hD : P.underlying D = some .string) (he : P.underlying e = some (.int .u8)) (hx : opv l x = .slice A n c := by rfl) (hS : St S w0 w L) (hm : Has L (.rd A 1 n (ns.map (Value.int .u8))) := by repeat (first | exact Has.head | apply Has.tail)) : Go1 P l w ⟨some d, .convert U D x, ty, pos, aft, none⟩ (.string (strOf ns)) := by
  obtain ⟨hl, h2⟩ := hS.has hm
  have hln : ns.length = n := by simpa using hl
  unfold Go1
  have hr : (Conv.bytesToString (.slice A n c)).run P w = .ok (.string (strOf ns)) w := by
    cases A with
    | none =>
      have : n = 0 := by
        rcases Nat.eq_zero_or_pos n with h0 | h0
        · exact h0
        · obtain ⟨g, o, e, _⟩ := h2 h0; cases e
      subst this
      have : ns = [] := List.eq_nil_of_length_eq_zero hln
      subst this
      simp [Conv.bytesToString, strOf, ByteArray.empty, ByteArray.emptyWithCapacity]; rfl
    | some a =>
      rw [← strOf_eq]
      refine run_bytesToString w a n c ns ?_
      rcases Nat.eq_zero_or_pos n with h0 | h0
      · subst h0
        have : ns = [] := List.eq_nil_of_length_eq_zero hln
        subst this
        simp [loadCells, loadCellsFrom]
      · obtain ⟨g, o, e, _, hc⟩ := h2 h0
        injection e with e
        subst e
        have := run_loadCells_list (P := P) w ⟨g, o, none⟩ (ns.map (Value.int .u8)) (fun j v hv => by rw [add_at]; exact hc j v hv)
        simpa [hln] using this
  simp only [execOp, hx, run_convert_bytes_string (P := P) w U D e A n c hU he hD, Sem.run_bind, hr, Result.andThen_ok, Sem.run_pure]
end
end Go.Proofs.YtpekghaodmeemaaGreat
namespace Go.Proofs.YtpekghaodmeemaaGreat
open Go.RowKit
/-- the walk in the text's order, shut -/
structure WQ (P : Program) (ops : Array Oper) (C : World → Prop) (Q : Act → Prop) (os : List Oper) (a : Act) : Prop where
  run : wpQuiet P ops C Q os a
section
variable {P : Program} {ops : Array Oper} {C : World → Prop} {Q : Act → Prop} {rest : List Oper} {l : List Value} {d : Nat} {v : Value} {ty : TypeId} {pos : String} {aft : Array Edge}
theorem q_step {o : Oper} {x : Value} (hw : Region.wanted o (yielded ops (fr l).tmps) = true) (h1 : ∀ w, C w → o.quietAt P (fr l) C w x) (h : WQ P ops C Q rest ((fr l).put o.dst x)) : WQ P ops C Q (o :: rest) (fr l) := by
  refine ⟨?_⟩
  simp only [wpQuiet, hw, if_true]
  exact ⟨x, h1, h.run⟩
theorem wanted_none {dst : Option Nat} {op : Op} {f : Nat → Option Bool} : Region.wanted ⟨dst, op, ty, pos, aft, none⟩ f = true := by simp [Region.wanted]
theorem q_go {op : Op} (H : ∀ w, C w → Go1 P l w ⟨some d, op, ty, pos, aft, none⟩ v) (h : WQ P ops C Q rest (fr (l.set d v))) : WQ P ops C Q (⟨some d, op, ty, pos, aft, none⟩ :: rest) (fr l) :=
  q_step (x := v) wanted_none (fun w hC => by
    have := H w hC
    unfold Go1 at this
    unfold Oper.quietAt
    rw [eval_fr, this]
    exact ⟨rfl, rfl⟩) (by rw [put_fr]; exact h)
theorem q_call_any {dst : Option Nat} {op : Op} {f : Nat} {args : Array Value} (hr : ∀ w, C w → (execOp (opv l) ⟨dst, op, ty, pos, aft, none⟩).run P w = .ok (.enter f args) w) (H : ∀ w, C w → CallR P f args w fun v' w' => v' = v ∧ C w') (h : WQ P ops C Q rest ((fr l).put dst v)) : WQ P ops C Q (⟨dst, op, ty, pos, aft, none⟩ :: rest) (fr l) :=
  q_step (x := v) wanted_none (fun w hC => by
    unfold Oper.quietAt
    rw [eval_fr, hr w hC]
    refine ⟨rfl, Calls.mono (H w hC) ?_⟩
    rintro e w' ⟨v', rfl, rfl, hC'⟩
    exact ⟨rfl, hC'⟩) h
theorem q_call {f : Nat} {args : Array Operand} {tys : Array TypeId} (he : Enters P f) (H : ∀ w, C w → CallR P f (args.map (opv l)) w fun v' w' => v' = v ∧ C w') (h : WQ P ops C Q rest (fr (l.set d v))) : WQ P ops C Q (⟨some d, .call { callee := .value (.func f), args := args, argTypes := tys }, ty, pos, aft, none⟩ :: rest) (fr l) :=
  q_call_any (fun w _ => by
    have := he (args.map (opv l) ++ #[]) w
    simp only [Array.append_empty] at this
    simp [execOp, resolve, opv, Deferred.ofValue, invoke, this]) H (by rw [put_fr]; exact h)
theorem q_on {dst : Option Nat} {op : Op} {g : Nat × Bool} (hg : yielded ops (l.toArray) g.1 = some g.2) (h : WQ P ops C Q (⟨dst, op, ty, pos, aft, none⟩ :: rest) (fr l)) : WQ P ops C Q (⟨dst, op, ty, pos, aft, some g⟩ :: rest) (fr l) := by
  have h1 : Region.wanted ⟨dst, op, ty, pos, aft, some g⟩ (yielded ops (fr l).tmps) = true := by simp [Region.wanted, fr, hg]
  replace h := h.run
  refine ⟨?_⟩
  simp only [wpQuiet, h1, wanted_none, if_true] at h ⊢
  exact h
theorem q_off {op : Op} {g : Nat × Bool} (hg : yielded ops (l.toArray) g.1 = some (!g.2)) (h : WQ P ops C Q rest (fr (l.set d undef))) : WQ P ops C Q (⟨some d, op, ty, pos, aft, some g⟩ :: rest) (fr l) := by
  have h1 : Region.wanted ⟨some d, op, ty, pos, aft, some g⟩ (yielded ops (fr l).tmps) = false := by simp [Region.wanted, fr, hg]
  refine ⟨?_⟩
  simp only [wpQuiet, h1, Bool.false_eq_true, if_false, put_fr]
  exact h.run
theorem q_un {op : Op} {g : Nat × Bool} (hg : yielded ops (l.toArray) g.1 = none) (h : WQ P ops C Q rest (fr (l.set d undef))) : WQ P ops C Q (⟨some d, op, ty, pos, aft, some g⟩ :: rest) (fr l) := by
  have h1 : Region.wanted ⟨some d, op, ty, pos, aft, some g⟩ (yielded ops (fr l).tmps) = false := by simp [Region.wanted, fr, hg]
  refine ⟨?_⟩
  simp only [wpQuiet, h1, Bool.false_eq_true, if_false, put_fr]
  exact h.run
theorem q_part {os : List Oper} (t : Nat) {b : Bool} (hb : l.getD t undef = .bool b) (ht : b = true → WQ P ops C Q os (fr (l.set t (.bool true)))) (hf : b = false → WQ P ops C Q os (fr (l.set t (.bool false)))) : WQ P ops C Q os (fr l) := by
  cases b
  · have := hf rfl; rw [← hb, set_getD] at this; exact this
  · have := ht rfl; rw [← hb, set_getD] at this; exact this
end
section
variable {P : Program} {n r : Act → World → Prop} {ex : List (Nat × (Act → World → Prop))} {w : World} {l : List Value} {S : Nat → Prop} {w0 : World} {L : List Res}
theorem x_quiet {id : Nat} {ops : List Oper} (hm : P.follows .mixedOrders = true) (hB : Region.lexB .any ops.toArray = true) (hS : St S w0 w L) (h : WQ P ops.toArray (fun w => St S w0 w L) (fun a' => ∀ w', St S w0 w' L → n a' w') ops (fr l)) : (Code.region id ops.toArray true).wp P (Qx n r ex) (fr l) w :=
  wp_region_quiet (C := fun w => St S w0 w L) hm hB (hS.ext (Ext.drew w)) (by simpa only [Qx, List.toList_toArray] using h.run)
theorem q_nil {ops : Array Oper} {C : World → Prop} {n : Act → World → Prop} {a : Act} (h : ∀ w', C w' → n a w') : WQ P ops C (fun a' => ∀ w', C w' → n a' w') [] a := ⟨h⟩
end
end Go.Proofs.YtpekghaodmeemaaGreat
namespace Go.Proofs.YtpekghaodmeemaaGreat
open Go.RowKit
section
variable {P : Program} {md : Region.Mode} {ops : Array Oper} {C : World → Prop} {lt : List Nat} {Q : Exit → Act → World → Prop}
/-- none of the late operations has come -/
def noLate (lt : List Nat) (listed : Array Bool) : Prop := ∀ k ∈ lt, listed.getD k false = false
/-- every order from here on, whatever is laid beside between two steps -/
def AnyE (P : Program) (md : Region.Mode) (ops : Array Oper) (C : World → Prop) (lt : List Nat) (Q : Exit → Act → World → Prop) : Nat → Array Bool → Act → World → Prop
  | 0, listed, a, w => ∀ w1, Ext w w1 → (noLate lt listed → C w1) ∧ Region.ready md ops listed = [] ∧ Q .normal a w1
  | n + 1, listed, a, w => ∀ w1, Ext w w1 → (noLate lt listed → C w1) ∧ (Region.ready md ops listed = [] → Q .normal a w1) ∧ ∀ i ∈ Region.ready md ops listed, wpOp P ops Q i (AnyE P md ops C lt Q n (listed.setIfInBounds i true)) a w1
theorem AnyE.any : ∀ (n : Nat) {listed : Array Bool} {a : Act} {w : World}, AnyE P md ops C lt Q n listed a w → wpAny P md ops Q n listed a w
  | 0, _, _, w, h => (h w Ext.rfl').2
  | n + 1, _, _, w, h => ⟨(h w Ext.rfl').2.1, fun i hi => wpOp_mono (fun _ _ h' => AnyE.any n h') ((h w Ext.rfl').2.2 i hi)⟩
theorem AnyE.ext {n : Nat} {listed : Array Bool} {a : Act} {w w' : World} (h : AnyE P md ops C lt Q n listed a w) (hE : Ext w w') : AnyE P md ops C lt Q n listed a w' := by
  cases n with
  | zero => exact fun w1 h1 => h w1 (hE.trans h1)
  | succ n => exact fun w1 h1 => h w1 (hE.trans h1)
theorem AnyE.cls {n : Nat} {listed : Array Bool} {a : Act} {w : World} (h : AnyE P md ops C lt Q n listed a w) : noLate lt listed → C w := by
  cases n with
  | zero => exact (h w Ext.rfl').1
  | succ n => exact (h w Ext.rfl').1
def QuietU (P : Program) (w : World) (v : Value) : Result Next → Prop
  | .ok (.value u) w' => w' = w ∧ u = v
  | .ok (.enter f args) w' => w' = w ∧ Calls P f args w (fun e w'' => e = .returned v ∧ Ext w w'')
  | _ => False
def YieldsE (P : Program) (ops : Array Oper) (C : World → Prop) (o : Oper) (v : Value) (a : Act) : Prop :=
  (Region.wanted o (yielded ops a.tmps) = true ∧ ∀ w, C w → QuietU P w v ((execOp a.eval o).run P w)) ∨
  (Region.wanted o (yielded ops a.tmps) = false ∧ v = undef)
theorem YieldsE.of_same {o : Oper} {v : Value} {a a' : Act} (hy : YieldsE P ops C o v a) (he : execOp a'.eval o = execOp a.eval o)
    (hw : Region.wanted o (yielded ops a'.tmps) = Region.wanted o (yielded ops a.tmps)) : YieldsE P ops C o v a' := by
  unfold YieldsE at *
  rw [he, hw]
  exact hy
theorem YieldsE.wpOp {i : Nat} {o : Oper} {v : Value} {a : Act} (hi : ops[i]? = some o) (hy : YieldsE P ops C o v a) {K : Act → World → Prop} {w : World} (hC : C w) (h : ∀ w', Ext w w' → K (a.put o.dst v) w') : wpOp P ops Q i K a w := by
  unfold Go.wpOp
  simp only [hi]
  rcases hy with ⟨hw, hv⟩ | ⟨hw, rfl⟩
  · simp only [hw, if_true]
    have := hv w hC
    refine .inl ?_
    unfold Oper.wp
    generalize (execOp a.eval o).run P w = r at this
    cases r with
    | ok n w' =>
      cases n <;> simp only [QuietU] at this <;> simp only [Oper.upon]
      case value u => obtain ⟨rfl, rfl⟩ := this; exact h _ Ext.rfl'
      case enter f args =>
        obtain ⟨rfl, hc⟩ := this
        exact hc.mono fun e w'' ⟨he, hE⟩ => by subst he; exact h _ hE
    | halt x w' => simp only [QuietU] at this
  · simp only [hw, Bool.false_eq_true, if_false]; exact h _ Ext.rfl'
theorem wpOp_putE {j : Nat} {oi oj : Oper} {v : Value} (hj : ops[j]? = some oj) (hap : oi.apart ops oj = true)
    (hsi : ∀ cs b, oi.op ≠ .select cs b) (hsj : ∀ cs b, oj.op ≠ .select cs b)
    (hQ : ∀ c a w, ¬ Q (.panic c) a w) {K : Act → World → Prop} {a : Act} {w : World}
    (hy : YieldsE P ops C oi v a) (h : wpOp P ops Q j K (a.put oi.dst v) w) :
    wpOp P ops Q j (fun a' w' => YieldsE P ops C oi v a' ∧ K (a'.put oi.dst v) w') a w := by
  obtain ⟨h1, h2, h3⟩ := Oper.apart_spec hap
  have keep : ∀ (a : Act), YieldsE P ops C oi v a → ∀ u, YieldsE P ops C oi v (a.put oj.dst u) := fun a hy u =>
    hy.of_same (execOp_put oi hsi a oj.dst u h3) (wanted_put oi a oj.dst u h3)
  have keepD : ∀ d, YieldsE P ops C oi v { a with defers := d :: a.defers } := fun d => hy.of_same rfl rfl
  unfold wpOp at *
  simp only [hj] at *
  rw [wanted_put oj a oi.dst v h1] at h
  split
  · rename_i hw
    simp only [hw, if_true] at h
    rcases h with h | ⟨hasks, hlets⟩
    case inr => exact .inr ⟨by unfold Oper.asks at *; rw [execOp_put oj hsj a oi.dst v h1] at hasks; exact hasks, hlets⟩
    refine .inl ?_
    unfold Oper.wp at *
    rw [execOp_put oj hsj a oi.dst v h1] at h
    generalize (execOp a.eval oj).run P w = r at *
    cases r with
    | ok n w' =>
      cases n <;> simp only [Oper.upon] at h ⊢
      case value u => exact ⟨keep a hy u, by rw [← Act.put_comm a v u h2]; exact h⟩
      case skip => exact ⟨keep a hy _, by rw [← Act.put_comm a v undef h2]; exact h⟩
      case defer d =>
        refine ⟨keep _ (keepD d) _, ?_⟩
        rw [← Act.put_comm _ v undef h2, ← Act.put_defers]
        exact h
      case enter f args =>
        refine Calls.mono h fun e w'' he => ?_
        cases e with
        | returned u => exact ⟨keep a hy u, by rw [← Act.put_comm a v u h2]; exact he⟩
        | panicked c => exact (hQ _ _ _ he).elim
        | outgrown => exact he
      case row row args => exact Rows.mono h fun u w'' he => ⟨keep a hy u, by rw [← Act.put_comm a v u h2]; exact he⟩
    | halt x w' =>
      cases x <;> simp only [Oper.upon] at h ⊢
      case panic u => exact (hQ _ _ _ h).elim
  · rename_i hw
    simp only [hw] at h
    exact ⟨keep a hy _, by rw [← Act.put_comm a v undef h2]; exact h⟩
theorem noLate_set {i : Nat} {listed : Array Bool} (hi : i ∉ lt) (h : noLate lt listed) : noLate lt (listed.setIfInBounds i true) := fun k hk => by
  have hne : i ≠ k := fun e => hi (e ▸ hk)
  rw [getD_set_ne false hne]; exact h k hk
theorem AnyE.first {i : Nat} {oi : Oper} {v : Value} (hil : i ∉ lt) (hlw : ∀ k ∈ lt, ∀ o, ops[k]? = some o → ∃ e ∈ o.after, Region.binds md e = true ∧ e.on = i) (hi : ops[i]? = some oi) (hsel : ∀ (j : Nat) (o : Oper) cs b, ops[j]? = some o → o.op ≠ .select cs b) (hQ : ∀ c a w, ¬ Q (.panic c) a w) :
    ∀ (fuel : Nat) (listed : Array Bool) (a : Act) (w : World), noLate lt listed →
      (∀ j oj, ops[j]? = some oj → j ≠ i → listed.getD j true = false → (∀ e ∈ oj.after, Region.binds md e = true → e.on ≠ i) → oi.apart ops oj = true) →
      i ∈ Region.ready md ops listed → YieldsE P ops C oi v a →
      AnyE P md ops C lt Q fuel (listed.setIfInBounds i true) (a.put oi.dst v) w → AnyE P md ops C lt Q (fuel + 1) listed a w := by
  intro fuel
  induction fuel with
  | zero =>
    intro listed a w hnl _ hr hy H w1 hE
    have H1 := H.ext hE
    have hcl := H1.cls (noLate_set hil hnl)
    refine ⟨fun _ => hcl, fun h => (by rw [h] at hr; cases hr), fun j hj => ?_⟩
    by_cases hji : j = i
    · subst hji; exact hy.wpOp hi hcl fun w' hE' => H1.ext hE'
    · have := ready_mono hj hji
      rw [(H1 w1 Ext.rfl').2.1] at this
      cases this
  | succ fuel ih =>
    intro listed a w hnl hfree hr hy H w1 hE
    have H1 := H.ext hE
    have hcl := H1.cls (noLate_set hil hnl)
    refine ⟨fun _ => hcl, fun h => (by rw [h] at hr; cases hr), fun j hj => ?_⟩
    by_cases hji : j = i
    · subst hji; exact hy.wpOp hi hcl fun w' hE' => H1.ext hE'
    · have h1 := (H1 w1 Ext.rfl').2.2 j (ready_mono hj hji)
      obtain ⟨hjun, oj, hoj, hall⟩ := mem_ready.1 hj
      have hnot : ∀ e ∈ oj.after, Region.binds md e = true → e.on ≠ i := fun e he hb heq => by
        have h1 := hall e he hb
        have h0 := (mem_ready.1 hr).1
        rw [heq] at h1
        rcases Nat.lt_or_ge i listed.size with h' | h'
        · simp [h'] at h0 h1; rw [h0] at h1; cases h1
        · simp [Array.getElem?_eq_none h'] at h1
      have h2 := wpOp_putE hoj (hfree j oj hoj hji hjun hnot) (fun cs b => hsel i oi cs b hi) (fun cs b => hsel j oj cs b hoj) hQ hy h1
      have hfree' : ∀ k ok, ops[k]? = some ok → k ≠ i → (listed.setIfInBounds j true).getD k true = false →
          (∀ e ∈ ok.after, Region.binds md e = true → e.on ≠ i) → oi.apart ops ok = true := fun k ok hk hki hun hno => by
        refine hfree k ok hk hki ?_ hno
        by_cases hjk : j = k
        · subst hjk; exact hjun
        · rw [getD_set_ne true hjk] at hun; exact hun
      have hjl : j ∉ lt := fun hjl => by
        obtain ⟨e, he, hb, hon⟩ := hlw j hjl oj hoj
        exact hnot e he hb hon
      refine wpOp_mono (fun a' w' h3 => ih (listed.setIfInBounds j true) a' w' (noLate_set hjl hnl) hfree' (ready_mono hr (Ne.symm hji)) h3.1 ?_) h2
      rw [Array.setIfInBounds_comm _ _ hji]
      exact h3.2
/-- the first operations, in the text's order; T: what stands behind them -/
def wpPre (P : Program) (ops : Array Oper) (C : World → Prop) (T : Act → Prop) : List Oper → Act → Prop
  | [], a => T a
  | o :: rest, a => ∃ v, YieldsE P ops C o v a ∧ wpPre P ops C T rest (a.put o.dst v)
def lateB (md : Region.Mode) (ops : Array Oper) (lt : List Nat) (i : Nat) : Bool := !lt.contains i && lt.all fun k => match ops[k]? with | some o => o.after.any fun e => Region.binds md e && e.on == i | none => true
def preB (md : Region.Mode) (ops : Array Oper) (lt : List Nat) : Nat → Nat → Array Bool → Bool
  | 0, _, _ => true
  | m + 1, k, listed => lateB md ops lt k && (Region.ready md ops listed).contains k && Region.free md ops listed k && preB md ops lt m (k + 1) (listed.setIfInBounds k true)
def setAll : Nat → Nat → Array Bool → Array Bool
  | 0, _, listed => listed
  | m + 1, k, listed => setAll m (k + 1) (listed.setIfInBounds k true)
theorem AnyE.pre (hs : Region.noSelect ops = true) (hQ : ∀ c a w, ¬ Q (.panic c) a w) (fuel : Nat) (w : World) : ∀ (l : List Oper) (k : Nat) (listed : Array Bool) (a : Act), noLate lt listed → (∀ j, j < l.length → l[j]? = ops[k + j]?) →
    preB md ops lt l.length k listed = true → wpPre P ops C (fun a' => AnyE P md ops C lt Q fuel (setAll l.length k listed) a' w) l a → AnyE P md ops C lt Q (fuel + l.length) listed a w
  | [], _, _, _, _, _, _, h => h
  | o :: l, k, listed, a, hnl, hl, hB, h => by
    have h0 : ops[k]? = some o := by simpa using (hl 0 (by simp)).symm
    simp only [List.length_cons, preB, Bool.and_eq_true] at hB
    obtain ⟨⟨⟨hlB, hr⟩, hf⟩, hB'⟩ := hB
    simp only [lateB, Bool.and_eq_true, Bool.not_eq_true', List.all_eq_true] at hlB
    have hil : k ∉ lt := fun hk => by have := hlB.1; simp [hk] at this
    have hlw : ∀ k' ∈ lt, ∀ o', ops[k']? = some o' → ∃ e ∈ o'.after, Region.binds md e = true ∧ e.on = k := fun k' hk' o' ho' => by
      have := hlB.2 k' hk'
      rw [ho'] at this
      obtain ⟨e, he, hb⟩ := Array.any_eq_true'.1 this
      simp only [Bool.and_eq_true, beq_iff_eq] at hb
      exact ⟨e, he, hb.1, hb.2⟩
    obtain ⟨v, hy, hK⟩ := h
    have := AnyE.pre hs hQ fuel w l (k + 1) _ _ (noLate_set hil hnl) (fun j hj => by have := hl (j + 1) (by simpa using hj); simpa [Nat.add_assoc, Nat.add_comm 1 j] using this) hB' hK
    exact AnyE.first hil hlw h0 (Region.noSelect_spec hs) hQ (fuel + l.length) listed a w hnl (Region.free_spec h0 hf) (by simpa using hr) hy this
end
section
variable {P : Program} {ops : Array Oper} {C : World → Prop} {T : Act → Prop} {rest : List Oper} {l : List Value} {d : Nat} {v : Value} {ty : TypeId} {pos : String} {aft : Array Edge}
theorem p_nil {a : Act} (h : T a) : wpPre P ops C T [] a := h
end
section
variable {P : Program} {n r : Act → World → Prop} {ex : List (Nat × (Act → World → Prop))} {w : World} {l : List Value} {S : Nat → Prop} {w0 : World} {L : List Res}
theorem Qx_panic {c : List PanicEntry} {a : Act} {w : World} : ¬ Qx n r ex (.panic c) a w := fun h => h
/-- M: what holds behind the region -/
theorem x_mixed {id : Nat} {ops : List Oper} (lt : List Nat) (m : Nat) (M : Act → World → Prop) (hm : P.follows .mixedOrders = true) (hs : Region.noSelect ops.toArray = true) (hB : preB .any ops.toArray lt m 0 (Array.replicate ops.length false) = true) (hml : m ≤ ops.length)
    (hS : St S w0 w L) (h : ∀ w', St S w0 w' L → wpPre P ops.toArray (fun w => St S w0 w L) (fun a' => AnyE P .any ops.toArray (fun w => St S w0 w L) lt (Qx M r ex) (ops.length - m) (setAll m 0 (Array.replicate ops.length false)) a' w') (ops.take m) (fr l))
    (hM : ∀ a' w', M a' w' → n a' w') : (Code.region id ops.toArray true).wp P (Qx n r ex) (fr l) w := by
  refine wp_mono ?_ (fun e a w q => ?_) (Q := Qx M r ex)
  · refine wp_region_any hm (AnyE.any (C := fun w => St S w0 w L) (lt := lt) _ ?_)
    have hlen : (ops.take m).length = m := by simp; omega
    have := AnyE.pre (P := P) (md := .any) (ops := ops.toArray) (C := fun w => St S w0 w L) (lt := lt) (Q := Qx M r ex) hs (fun _ _ _ => Qx_panic) (ops.length - m) w.drew (ops.take m) 0 (Array.replicate ops.length false) (fr l) (fun k _ => by simp [Array.getD_eq_getD_getElem?, Array.getElem?_replicate]; split <;> rfl) (fun j hj => by
      rw [List.getElem?_take, if_pos (by omega)]; simp) (by rw [hlen]; exact hB) (by rw [hlen]; exact h _ (hS.ext (Ext.drew w)))
    rw [hlen, show ops.length - m + m = ops.length by omega] at this
    simpa using this
  · cases e <;> first | exact hM _ _ q | exact q
def MixM (l : List Value) (V : List Nat) (R : (Nat → Value) → World → Prop) (a : Act) (w : World) : Prop := ∃ f, a = fr (clob l V f) ∧ R f w
theorem mix_leaf {lnow : List Value} {V : List Nat} {R : (Nat → Value) → World → Prop} (he : lnow = clob l V (fun d => lnow.getD d undef)) (hR : R (fun d => lnow.getD d undef) w) : MixM l V R (fr lnow) w := ⟨_, congrArg fr he, hR⟩
/-- the same, the written slots told by R alone -/
theorem x_mixed_f {id : Nat} {ops : List Oper} (lt : List Nat) (m : Nat) (V : List Nat) (R : (Nat → Value) → World → Prop) (hm : P.follows .mixedOrders = true) (hs : Region.noSelect ops.toArray = true) (hB : preB .any ops.toArray lt m 0 (Array.replicate ops.length false) = true) (hml : m ≤ ops.length)
    (hS : St S w0 w L) (h : ∀ w', St S w0 w' L → wpPre P ops.toArray (fun w => St S w0 w L) (fun a' => AnyE P .any ops.toArray (fun w => St S w0 w L) lt (Qx (MixM l V R) r ex) (ops.length - m) (setAll m 0 (Array.replicate ops.length false)) a' w') (ops.take m) (fr l))
    (hM : ∀ f w', R f w' → n (fr (clob l V f)) w') : (Code.region id ops.toArray true).wp P (Qx n r ex) (fr l) w :=
  x_mixed lt m (MixM l V R) hm hs hB hml hS h fun a' w' ⟨f, e, hR⟩ => by subst e; exact hM f w' hR
variable {ops : Array Oper} {C : World → Prop} {lt : List Nat} {M : Act → World → Prop} {a : Act}
theorem any_nil {listed : Array Bool} (hr : Region.ready .any ops listed = []) (h : ∀ w1, Ext w w1 → (noLate lt listed → C w1) ∧ M a w1) : AnyE P .any ops C lt (Qx M r ex) 0 listed a w := fun w1 hE => ⟨(h w1 hE).1, hr, (h w1 hE).2⟩
theorem any_step {k : Nat} {listed : Array Bool} (is : List Nat) (hr : Region.ready .any ops listed = is) (hne : is ≠ []) (h : ∀ w1, Ext w w1 → (noLate lt listed → C w1) ∧ ∀ i ∈ is, wpOp P ops (Qx M r ex) i (AnyE P .any ops C lt (Qx M r ex) k (listed.setIfInBounds i true)) a w1) : AnyE P .any ops C lt (Qx M r ex) (k + 1) listed a w := fun w1 hE => by
  refine ⟨(h w1 hE).1, fun h0 => absurd (hr.symm.trans h0) hne, fun i hi => (h w1 hE).2 i (hr ▸ hi)⟩
/-- one operation of those that may come now -/
theorem any_op {i : Nat} {o : Oper} {K : Act → World → Prop} (ho : ops[i]? = some o) (h : WL P ops (Qx K r ex) [o] a w) : wpOp P ops (Qx M r ex) i K a w := by
  replace h := h.run
  unfold wpList at h
  unfold Go.wpOp
  simp only [ho]
  split
  · rename_i hw
    rw [if_pos hw] at h
    rcases h with h | ⟨_, a', w', h⟩
    · refine .inl ?_
      unfold Oper.wp at *
      generalize (execOp a.eval o).run P w = q at *
      cases q with
      | ok n w' =>
        cases n <;> simp only [Oper.upon] at h ⊢
        case enter f args =>
          refine Calls.mono h fun e w'' he => ?_
          cases e with
          | returned u => exact he
          | panicked c => exact he.elim
          | outgrown => obtain ⟨_, _, h⟩ := he; exact h.elim
        all_goals exact h
      | halt x w' =>
        cases x <;> simp only [Oper.upon] at h ⊢
        case panic u => exact h.elim
    · exact h.elim
  · rename_i hw
    rw [if_neg hw] at h
    exact h
end
end Go.Proofs.YtpekghaodmeemaaGreat
namespace Go.Proofs.YtpekghaodmeemaaGreat
open Go.RowKit
def Places (P : Program) (fs : Array Field) (pl : Array (Nat × Nat)) : Prop := ∀ w : World, (fs.mapM fun f => do pure (f.offset, ← sizeOf f.type) : Sem (Array (Nat × Nat))).run P w = .ok pl w
theorem foldl_set_splice (vs : List Value) : ∀ (cells : Array Value) (off k : Nat), off + k + vs.length ≤ cells.size →
    (vs.zipIdx k).foldl (fun (cs : Array Value) (p : Value × Nat) => cs.setIfInBounds (off + p.2) p.1) cells = (splice cells.toList (off + k) vs).toArray := by
  induction vs with
  | nil => intro cells off k _; simp [splice]
  | cons v vs ih =>
    intro cells off k h
    rw [List.zipIdx_cons, List.foldl_cons, ih _ _ _ (by simp at h ⊢; omega)]
    simp only [List.length_cons] at h
    congr 1
    unfold splice
    simp only [Array.toList_setIfInBounds, List.length_cons]
    rw [List.set_eq_take_append_cons_drop, if_pos (by simp; omega)]
    have h1 : (cells.toList.take (off + k)).length = off + k := by simp; omega
    rw [← Nat.add_assoc, List.take_append, List.drop_append, h1]
    simp only [List.take_take, Nat.add_sub_cancel_left, List.take_succ_cons, List.take_zero, List.append_assoc]
    rw [Nat.min_eq_right (by omega), List.drop_eq_nil_of_le (by simp; omega)]
    simp only [List.cons_append, List.nil_append]
    rw [show off + k + 1 + vs.length - (off + k) = (vs.length) + 1 by omega, List.drop_succ_cons, List.drop_drop]
    congr 4
    omega
theorem fill_nil {pl : Nat → Option (Nat × Nat)} {cells : Array Value} : Instr.fill pl cells [] = some cells := rfl
theorem fill_cons {pl : Nat → Option (Nat × Nat)} {cells : Array Value} {i off size : Nat} {v : Value} {rest : List (Nat × Value)} {r : Array Value} (hp : pl i = some (off, size)) (hs : v.cells.size = size) (hf : off + size ≤ cells.size)
    (h : Instr.fill pl (splice cells.toList off v.cells.toList).toArray rest = some r) : Instr.fill pl cells ((i, v) :: rest) = some r := by
  subst hs
  simp only [Instr.fill, hp]
  rw [if_neg (by simp; omega)]
  have := foldl_set_splice v.cells.toList cells off 0 (by simpa using hf)
  rw [← h]
  congr 1
  rw [Nat.add_zero] at this
  rw [← this, ← Array.foldl_toList, Array.toList_zipIdx]
theorem zrow_eq (z : List Value) (hz : 0 < z.length) : ∀ n, (List.range (n * z.length)).map (fun j => z.toArray[j % z.length]!) = (List.replicate n z).flatten
  | 0 => by simp
  | n + 1 => by
    rw [List.replicate_succ', List.flatten_append, Nat.succ_mul, List.range_add, List.map_append, zrow_eq z hz n]
    congr 1
    simp only [List.map_map, List.flatten_cons, List.flatten_nil, List.append_nil]
    apply List.ext_getElem (by simp)
    intro i h1 h2
    simp only [List.getElem_map, List.getElem_range, Function.comp]
    rw [Nat.add_comm, Nat.add_mul_mod_self_right, Nat.mod_eq_of_lt h2]
    simp [h2]
section
variable {P : Program} {ops : Array Oper} {Q : Exit → Act → World → Prop} {rest : List Oper} {l : List Value} {w : World} {d : Nat} {ty : TypeId} {pos : String} {aft : Array Edge} {S : Nat → Prop} {w0 : World} {L L' : List Res}
theorem m_buildRow {T e : TypeId} {n : Nat} {parts : Array (Nat × Operand)} {sz by' : Nat} {z : Value} {cells : Array Value} (hT : P.underlying T = some (.slice e)) (hi : TI P e sz by' z) (hzs : 0 < sz ∧ z.cells.size = sz := by decide) (hsm : n * sz ≤ 2 ^ 24 := by decide)
    (hc : Instr.fill (fun i => some (i * sz, sz)) (List.replicate n z.cells.toList).flatten.toArray (parts.map fun (i, x) => (i, opv l x)).toList = some cells) (hS : St S w0 w L)
    (h : ∀ w' g, St S w0 w' (.obj g (.cells cells e (0, 0)) :: L) → WL P ops Q rest (fr (l.set d (.slice (some ⟨g, 0, none⟩) n n))) w') : WL P ops Q (⟨some d, .buildSlice T n parts, ty, pos, aft, none⟩ :: rest) (fr l) w := by
  refine m_buildSlice hT hi hsm ?_ hS h
  rw [← hc]
  congr 1
  have hz := zrow_eq z.cells.toList (by simpa [hzs.2] using hzs.1) n
  rw [← hz]
  apply Array.ext'
  simp [hzs.2]
end
section
variable {P : Program} {l : List Value} {w : World} {d : Nat} {ty : TypeId} {pos : String} {aft : Array Edge}
theorem s_build_arr {T e : TypeId} {n : Nat} {parts : Array (Nat × Operand)} {tz tb sz by' : Nat} {z ez : Value} {cells : Array Value} (hT : P.underlying T = some (.array n e)) (hi : TI P T tz tb z) (he : TI P e sz by' ez)
    (hc : Instr.fill (fun i => some (i * sz, sz)) z.cells (parts.map fun (i, x) => (i, opv l x)).toList = some cells) : Go1 P l w ⟨some d, .build T parts, ty, pos, aft, none⟩ (.agg cells) := by
  obtain ⟨i, hi, _, _, hz⟩ := hi
  obtain ⟨j, hj, rfl, _, _⟩ := he
  unfold Go1
  simp [execOp, Instr.build, zeroValue, typeInfo, hi, hz, run_underlying hT, sizeOf, hj] at hc ⊢
  rw [hc]; rfl
theorem s_build_struct {T : TypeId} {fs : Array Field} {parts : Array (Nat × Operand)} {tz tb : Nat} {z : Value} {pl : Array (Nat × Nat)} {cells : Array Value} (hT : P.underlying T = some (.struct fs)) (hi : TI P T tz tb z) (hp : Places P fs pl)
    (hc : Instr.fill (pl[·]?) z.cells (parts.map fun (i, x) => (i, opv l x)).toList = some cells) : Go1 P l w ⟨some d, .build T parts, ty, pos, aft, none⟩ (.agg cells) := by
  obtain ⟨i, hi, _, _, hz⟩ := hi
  have hp' := hp w
  unfold Go1
  simp only [execOp, Instr.build, Sem.run_bind, zeroValue, typeInfo, Sem.run_pure, run_underlying hT, Result.andThen_ok] at hc hp' ⊢
  have hti : (program).run P w = .ok P w := rfl
  simp only [hti, Result.andThen_ok, hi, hz, Sem.run_pure]
  rw [hp']
  simp only [Result.andThen_ok]
  rw [hc]; rfl
end
end Go.Proofs.YtpekghaodmeemaaGreat
namespace Go.Proofs.YtpekghaodmeemaaGreat
open Go.RowKit
theorem wp_u8 (n : Int) : IntKind.u8.wrap n = n % 256 := by simp [IntKind.wrap, IntKind.bits, IntKind.signed]
theorem wp_u16 (n : Int) : IntKind.u16.wrap n = n % 65536 := by simp [IntKind.wrap, IntKind.bits, IntKind.signed]
theorem wp_u32 (n : Int) : IntKind.u32.wrap n = n % 4294967296 := by simp [IntKind.wrap, IntKind.bits, IntKind.signed]
theorem wp_u64 (n : Int) : IntKind.u64.wrap n = n % 18446744073709551616 := by simp [IntKind.wrap, IntKind.bits, IntKind.signed]
theorem bv_ofInt (w a : Nat) (h : a < 2 ^ w) : (BitVec.ofInt w (a : Int)).toNat = a := by
  rw [BitVec.ofInt_natCast, BitVec.toNat_ofNat]; exact Nat.mod_eq_of_lt h
section
variable {a b : Nat}
theorem or_u64 (ha : a < 18446744073709551616) (hb : b < 18446744073709551616) : bits .or .u64 (a : Int) (b : Int) = ((a ||| b : Nat) : Int) := by
  have hx : a ||| b < 2 ^ 64 := Nat.or_lt_two_pow (by omega) (by omega)
  show IntKind.u64.wrap ((BitVec.ofInt 64 (a : Int) ||| BitVec.ofInt 64 (b : Int)).toNat : Int) = _
  rw [BitVec.toNat_or, bv_ofInt 64 a (by omega), bv_ofInt 64 b (by omega), wp_u64]
  omega
end
section
variable {r s n p : Nat} {b : Int}
theorem pw {b : Int} {m n p : Nat} (hn : min b.toNat m = n) (hp : 2 ^ n = p) : (2 : Int) ^ (min b.toNat m) = (p : Int) := by
  rw [hn, ← hp]; exact (Int.natCast_pow 2 n).symm
theorem shl_u64 (hs : r * p % 18446744073709551616 = s) (hn : min b.toNat 64 = n := by rfl) (hp : 2 ^ n = p := by rfl) : IntKind.u64.wrap ((r : Int) * 2 ^ (min b.toNat IntKind.u64.bits)) = (s : Int) := by
  rw [show IntKind.u64.bits = 64 from rfl, pw hn hp, wp_u64, ← hs, Int.natCast_emod, Int.natCast_mul]; rfl
theorem shr_u (k : IntKind) (hs : r / p = s) (hn : min b.toNat k.bits = n := by rfl) (hp : 2 ^ n = p := by rfl) : Int.fdiv (r : Int) (2 ^ (min b.toNat k.bits)) = (s : Int) := by
  rw [pw hn hp, Int.fdiv_eq_ediv_of_nonneg _ (by omega), ← hs]; exact (Int.natCast_ediv r p).symm
theorem cv_u8 (hs : r % 256 = s) : IntKind.u8.wrap (r : Int) = (s : Int) := by rw [wp_u8, ← hs, Int.natCast_emod]; rfl
theorem cv_u16 (hs : r % 65536 = s) : IntKind.u16.wrap (r : Int) = (s : Int) := by rw [wp_u16, ← hs, Int.natCast_emod]; rfl
theorem cv_u32 (hs : r % 4294967296 = s) : IntKind.u32.wrap (r : Int) = (s : Int) := by rw [wp_u32, ← hs, Int.natCast_emod]; rfl
theorem cv_i64 (hs : r < 9223372036854775808) : IntKind.i64.wrap (r : Int) = (r : Int) := wr_i64 (by omega) (by omega)
end
theorem quo_u64 {r p : Nat} (hr : r < 18446744073709551616) (hp : 0 < p := by decide) : IntKind.u64.wrap ((r : Int).tdiv (p : Int)) = ((r / p : Nat) : Int) := by
  have h1 : r / p ≤ r := Nat.div_le_self _ _
  have h2 : (r : Int).tdiv (p : Int) = ((r / p : Nat) : Int) := (Int.tdiv_eq_ediv_of_nonneg (by omega)).trans (Int.natCast_ediv r p).symm
  rw [h2]; clear h2
  generalize r / p = q at *
  exact wr_u64 (by omega) (by omega)
theorem rem_nat {r p : Nat} : (r : Int).tmod (p : Int) = ((r % p : Nat) : Int) := (Int.tmod_eq_emod_of_nonneg (by omega)).trans (Int.natCast_emod r p).symm
theorem St.hasRd {S : Nat → Prop} {w0 w : World} {L : List Res} {A : Option Addr} {sz n : Nat} {xs : List Value} (h : St S w0 w L) (hm : Has L (.rd A sz n xs)) : Rd w A sz n xs := h.has hm
theorem St.hasA {S : Nat → Prop} {w0 w : World} {L : List Res} {A : Option Addr} {sz n : Nat} {xs : List Value} (h : St S w0 w L) (hm : Has L (.rd A sz n xs) := by repeat (first | exact Has.head | apply Has.tail)) : Rd w A sz n xs := h.hasRd hm
section
variable {w : World} {A B C : Option Addr} {sa sb sc na nb nc : Nat} {xa xb xc : List Value}
theorem St.rd1 {S : Nat → Prop} (h : Rd w A sa na xa) : St S w w [.rd A sa na xa] := (St.start w).add_rd h (by intro r h; cases h)
theorem St.rd2 {S : Nat → Prop} (h : Rd w A sa na xa) (k : Rd w B sb nb xb) : St S w w [.rd A sa na xa, .rd B sb nb xb] := (St.rd1 k).add_rd h (by intro r h g hg; simp at h; subst h; simp [Res.own] at hg)
theorem St.rd3 {S : Nat → Prop} (h : Rd w A sa na xa) (k : Rd w B sb nb xb) (j : Rd w C sc nc xc) : St S w w [.rd A sa na xa, .rd B sb nb xb, .rd C sc nc xc] := (St.rd2 k j).add_rd h (by intro r h g hg; simp at h; rcases h with rfl | rfl <;> simp [Res.own] at hg)
end
/-- what a call hands back, beside what was -/
theorem St.call {S : Nat → Prop} {w0 w w' : World} {L M : List Res} (h : St S w0 w L) (k : St NoB w w' M) (hr : ∀ r ∈ M, ∀ g, r.reads = some g → w.heap.size ≤ g := by simp [Res.reads]) : St S w0 w' (M ++ L) := by
  have h' := h.ext k.keep
  refine ⟨h'.keep, ?_, ?_, ?_⟩
  · intro r hm
    rcases List.mem_append.1 hm with hm | hm
    · exact k.holds r hm
    · exact h'.holds r hm
  · intro r hm g hg
    rcases List.mem_append.1 hm with hm | hm
    · rcases k.own r hm g hg with hx | hx
      · exact hx.elim
      · exact .inr (Nat.le_trans h.keep.size hx)
    · exact h.own r hm g hg
  · refine List.pairwise_append.2 ⟨k.apart, h.apart, fun r hm s hs g => ⟨fun hg => ?_, fun hg => ?_⟩⟩
    · have h1 : w.heap.size ≤ g := by rcases k.own r hm g hg with hx | hx; exact hx.elim; exact hx
      exact ⟨fun e => by have := own_lt (h.holds s hs) e; omega, fun e => by have := reads_lt (h.holds s hs) e; omega⟩
    · have h1 := own_lt (h.holds s hs) hg
      refine ⟨fun e => ?_, fun e => by have := hr r hm g e; omega⟩
      rcases k.own r hm g e with hx | hx
      · exact hx.elim
      · omega
def Byt (l : List Int) : Prop := ∀ x ∈ l, 0 ≤ x ∧ x ≤ 255
theorem Byt.get {l : List Int} (h : Byt l) (i : Nat) : 0 ≤ l.getD i 0 ∧ l.getD i 0 ≤ 255 := by
  rcases Nat.lt_or_ge i l.length with hi | hi
  · rw [List.getD_eq_getElem?_getD, List.getElem?_eq_getElem hi]; exact h _ (List.getElem_mem hi)
  · rw [List.getD_eq_getElem?_getD, List.getElem?_eq_none hi]; simp
def bt (l : List Int) (i : Nat) : Nat := (l.getD i 0).toNat
theorem Byt.bt {l : List Int} (h : Byt l) (i : Nat) : l.getD i 0 = (bt l i : Int) ∧ bt l i < 256 := by
  have := h.get i
  unfold Go.Proofs.YtpekghaodmeemaaGreat.bt
  omega
theorem Byt.app {l m : List Int} (h : Byt l) (k : Byt m) : Byt (l ++ m) := fun x hx => by rcases List.mem_append.1 hx with h' | h'; exact h x h'; exact k x h'
theorem Byt.take {l : List Int} (h : Byt l) (n : Nat) : Byt (l.take n) := fun x hx => h x (List.mem_of_mem_take hx)
theorem Byt.drop {l : List Int} (h : Byt l) (n : Nat) : Byt (l.drop n) := fun x hx => h x (List.mem_of_mem_drop hx)
theorem take_succ_getD {l : List Int} {k : Nat} (h : k < l.length) : l.take (k + 1) = l.take k ++ [l.getD k 0] := by
  rw [List.take_succ_eq_append_getElem h, List.getD_eq_getElem?_getD, List.getElem?_eq_getElem h]; rfl
end Go.Proofs.YtpekghaodmeemaaGreat
namespace Go.Proofs.YtpekghaodmeemaaGreat
open Go.RowKit
section
variable {P : Program} {ops : Array Oper} {Q : Exit → Act → World → Prop} {rest : List Oper} {l : List Value} {w : World} {d : Nat} {ty : TypeId} {pos : String} {aft : Array Edge}
variable {S : Nat → Prop} {w0 : World} {L L' : List Res}
theorem St.vecRd {A : Option Addr} {c : Nat} {e : TypeId} {sz n : Nat} {xs : List Value} (h : St S w0 w L) (hm : Has L (.vec A c e sz n xs)) : Rd w A sz n xs := by
  have hv := h.has hm
  refine ⟨hv.1, fun hn => ?_⟩
  obtain ⟨g, e', hc⟩ := Go.Proofs.YtpekghaodmeemaaGreat.vec_at hv hn
  exact ⟨g, 0, e', own_lt hv (by simp [Res.own, e']), hc⟩
theorem St.vecA {S : Nat → Prop} {w0 w : World} {L : List Res} {A : Option Addr} {c : Nat} {e : TypeId} {sz n : Nat} {xs : List Value} (h : St S w0 w L) (hm : Has L (.vec A c e sz n xs) := by repeat (first | exact Has.head | apply Has.tail)) : Rd w A sz n xs := h.vecRd hm
end
end Go.Proofs.YtpekghaodmeemaaGreat
namespace Go.Proofs.YtpekghaodmeemaaGreat
open Go.RowKit
/-- the blocks of a row of resources -/
def OwnB (M : List Res) : Nat → Prop := fun g => ∃ r ∈ M, r.own = some g
/-- M is chosen out of L; R is left. -/
inductive Spl : List Res → List Res → List Res → Prop
  | nil {L : List Res} : Spl [] L L
  | cons {r : Res} {L L1 M R : List Res} : Del L r L1 → Spl M L1 R → Spl (r :: M) L R
theorem Spl.perm {M L R : List Res} (h : Spl M L R) : L.Perm (M ++ R) := by
  induction h with
  | nil => exact List.Perm.refl _
  | cons hd _ ih => exact hd.perm.trans (List.Perm.cons _ ih)
section
variable {S : Nat → Prop} {w0 w w' : World} {L M M' R : List Res}
theorem St.owns (h : St S w0 w L) (hs : Spl M L R) : St (OwnB M) w w M := by
  have h := h.perm hs.perm
  refine ⟨Keep.refl _ _, fun r hr => h.holds r (List.mem_append_left _ hr), fun r hr g hg => .inl ⟨r, hr, hg⟩, (List.pairwise_append.1 h.apart).1⟩
theorem St.frame (h : St S w0 w L) (hs : Spl M L R) (k : St (OwnB M) w w' M') (hr : ∀ r ∈ M', ∀ g, r.reads = some g → w.heap.size ≤ g ∨ ∃ s ∈ M, s.own = some g ∨ s.reads = some g) : St S w0 w' (M' ++ R) := by
  have h := h.perm hs.perm
  obtain ⟨_, hR, hMR⟩ := List.pairwise_append.1 h.apart
  have out : ∀ s ∈ R, ∀ g, s.own = some g ∨ s.reads = some g → w'.heap[g]? = w.heap[g]? := fun s hs' g hg => by
    have hw := h.holds s (List.mem_append_right _ hs')
    have hlt : g < w.heap.size := by rcases hg with hg | hg; exact own_lt hw hg; exact reads_lt hw hg
    refine k.keep.block g hlt ?_
    rintro ⟨r, hr', ho⟩
    have := (hMR r hr' s hs' g).1 ho
    rcases hg with hg | hg
    · exact this.1 hg
    · exact this.2 hg
  refine ⟨h.keep.comp k.keep ?_, ?_, ?_, ?_⟩
  · rintro g hg ⟨r, hr', ho⟩
    rcases h.own r (List.mem_append_left _ hr') g ho with h1 | h1
    · exact h1
    · omega
  · intro r hr'
    rcases List.mem_append.1 hr' with hm | hm
    · exact k.holds r hm
    · exact Res.holds_of (h.holds r (List.mem_append_right _ hm)) k.keep.size (fun g hg => out r hm g (.inl hg)) (fun g hg => out r hm g (.inr hg))
  · intro r hr' g hg
    rcases List.mem_append.1 hr' with hm | hm
    · rcases k.own r hm g hg with ⟨s, hs', ho⟩ | h1
      · exact h.own s (List.mem_append_left _ hs') g ho
      · have := h.keep.size; exact .inr (by omega)
    · exact h.own r (List.mem_append_right _ hm) g hg
  · refine List.pairwise_append.2 ⟨k.apart, hR, fun r hr' s hs' g => ?_⟩
    have hsw := h.holds s (List.mem_append_right _ hs')
    refine ⟨fun ho => ?_, fun ho => ?_⟩
    · rcases k.own r hr' g ho with ⟨q, hq, hoq⟩ | h1
      · exact (hMR q hq s hs' g).1 hoq
      · exact ⟨fun e => by have := own_lt hsw e; omega, fun e => by have := reads_lt hsw e; omega⟩
    · have hlt := own_lt hsw ho
      refine ⟨fun e => ?_, fun e => ?_⟩
      · rcases k.own r hr' g e with ⟨q, hq, hoq⟩ | h1
        · exact ((hMR q hq s hs' g).2 ho).1 hoq
        · omega
      · rcases hr r hr' g e with h1 | ⟨q, hq, hoq | hoq⟩
        · omega
        · exact ((hMR q hq s hs' g).2 ho).1 hoq
        · exact ((hMR q hq s hs' g).2 ho).2 hoq
/-- what lay there from the first is looked at -/
theorem St.rd_old {A : Option Addr} {sz n : Nat} {xs : List Value} (h : St NoB w0 w L) (hr : Rd w0 A sz n xs) : St NoB w0 w (.rd A sz n xs :: L) :=
  h.add_rd (Res.holds_ext (r := .rd A sz n xs) hr h.ext_of) (fun r hm g ho e => by
    have h1 := reads_lt (r := .rd A sz n xs) (w := w0) hr e
    rcases h.own r hm g ho with h2 | h2
    · exact h2.elim
    · omega)
theorem Spl.mem {r : Res} {M : List Res} (h : Spl M L R) (hr : r ∈ M) : r ∈ L := (h.perm.mem_iff).2 (List.mem_append_left _ hr)
end
end Go.Proofs.YtpekghaodmeemaaGreat
namespace Go.Proofs.YtpekghaodmeemaaGreat
open Go.RowKit
theorem shl_n64 {r n : Nat} {b : Int} (hb : b = (n : Int)) : IntKind.u64.wrap ((r : Int) * 2 ^ (min b.toNat IntKind.u64.bits)) = ((r * 2 ^ n % 18446744073709551616 : Nat) : Int) := by
  have hbn : b.toNat = n := by omega
  by_cases h : n ≤ 64
  · exact shl_u64 (b := b) (r := r) (p := 2 ^ n) (n := n) (s := r * 2 ^ n % 18446744073709551616) (Eq.refl _) (by rw [hbn]; exact Nat.min_eq_left h) (Eq.refl _)
  · have key : ∀ M, M = 2 ^ 64 → r * M % M = r * 2 ^ n % M := fun M hM => by
      rw [show n = 64 + (n - 64) by omega, Nat.pow_add, ← hM, Nat.mul_mod_left, Nat.mul_left_comm, Nat.mul_mod_right]
    exact shl_u64 (b := b) (r := r) (p := 18446744073709551616) (n := 64) (key _ (by decide)) (by rw [hbn]; exact Nat.min_eq_right (by omega)) (by decide)
theorem or_hi64 {a b n : Nat} (ha : a < 2 ^ n) (hs : 2 ^ n * b + a < 18446744073709551616) : bits .or .u64 ((2 ^ n * b : Nat) : Int) (a : Int) = ((2 ^ n * b + a : Nat) : Int) := by
  rw [or_u64 (by omega) (by omega), Nat.two_pow_add_eq_or_of_lt ha]
theorem shl_lt64 {r n : Nat} {b : Int} (hb : b = (n : Int)) (h : 2 ^ n * r < 18446744073709551616) : IntKind.u64.wrap ((r : Int) * 2 ^ (min b.toNat IntKind.u64.bits)) = ((2 ^ n * r : Nat) : Int) := by
  rw [shl_n64 hb, Nat.mul_comm, Nat.mod_eq_of_lt h]
section
variable {P : Program} {l : List Value} {w : World} {d : Nat} {ty : TypeId} {pos : String} {aft : Array Edge} {S : Nat → Prop} {w0 : World} {L : List Res}
theorem St.objRd {g : Nat} {cs : Array Value} {t : TypeId} {f : Nat × Nat} (h : St S w0 w L) (hm : Has L (.obj g (.cells cs t f))) : Rd w (some ⟨g, 0, none⟩) 1 cs.size cs.toList :=
  ⟨by simp, fun _ => ⟨g, 0, rfl, own_lt (h.has hm) rfl, h.obj_at hm⟩⟩
theorem m_load_bx {T : TypeId} {x : Operand} {dsc : TypeDesc} {g o k : Nat} {sz n : Nat} {xs : List Value} {v : Value} (hu : P.underlying T = some dsc) (hd : isAggD dsc = false := by rfl) (hx : opv l x = .pointer (some ⟨g, k, none⟩) := by rfl) (hS : St S w0 w L) (hm : Has L (.rd (some ⟨g, o, none⟩) sz n xs) := by repeat (first | exact Has.head | apply Has.tail)) (hn : 0 < n := by omega) (ho : o ≤ k := by omega) (hv : xs[k - o]? = some v := by first | rfl | exact ic_get (by first | omega | (simp [*]; done) | (simp [*]; omega)) | exact il_get (by first | omega | (simp [*]; done) | (simp [*]; omega))) : Go1 P l w ⟨some d, .load T x, ty, pos, aft, none⟩ v :=
  m_load hu hd hx (by
    obtain ⟨g', o', e, hat⟩ := hS.rd_at hm hn
    cases e
    have := hat (k - o) v hv
    rw [show o + (k - o) = k by omega] at this
    exact this)
theorem m_loada_bx {T : TypeId} {x : Operand} {dsc : TypeDesc} {g o k sz' by' : Nat} {z : Value} {sz n : Nat} {xs : List Value} (hu : P.underlying T = some dsc) (hd : isAggD dsc = true := by rfl) (hi : TI P T sz' by' z) (hx : opv l x = .pointer (some ⟨g, k, none⟩) := by rfl) (hS : St S w0 w L) (hm : Has L (.rd (some ⟨g, o, none⟩) sz n xs) := by repeat (first | exact Has.head | apply Has.tail)) (hn : 0 < n := by omega) (ho : o ≤ k := by omega) (hfit : k - o + sz' ≤ xs.length := by first | (simp [*]; done) | omega | rfl | (simp [*]; omega)) : Go1 P l w ⟨some d, .load T x, ty, pos, aft, none⟩ (.agg ((xs.drop (k - o)).take sz').toArray) :=
  m_loada hu hd hi hx (by simp; omega) (by
    obtain ⟨g', o', e, hat⟩ := hS.rd_at hm hn
    cases e
    have := (hat.drop (k - o)).take sz'
    rw [show o + (k - o) = k by omega] at this
    exact this)
end
theorem mul_u64 {a b : Nat} (h : a * b < 18446744073709551616) : IntKind.u64.wrap ((a : Int) * (b : Int)) = ((a * b : Nat) : Int) := by
  rw [← Int.natCast_mul]; exact wr_u64 (by omega) (by omega)
theorem add_u64 {a b : Nat} (h : a + b < 18446744073709551616) : IntKind.u64.wrap ((a : Int) + (b : Int)) = ((a + b : Nat) : Int) := by
  rw [← Int.natCast_add]; exact wr_u64 (by omega) (by omega)
theorem strOf_size (a : List Int) : (strOf a).size = a.length := by simp [strOf, ByteArray.size]
theorem strOf_app (a b : List Int) : strOf a ++ strOf b = strOf (a ++ b) := by simp only [strOf, ByteArray.mk_append_mk, List.map_append]
theorem strOf_get {a : List Int} {i : Nat} (h : i < a.length) : (strOf a)[i]? = some (UInt8.ofNat (a.getD i 0).toNat) := by
  have hs : i < (strOf a).size := by rw [strOf_size]; exact h
  rw [getElem?_pos (strOf a) i hs]
  congr 1
  show (strOf a).data[i] = _
  simp [strOf, List.getD_eq_getElem?_getD, List.getElem?_eq_getElem h]
theorem u8_back {b : Int} (h : 0 ≤ b ∧ b ≤ 255) : (((UInt8.ofNat b.toNat).toNat : Nat) : Int) = b := by
  simp; omega
section
variable {P : Program} {l : List Value} {w : World} {d : Nat} {ty : TypeId} {pos : String} {aft : Array Edge}
theorem s_add_str {x y : Operand} {T yT : TypeId} {a b : ByteArray} (_hT : P.underlying T = some .string) (hx : opv l x = .string a := by rfl) (hy : opv l y = .string b := by rfl) (hn : a.size + b.size ≤ 9223372036854775807) : Go1 P l w ⟨some d, .binOp .add T x y yT, ty, pos, aft, none⟩ (.string (a ++ b)) := by
  unfold Go1; simp [execOp, hx, hy, eqGuard, binOp, run_string_add_sum w a b hn]
end
theorem zi_get {ks : List IntKind} {xs : List Int} {i : Nat} {k : IntKind} (hk : ks[i]? = some k) (h : i < xs.length) : (zi ks xs).toArray[i]? = some (.int k (xs.getD i 0)) := by
  simp [zi, List.getElem?_zipWith, hk, List.getElem?_eq_getElem h, List.getD_eq_getElem?_getD]
theorem zi_size {ks : List IntKind} {xs : List Int} (h : xs.length = ks.length) : (zi ks xs).toArray.size = ks.length := by simp [zi_len h]
theorem zi_set {ks : List IntKind} {xs : List Int} {o : Nat} {k : IntKind} {v : Int} (hk : ks[o]? = some k) (h : xs.length = ks.length) : splice (zi ks xs).toArray.toList o [.int k v] = zi ks (xs.set o v) := by
  have ho : o < ks.length := (List.getElem?_eq_some_iff.1 hk).1
  rw [List.toList_toArray, splice_one (by rw [zi_len h]; exact ho)]
  refine List.ext_getElem? fun i => ?_
  simp only [zi, List.getElem?_set, List.getElem?_zipWith, List.length_zipWith]
  by_cases hi : o = i
  · subst hi; simp [h, ho]; rw [List.getElem?_eq_getElem ho] at hk; exact (Option.some.inj hk).symm
  · simp [hi]
theorem zi_whole {ks : List IntKind} {a b : List Int} (ha : a.length = ks.length) (hb : b.length = ks.length) : splice (zi ks a).toArray.toList 0 (zi ks b).toArray.toList = zi ks b :=
  splice_whole (by simp only [List.toList_toArray, List.size_toArray, zi_len ha, zi_len hb])
theorem zi_one (ks : List IntKind) (xs : List Int) : ∀ u ∈ (zi ks xs).toArray.toList, u.oneCell' = true := by
  intro u hu
  simp only [zi] at hu
  obtain ⟨i, hi, rfl⟩ := List.getElem_of_mem hu
  simp [Value.oneCell']
theorem zi_part {k1 k2 k3 : List IntKind} {a b c : List Int} (h1 : a.length = k1.length) (h2 : b.length = k2.length) : (((zi (k1 ++ k2 ++ k3) (a ++ b ++ c)).toArray.toList.drop k1.length).take k2.length).toArray = (zi k2 b).toArray := by
  rw [List.toList_toArray, List.append_assoc, List.append_assoc, zi_app h1, zi_app h2, List.drop_left' (by rw [zi_len h1]), List.take_left' (by rw [zi_len h2])]
section
variable {P : Program} {ops : Array Oper} {Q : Exit → Act → World → Prop} {rest : List Oper} {l : List Value} {w : World} {d : Nat} {ty : TypeId} {pos : String} {aft : Array Edge}
variable {S : Nat → Prop} {w0 : World} {L L1 : List Res}
end
section
variable {P : Program} {ops : Array Oper} {Q : Exit → Act → World → Prop} {rest : List Oper} {l : List Value} {w : World} {d : Nat} {ty : TypeId} {pos : String} {aft : Array Edge}
end
theorem made_int (k : IntKind) (n : Nat) : (madeCells #[.int k 0] (n * 1)).toList = (List.replicate n 0).map (Value.int k) := by
  simp only [madeCells, Nat.mul_one, Array.toList_map, Array.toList_range, List.map_replicate]
  refine List.ext_getElem (by simp) fun i h1 h2 => ?_
  simp [Nat.mod_one]
end Go.Proofs.YtpekghaodmeemaaGreat
namespace Go.Proofs.YtpekghaodmeemaaGreat
open Go.RowKit
def takeB (ops : Array Oper) (lt : List Nat) (listed : Array Bool) (i : Nat) : Bool := lateB .any ops lt i && (Region.ready .any ops listed).contains i && Region.free .any ops listed i
section
variable {P : Program} {n r : Act → World → Prop} {ex : List (Nat × (Act → World → Prop))} {w : World} {l : List Value} {M : Act → World → Prop} {a : Act}
variable {ops : Array Oper} {C : World → Prop} {lt : List Nat} {listed : Array Bool} {k i d : Nat} {v : Value} {ty : TypeId} {pos : String} {aft : Array Edge}
theorem any_take {o : Oper} (ho : ops[i]? = some o) (hB : takeB ops lt listed i = true) (hs : Region.noSelect ops = true) (hnl : noLate lt listed) (hy : YieldsE P ops C o v a)
    (h : AnyE P .any ops C lt (Qx M r ex) k (listed.setIfInBounds i true) (a.put o.dst v) w) : AnyE P .any ops C lt (Qx M r ex) (k + 1) listed a w := by
  simp only [takeB, Bool.and_eq_true] at hB
  obtain ⟨⟨hlB, hr⟩, hf⟩ := hB
  simp only [lateB, Bool.and_eq_true, Bool.not_eq_true', List.all_eq_true] at hlB
  have hil : i ∉ lt := fun hk => by have := hlB.1; simp [hk] at this
  have hlw : ∀ k' ∈ lt, ∀ o', ops[k']? = some o' → ∃ e ∈ o'.after, Region.binds .any e = true ∧ e.on = i := fun k' hk' o' ho' => by
    have := hlB.2 k' hk'
    rw [ho'] at this
    obtain ⟨e, he, hb⟩ := Array.any_eq_true'.1 this
    simp only [Bool.and_eq_true, beq_iff_eq] at hb
    exact ⟨e, he, hb.1, hb.2⟩
  exact AnyE.first hil hlw ho (Region.noSelect_spec hs) (fun c a w => Qx_panic) k listed a w hnl (Region.free_spec ho hf) (by simpa using hr) hy h
theorem go_yields {op : Op} {g : Option (Nat × Bool)} (hw : Region.wanted ⟨some d, op, ty, pos, aft, g⟩ (yielded ops (fr l).tmps) = true) (H : ∀ w, C w → Go1 P l w ⟨some d, op, ty, pos, aft, none⟩ v) : YieldsE P ops C ⟨some d, op, ty, pos, aft, g⟩ v (fr l) :=
  .inl ⟨hw, fun w hC => by
    have := H w hC
    unfold Go1 at this
    show QuietU P w v ((execOp (fr l).eval ⟨some d, op, ty, pos, aft, none⟩).run P w)
    rw [eval_fr, this]
    exact ⟨rfl, rfl⟩⟩
theorem call_yields {dst : Option Nat} {f : Nat} {args : Array Operand} {tys : Array TypeId} {g : Option (Nat × Bool)} (hw : Region.wanted ⟨dst, .call { callee := .value (.func f), args := args, argTypes := tys }, ty, pos, aft, g⟩ (yielded ops (fr l).tmps) = true) (he : Enters P f) (H : ∀ w, C w → CallR P f (args.map (opv l)) w fun v' w' => v' = v ∧ Ext w w') :
    YieldsE P ops C ⟨dst, .call { callee := .value (.func f), args := args, argTypes := tys }, ty, pos, aft, g⟩ v (fr l) :=
  .inl ⟨hw, fun w hC => by
    have := he (args.map (opv l) ++ #[]) w
    simp only [Array.append_empty] at this
    have hr : (execOp (opv l) ⟨dst, .call { callee := .value (.func f), args := args, argTypes := tys }, ty, pos, aft, g⟩).run P w = .ok (.enter f (args.map (opv l))) w := by simp [execOp, resolve, opv, Deferred.ofValue, invoke, this]
    rw [eval_fr, hr]
    refine ⟨rfl, Calls.mono (H w hC) ?_⟩
    rintro e w' ⟨v', rfl, rfl, hC'⟩
    exact ⟨rfl, hC'⟩⟩
theorem w_none {dst : Option Nat} {op : Op} {f : Nat → Option Bool} : Region.wanted ⟨dst, op, ty, pos, aft, none⟩ f = true := wanted_none
theorem w_on {dst : Option Nat} {op : Op} {g : Nat × Bool} (hg : yielded ops (l.toArray) g.1 = some g.2) : Region.wanted ⟨dst, op, ty, pos, aft, some g⟩ (yielded ops (fr l).tmps) = true := by simp [Region.wanted, fr, hg]
theorem off_yields {dst : Option Nat} {op : Op} {g : Nat × Bool} (hg : yielded ops (l.toArray) g.1 = some (!g.2)) : YieldsE P ops C ⟨dst, op, ty, pos, aft, some g⟩ undef (fr l) := .inr ⟨by simp [Region.wanted, fr, hg], rfl⟩
/-- one operation that yields a value is taken first -/
theorem any_go {op : Op} {g : Option (Nat × Bool)} (ho : ops[i]? = some ⟨some d, op, ty, pos, aft, g⟩) (hB : takeB ops lt listed i = true) (hs : Region.noSelect ops = true) (hnl : noLate lt listed) (hy : YieldsE P ops C ⟨some d, op, ty, pos, aft, g⟩ v (fr l))
    (h : AnyE P .any ops C lt (Qx M r ex) k (listed.setIfInBounds i true) (fr (l.set d v)) w) : AnyE P .any ops C lt (Qx M r ex) (k + 1) listed (fr l) w :=
  any_take ho hB hs hnl hy (by rw [put_fr]; exact h)
theorem any_part (t : Nat) {b : Bool} (hb : l.getD t undef = .bool b) (ht : b = true → AnyE P .any ops C lt (Qx M r ex) k listed (fr (l.set t (.bool true))) w) (hf : b = false → AnyE P .any ops C lt (Qx M r ex) k listed (fr (l.set t (.bool false))) w) : AnyE P .any ops C lt (Qx M r ex) k listed (fr l) w := by
  cases b
  · have := hf rfl; rw [← hb, set_getD] at this; exact this
  · have := ht rfl; rw [← hb, set_getD] at this; exact this
theorem noLate_nil {listed : Array Bool} : noLate [] listed := fun _ h => by cases h
theorem any_gn {op : Op} {g : Option (Nat × Bool)} (i : Nat) (ho : ops[i]? = some ⟨some d, op, ty, pos, aft, g⟩) (hy : YieldsE P ops C ⟨some d, op, ty, pos, aft, g⟩ v (fr l))
    (h : AnyE P .any ops C [] (Qx M r ex) k (listed.setIfInBounds i true) (fr (l.set d v)) w) (hB : takeB ops [] listed i = true := by decide +kernel) (hs : Region.noSelect ops = true := by decide +kernel) : AnyE P .any ops C [] (Qx M r ex) (k + 1) listed (fr l) w :=
  any_go ho hB hs noLate_nil hy h
end
end Go.Proofs.YtpekghaodmeemaaGreat
set_option maxRecDepth 100000
namespace Go.Proofs.YtpekghaodmeemaaGreat
open Go.RowKit
abbrev U0 := Tryz.underlying0
abbrev U3 := Tryz.underlying3
abbrev U4 := Tryz.underlying4
abbrev U5 := Tryz.underlying5
abbrev U9 := Tryz.underlying9
abbrev U20 := Tryz.underlying20
abbrev U22 := Tryz.underlying22
abbrev U23 := Tryz.underlying23
abbrev U25 := Tryz.underlying25
abbrev U27 := Tryz.underlying27
abbrev U29 := Tryz.underlying29
abbrev U30 := Tryz.underlying30
abbrev U32 := Tryz.underlying32
abbrev U39 := Tryz.underlying39
abbrev U47 := Tryz.underlying47
abbrev U49 := Tryz.underlying49
abbrev U51 := Tryz.underlying51
abbrev U54 := Tryz.underlying54
abbrev U58 := Tryz.underlying58
abbrev U61 := Tryz.underlying61
abbrev U62 := Tryz.underlying62
abbrev U64 := Tryz.underlying64
abbrev U66 := Tryz.underlying66
abbrev U71 := Tryz.underlying71
abbrev U75 := Tryz.underlying75
abbrev U76 := Tryz.underlying76
abbrev U78 := Tryz.underlying78
abbrev U89 := Tryz.underlying89
abbrev U92 := Tryz.underlying92
abbrev U95 := Tryz.underlying95
abbrev U100 := Tryz.underlying100
abbrev U107 := Tryz.underlying107
abbrev U114 := Tryz.underlying114
abbrev U115 := Tryz.underlying115
abbrev U118 := Tryz.underlying118
abbrev U120 := Tryz.underlying120
abbrev U126 := Tryz.underlying126
abbrev U128 := Tryz.underlying128
abbrev U129 := Tryz.underlying129
abbrev U132 := Tryz.underlying132
abbrev U134 := Tryz.underlying134
abbrev U141 := Tryz.underlying141
abbrev U148 := Tryz.underlying148
abbrev U149 := Tryz.underlying149
abbrev U157 := Tryz.underlying157
abbrev U161 := Tryz.underlying161
abbrev U164 := Tryz.underlying164
abbrev U165 := Tryz.underlying165
theorem ti3 : TI Tryz.prog 3 1 8 (.int .i64 0) := TI.of (by kernel_rfl)
theorem ti4 : TI Tryz.prog 4 1 1 (.bool false) := TI.of (by kernel_rfl)
theorem ti5 : TI Tryz.prog 5 1 1 (.int .u8 0) := TI.of (by kernel_rfl)
theorem ti22 : TI Tryz.prog 22 1 24 (.slice none 0 0) := TI.of (by kernel_rfl)
theorem ti23 : TI Tryz.prog 23 1 2 (.int .u16 0) := TI.of (by kernel_rfl)
theorem ti25 : TI Tryz.prog 25 8 8 (.agg #[.int .u8 0, .int .u8 0, .int .u8 0, .int .u8 0, .int .u8 0, .int .u8 0, .int .u8 0, .int .u8 0]) := TI.of (by kernel_rfl)
theorem ti27 : TI Tryz.prog 27 19 40 (.agg #[.int .i64 0, .int .u16 0, .int .u8 0, .int .u8 0, .int .u8 0, .int .u8 0, .int .u8 0, .int .u8 0, .int .u8 0, .int .u8 0, .int .i64 0, .int .u8 0, .int .u8 0, .int .u8 0, .int .u8 0, .int .u8 0, .int .u8 0, .int .u8 0, .int .u8 0]) := TI.of (by kernel_rfl)
theorem ti39 : TI Tryz.prog 39 1 8 (.int .i64 0) := TI.of (by kernel_rfl)
theorem ti47 : TI Tryz.prog 47 1 24 (.slice none 0 0) := TI.of (by kernel_rfl)
theorem ti51 : TI Tryz.prog 51 1 4 (.int .u32 0) := TI.of (by kernel_rfl)
theorem ti54 : TI Tryz.prog 54 1 24 (.slice none 0 0) := TI.of (by kernel_rfl)
theorem ti58 : TI Tryz.prog 58 9 32 (.agg #[.slice none 0 0, .int .u8 0, .int .u8 0, .int .u8 0, .int .u8 0, .int .u8 0, .int .u8 0, .int .u8 0, .int .u8 0]) := TI.of (by kernel_rfl)
theorem ti61 : TI Tryz.prog 61 12 20 (.agg #[.int .u8 0, .int .u16 0, .int .u8 0, .int .u8 0, .int .u8 0, .int .u8 0, .int .u8 0, .int .u8 0, .int .u8 0, .int .u8 0, .int .u8 0, .int .u32 0]) := TI.of (by kernel_rfl)
theorem ti62 : TI Tryz.prog 62 1 8 (.int .u64 0) := TI.of (by kernel_rfl)
theorem ti64 : TI Tryz.prog 64 9 16 (.agg #[.int .u64 0, .int .u8 0, .int .u8 0, .int .u8 0, .int .u8 0, .int .u8 0, .int .u8 0, .int .u8 0, .int .u8 0]) := TI.of (by kernel_rfl)
theorem ti66 : TI Tryz.prog 66 21 40 (.agg #[.int .u8 0, .int .u16 0, .int .u8 0, .int .u8 0, .int .u8 0, .int .u8 0, .int .u8 0, .int .u8 0, .int .u8 0, .int .u8 0, .int .u8 0, .int .u32 0, .int .u64 0, .int .u8 0, .int .u8 0, .int .u8 0, .int .u8 0, .int .u8 0, .int .u8 0, .int .u8 0, .int .u8 0]) := TI.of (by kernel_rfl)
theorem ti71 : TI Tryz.prog 71 1 8 (.agg #[.int .i64 0]) := TI.of (by kernel_rfl)
theorem ti75 : TI Tryz.prog 75 1 8 (.nilFunc) := TI.of (by kernel_rfl)
theorem ti76 : TI Tryz.prog 76 6 48 (.agg #[.nilFunc, .nilFunc, .nilFunc, .nilFunc, .nilFunc, .nilFunc]) := TI.of (by kernel_rfl)
theorem ti78 : TI Tryz.prog 78 21 72 (.agg #[.slice none 0 0, .int .u8 0, .int .i64 0, .int .u16 0, .int .u8 0, .int .u8 0, .int .u8 0, .int .u8 0, .int .u8 0, .int .u8 0, .int .u8 0, .int .u8 0, .int .i64 0, .int .u8 0, .int .u8 0, .int .u8 0, .int .u8 0, .int .u8 0, .int .u8 0, .int .u8 0, .int .u8 0]) := TI.of (by kernel_rfl)
theorem ti89 : TI Tryz.prog 89 1 24 (.slice none 0 0) := TI.of (by kernel_rfl)
theorem ti92 : TI Tryz.prog 92 9 16 (.agg #[.int .u8 0, .int .u8 0, .int .u8 0, .int .u8 0, .int .u8 0, .int .u8 0, .int .u8 0, .int .u8 0, .int .i64 0]) := TI.of (by kernel_rfl)
theorem ti100 : TI Tryz.prog 100 3 24 (.agg #[.int .u64 0, .int .u64 0, .int .u64 0]) := TI.of (by kernel_rfl)
theorem ti115 : TI Tryz.prog 115 1 8 (.map none) := TI.of (by kernel_rfl)
theorem ti126 : TI Tryz.prog 126 1 8 (.map none) := TI.of (by kernel_rfl)
theorem ti128 : TI Tryz.prog 128 1 8 (.nilFunc) := TI.of (by kernel_rfl)
theorem ti129 : TI Tryz.prog 129 5 40 (.agg #[.nilFunc, .nilFunc, .nilFunc, .nilFunc, .nilFunc]) := TI.of (by kernel_rfl)
theorem ti134 : TI Tryz.prog 134 16 64 (.agg #[.int .u32 0, .int .u32 0, .int .u32 0, .int .u32 0, .int .u32 0, .int .u32 0, .int .u32 0, .int .u32 0, .int .u32 0, .int .u32 0, .int .u32 0, .int .u32 0, .int .u32 0, .int .u32 0, .int .u32 0, .int .u32 0]) := TI.of (by kernel_rfl)
theorem en7 : Enters Tryz.prog 7 := enters_of Tryz.func7 (by kernel_rfl) rfl
theorem en8 : Enters Tryz.prog 8 := enters_of Tryz.func8 (by kernel_rfl) rfl
theorem en12 : Enters Tryz.prog 12 := enters_of Tryz.func12 (by kernel_rfl) rfl
theorem en13 : Enters Tryz.prog 13 := enters_of Tryz.func13 (by kernel_rfl) rfl
theorem en14 : Enters Tryz.prog 14 := enters_of Tryz.func14 (by kernel_rfl) rfl
theorem en16 : Enters Tryz.prog 16 := enters_of Tryz.func16 (by kernel_rfl) rfl
theorem en18 : Enters Tryz.prog 18 := enters_of Tryz.func18 (by kernel_rfl) rfl
theorem en20 : Enters Tryz.prog 20 := enters_of Tryz.func20 (by kernel_rfl) rfl
theorem en21 : Enters Tryz.prog 21 := enters_of Tryz.func21 (by kernel_rfl) rfl
theorem en22 : Enters Tryz.prog 22 := enters_of Tryz.func22 (by kernel_rfl) rfl
theorem en23 : Enters Tryz.prog 23 := enters_of Tryz.func23 (by kernel_rfl) rfl
theorem en24 : Enters Tryz.prog 24 := enters_of Tryz.func24 (by kernel_rfl) rfl
theorem en25 : Enters Tryz.prog 25 := enters_of Tryz.func25 (by kernel_rfl) rfl
theorem en26 : Enters Tryz.prog 26 := enters_of Tryz.func26 (by kernel_rfl) rfl
theorem en27 : Enters Tryz.prog 27 := enters_of Tryz.func27 (by kernel_rfl) rfl
theorem en28 : Enters Tryz.prog 28 := enters_of Tryz.func28 (by kernel_rfl) rfl
theorem en29 : Enters Tryz.prog 29 := enters_of Tryz.func29 (by kernel_rfl) rfl
theorem en30 : Enters Tryz.prog 30 := enters_of Tryz.func30 (by kernel_rfl) rfl
theorem en31 : Enters Tryz.prog 31 := enters_of Tryz.func31 (by kernel_rfl) rfl
theorem en32 : Enters Tryz.prog 32 := enters_of Tryz.func32 (by kernel_rfl) rfl
theorem en33 : Enters Tryz.prog 33 := enters_of Tryz.func33 (by kernel_rfl) rfl
theorem en34 : Enters Tryz.prog 34 := enters_of Tryz.func34 (by kernel_rfl) rfl
theorem en35 : Enters Tryz.prog 35 := enters_of Tryz.func35 (by kernel_rfl) rfl
theorem en36 : Enters Tryz.prog 36 := enters_of Tryz.func36 (by kernel_rfl) rfl
theorem en37 : Enters Tryz.prog 37 := enters_of Tryz.func37 (by kernel_rfl) rfl
theorem en39 : Enters Tryz.prog 39 := enters_of Tryz.func39 (by kernel_rfl) rfl
theorem en40 : Enters Tryz.prog 40 := enters_of Tryz.func40 (by kernel_rfl) rfl
theorem en41 : Enters Tryz.prog 41 := enters_of Tryz.func41 (by kernel_rfl) rfl
theorem en42 : Enters Tryz.prog 42 := enters_of Tryz.func42 (by kernel_rfl) rfl
theorem en43 : Enters Tryz.prog 43 := enters_of Tryz.func43 (by kernel_rfl) rfl
theorem en44 : Enters Tryz.prog 44 := enters_of Tryz.func44 (by kernel_rfl) rfl
theorem en45 : Enters Tryz.prog 45 := enters_of Tryz.func45 (by kernel_rfl) rfl
theorem en46 : Enters Tryz.prog 46 := enters_of Tryz.func46 (by kernel_rfl) rfl
theorem en47 : Enters Tryz.prog 47 := enters_of Tryz.func47 (by kernel_rfl) rfl
theorem en48 : Enters Tryz.prog 48 := enters_of Tryz.func48 (by kernel_rfl) rfl
theorem en49 : Enters Tryz.prog 49 := enters_of Tryz.func49 (by kernel_rfl) rfl
theorem en50 : Enters Tryz.prog 50 := enters_of Tryz.func50 (by kernel_rfl) rfl
theorem en51 : Enters Tryz.prog 51 := enters_of Tryz.func51 (by kernel_rfl) rfl
theorem en52 : Enters Tryz.prog 52 := enters_of Tryz.func52 (by kernel_rfl) rfl
theorem en54 : Enters Tryz.prog 54 := enters_of Tryz.func54 (by kernel_rfl) rfl
theorem en55 : Enters Tryz.prog 55 := enters_of Tryz.func55 (by kernel_rfl) rfl
theorem en56 : Enters Tryz.prog 56 := enters_of Tryz.func56 (by kernel_rfl) rfl
theorem en57 : Enters Tryz.prog 57 := enters_of Tryz.func57 (by kernel_rfl) rfl
theorem en58 : Enters Tryz.prog 58 := enters_of Tryz.func58 (by kernel_rfl) rfl
theorem en59 : Enters Tryz.prog 59 := enters_of Tryz.func59 (by kernel_rfl) rfl
theorem en60 : Enters Tryz.prog 60 := enters_of Tryz.func60 (by kernel_rfl) rfl
theorem en61 : Enters Tryz.prog 61 := enters_of Tryz.func61 (by kernel_rfl) rfl
theorem en62 : Enters Tryz.prog 62 := enters_of Tryz.func62 (by kernel_rfl) rfl
theorem en63 : Enters Tryz.prog 63 := enters_of Tryz.func63 (by kernel_rfl) rfl
theorem en64 : Enters Tryz.prog 64 := enters_of Tryz.func64 (by kernel_rfl) rfl
theorem en65 : Enters Tryz.prog 65 := enters_of Tryz.func65 (by kernel_rfl) rfl
theorem en66 : Enters Tryz.prog 66 := enters_of Tryz.func66 (by kernel_rfl) rfl
theorem en67 : Enters Tryz.prog 67 := enters_of Tryz.func67 (by kernel_rfl) rfl
theorem en73 : Enters Tryz.prog 73 := enters_of Tryz.func73 (by kernel_rfl) rfl
theorem en74 : Enters Tryz.prog 74 := enters_of Tryz.func74 (by kernel_rfl) rfl
theorem en75 : Enters Tryz.prog 75 := enters_of Tryz.func75 (by kernel_rfl) rfl
theorem en76 : Enters Tryz.prog 76 := enters_of Tryz.func76 (by kernel_rfl) rfl
theorem en77 : Enters Tryz.prog 77 := enters_of Tryz.func77 (by kernel_rfl) rfl
theorem en78 : Enters Tryz.prog 78 := enters_of Tryz.func78 (by kernel_rfl) rfl
theorem en79 : Enters Tryz.prog 79 := enters_of Tryz.func79 (by kernel_rfl) rfl
theorem en80 : Enters Tryz.prog 80 := enters_of Tryz.func80 (by kernel_rfl) rfl
theorem en81 : Enters Tryz.prog 81 := enters_of Tryz.func81 (by kernel_rfl) rfl
theorem en82 : Enters Tryz.prog 82 := enters_of Tryz.func82 (by kernel_rfl) rfl
theorem en83 : Enters Tryz.prog 83 := enters_of Tryz.func83 (by kernel_rfl) rfl
theorem en84 : Enters Tryz.prog 84 := enters_of Tryz.func84 (by kernel_rfl) rfl
theorem en85 : Enters Tryz.prog 85 := enters_of Tryz.func85 (by kernel_rfl) rfl
theorem en86 : Enters Tryz.prog 86 := enters_of Tryz.func86 (by kernel_rfl) rfl
theorem en87 : Enters Tryz.prog 87 := enters_of Tryz.func87 (by kernel_rfl) rfl
theorem en88 : Enters Tryz.prog 88 := enters_of Tryz.func88 (by kernel_rfl) rfl
theorem en89 : Enters Tryz.prog 89 := enters_of Tryz.func89 (by kernel_rfl) rfl
theorem en90 : Enters Tryz.prog 90 := enters_of Tryz.func90 (by kernel_rfl) rfl
theorem en91 : Enters Tryz.prog 91 := enters_of Tryz.func91 (by kernel_rfl) rfl
theorem en92 : Enters Tryz.prog 92 := enters_of Tryz.func92 (by kernel_rfl) rfl
theorem en93 : Enters Tryz.prog 93 := enters_of Tryz.func93 (by kernel_rfl) rfl
theorem en94 : Enters Tryz.prog 94 := enters_of Tryz.func94 (by kernel_rfl) rfl
theorem en95 : Enters Tryz.prog 95 := enters_of Tryz.func95 (by kernel_rfl) rfl
theorem en96 : Enters Tryz.prog 96 := enters_of Tryz.func96 (by kernel_rfl) rfl
theorem en97 : Enters Tryz.prog 97 := enters_of Tryz.func97 (by kernel_rfl) rfl
theorem en98 : Enters Tryz.prog 98 := enters_of Tryz.func98 (by kernel_rfl) rfl
theorem en101 : Enters Tryz.prog 101 := enters_of Tryz.func101 (by kernel_rfl) rfl
theorem en102 : Enters Tryz.prog 102 := enters_of Tryz.func102 (by kernel_rfl) rfl
theorem en103 : Enters Tryz.prog 103 := enters_of Tryz.func103 (by kernel_rfl) rfl
theorem en104 : Enters Tryz.prog 104 := enters_of Tryz.func104 (by kernel_rfl) rfl
theorem en105 : Enters Tryz.prog 105 := enters_of Tryz.func105 (by kernel_rfl) rfl
theorem en106 : Enters Tryz.prog 106 := enters_of Tryz.func106 (by kernel_rfl) rfl
theorem en107 : Enters Tryz.prog 107 := enters_of Tryz.func107 (by kernel_rfl) rfl
theorem en108 : Enters Tryz.prog 108 := enters_of Tryz.func108 (by kernel_rfl) rfl
theorem en109 : Enters Tryz.prog 109 := enters_of Tryz.func109 (by kernel_rfl) rfl
theorem en110 : Enters Tryz.prog 110 := enters_of Tryz.func110 (by kernel_rfl) rfl
theorem en111 : Enters Tryz.prog 111 := enters_of Tryz.func111 (by kernel_rfl) rfl
theorem en112 : Enters Tryz.prog 112 := enters_of Tryz.func112 (by kernel_rfl) rfl
theorem en113 : Enters Tryz.prog 113 := enters_of Tryz.func113 (by kernel_rfl) rfl
theorem en114 : Enters Tryz.prog 114 := enters_of Tryz.func114 (by kernel_rfl) rfl
theorem en115 : Enters Tryz.prog 115 := enters_of Tryz.func115 (by kernel_rfl) rfl
theorem en116 : Enters Tryz.prog 116 := enters_of Tryz.func116 (by kernel_rfl) rfl
theorem en118 : Enters Tryz.prog 118 := enters_of Tryz.func118 (by kernel_rfl) rfl
theorem en119 : Enters Tryz.prog 119 := enters_of Tryz.func119 (by kernel_rfl) rfl
theorem en121 : Enters Tryz.prog 121 := enters_of Tryz.func121 (by kernel_rfl) rfl
theorem en122 : Enters Tryz.prog 122 := enters_of Tryz.func122 (by kernel_rfl) rfl
theorem en123 : Enters Tryz.prog 123 := enters_of Tryz.func123 (by kernel_rfl) rfl
theorem en124 : Enters Tryz.prog 124 := enters_of Tryz.func124 (by kernel_rfl) rfl
theorem en127 : Enters Tryz.prog 127 := enters_of Tryz.func127 (by kernel_rfl) rfl
theorem en128 : Enters Tryz.prog 128 := enters_of Tryz.func128 (by kernel_rfl) rfl
theorem en129 : Enters Tryz.prog 129 := enters_of Tryz.func129 (by kernel_rfl) rfl
theorem en140 : Enters Tryz.prog 140 := enters_of Tryz.func140 (by kernel_rfl) rfl
theorem en141 : Enters Tryz.prog 141 := enters_of Tryz.func141 (by kernel_rfl) rfl
theorem en147 : Enters Tryz.prog 147 := enters_of Tryz.func147 (by kernel_rfl) rfl
theorem eqv25 : EqV Tryz.prog 2 25 (List.replicate 8 .u8) := eq_arr U25 ti5 rfl (eq_int U5)
theorem eg25 : Tryz.prog.eqGuardType Tryz.prog.depth 25 = false := by kernel_rfl
theorem eqv61 : EqV Tryz.prog 3 61 [.u8, .u16, .u8, .u8, .u8, .u8, .u8, .u8, .u8, .u8, .u8, .u32] := (show EqV Tryz.prog 3 61 ([IntKind.u8] ++ ([IntKind.u16] ++ ((List.replicate 8 IntKind.u8) ++ ([IntKind.u8] ++ ([IntKind.u32] ++ []))))) from eq_struct U61 (by kernel_rfl) (.cons rfl (by decide) (eq_int U5) (by decide) (.cons rfl (by decide) (eq_int U23) (by decide) (.cons rfl (by decide) (eq_part eqv25 U25 rfl ti25 rfl) (by decide) (.cons rfl (by decide) (eq_int U5) (by decide) (.cons rfl (by decide) (eq_int U51) (by decide) (.nil)))))))
theorem eg61 : Tryz.prog.eqGuardType Tryz.prog.depth 61 = false := by kernel_rfl
theorem eqv92 : EqV Tryz.prog 3 92 [.u8, .u8, .u8, .u8, .u8, .u8, .u8, .u8, .i64] := (show EqV Tryz.prog 3 92 ((List.replicate 8 IntKind.u8) ++ ([IntKind.i64] ++ [])) from eq_struct U92 (by kernel_rfl) (.cons rfl (by decide) (eq_part eqv25 U25 rfl ti25 rfl) (by decide) (.cons rfl (by decide) (eq_int U3) (by decide) (.nil))))
theorem eg92 : Tryz.prog.eqGuardType Tryz.prog.depth 92 = false := by kernel_rfl
theorem eqv100 : EqV Tryz.prog 2 100 (List.replicate 3 .u64) := eq_arr U100 ti62 rfl (eq_int U62)
theorem eg100 : Tryz.prog.eqGuardType Tryz.prog.depth 100 = false := by kernel_rfl
theorem bp27 : Places Tryz.prog (Tryz.prog.fieldsOf 27) #[(0, 1), (1, 1), (2, 8), (10, 1), (11, 8)] := fun w => by kernel_rfl
theorem bp58 : Places Tryz.prog (Tryz.prog.fieldsOf 58) #[(0, 1), (1, 8)] := fun w => by kernel_rfl
theorem bp61 : Places Tryz.prog (Tryz.prog.fieldsOf 61) #[(0, 1), (1, 1), (2, 8), (10, 1), (11, 1)] := fun w => by kernel_rfl
theorem bp64 : Places Tryz.prog (Tryz.prog.fieldsOf 64) #[(0, 1), (1, 8)] := fun w => by kernel_rfl
theorem bp66 : Places Tryz.prog (Tryz.prog.fieldsOf 66) #[(0, 12), (12, 9)] := fun w => by kernel_rfl
theorem bp71 : Places Tryz.prog (Tryz.prog.fieldsOf 71) #[(0, 1)] := fun w => by kernel_rfl
theorem bp78 : Places Tryz.prog (Tryz.prog.fieldsOf 78) #[(0, 1), (1, 1), (2, 19)] := fun w => by kernel_rfl
theorem bp92 : Places Tryz.prog (Tryz.prog.fieldsOf 92) #[(0, 8), (8, 1)] := fun w => by kernel_rfl
end Go.Proofs.YtpekghaodmeemaaGreat
namespace Go.Proofs.YtpekghaodmeemaaGreat
/-- what bytes begin with, read group by group -/
def unv (l : List Int) : Nat → Nat → Nat → Nat × Nat × Nat
  | 0, _, _ => (0, 0, 15)
  | k + 1, i, x =>
    if l.length ≤ i then (0, 0, 4) else
    if i = 9 ∧ 1 < bt l i then (0, 0, 15) else
    if bt l i = 0 ∧ 0 < i then (0, 0, 3) else
    if bt l i < 128 then (x + 128 ^ i * bt l i, i + 1, 0) else unv l k (i + 1) (x + 128 ^ i * (bt l i - 128))
section
variable {l : List Int} {k x : Nat} {r : Nat × Nat × Nat}
variable (hU : unv l (10 - k) k x = r) (h : k < 10)
include hU h
end
end Go.Proofs.YtpekghaodmeemaaGreat
namespace Go.Proofs.YtpekghaodmeemaaGreat
open Go.Shelf
def lays6_ren : Go.Shelf.Ren := ⟨fun | 6 => 107 | 15 => 126 | 14 => 125 | 28 => 138 | 29 => 139 | 20 => 130 | 21 => 131 | 22 => 132 | 23 => 133 | 24 => 134 | 25 => 135 | 26 => 136 | 27 => 137 | 46 => 142 | 47 => 143 | 48 => 144 | 49 => 145 | 50 => 146 | 57 => 148 | n => n, fun | 22 => 22 | 24 => 66 | 25 => 132 | 3 => 3 | 39 => 141 | 0 => 0 | 53 => 51 | 55 => 62 | 4 => 4 | 46 => 149 | 45 => 148 | 50 => 49 | 5 => 5 | 9 => 9 | 66 => 157 | 70 => 161 | 76 => 164 | 77 => 165 | n => n, fun | n => n⟩
theorem lays6 : Go.Proofs.SlLaysF0.n6 Tryz.prog lays6_ren := {
  mixed := by kernel_rfl
  f6 := ⟨Tryz.f107.name, by decide, Tryz.func107.trans (congrArg some (by kernel_rfl))⟩
  f14 := ⟨Tryz.f125.name, by decide, Tryz.func125.trans (congrArg some (by kernel_rfl))⟩
  f15 := Tryz.func126.trans (congrArg some (by kernel_rfl))
  f20 := ⟨Tryz.f130.name, by decide, Tryz.func130.trans (congrArg some (by kernel_rfl))⟩
  f21 := ⟨Tryz.f131.name, by decide, Tryz.func131.trans (congrArg some (by kernel_rfl))⟩
  f22 := ⟨Tryz.f132.name, by decide, Tryz.func132.trans (congrArg some (by kernel_rfl))⟩
  f23 := ⟨Tryz.f133.name, by decide, Tryz.func133.trans (congrArg some (by kernel_rfl))⟩
  f24 := ⟨Tryz.f134.name, by decide, Tryz.func134.trans (congrArg some (by kernel_rfl))⟩
  f25 := ⟨Tryz.f135.name, by decide, Tryz.func135.trans (congrArg some (by kernel_rfl))⟩
  f26 := ⟨Tryz.f136.name, by decide, Tryz.func136.trans (congrArg some (by kernel_rfl))⟩
  f27 := ⟨Tryz.f137.name, by decide, Tryz.func137.trans (congrArg some (by kernel_rfl))⟩
  f28 := Tryz.func138.trans (congrArg some (by kernel_rfl))
  f29 := Tryz.func139.trans (congrArg some (by kernel_rfl))
  f46 := ⟨Tryz.f142.name, by decide, Tryz.func142.trans (congrArg some (by kernel_rfl))⟩
  f47 := Tryz.func143.trans (congrArg some (by kernel_rfl))
  f48 := Tryz.func144.trans (congrArg some (by kernel_rfl))
  f49 := ⟨Tryz.f145.name, by decide, Tryz.func145.trans (congrArg some (by kernel_rfl))⟩
  f50 := ⟨Tryz.f146.name, by decide, Tryz.func146.trans (congrArg some (by kernel_rfl))⟩
  f57 := ⟨Tryz.f148.name, by decide, Tryz.func148.trans (congrArg some (by kernel_rfl))⟩
  t0 := U0
  a0 := Tryz.isAgg0
  z0 := Tryz.sizeOf0
  v0 := Tryz.zeroValue0
  t3 := U3
  a3 := Tryz.isAgg3
  z3 := Tryz.sizeOf3
  v3 := Tryz.zeroValue3
  t4 := U4
  a4 := Tryz.isAgg4
  z4 := Tryz.sizeOf4
  v4 := Tryz.zeroValue4
  t5 := U5
  a5 := Tryz.isAgg5
  z5 := Tryz.sizeOf5
  v5 := Tryz.zeroValue5
  t9 := U9
  a9 := Tryz.isAgg9
  z9 := Tryz.sizeOf9
  v9 := Tryz.zeroValue9
  t22 := U22
  a22 := Tryz.isAgg22
  z22 := Tryz.sizeOf22
  v22 := Tryz.zeroValue22
  t25 := U132
  a25 := Tryz.isAgg132
  z25 := Tryz.sizeOf132
  v25 := Tryz.zeroValue132
  t39 := U141
  a39 := Tryz.isAgg141
  z39 := Tryz.sizeOf141
  v39 := Tryz.zeroValue141
  t45 := U148
  a45 := Tryz.isAgg148
  z45 := Tryz.sizeOf148
  v45 := Tryz.zeroValue148
  t46 := U149
  a46 := Tryz.isAgg149
  z46 := Tryz.sizeOf149
  v46 := Tryz.zeroValue149
  t50 := U49
  a50 := Tryz.isAgg49
  z50 := Tryz.sizeOf49
  v50 := Tryz.zeroValue49
  t53 := U51
  a53 := Tryz.isAgg51
  z53 := Tryz.sizeOf51
  v53 := Tryz.zeroValue51
  t55 := U62
  a55 := Tryz.isAgg62
  z55 := Tryz.sizeOf62
  v55 := Tryz.zeroValue62
  t66 := U157
  a66 := Tryz.isAgg157
  z66 := Tryz.sizeOf157
  v66 := Tryz.zeroValue157
  t70 := U161
  a70 := Tryz.isAgg161
  z70 := Tryz.sizeOf161
  v70 := Tryz.zeroValue161
  t76 := U164
  a76 := Tryz.isAgg164
  z76 := Tryz.sizeOf164
  v76 := Tryz.zeroValue164
  t77 := U165
  a77 := Tryz.isAgg165
  z77 := Tryz.sizeOf165
  v77 := Tryz.zeroValue165 }
end Go.Proofs.YtpekghaodmeemaaGreat
set_option linter.unusedSimpArgs false
set_option linter.unusedVariables false
set_option maxHeartbeats 800000
set_option maxRecDepth 100000
namespace Go.Proofs.YtpekghaodmeemaaGreat
open Go.RowKit

theorem NU {k : IntKind} {a b : Nat} (h : a = b) : Value.int k (a : Int) = Value.int k (b : Int) := by rw [h]
end Go.Proofs.YtpekghaodmeemaaGreat
namespace Go.Proofs.YtpekghaodmeemaaGreat
/-- how many bytes stand ahead of the first zero -/
def nsz : List Int → Nat
  | [] => 0
  | b :: l => if b = 0 then 0 else nsz l + 1
theorem nsz_le : ∀ (l : List Int), nsz l ≤ l.length
  | [] => Nat.le_refl _
  | b :: l => by unfold nsz; have := nsz_le l; split <;> simp; omega
theorem nsz_of : ∀ {l : List Int} {k : Nat}, k ≤ l.length → (∀ j, j < k → l.getD j 0 ≠ 0) → (k = l.length ∨ l.getD k 0 = 0) → nsz l = k
  | [], k, hk, _, _ => by simp at hk; subst hk; rfl
  | b :: l, 0, _, _, he => by
    rcases he with he | he
    · simp at he
    · simp at he; simp [nsz, he]
  | b :: l, k + 1, hk, hn, he => by
    have h0 : b ≠ 0 := by simpa using hn 0 (by omega)
    rw [nsz, if_neg h0, nsz_of (by simpa using hk) (fun j hj => by simpa using hn (j + 1) (by omega)) (by simpa using he)]
theorem nsz_zero : ∀ {l : List Int}, nsz l < l.length → l.getD (nsz l) 0 = 0
  | [], h => by simp at h
  | b :: l, h => by
    unfold nsz at h ⊢
    split
    · simp_all
    · rename_i hb
      rw [if_neg hb] at h
      simpa using nsz_zero (l := l) (by simpa using h)
def nmTxt (l : List Int) : List Int := l.take (nsz l)
theorem nmTxt_len (l : List Int) : (nmTxt l).length = nsz l := by simp [nmTxt, nsz_le]
def isLet (b : Int) : Bool := decide (97 ≤ b ∧ b ≤ 122)
def isOth (b : Int) : Bool := decide ((97 ≤ b ∧ b ≤ 122) ∨ (48 ≤ b ∧ b ≤ 57) ∨ b = 45)
def isZer (b : Int) : Bool := decide (b = 0)
def nright (l : List Int) : Bool := isLet (l.getD 0 0) && (l.take (nsz l)).all isOth && (l.drop (nsz l)).all isZer
def isN (ns : List Int) : Bool := decide (1 ≤ ns.length ∧ ns.length ≤ 8) && isLet (ns.getD 0 0) && ns.all isOth
def padN (ns : List Int) : List Int := ns.take 8 ++ List.replicate (8 - ns.length) 0
theorem padN_len (ns : List Int) : (padN ns).length = 8 := by simp [padN]; omega
theorem all_zer : ∀ {l : List Int}, l.all isZer = true ↔ l = List.replicate l.length 0
  | [] => by simp
  | b :: l => by
    have := all_zer (l := l)
    simp only [List.all_cons, Bool.and_eq_true, isZer, decide_eq_true_eq, List.length_cons, List.replicate_succ, List.cons.injEq] at this ⊢
    rw [← this]
theorem nright_eq {l : List Int} (h : l.length = 8) : nright l = (isN (nmTxt l) && decide (padN (nmTxt l) = l)) := by
  have hs := nsz_le l
  have hl := nmTxt_len l
  have hp : padN (nmTxt l) = l ↔ (l.drop (nsz l)).all isZer = true := by
    rw [all_zer, padN, hl, List.take_of_length_le (by omega), nmTxt]
    conv => lhs; rhs; rw [← List.take_append_drop (nsz l) l]
    rw [List.append_cancel_left_eq, List.length_drop, h]
    exact eq_comm
  unfold nright isN
  by_cases h0 : nsz l = 0
  · have e0 : l.getD 0 0 = 0 := by have := nsz_zero (l := l) (by omega); rwa [h0] at this
    rw [hl, h0, e0]; simp [isLet]
  · have e0 : (nmTxt l).getD 0 0 = l.getD 0 0 := by
      simp only [nmTxt, List.getD_eq_getElem?_getD]
      rw [List.getElem?_take_of_lt (by omega)]
    rw [e0, hl, show decide (1 ≤ nsz l ∧ nsz l ≤ 8) = true by simp; omega, Bool.true_and]
    congr 1
    rw [Bool.eq_iff_iff, decide_eq_true_eq, hp]
def numN (l : List Int) : Nat := l.foldl (fun x b => 256 * x + b.toNat) 0
theorem numN_snoc (l : List Int) (b : Int) : numN (l ++ [b]) = 256 * numN l + b.toNat := by simp [numN]
theorem numN_take {l : List Int} {k : Nat} (h : k < l.length) : numN (l.take (k + 1)) = 256 * numN (l.take k) + bt l k := by
  rw [take_succ_getD h, numN_snoc]; rfl
theorem numN_lt {l : List Int} (h : Byt l) : ∀ k, numN (l.take k) < 256 ^ k
  | 0 => by simp [numN]
  | k + 1 => by
    have ih := numN_lt h k
    have hb := (h.bt k).2
    by_cases hk : k < l.length
    · rw [numN_take hk, Nat.pow_succ]; omega
    · rw [List.take_of_length_le (by omega)] at ih ⊢
      rw [Nat.pow_succ]; omega
theorem num_shl {x k : Nat} (hx : x < 256 ^ k) (hk : k < 8) : x * 256 % 18446744073709551616 = 256 * x := by
  have : 256 ^ k ≤ 256 ^ 7 := Nat.pow_le_pow_right (by omega) (by omega)
  have e : (256 : Nat) ^ 7 = 72057594037927936 := by decide
  omega
theorem num_sum {x k b : Nat} (hx : x < 256 ^ k) (hb : b < 256) (hk : k < 8) : 256 * x + b < 18446744073709551616 := by
  have : 256 ^ k ≤ 256 ^ 7 := Nat.pow_le_pow_right (by omega) (by omega)
  have e : (256 : Nat) ^ 7 = 72057594037927936 := by decide
  omega
theorem all_not {p : Int → Bool} {l : List Int} {k : Nat} (h : p (l.getD k 0) = false) (hk : k < l.length) : l.all p = false := by
  rw [List.all_eq_false]
  refine ⟨l.getD k 0, ?_, by rw [h]; decide⟩
  rw [List.getD_eq_getElem?_getD, List.getElem?_eq_getElem hk]
  exact List.getElem_mem hk
theorem numN_64 {l : List Int} (h : Byt l) (hl : l.length = 8) : numN l < 18446744073709551616 := by
  have := numN_lt h 8
  rwa [← hl, List.take_length, hl] at this
def nm0 : List Int := List.replicate 8 0
def padT (ns : List Int) (k : Nat) : List Int := ns.take k ++ List.replicate (8 - k) 0
theorem padT_len {ns : List Int} {k : Nat} (h : k ≤ ns.length) (h8 : k ≤ 8) : (padT ns k).length = 8 := by simp [padT]; omega
theorem padT_zero (ns : List Int) : padT ns 0 = nm0 := by simp [padT, nm0]
theorem padT_set {ns : List Int} {k : Nat} (h : k < ns.length) (h8 : k < 8) : (padT ns k).set k (ns.getD k 0) = padT ns (k + 1) := by
  unfold padT
  rw [List.set_append_right _ _ (by simp; omega), show k - (ns.take k).length = 0 by simp; omega, show 8 - k = (8 - (k + 1)) + 1 by omega, List.replicate_succ, List.set_cons_zero, take_succ_getD h, List.append_assoc]
  rfl
theorem padT_all {ns : List Int} {k : Nat} (h : k ≤ ns.length) (h8 : k ≤ 8) (he : k = ns.length ∨ k = 8) : padT ns k = padN ns := by
  unfold padT padN
  rcases he with rfl | rfl
  · rw [List.take_length, List.take_of_length_le (by omega)]
  · rw [show 8 - 8 = 8 - ns.length by omega]
theorem nmTxt_of {l : List Int} {k : Nat} (hk : k ≤ l.length) (h : ∀ j, j < k → l.getD j 0 ≠ 0) (he : k = l.length ∨ l.getD k 0 = 0) : l.take k = nmTxt l := by rw [nmTxt, nsz_of hk h he]
theorem nmTxt_byt {l : List Int} (h : Byt l) : Byt (nmTxt l) := h.take _
theorem nm0_byt : Byt nm0 := by intro y hy; simp [nm0] at hy; omega
end Go.Proofs.YtpekghaodmeemaaGreat
set_option linter.unusedSimpArgs false
set_option linter.unusedVariables false
set_option maxHeartbeats 800000
set_option maxRecDepth 100000
namespace Go.Proofs.YtpekghaodmeemaaGreat
open Go.RowKit
theorem c_nameLetter (b : Int) (hb : 0 ≤ b ∧ b ≤ 255)  (w0 : World) :
    CallR Tryz.prog 74 #[.int .u8 b] w0 fun v w' => v = .bool (isLet b) ∧ Ext w0 w' := by
 have hS : St NoB w0 w0 [] := St.start w0
 refine c_enter (l := [.int .u8 b, undef, undef, undef, undef, undef, undef, undef, undef]) Tryz.func74 rfl (by simp only [Tryz.ntmps74, List.size_toArray, List.length_cons, List.length_nil, Nat.reduceAdd, Nat.reduceSub, Array.replicate_succ, Array.replicate_zero, List.push_toArray, List.append_toArray, List.nil_append, List.cons_append]) ?_
 refine x_seq fun K1 hK1 => x_region ?_
 refine s_go s_assign ?_
 try simp only [nY]
 refine x_nil (hK1 _ _ ?_)
 refine x_seq fun K2 hK2 => x_region ?_
 refine s_go s_move ?_
 try simp only [nY]
 refine s_go s_leq ?_
 try simp only [nY]
 refine s_go s_move ?_
 try simp only [nY]
 refine s_part 5 rfl (fun hp1 => ?_) (fun hp1 => ?_)
 ·
  try simp only [n3, n4]
  try simp only [dZ, ne_eq] at hp1
  refine g_on (yi (t := 5) rfl rfl) ?_
  refine s_go s_move ?_
  try simp only [nY]
  refine g_on (yi (t := 5) rfl rfl) ?_
  refine s_go s_leq ?_
  try simp only [nY]
  refine s_go s_pick_t ?_
  try simp only [nY]
  refine s_go s_assign ?_
  try simp only [nY]
  refine x_nil (hK2 _ _ ?_)
  refine x_ret (r_tmp rfl ?_)
  exact ⟨congrArg Value.bool (by unfold isLet; (simp [*]; done)), hS.ext_of⟩
 try simp only [n3, n4]
 try simp only [dZ, ne_eq] at hp1
 refine g_off (yi (t := 5) rfl rfl) ?_
 try simp only [nY]
 refine g_off (yi (t := 5) rfl rfl) ?_
 try simp only [nY]
 refine s_go s_pick_f ?_
 try simp only [nY]
 refine s_go s_assign ?_
 try simp only [nY]
 refine x_nil (hK2 _ _ ?_)
 refine x_ret (r_tmp rfl ?_)
 exact ⟨congrArg Value.bool (by unfold isLet; (simp; omega)), hS.ext_of⟩
theorem c_ref06Letter (b : Int) (hb : 0 ≤ b ∧ b ≤ 255)  (w0 : World) :
    CallR Tryz.prog 101 #[.int .u8 b] w0 fun v w' => v = .bool (isLet b) ∧ Ext w0 w' := by
 have hS : St NoB w0 w0 [] := St.start w0
 refine c_enter (l := [.int .u8 b, undef, undef, undef, undef, undef, undef, undef, undef]) Tryz.func101 rfl (by simp only [Tryz.ntmps101, List.size_toArray, List.length_cons, List.length_nil, Nat.reduceAdd, Nat.reduceSub, Array.replicate_succ, Array.replicate_zero, List.push_toArray, List.append_toArray, List.nil_append, List.cons_append]) ?_
 refine x_seq fun K1 hK1 => x_region ?_
 refine s_go s_assign ?_
 try simp only [nY]
 refine x_nil (hK1 _ _ ?_)
 refine x_seq fun K2 hK2 => x_region ?_
 refine s_go s_move ?_
 try simp only [nY]
 refine s_go s_geq ?_
 try simp only [nY]
 refine s_go s_move ?_
 try simp only [nY]
 refine s_part 5 rfl (fun hp1 => ?_) (fun hp1 => ?_)
 ·
  try simp only [n3, n4]
  try simp only [dZ, ne_eq] at hp1
  refine g_on (yi (t := 5) rfl rfl) ?_
  refine s_go s_move ?_
  try simp only [nY]
  refine g_on (yi (t := 5) rfl rfl) ?_
  refine s_go s_leq ?_
  try simp only [nY]
  refine s_go s_pick_t ?_
  try simp only [nY]
  refine s_go s_assign ?_
  try simp only [nY]
  refine x_nil (hK2 _ _ ?_)
  refine x_ret (r_tmp rfl ?_)
  exact ⟨congrArg Value.bool (by unfold isLet; (simp [*]; done)), hS.ext_of⟩
 try simp only [n3, n4]
 try simp only [dZ, ne_eq] at hp1
 refine g_off (yi (t := 5) rfl rfl) ?_
 try simp only [nY]
 refine g_off (yi (t := 5) rfl rfl) ?_
 try simp only [nY]
 refine s_go s_pick_f ?_
 try simp only [nY]
 refine s_go s_assign ?_
 try simp only [nY]
 refine x_nil (hK2 _ _ ?_)
 refine x_ret (r_tmp rfl ?_)
 exact ⟨congrArg Value.bool (by unfold isLet; (simp; omega)), hS.ext_of⟩
theorem c_nameOther (b : Int) (hb : 0 ≤ b ∧ b ≤ 255)  (w0 : World) :
    CallR Tryz.prog 76 #[.int .u8 b] w0 fun v w' => v = .bool (isOth b) ∧ Ext w0 w' := by
 have hS : St NoB w0 w0 [] := St.start w0
 refine c_enter (l := [.int .u8 b, undef, undef, undef, undef, undef, undef, undef, undef, undef, undef, undef, undef, undef]) Tryz.func76 rfl (by simp only [Tryz.ntmps76, List.size_toArray, List.length_cons, List.length_nil, Nat.reduceAdd, Nat.reduceSub, Array.replicate_succ, Array.replicate_zero, List.push_toArray, List.append_toArray, List.nil_append, List.cons_append]) ?_
 refine x_seq fun K1 hK1 => x_region ?_
 refine s_go s_assign ?_
 try simp only [nY]
 refine x_nil (hK1 _ _ ?_)
 refine x_seq fun K2 hK2 => ?_
 refine x_block ?_
 refine x_seq fun K3 hK3 => ?_
 refine x_seq fun K4 hK4 => x_region ?_
 refine s_go s_move ?_
 try simp only [nY]
 refine s_call en74 ?_
 try simp only [nY, mY]
 refine CallR.mono (c_nameLetter _ (by assumption) _) ?_
 rintro _ w1 ⟨rfl, hE1⟩
 replace hS := hS.ext hE1
 try simp only [nY]
 unfold isLet
 refine s_go s_assign ?_
 try simp only [nY]
 refine x_nil (hK4 _ _ ?_)
 refine x_cond (ht := fun hc1 => ?_) (hf := fun hc1 => ?_)
 ·
  try simp only [dY] at hc1
  refine x_skip ?_
  refine hK3 _ _ ?_
  refine x_cond (ht := fun hc2 => ?_) (hf := fun hc2 => ?_)
  ·
   try simp only [dY] at hc2
   refine x_seq fun K5 hK5 => x_region ?_
   refine s_go s_assign ?_
   try simp only [nY]
   refine x_nil (hK5 _ _ ?_)
   refine x_ret (r_tmp rfl ?_)
   exact ⟨congrArg Value.bool (by unfold isOth; exact (decide_eq_true (by omega)).symm), hS.ext_of⟩
  try simp only [dY] at hc2
  (exfalso; omega)
 try simp only [dY] at hc1
 refine x_seq fun K7 hK7 => x_region ?_
 refine s_go s_move ?_
 try simp only [nY]
 refine s_go s_leq ?_
 try simp only [nY]
 refine s_go s_move ?_
 try simp only [nY]
 refine s_part 8 rfl (fun hp1 => ?_) (fun hp1 => ?_)
 ·
  try simp only [n3, n4]
  try simp only [dZ, ne_eq] at hp1
  refine g_on (yi (t := 8) rfl rfl) ?_
  refine s_go s_move ?_
  try simp only [nY]
  refine g_on (yi (t := 8) rfl rfl) ?_
  refine s_go s_leq ?_
  try simp only [nY]
  refine s_go s_pick_t ?_
  try simp only [nY]
  refine s_go s_assign ?_
  try simp only [nY]
  refine x_nil (hK7 _ _ ?_)
  refine x_cond (ht := fun hc3 => ?_) (hf := fun hc3 => ?_)
  ·
   try simp only [dY] at hc3
   refine x_skip ?_
   refine hK3 _ _ ?_
   refine x_cond (ht := fun hc4 => ?_) (hf := fun hc4 => ?_)
   ·
    try simp only [dY] at hc4
    refine x_seq fun K8 hK8 => x_region ?_
    refine s_go s_assign ?_
    try simp only [nY]
    refine x_nil (hK8 _ _ ?_)
    refine x_ret (r_tmp rfl ?_)
    exact ⟨congrArg Value.bool (by unfold isOth; exact (decide_eq_true (by omega)).symm), hS.ext_of⟩
   try simp only [dY] at hc4
   (exfalso; omega)
  try simp only [dY] at hc3
  refine x_region ?_
  refine s_go s_move ?_
  try simp only [nY]
  refine s_go s_eql ?_
  try simp only [nY]
  refine s_go s_assign ?_
  try simp only [nY]
  refine x_nil (hK3 _ _ ?_)
  refine x_cond (ht := fun hc5 => ?_) (hf := fun hc5 => ?_)
  ·
   try simp only [dY] at hc5
   (exfalso; omega)
  try simp only [dY] at hc5
  refine x_skip ?_
  refine hK2 _ _ ?_
  refine x_seq fun K11 hK11 => x_region ?_
  refine s_go s_assign ?_
  try simp only [nY]
  refine x_nil (hK11 _ _ ?_)
  refine x_ret (r_tmp rfl ?_)
  exact ⟨congrArg Value.bool (by unfold isOth; exact (decide_eq_false (by omega)).symm), hS.ext_of⟩
 try simp only [n3, n4]
 try simp only [dZ, ne_eq] at hp1
 refine g_off (yi (t := 8) rfl rfl) ?_
 try simp only [nY]
 refine g_off (yi (t := 8) rfl rfl) ?_
 try simp only [nY]
 refine s_go s_pick_f ?_
 try simp only [nY]
 refine s_go s_assign ?_
 try simp only [nY]
 refine x_nil (hK7 _ _ ?_)
 refine x_cond_f (h := ?_)
 refine x_region ?_
 refine s_go s_move ?_
 try simp only [nY]
 refine s_go s_eql ?_
 try simp only [nY]
 refine s_go s_assign ?_
 try simp only [nY]
 refine x_nil (hK3 _ _ ?_)
 refine x_cond (ht := fun hc7 => ?_) (hf := fun hc7 => ?_)
 ·
  try simp only [dY] at hc7
  refine x_seq fun K12 hK12 => x_region ?_
  refine s_go s_assign ?_
  try simp only [nY]
  refine x_nil (hK12 _ _ ?_)
  refine x_ret (r_tmp rfl ?_)
  exact ⟨congrArg Value.bool (by unfold isOth; exact (decide_eq_true (by omega)).symm), hS.ext_of⟩
 try simp only [dY] at hc7
 refine x_skip ?_
 refine hK2 _ _ ?_
 refine x_seq fun K13 hK13 => x_region ?_
 refine s_go s_assign ?_
 try simp only [nY]
 refine x_nil (hK13 _ _ ?_)
 refine x_ret (r_tmp rfl ?_)
 exact ⟨congrArg Value.bool (by unfold isOth; exact (decide_eq_false (by omega)).symm), hS.ext_of⟩
theorem c_nameZero (b : Int) (hb : 0 ≤ b ∧ b ≤ 255)  (w0 : World) :
    CallR Tryz.prog 77 #[.int .u8 b] w0 fun v w' => v = .bool (isZer b) ∧ Ext w0 w' := by
 have hS : St NoB w0 w0 [] := St.start w0
 refine c_enter (l := [.int .u8 b, undef, undef, undef, undef]) Tryz.func77 rfl (by simp only [Tryz.ntmps77, List.size_toArray, List.length_cons, List.length_nil, Nat.reduceAdd, Nat.reduceSub, Array.replicate_succ, Array.replicate_zero, List.push_toArray, List.append_toArray, List.nil_append, List.cons_append]) ?_
 refine x_seq fun K1 hK1 => x_region ?_
 refine s_go s_assign ?_
 try simp only [nY]
 refine x_nil (hK1 _ _ ?_)
 refine x_seq fun K2 hK2 => x_region ?_
 refine s_go s_move ?_
 try simp only [nY]
 refine s_go s_eql ?_
 try simp only [nY]
 refine s_go s_assign ?_
 try simp only [nY]
 refine x_nil (hK2 _ _ ?_)
 refine x_ret (r_tmp rfl ?_)
 exact ⟨rfl, hS.ext_of⟩
theorem c_ref06Other (b : Int) (hb : 0 ≤ b ∧ b ≤ 255)  (w0 : World) :
    CallR Tryz.prog 102 #[.int .u8 b] w0 fun v w' => v = .bool (isOth b) ∧ Ext w0 w' := by
 have hS : St NoB w0 w0 [] := St.start w0
 refine c_enter (l := [.int .u8 b, undef, undef, undef, undef, undef, undef, undef, undef, undef, undef, undef, undef, undef, undef, undef, undef]) Tryz.func102 rfl (by simp only [Tryz.ntmps102, List.size_toArray, List.length_cons, List.length_nil, Nat.reduceAdd, Nat.reduceSub, Array.replicate_succ, Array.replicate_zero, List.push_toArray, List.append_toArray, List.nil_append, List.cons_append]) ?_
 refine x_seq fun K1 hK1 => x_region ?_
 refine s_go s_assign ?_
 try simp only [nY]
 refine x_nil (hK1 _ _ ?_)
 refine x_seq fun K2 hK2 => x_region ?_
 refine s_go s_move ?_
 try simp only [nY]
 refine s_call en101 ?_
 try simp only [nY, mY]
 refine CallR.mono (c_ref06Letter _ (by assumption) _) ?_
 rintro _ w1 ⟨rfl, hE1⟩
 replace hS := hS.ext hE1
 try simp only [nY]
 unfold isLet
 refine s_go s_move ?_
 try simp only [nY]
 refine s_part 5 rfl (fun hp1 => ?_) (fun hp1 => ?_)
 ·
  try simp only [n3, n4]
  try simp only [dZ, ne_eq] at hp1
  refine g_off (yi (t := 5) rfl rfl) ?_
  try simp only [nY]
  refine g_off (yi (t := 5) rfl rfl) ?_
  try simp only [nY]
  refine g_off (yi (t := 5) rfl rfl) ?_
  try simp only [nY]
  refine g_un (yn (t := 8) rfl rfl) ?_
  try simp only [nY]
  refine g_un (yn (t := 8) rfl rfl) ?_
  try simp only [nY]
  refine g_off (yi (t := 5) rfl rfl) ?_
  try simp only [nY]
  refine s_go s_pick_t ?_
  try simp only [nY]
  refine s_go s_move ?_
  try simp only [nY]
  refine g_off (yi (t := 13) rfl rfl) ?_
  try simp only [nY]
  refine g_off (yi (t := 13) rfl rfl) ?_
  try simp only [nY]
  refine s_go s_pick_t ?_
  try simp only [nY]
  refine s_go s_assign ?_
  try simp only [nY]
  refine x_nil (hK2 _ _ ?_)
  refine x_ret (r_tmp rfl ?_)
  exact ⟨congrArg Value.bool (by unfold isOth; exact (decide_eq_true (by omega)).symm), hS.ext_of⟩
 try simp only [n3, n4]
 try simp only [dZ, ne_eq] at hp1
 refine g_on (yi (t := 5) rfl rfl) ?_
 refine s_go s_move ?_
 try simp only [nY]
 refine g_on (yi (t := 5) rfl rfl) ?_
 refine s_go s_geq ?_
 try simp only [nY]
 refine g_on (yi (t := 5) rfl rfl) ?_
 refine s_go s_move ?_
 try simp only [nY]
 refine s_part 8 rfl (fun hp2 => ?_) (fun hp2 => ?_)
 ·
  try simp only [n3, n4]
  try simp only [dZ, ne_eq] at hp2
  refine g_on (yi (t := 8) rfl rfl) ?_
  refine s_go s_move ?_
  try simp only [nY]
  refine g_on (yi (t := 8) rfl rfl) ?_
  refine s_go s_leq ?_
  try simp only [nY]
  refine g_on (yi (t := 5) rfl rfl) ?_
  refine s_go s_pick_t ?_
  try simp only [nY]
  refine s_go s_pick_f ?_
  try simp only [nY]
  refine s_go s_move ?_
  try simp only [nY]
  refine s_part 13 rfl (fun hp3 => ?_) (fun hp3 => ?_)
  ·
   try simp only [n3, n4]
   try simp only [dZ, ne_eq] at hp3
   refine g_off (yi (t := 13) rfl rfl) ?_
   try simp only [nY]
   refine g_off (yi (t := 13) rfl rfl) ?_
   try simp only [nY]
   refine s_go s_pick_t ?_
   try simp only [nY]
   refine s_go s_assign ?_
   try simp only [nY]
   refine x_nil (hK2 _ _ ?_)
   refine x_ret (r_tmp rfl ?_)
   exact ⟨congrArg Value.bool (by unfold isOth; exact (decide_eq_true (by omega)).symm), hS.ext_of⟩
  try simp only [n3, n4]
  try simp only [dZ, ne_eq] at hp3
  refine g_on (yi (t := 13) rfl rfl) ?_
  refine s_go s_move ?_
  try simp only [nY]
  refine g_on (yi (t := 13) rfl rfl) ?_
  refine s_go s_eql ?_
  try simp only [nY]
  refine s_go s_pick_f ?_
  try simp only [nY]
  refine s_go s_assign ?_
  try simp only [nY]
  refine x_nil (hK2 _ _ ?_)
  refine x_ret (r_tmp rfl ?_)
  exact ⟨congrArg Value.bool (by unfold isOth; exact decide_eq_decide.2 (by omega)), hS.ext_of⟩
 try simp only [n3, n4]
 try simp only [dZ, ne_eq] at hp2
 refine g_off (yi (t := 8) rfl rfl) ?_
 try simp only [nY]
 refine g_off (yi (t := 8) rfl rfl) ?_
 try simp only [nY]
 refine g_on (yi (t := 5) rfl rfl) ?_
 refine s_go s_pick_f ?_
 try simp only [nY]
 refine s_go s_pick_f ?_
 try simp only [nY]
 refine s_go s_move ?_
 try simp only [nY]
 refine g_on (yi (t := 13) rfl rfl) ?_
 refine s_go s_move ?_
 try simp only [nY]
 refine g_on (yi (t := 13) rfl rfl) ?_
 refine s_go s_eql ?_
 try simp only [nY]
 refine s_go s_pick_f ?_
 try simp only [nY]
 refine s_go s_assign ?_
 try simp only [nY]
 refine x_nil (hK2 _ _ ?_)
 refine x_ret (r_tmp rfl ?_)
 exact ⟨congrArg Value.bool (by unfold isOth; exact decide_eq_decide.2 (by omega)), hS.ext_of⟩
theorem c_nameSize (l : List Int) (hl : l.length = 8) (hw : Byt l)  (w0 : World) :
    CallR Tryz.prog 73 #[.agg (ic .u8 l)] w0 fun v w' => v = .int .i64 (nsz l : Int) ∧ Ext w0 w' := by
 have hS : St NoB w0 w0 [] := St.start w0
 refine c_enter (l := [.agg (ic .u8 l), undef, undef, undef, undef, undef, undef, undef, undef, undef, undef, undef, undef, undef]) Tryz.func73 rfl (by simp only [Tryz.ntmps73, List.size_toArray, List.length_cons, List.length_nil, Nat.reduceAdd, Nat.reduceSub, Array.replicate_succ, Array.replicate_zero, List.push_toArray, List.append_toArray, List.nil_append, List.cons_append]) ?_
 refine x_seq fun K1 hK1 => x_region ?_
 refine m_box hS (fun w1 g1 hS => ?_)
 try simp only [nY, aY] at hS ⊢
 refine s_go s_assign ?_
 try simp only [nY]
 refine x_nil (hK1 _ _ ?_)
 refine x_seq fun K2 hK2 => ?_
 refine x_seq fun K3 hK3 => x_region ?_
 refine s_go (m_load_row U25 (hi := ti25) (hS := hS)) ?_
 try simp only [nY, gY]
 refine s_go s_move ?_
 try simp only [nY]
 refine x_nil (hK3 _ _ ?_)
 refine x_block ?_
 refine x_loop [2, 3, 4, 6, 7, 8, 9, 10, 11, 12, 13] (fun m f w => ∃ k : Nat, k ≤ 8 ∧ m = 8 - k ∧ f 6 = .int .i64 (k : Int) ∧ (∀ j, j < k → l.getD j 0 ≠ 0) ∧ St NoB w0 w []) (8) ?init1 (fun m1 f1 wl1 hI => ?_)
 case init1 =>
  try simp only [nY]
  exact ⟨0, by omega, rfl, rfl, fun j hj => absurd hj (by omega), hS.sel .nil⟩
 obtain ⟨k, hk, hm, h6, hz, hS⟩ := hI
 simp only [clob, List.foldl, n3, n4, h6]
 refine x_seq fun K4 hK4 => x_region ?_
 refine s_go s_lss ?_
 try simp only [nY]
 refine x_nil (hK4 _ _ ?_)
 refine x_seq fun K5 hK5 => ?_
 refine x_cond (ht := fun hc1 => ?_) (hf := fun hc1 => ?_)
 ·
  try simp only [dY] at hc1
  refine x_skip ?_
  refine hK5 _ _ ?_
  refine x_seq fun K6 hK6 => ?_
  refine x_block ?_
  refine x_seq fun K7 hK7 => x_region ?_
  refine s_go s_move ?_
  try simp only [nY]
  refine s_go (s_index_one U25 ti5 U5) ?_
  try simp only [nY, Nat.mul_one, Nat.zero_add, Int.toNat_natCast, Int.reduceToNat]
  refine s_go s_assign ?_
  try simp only [nY]
  refine s_go s_assign ?_
  try simp only [nY]
  refine x_nil (hK7 _ _ ?_)
  refine x_seq fun K8 hK8 => x_region ?_
  refine s_go s_move ?_
  try simp only [nY]
  refine s_go s_eql ?_
  try simp only [nY]
  refine x_nil (hK8 _ _ ?_)
  refine x_cond (ht := fun hc2 => ?_) (hf := fun hc2 => ?_)
  ·
   try simp only [dY] at hc2
   refine x_seq fun K9 hK9 => x_region ?_
   refine s_go s_move ?_
   try simp only [nY]
   refine s_go s_assign ?_
   try simp only [nY]
   refine x_nil (hK9 _ _ ?_)
   refine x_ret (r_tmp rfl ?_)
   exact ⟨NU (nsz_of (by omega) hz (.inr hc2)).symm, hS.ext_of⟩
  try simp only [dY] at hc2
  refine x_skip ?_
  refine hK6 _ _ ?_
  refine x_region ?_
  refine s_go (s_add (hc := by exact wr_i64 (by omega) (by omega))) ?_
  try simp only [nY]
  refine s_go s_move ?_
  try simp only [nY]
  refine x_nil ?_
  refine loop_back (m' := 8 - (k + 1)) (by simp only [clob, List.foldl, nZ]) ?_ ?_
  · try simp only [nY]
    exact ⟨k + 1, by omega, by omega, by rfl, fun j hj => by rcases Nat.lt_or_eq_of_le (Nat.le_of_lt_succ hj) with h | h; exact hz j h; subst h; exact hc2, hS⟩
  · omega
 try simp only [dY] at hc1
 obtain rfl : k = 8 := by omega
 refine x_exit (look_here ?_)
 refine hK2 _ _ ?_
 refine x_seq fun K10 hK10 => x_region ?_
 refine s_go s_assign ?_
 try simp only [nY]
 refine x_nil (hK10 _ _ ?_)
 refine x_ret (r_tmp rfl ?_)
 exact ⟨NU (nsz_of (l := l) (k := 8) (by omega) hz (.inl hl.symm)).symm, hS.ext_of⟩
theorem c_nameAll (w0 : World) (A : Option Addr) (n c : Nat) (l : List Int) (hr : Rd w0 A 1 n (l.map (Value.int .u8))) (hl : l.length = n) (hw : Byt l) (hn : n ≤ 1000) (p : Int → Bool) (f : FuncId) (he : Enters Tryz.prog f) (H : ∀ (w : World) (b : Int), 0 ≤ b ∧ b ≤ 255 → CallR Tryz.prog f #[.int .u8 b] w fun v w' => v = .bool (p b) ∧ Ext w w') :
    CallR Tryz.prog 75 #[.slice A n c, .func (.func f) #[] #[]] w0 fun v w' => v = .bool (l.all p) ∧ Ext w0 w' := by
 have hS := St.rd1 (S := NoB) hr
 refine c_enter (l := [.slice A n c, .func (.func f) #[] #[], undef, undef, undef, undef, undef, undef, undef, undef, undef, undef, undef, undef, undef, undef, undef, undef]) Tryz.func75 rfl (by simp only [Tryz.ntmps75, List.size_toArray, List.length_cons, List.length_nil, Nat.reduceAdd, Nat.reduceSub, Array.replicate_succ, Array.replicate_zero, List.push_toArray, List.append_toArray, List.nil_append, List.cons_append]) ?_
 refine x_seq fun K1 hK1 => x_region ?_
 refine s_go s_assign ?_
 try simp only [nY]
 refine x_nil (hK1 _ _ ?_)
 refine x_seq fun K2 hK2 => ?_
 refine x_seq fun K3 hK3 => x_region ?_
 refine s_go s_move ?_
 try simp only [nY]
 refine s_go (s_len_sl U107) ?_
 try simp only [nY]
 refine s_go s_move ?_
 try simp only [nY]
 refine x_nil (hK3 _ _ ?_)
 refine x_block ?_
 refine x_loop [4, 6, 9, 10, 11, 12, 13, 14, 15, 16, 17] (fun m f w => ∃ k : Nat, k ≤ n ∧ m = n - k ∧ f 9 = .int .i64 (k : Int) ∧ (l.take k).all p = true ∧ St NoB w0 w [.rd A 1 n (l.map (Value.int .u8))]) (n) ?init1 (fun m1 f1 wl1 hI => ?_)
 case init1 =>
  try simp only [nY]
  exact ⟨0, by omega, rfl, rfl, rfl, hS⟩
 obtain ⟨k, hk, hm, h9, hz, hS⟩ := hI
 simp only [clob, List.foldl, n3, n4, h9]
 refine x_seq fun K4 hK4 => x_region ?_
 refine s_go s_lss ?_
 try simp only [nY]
 refine x_nil (hK4 _ _ ?_)
 refine x_seq fun K5 hK5 => ?_
 refine x_cond (ht := fun hc1 => ?_) (hf := fun hc1 => ?_)
 ·
  try simp only [dY] at hc1
  refine x_skip ?_
  refine hK5 _ _ ?_
  refine x_seq fun K6 hK6 => ?_
  refine x_block ?_
  refine x_seq fun K7 hK7 => x_region ?_
  refine s_go (m_indexAddr_rd U107 ti5 (hS := hS)) ?_
  try simp only [nY, Nat.mul_one, Nat.zero_add, Int.toNat_natCast, Int.reduceToNat]
  refine s_go (m_load_rd U5 (hS := hS)) ?_
  try simp only [nY, gY]
  refine s_go s_assign ?_
  try simp only [nY]
  refine x_nil (hK7 _ _ ?_)
  refine x_seq fun K8 hK8 => x_region ?_
  refine s_go s_move ?_
  try simp only [nY]
  refine s_go s_move ?_
  try simp only [nY]
  refine s_callv (hv := rfl) he ?_
  try simp only [nY, mY]
  refine CallR.mono (H _ _ (hw.get k)) ?_
  rintro _ w1 ⟨rfl, hE1⟩
  replace hS := hS.ext hE1
  try simp only [nY]
  refine s_go s_not ?_
  try simp only [nY]
  refine x_nil (hK8 _ _ ?_)
  refine x_cond (ht := fun hc2 => ?_) (hf := fun hc2 => ?_)
  ·
   try simp only [dY] at hc2
   refine x_seq fun K9 hK9 => x_region ?_
   refine s_go s_assign ?_
   try simp only [nY]
   refine x_nil (hK9 _ _ ?_)
   refine x_ret (r_tmp rfl ?_)
   exact ⟨congrArg Value.bool (all_not hc2 (by omega)).symm, hS.ext_of⟩
  try simp only [dY] at hc2
  refine x_skip ?_
  refine hK6 _ _ ?_
  refine x_region ?_
  refine s_go (s_add (hc := by exact wr_i64 (by omega) (by omega))) ?_
  try simp only [nY]
  refine s_go s_move ?_
  try simp only [nY]
  refine x_nil ?_
  refine loop_back (m' := n - (k + 1)) (by simp only [clob, List.foldl, nZ]) ?_ ?_
  · try simp only [nY]
    exact ⟨k + 1, by omega, by omega, by rfl, by rw [take_succ_getD (by omega), List.all_append, hz]; simpa using hc2, hS⟩
  · omega
 try simp only [dY] at hc1
 obtain rfl : k = n := by omega
 rw [← hl, List.take_length] at hz
 refine x_exit (look_here ?_)
 refine hK2 _ _ ?_
 refine x_seq fun K10 hK10 => x_region ?_
 refine s_go s_assign ?_
 try simp only [nY]
 refine x_nil (hK10 _ _ ?_)
 refine x_ret (r_tmp rfl ?_)
 exact ⟨by rw [hz]; rfl, hS.ext_of⟩

theorem c_nameRight (l : List Int) (hl : l.length = 8) (hw : Byt l)  (w0 : World) :
    CallR Tryz.prog 39 #[.agg (ic .u8 l)] w0 fun v w' => v = .bool (nright l) ∧ Ext w0 w' := by
 have hS : St NoB w0 w0 [] := St.start w0
 refine c_enter (l := [.agg (ic .u8 l), undef, undef, undef, undef, undef, undef, undef, undef, undef, undef, undef, undef, undef, undef, undef, undef, undef, undef]) Tryz.func39 rfl (by simp only [Tryz.ntmps39, List.size_toArray, List.length_cons, List.length_nil, Nat.reduceAdd, Nat.reduceSub, Array.replicate_succ, Array.replicate_zero, List.push_toArray, List.append_toArray, List.nil_append, List.cons_append]) ?_
 refine x_seq fun K1 hK1 => x_region ?_
 refine m_box hS (fun w1 g1 hS => ?_)
 try simp only [nY, aY] at hS ⊢
 refine s_go s_assign ?_
 try simp only [nY]
 refine x_nil (hK1 _ _ ?_)
 refine x_seq fun K2 hK2 => x_region ?_
 refine s_go (m_load_row U25 (hi := ti25) (hS := hS)) ?_
 try simp only [nY, gY]
 refine s_call en73 ?_
 try simp only [nY, mY]
 refine CallR.mono (c_nameSize _ (by assumption) (by assumption) _) ?_
 rintro _ w2 ⟨rfl, hE2⟩
 replace hS := hS.ext hE2
 try simp only [nY]
 refine s_go s_assign ?_
 try simp only [nY]
 refine x_nil (hK2 _ _ ?_)
 refine x_seq fun K3 hK3 => x_region ?_
 have hs := nsz_le l
 refine s_go (m_indexAddr_arr U25 ti5) ?_
 try simp only [nY, Nat.mul_one, Nat.zero_add, Int.toNat_natCast, Int.reduceToNat]
 refine s_go (m_load_obj U5 (hS := hS)) ?_
 try simp only [nY, gY]
 have hb0 := hw.get 0
 refine s_call en74 ?_
 try simp only [nY, mY]
 refine CallR.mono (c_nameLetter _ (by assumption) _) ?_
 rintro _ w3 ⟨rfl, hE3⟩
 replace hS := hS.ext hE3
 try simp only [nY]
 refine s_go s_move ?_
 try simp only [nY]
 refine s_part 9 rfl (fun hp1 => ?_) (fun hp1 => ?_)
 ·
  try simp only [n3, n4]
  try simp only [dZ, ne_eq] at hp1
  refine g_on (yi (t := 9) rfl rfl) ?_
  refine s_go s_move ?_
  try simp only [nY]
  refine g_on (yi (t := 9) rfl rfl) ?_
  refine m_slice_arr (lo := 0) (hi := nsz l) U25 ti5 (hlo := rfl) (hhi := ⟨_, rfl⟩) (hS := hS) (h := fun A1 hS => ?_)
  try simp only [← List.map_append, ← List.map_drop, ← List.map_take, Nat.mul_one, Nat.zero_mul, Nat.sub_zero, List.drop_zero, List.nil_append, Nat.zero_add] at hS ⊢
  try simp only [nY, aY] at hS ⊢
  try simp only [ic, List.toList_toArray, ← List.map_take, ← List.map_drop] at hS
  refine g_on (yi (t := 9) rfl rfl) ?_
  refine s_call en75 ?_
  try simp only [nY, mY]
  refine CallR.mono (c_nameAll _ _ _ _ (l.take (nsz l)) (hS.hasRd (by repeat (exact Has.head))) (by simp; omega) (hw.take _) (by omega) isOth _ en76 (fun w b hb => c_nameOther b hb w)) ?_
  rintro _ w4 ⟨rfl, hE4⟩
  replace hS := hS.ext hE4
  try simp only [nY]
  refine s_go s_pick_t ?_
  try simp only [nY]
  refine s_go s_move ?_
  try simp only [nY]
  refine s_part 14 rfl (fun hp2 => ?_) (fun hp2 => ?_)
  ·
   try simp only [n3, n4]
   try simp only [dZ, ne_eq] at hp2
   refine g_on (yi (t := 14) rfl rfl) ?_
   refine s_go s_move ?_
   try simp only [nY]
   refine g_on (yi (t := 14) rfl rfl) ?_
   refine m_slice_bx (lo := nsz l) (hi := 8) U25 ti5 (hlo := ⟨_, rfl⟩) (hhi := rfl) (hS := hS) (h := fun A2 hS => ?_)
   try simp only [← List.map_append, ← List.map_drop, ← List.map_take, Nat.mul_one, Nat.zero_mul, Nat.sub_zero, List.drop_zero, List.nil_append, Nat.zero_add] at hS ⊢
   try simp only [nY, aY] at hS ⊢
   try simp only [ic, List.toList_toArray, ← List.map_take, ← List.map_drop] at hS
   rw [show List.take (8 - nsz l) (List.drop (nsz l) l) = List.drop (nsz l) l from List.take_of_length_le (by simp; omega)] at hS
   refine g_on (yi (t := 14) rfl rfl) ?_
   refine s_call en75 ?_
   try simp only [nY, mY]
   refine CallR.mono (c_nameAll _ _ _ _ (l.drop (nsz l)) (hS.hasRd (by repeat (exact Has.head))) (by simp; omega) (hw.drop _) (by omega) isZer _ en77 (fun w b hb => c_nameZero b hb w)) ?_
   rintro _ w5 ⟨rfl, hE5⟩
   replace hS := hS.ext hE5
   try simp only [nY]
   refine s_go s_pick_t ?_
   try simp only [nY]
   refine s_go s_assign ?_
   try simp only [nY]
   refine x_nil (hK3 _ _ ?_)
   refine x_ret (r_tmp rfl ?_)
   exact ⟨congrArg Value.bool (by simp only [nright, *, Bool.false_and, Bool.true_and]), hS.ext_of⟩
  try simp only [n3, n4]
  try simp only [dZ, ne_eq] at hp2
  refine g_off (yi (t := 14) rfl rfl) ?_
  try simp only [nY]
  refine g_off (yi (t := 14) rfl rfl) ?_
  try simp only [nY]
  refine g_off (yi (t := 14) rfl rfl) ?_
  try simp only [nY]
  refine s_go s_pick_f ?_
  try simp only [nY]
  refine s_go s_assign ?_
  try simp only [nY]
  refine x_nil (hK3 _ _ ?_)
  refine x_ret (r_tmp rfl ?_)
  exact ⟨congrArg Value.bool (by simp only [nright, *, Bool.false_and, Bool.true_and]), hS.ext_of⟩
 try simp only [n3, n4]
 try simp only [dZ, ne_eq] at hp1
 refine g_off (yi (t := 9) rfl rfl) ?_
 try simp only [nY]
 refine g_off (yi (t := 9) rfl rfl) ?_
 try simp only [nY]
 refine g_off (yi (t := 9) rfl rfl) ?_
 try simp only [nY]
 refine s_go s_pick_f ?_
 try simp only [nY]
 refine s_go s_move ?_
 try simp only [nY]
 refine g_off (yi (t := 14) rfl rfl) ?_
 try simp only [nY]
 refine g_off (yi (t := 14) rfl rfl) ?_
 try simp only [nY]
 refine g_off (yi (t := 14) rfl rfl) ?_
 try simp only [nY]
 refine s_go s_pick_f ?_
 try simp only [nY]
 refine s_go s_assign ?_
 try simp only [nY]
 refine x_nil (hK3 _ _ ?_)
 refine x_ret (r_tmp rfl ?_)
 exact ⟨congrArg Value.bool (by simp only [nright, *, Bool.false_and, Bool.true_and]), hS.ext_of⟩
theorem c_nameSome (l : List Int) (hl : l.length = 8) (hw : Byt l)  (w0 : World) :
    CallR Tryz.prog 40 #[.agg (ic .u8 l)] w0 fun v w' => v = .bool (!decide (l = nm0)) ∧ Ext w0 w' := by
 have hS : St NoB w0 w0 [] := St.start w0
 refine c_enter (l := [.agg (ic .u8 l), undef, undef, undef, undef, undef]) Tryz.func40 rfl (by simp only [Tryz.ntmps40, List.size_toArray, List.length_cons, List.length_nil, Nat.reduceAdd, Nat.reduceSub, Array.replicate_succ, Array.replicate_zero, List.push_toArray, List.append_toArray, List.nil_append, List.cons_append]) ?_
 refine x_seq fun K1 hK1 => x_region ?_
 refine m_box hS (fun w1 g1 hS => ?_)
 try simp only [nY, aY] at hS ⊢
 refine s_go s_assign ?_
 try simp only [nY]
 refine x_nil (hK1 _ _ ?_)
 refine x_seq fun K2 hK2 => x_region ?_
 refine s_go (m_load_row U25 (hi := ti25) (hS := hS)) ?_
 try simp only [nY, gY]
 refine s_go (s_build_arr (cells := #[.int .u8 0, .int .u8 0, .int .u8 0, .int .u8 0, .int .u8 0, .int .u8 0, .int .u8 0, .int .u8 0]) U25 ti25 ti5 (hc := by simp only [List.map_toArray, List.map_cons, List.map_nil, nY, List.toList_toArray]; (repeat (refine fill_cons rfl rfl (Nat.le_of_ble_eq_true rfl) ?_)); rfl)) ?_
 try simp only [nY]
 rw [show (#[.int .u8 0, .int .u8 0, .int .u8 0, .int .u8 0, .int .u8 0, .int .u8 0, .int .u8 0, .int .u8 0] : Array Value) = ic .u8 nm0 from rfl]
 refine s_go (s_neq_agg eqv25 (hg := eg25) (hX := zi_ic (by assumption)) (hY := zi_ic (by rfl)) (h1 := by assumption) (h2 := by rfl)) ?_
 try simp only [nY]
 refine s_go s_assign ?_
 try simp only [nY]
 refine x_nil (hK2 _ _ ?_)
 refine x_ret (r_tmp rfl ?_)
 exact ⟨rfl, hS.ext_of⟩
theorem c_nameNumber (l : List Int) (hl : l.length = 8) (hw : Byt l)  (w0 : World) :
    CallR Tryz.prog 129 #[.agg (ic .u8 l)] w0 fun v w' => v = .int .u64 (numN l : Int) ∧ Ext w0 w' := by
 have hS : St NoB w0 w0 [] := St.start w0
 refine c_enter (l := [.agg (ic .u8 l), undef, undef, undef, undef, undef, undef, undef, undef, undef, undef, undef, undef, undef, undef, undef]) Tryz.func129 rfl (by simp only [Tryz.ntmps129, List.size_toArray, List.length_cons, List.length_nil, Nat.reduceAdd, Nat.reduceSub, Array.replicate_succ, Array.replicate_zero, List.push_toArray, List.append_toArray, List.nil_append, List.cons_append]) ?_
 refine x_seq fun K1 hK1 => x_region ?_
 refine m_box hS (fun w1 g1 hS => ?_)
 try simp only [nY, aY] at hS ⊢
 refine s_go s_assign ?_
 try simp only [nY]
 refine x_nil (hK1 _ _ ?_)
 refine x_seq fun K2 hK2 => ?_
 refine x_seq fun K3 hK3 => x_region ?_
 refine s_go (m_load_row U25 (hi := ti25) (hS := hS)) ?_
 try simp only [nY, gY]
 refine s_go s_move ?_
 try simp only [nY]
 refine x_nil (hK3 _ _ ?_)
 refine x_block ?_
 refine x_loop [2, 4, 6, 7, 8, 9, 10, 11, 12, 13, 14] (fun m f w => ∃ k : Nat, k ≤ 8 ∧ m = 8 - k ∧ f 6 = .int .i64 (k : Int) ∧ f 2 = .int .u64 (numN (l.take k) : Int) ∧ St NoB w0 w []) (8) ?init1 (fun m1 f1 wl1 hI => ?_)
 case init1 =>
  try simp only [nY]
  exact ⟨0, by omega, rfl, rfl, rfl, hS.sel .nil⟩
 obtain ⟨k, hk, hm, h6, h2, hS⟩ := hI
 simp only [clob, List.foldl, n3, n4, h6, h2]
 have hby := hw.bt k
 have hnl := numN_lt hw k
 refine x_seq fun K4 hK4 => x_region ?_
 refine s_go s_lss ?_
 try simp only [nY]
 refine x_nil (hK4 _ _ ?_)
 refine x_seq fun K5 hK5 => ?_
 refine x_cond (ht := fun hc1 => ?_) (hf := fun hc1 => ?_)
 ·
  try simp only [dY] at hc1
  refine x_skip ?_
  refine hK5 _ _ ?_
  refine x_seq fun K6 hK6 => ?_
  refine x_block ?_
  refine x_seq fun K7 hK7 => x_region ?_
  refine s_go (s_index_one U25 ti5 U5) ?_
  try simp only [nY, Nat.mul_one, Nat.zero_add, Int.toNat_natCast, Int.reduceToNat]
  rw [hby.1]
  refine s_go s_assign ?_
  try simp only [nY]
  refine x_nil (hK7 _ _ ?_)
  refine x_region ?_
  refine s_go s_move ?_
  try simp only [nY]
  refine s_go (s_shl (hc := shl_u64 (r := numN (l.take k)) (p := 256) (s := 256 * numN (l.take k)) (num_shl hnl (by omega)))) ?_
  try simp only [nY]
  refine s_go s_move ?_
  try simp only [nY]
  refine s_go (s_conv U5 U62 (hc := by exact wr_u64 (by omega) (by omega))) ?_
  try simp only [nY]
  refine s_go (s_bits (by simp) (hc := or_hi64 (n := 8) hby.2 (num_sum hnl hby.2 (by omega)))) ?_
  try simp only [nY]
  refine s_go s_assign ?_
  try simp only [nY]
  refine x_nil (hK6 _ _ ?_)
  refine x_region ?_
  refine s_go (s_add (hc := by exact wr_i64 (by omega) (by omega))) ?_
  try simp only [nY]
  refine s_go s_move ?_
  try simp only [nY]
  refine x_nil ?_
  refine loop_back (m' := 8 - (k + 1)) (by simp only [clob, List.foldl, nZ]) ?_ ?_
  · try simp only [nY]
    exact ⟨k + 1, by omega, by omega, by rfl, by rw [numN_take (by omega)], hS⟩
  · omega
 try simp only [dY] at hc1
 obtain rfl : k = 8 := by omega
 rw [show l.take 8 = l by rw [← hl]; exact List.take_length]
 refine x_exit (look_here ?_)
 refine hK2 _ _ ?_
 refine x_seq fun K8 hK8 => x_region ?_
 refine s_go s_move ?_
 try simp only [nY]
 refine s_go s_assign ?_
 try simp only [nY]
 refine x_nil (hK8 _ _ ?_)
 refine x_ret (r_tmp rfl ?_)
 exact ⟨rfl, hS.ext_of⟩
theorem c_ref06Number (l : List Int) (hl : l.length = 8) (hw : Byt l)  (w0 : World) :
    CallR Tryz.prog 98 #[.agg (ic .u8 l)] w0 fun v w' => v = .int .u64 (numN l : Int) ∧ Ext w0 w' := by
 have hS : St NoB w0 w0 [] := St.start w0
 refine c_enter (l := [.agg (ic .u8 l), undef, undef, undef, undef, undef, undef, undef, undef, undef, undef, undef, undef, undef, undef, undef, undef]) Tryz.func98 rfl (by simp only [Tryz.ntmps98, List.size_toArray, List.length_cons, List.length_nil, Nat.reduceAdd, Nat.reduceSub, Array.replicate_succ, Array.replicate_zero, List.push_toArray, List.append_toArray, List.nil_append, List.cons_append]) ?_
 refine x_seq fun K1 hK1 => x_region ?_
 refine m_box hS (fun w1 g1 hS => ?_)
 try simp only [nY, aY] at hS ⊢
 refine s_go s_assign ?_
 try simp only [nY]
 refine x_nil (hK1 _ _ ?_)
 refine x_seq fun K2 hK2 => x_region ?_
 refine s_go s_assign ?_
 try simp only [nY]
 refine x_nil (hK2 _ _ ?_)
 refine x_seq fun K3 hK3 => ?_
 refine x_seq fun K4 hK4 => x_region ?_
 refine s_go s_assign ?_
 try simp only [nY]
 refine x_nil (hK4 _ _ ?_)
 refine x_block ?_
 refine x_loop [3, 4, 5, 6, 7, 8, 9, 10, 11, 12, 13, 14, 15] (fun m f w => ∃ k : Nat, k ≤ 8 ∧ m = 8 - k ∧ f 4 = .int .i64 (k : Int) ∧ f 3 = .int .u64 (numN (l.take k) : Int) ∧ St NoB w0 w [.obj g1 (.cells (ic .u8 l) 25 (0, 0))]) (8) ?init1 (fun m1 f1 wl1 hI => ?_)
 case init1 =>
  try simp only [nY]
  exact ⟨0, by omega, rfl, rfl, rfl, hS⟩
 obtain ⟨k, hk, hm, h4, h3, hS⟩ := hI
 simp only [clob, List.foldl, n3, n4, h4, h3]
 have hby := hw.bt k
 have hnl := numN_lt hw k
 refine x_seq fun K5 hK5 => ?_
 refine x_seq fun K6 hK6 => x_region ?_
 refine s_go s_move ?_
 try simp only [nY]
 refine s_go s_lss ?_
 try simp only [nY]
 refine x_nil (hK6 _ _ ?_)
 refine x_cond (ht := fun hc1 => ?_) (hf := fun hc1 => ?_)
 ·
  try simp only [dY] at hc1
  refine x_skip ?_
  refine hK5 _ _ ?_
  refine x_seq fun K7 hK7 => ?_
  refine x_block ?_
  refine x_region ?_
  refine s_go s_move ?_
  try simp only [nY]
  have hns := num_sum hnl hby.2 (by omega)
  refine s_go (s_mul (hc := mul_u64 (a := 256) (by omega))) ?_
  try simp only [nY]
  refine s_go s_move ?_
  try simp only [nY]
  refine s_go (m_indexAddr_arr U25 ti5) ?_
  try simp only [nY, Nat.mul_one, Nat.zero_add, Int.toNat_natCast, Int.reduceToNat]
  refine s_go (m_load_obj U5 (hS := hS)) ?_
  try simp only [nY, gY]
  rw [hby.1]
  refine s_go (s_conv U5 U62 (hc := by exact wr_u64 (by omega) (by omega))) ?_
  try simp only [nY]
  refine s_go (s_add (hc := add_u64 (by omega))) ?_
  try simp only [nY]
  refine s_go s_assign ?_
  try simp only [nY]
  refine x_nil (hK7 _ _ ?_)
  refine x_region ?_
  refine s_go s_move ?_
  try simp only [nY]
  refine s_go (s_add (hc := by exact wr_i64 (by omega) (by omega))) ?_
  try simp only [nY]
  refine s_go s_assign ?_
  try simp only [nY]
  refine x_nil ?_
  refine loop_back (m' := 8 - (k + 1)) (by simp only [clob, List.foldl, nZ]) ?_ ?_
  · try simp only [nY]
    exact ⟨k + 1, by omega, by omega, by rfl, by rw [numN_take (by omega)], hS⟩
  · omega
 try simp only [dY] at hc1
 obtain rfl : k = 8 := by omega
 rw [show l.take 8 = l by rw [← hl]; exact List.take_length]
 refine x_exit (look_here ?_)
 refine hK3 _ _ ?_
 refine x_seq fun K8 hK8 => x_region ?_
 refine s_go s_move ?_
 try simp only [nY]
 refine s_go s_assign ?_
 try simp only [nY]
 refine x_nil (hK8 _ _ ?_)
 refine x_ret (r_tmp rfl ?_)
 exact ⟨rfl, hS.ext_of⟩
theorem c_ref06Is (ns : List Int) (hw : Byt ns) (hn : ns.length ≤ 1000)  (w0 : World) :
    CallR Tryz.prog 78 #[.string (strOf ns)] w0 fun v w' => v = .bool (isN ns) ∧ Ext w0 w' := by
 have hS : St NoB w0 w0 [] := St.start w0
 refine c_enter (l := [.string (strOf ns), undef, undef, undef, undef, undef, undef, undef, undef, undef, undef, undef, undef, undef, undef, undef, undef, undef, undef, undef, undef, undef, undef, undef, undef, undef, undef, undef, undef]) Tryz.func78 rfl (by simp only [Tryz.ntmps78, List.size_toArray, List.length_cons, List.length_nil, Nat.reduceAdd, Nat.reduceSub, Array.replicate_succ, Array.replicate_zero, List.push_toArray, List.append_toArray, List.nil_append, List.cons_append]) ?_
 refine x_seq fun K1 hK1 => x_region ?_
 refine s_go s_assign ?_
 try simp only [nY]
 refine x_nil (hK1 _ _ ?_)
 refine x_seq fun K2 hK2 => ?_
 refine x_seq fun K3 hK3 => x_region ?_
 refine s_go s_move ?_
 try simp only [nY]
 refine s_go (s_len_str U9) ?_
 try simp only [nY]
 rw [strOf_size]
 refine s_go s_lss ?_
 try simp only [nY]
 refine s_go s_move ?_
 try simp only [nY]
 refine s_part 7 rfl (fun hp1 => ?_) (fun hp1 => ?_)
 ·
  try simp only [n3, n4]
  try simp only [dZ, ne_eq] at hp1
  refine g_off (yi (t := 7) rfl rfl) ?_
  try simp only [nY]
  refine g_off (yi (t := 7) rfl rfl) ?_
  try simp only [nY]
  refine g_off (yi (t := 7) rfl rfl) ?_
  try simp only [nY]
  refine s_go s_pick_t ?_
  try simp only [nY]
  refine s_go s_move ?_
  try simp only [nY]
  refine g_off (yi (t := 12) rfl rfl) ?_
  try simp only [nY]
  refine g_off (yi (t := 12) rfl rfl) ?_
  try simp only [nY]
  refine g_off (yi (t := 12) rfl rfl) ?_
  try simp only [nY]
  refine g_off (yi (t := 12) rfl rfl) ?_
  try simp only [nY]
  refine s_go s_pick_t ?_
  try simp only [nY]
  refine x_nil (hK3 _ _ ?_)
  refine x_cond_t (h := ?_)
  have hI : isN ns = false := by simp only [isN, Bool.and_eq_false_iff, decide_eq_false_iff_not]; exact .inl (.inl (by omega))
  refine x_seq fun K4 hK4 => x_region ?_
  refine s_go s_assign ?_
  try simp only [nY]
  refine x_nil (hK4 _ _ ?_)
  refine x_ret (r_tmp rfl ?_)
  exact ⟨by rw [hI]; rfl, hS.ext_of⟩
 try simp only [n3, n4]
 try simp only [dZ, ne_eq] at hp1
 refine g_on (yi (t := 7) rfl rfl) ?_
 refine s_go s_move ?_
 try simp only [nY]
 refine g_on (yi (t := 7) rfl rfl) ?_
 refine s_go (s_len_str U9) ?_
 try simp only [nY]
 rw [strOf_size]
 refine g_on (yi (t := 7) rfl rfl) ?_
 refine s_go s_gtr ?_
 try simp only [nY]
 refine s_go s_pick_f ?_
 try simp only [nY]
 refine s_go s_move ?_
 try simp only [nY]
 refine s_part 12 rfl (fun hp2 => ?_) (fun hp2 => ?_)
 ·
  try simp only [n3, n4]
  try simp only [dZ, ne_eq] at hp2
  refine g_off (yi (t := 12) rfl rfl) ?_
  try simp only [nY]
  refine g_off (yi (t := 12) rfl rfl) ?_
  try simp only [nY]
  refine g_off (yi (t := 12) rfl rfl) ?_
  try simp only [nY]
  refine g_off (yi (t := 12) rfl rfl) ?_
  try simp only [nY]
  refine s_go s_pick_t ?_
  try simp only [nY]
  refine x_nil (hK3 _ _ ?_)
  refine x_cond_t (h := ?_)
  have hI : isN ns = false := by simp only [isN, Bool.and_eq_false_iff, decide_eq_false_iff_not]; exact .inl (.inl (by omega))
  refine x_seq fun K5 hK5 => x_region ?_
  refine s_go s_assign ?_
  try simp only [nY]
  refine x_nil (hK5 _ _ ?_)
  refine x_ret (r_tmp rfl ?_)
  exact ⟨by rw [hI]; rfl, hS.ext_of⟩
 try simp only [n3, n4]
 try simp only [dZ, ne_eq] at hp2
 refine g_on (yi (t := 12) rfl rfl) ?_
 refine s_go s_move ?_
 try simp only [nY]
 have hb0 := hw.get 0
 refine g_on (yi (t := 12) rfl rfl) ?_
 refine s_go (s_index_str U9 (hb := strOf_get (a := ns) (i := 0) (by omega))) ?_
 try simp only [nY, Nat.mul_one, Nat.zero_add, Int.toNat_natCast, Int.reduceToNat]
 rw [u8_back hb0]
 refine g_on (yi (t := 12) rfl rfl) ?_
 refine s_call en101 ?_
 try simp only [nY, mY]
 refine CallR.mono (c_ref06Letter _ (by assumption) _) ?_
 rintro _ w1 ⟨rfl, hE1⟩
 replace hS := hS.ext hE1
 try simp only [nY]
 refine g_on (yi (t := 12) rfl rfl) ?_
 refine s_go s_not ?_
 try simp only [nY]
 refine s_go s_pick_f ?_
 try simp only [nY]
 refine x_nil (hK3 _ _ ?_)
 refine x_cond (ht := fun hc3 => ?_) (hf := fun hc3 => ?_)
 ·
  try simp only [dY] at hc3
  have hI : isN ns = false := by simp only [isN, Bool.and_eq_false_iff, decide_eq_false_iff_not]; exact .inl (.inr hc3)
  refine x_seq fun K6 hK6 => x_region ?_
  refine s_go s_assign ?_
  try simp only [nY]
  refine x_nil (hK6 _ _ ?_)
  refine x_ret (r_tmp rfl ?_)
  exact ⟨by rw [hI]; rfl, hS.ext_of⟩
 try simp only [dY] at hc3
 have h0 : isLet (ns.getD 0 0) = true := by simpa only [Bool.not_eq_false] using hc3
 refine x_skip ?_
 refine hK2 _ _ ?_
 refine x_seq fun K7 hK7 => ?_
 refine x_seq fun K8 hK8 => x_region ?_
 refine s_go s_assign ?_
 try simp only [nY]
 refine x_nil (hK8 _ _ ?_)
 refine x_block ?_
 refine x_loop [2, 3, 18, 19, 20, 21, 22, 23, 24, 25, 26, 27, 28] (fun m f w => ∃ k : Nat, k ≤ ns.length ∧ m = ns.length - k ∧ f 3 = .int .i64 (k : Int) ∧ (ns.take k).all isOth = true ∧ St NoB w0 w []) (ns.length) ?init1 (fun m1 f1 wl1 hI => ?_)
 case init1 =>
  try simp only [nY]
  exact ⟨0, by omega, rfl, rfl, rfl, hS⟩
 obtain ⟨k, hk, hm, h3, hz, hS⟩ := hI
 simp only [clob, List.foldl, n3, n4, h3]
 have hbk := hw.get k
 refine x_seq fun K9 hK9 => ?_
 refine x_seq fun K10 hK10 => x_region ?_
 refine s_go s_move ?_
 try simp only [nY]
 refine s_go s_move ?_
 try simp only [nY]
 refine s_go (s_len_str U9) ?_
 try simp only [nY]
 rw [strOf_size]
 refine s_go s_lss ?_
 try simp only [nY]
 refine x_nil (hK10 _ _ ?_)
 refine x_cond (ht := fun hc4 => ?_) (hf := fun hc4 => ?_)
 ·
  try simp only [dY] at hc4
  refine x_skip ?_
  refine hK9 _ _ ?_
  refine x_seq fun K11 hK11 => ?_
  refine x_block ?_
  refine x_seq fun K12 hK12 => x_region ?_
  refine s_go s_move ?_
  try simp only [nY]
  refine s_go s_move ?_
  try simp only [nY]
  refine s_go (s_index_str U9 (hb := strOf_get (a := ns) (i := k) (by omega))) ?_
  try simp only [nY, Nat.mul_one, Nat.zero_add, Int.toNat_natCast, Int.reduceToNat]
  rw [u8_back hbk]
  refine s_call en102 ?_
  try simp only [nY, mY]
  refine CallR.mono (c_ref06Other _ (by assumption) _) ?_
  rintro _ w2 ⟨rfl, hE2⟩
  replace hS := hS.ext hE2
  try simp only [nY]
  refine s_go s_not ?_
  try simp only [nY]
  refine x_nil (hK12 _ _ ?_)
  refine x_cond (ht := fun hc5 => ?_) (hf := fun hc5 => ?_)
  ·
   try simp only [dY] at hc5
   have hI : isN ns = false := by simp only [isN, Bool.and_eq_false_iff]; exact .inr (all_not (by simpa using hc5) (by omega))
   refine x_seq fun K13 hK13 => x_region ?_
   refine s_go s_assign ?_
   try simp only [nY]
   refine x_nil (hK13 _ _ ?_)
   refine x_ret (r_tmp rfl ?_)
   exact ⟨by rw [hI]; rfl, hS.ext_of⟩
  try simp only [dY] at hc5
  have hO : isOth (ns.getD k 0) = true := by simpa using hc5
  refine x_skip ?_
  refine hK11 _ _ ?_
  refine x_region ?_
  refine s_go s_move ?_
  try simp only [nY]
  refine s_go (s_add (hc := by exact wr_i64 (by omega) (by omega))) ?_
  try simp only [nY]
  refine s_go s_assign ?_
  try simp only [nY]
  refine x_nil ?_
  refine loop_back (m' := ns.length - (k + 1)) (by simp only [clob, List.foldl, nZ]) ?_ ?_
  · try simp only [nY]
    exact ⟨k + 1, by omega, by omega, by rfl, by rw [take_succ_getD (by omega), List.all_append, hz]; simpa using hO, hS⟩
  · omega
 try simp only [dY] at hc4
 obtain rfl : k = ns.length := by omega
 rw [List.take_length] at hz
 have hI : isN ns = true := by simp only [isN, Bool.and_eq_true, decide_eq_true_eq]; exact ⟨⟨by omega, h0⟩, hz⟩
 refine x_exit (look_here ?_)
 refine hK7 _ _ ?_
 refine x_seq fun K14 hK14 => x_region ?_
 refine s_go s_assign ?_
 try simp only [nY]
 refine x_nil (hK14 _ _ ?_)
 refine x_ret (r_tmp rfl ?_)
 exact ⟨by rw [hI]; rfl, hS.ext_of⟩
theorem c_ref06Text (l : List Int) (hl : l.length = 8) (hw : Byt l)  (w0 : World) :
    CallR Tryz.prog 79 #[.agg (ic .u8 l)] w0 fun v w' => v = .string (strOf (nmTxt l)) ∧ Ext w0 w' := by
 have hS : St NoB w0 w0 [] := St.start w0
 refine c_enter (l := [.agg (ic .u8 l), undef, undef, undef, undef, undef, undef, undef, undef, undef, undef, undef, undef, undef, undef, undef, undef, undef, undef, undef, undef, undef, undef]) Tryz.func79 rfl (by simp only [Tryz.ntmps79, List.size_toArray, List.length_cons, List.length_nil, Nat.reduceAdd, Nat.reduceSub, Array.replicate_succ, Array.replicate_zero, List.push_toArray, List.append_toArray, List.nil_append, List.cons_append]) ?_
 refine x_seq fun K1 hK1 => x_region ?_
 refine m_box hS (fun w1 g1 hS => ?_)
 try simp only [nY, aY] at hS ⊢
 refine s_go s_assign ?_
 try simp only [nY]
 refine x_nil (hK1 _ _ ?_)
 refine x_seq fun K2 hK2 => x_region ?_
 refine s_go s_assign ?_
 try simp only [nY]
 refine x_nil (hK2 _ _ ?_)
 refine x_seq fun K3 hK3 => ?_
 refine x_seq fun K4 hK4 => x_region ?_
 refine s_go s_assign ?_
 try simp only [nY]
 refine x_nil (hK4 _ _ ?_)
 refine x_block ?_
 refine x_loop [3, 4, 5, 6, 7, 8, 9, 10, 11, 12, 13, 14, 15, 16, 17, 18, 19, 20, 21] (fun m f w => ∃ k : Nat, k ≤ 8 ∧ m = 8 - k ∧ f 4 = .int .i64 (k : Int) ∧ f 3 = .string (strOf (l.take k)) ∧ (∀ j, j < k → l.getD j 0 ≠ 0) ∧ St NoB w0 w [.obj g1 (.cells (ic .u8 l) 25 (0, 0))]) (8) ?init1 (fun m1 f1 wl1 hI => ?_)
 case init1 =>
  try simp only [nY]
  exact ⟨0, by omega, rfl, rfl, rfl, fun j hj => absurd hj (by omega), hS⟩
 obtain ⟨k, hk, hm, h4, h3, hz, hS⟩ := hI
 simp only [clob, List.foldl, n3, n4, h4, h3]
 refine x_seq fun K5 hK5 => ?_
 refine x_seq fun K6 hK6 => x_region ?_
 refine s_go s_move ?_
 try simp only [nY]
 refine s_go s_lss ?_
 try simp only [nY]
 refine s_go s_move ?_
 try simp only [nY]
 refine s_part 7 rfl (fun hp1 => ?_) (fun hp1 => ?_)
 ·
  try simp only [n3, n4]
  try simp only [dZ, ne_eq] at hp1
  refine g_on (yi (t := 7) rfl rfl) ?_
  refine s_go s_move ?_
  try simp only [nY]
  refine g_on (yi (t := 7) rfl rfl) ?_
  refine s_go (m_indexAddr_arr U25 ti5) ?_
  try simp only [nY, Nat.mul_one, Nat.zero_add, Int.toNat_natCast, Int.reduceToNat]
  refine g_on (yi (t := 7) rfl rfl) ?_
  refine s_go (m_load_obj U5 (hS := hS)) ?_
  try simp only [nY, gY]
  refine g_on (yi (t := 7) rfl rfl) ?_
  refine s_go s_neq ?_
  try simp only [nY]
  refine s_go s_pick_t ?_
  try simp only [nY]
  refine x_nil (hK6 _ _ ?_)
  refine x_cond (ht := fun hc1 => ?_) (hf := fun hc1 => ?_)
  ·
   try simp only [dY] at hc1
   refine x_skip ?_
   refine hK5 _ _ ?_
   refine x_seq fun K7 hK7 => ?_
   refine x_block ?_
   refine x_region ?_
   refine s_go s_move ?_
   try simp only [nY]
   refine s_go s_move ?_
   try simp only [nY]
   refine s_go (m_indexAddr_arr U25 ti5) ?_
   try simp only [nY, Nat.mul_one, Nat.zero_add, Int.toNat_natCast, Int.reduceToNat]
   refine s_go (m_load_obj U5 (hS := hS)) ?_
   try simp only [nY, gY]
   refine m_buildRow (cells := #[_]) U107 ti5 (hc := by simp only [List.map_toArray, List.map_cons, List.map_nil, nY, List.toList_toArray]; (repeat (refine fill_cons rfl rfl (Nat.le_of_ble_eq_true rfl) ?_)); rfl) (hS := hS) (h := fun w2 g2 hS => ?_)
   try simp only [nY, aY] at hS ⊢
   replace hS := hS.obj_rd (sz := 1) (n := 1) rfl .head
   have hS : St NoB w0 w2 [.rd (some ⟨g2, 0, none⟩) 1 1 ([l.getD k 0].map (Value.int .u8)), .obj g1 (.cells (ic .u8 l) 25 (0, 0))] := hS
   refine s_go (m_bytes_str U107 U9 U5 (hS := hS)) ?_
   try simp only [nY]
   refine s_go (s_add_str U9 (hn := by rw [strOf_size, strOf_size]; simp; omega)) ?_
   try simp only [nY]
   rw [strOf_app]
   refine s_go s_assign ?_
   try simp only [nY]
   refine x_nil (hK7 _ _ ?_)
   refine x_region ?_
   refine s_go s_move ?_
   try simp only [nY]
   refine s_go (s_add (hc := by exact wr_i64 (by omega) (by omega))) ?_
   try simp only [nY]
   refine s_go s_assign ?_
   try simp only [nY]
   refine x_nil ?_
   refine loop_back (m' := 8 - (k + 1)) (by simp only [clob, List.foldl, nZ]) ?_ ?_
   · try simp only [nY]
     exact ⟨k + 1, by omega, by omega, by rfl, by rw [take_succ_getD (by omega)], fun j hj => by rcases Nat.lt_or_eq_of_le (Nat.le_of_lt_succ hj) with h | h; exact hz j h; subst h; assumption, hS.selA⟩
   · omega
  try simp only [dY] at hc1
  have hT := nmTxt_of (l := l) (k := k) (by omega) hz (by exact .inr hc1)
  refine x_exit (look_here ?_)
  refine hK3 _ _ ?_
  refine x_seq fun K8 hK8 => x_region ?_
  refine s_go s_move ?_
  try simp only [nY]
  refine s_go s_assign ?_
  try simp only [nY]
  refine x_nil (hK8 _ _ ?_)
  refine x_ret (r_tmp rfl ?_)
  exact ⟨by rw [← hT]; rfl, hS.ext_of⟩
 try simp only [n3, n4]
 try simp only [dZ, ne_eq] at hp1
 refine g_off (yi (t := 7) rfl rfl) ?_
 try simp only [nY]
 refine g_off (yi (t := 7) rfl rfl) ?_
 try simp only [nY]
 refine g_off (yi (t := 7) rfl rfl) ?_
 try simp only [nY]
 refine g_off (yi (t := 7) rfl rfl) ?_
 try simp only [nY]
 refine s_go s_pick_f ?_
 try simp only [nY]
 refine x_nil (hK6 _ _ ?_)
 refine x_cond_f (h := ?_)
 have hT := nmTxt_of (l := l) (k := k) (by omega) hz (by exact .inl (by omega))
 refine x_exit (look_here ?_)
 refine hK3 _ _ ?_
 refine x_seq fun K9 hK9 => x_region ?_
 refine s_go s_move ?_
 try simp only [nY]
 refine s_go s_assign ?_
 try simp only [nY]
 refine x_nil (hK9 _ _ ?_)
 refine x_ret (r_tmp rfl ?_)
 exact ⟨by rw [← hT]; rfl, hS.ext_of⟩
theorem c_ref06Pad (ns : List Int) (hw : Byt ns) (hn : ns.length ≤ 1000)  (w0 : World) :
    CallR Tryz.prog 80 #[.string (strOf ns)] w0 fun v w' => v = .agg (ic .u8 (padN ns)) ∧ Ext w0 w' := by
 have hS : St NoB w0 w0 [] := St.start w0
 refine c_enter (l := [.string (strOf ns), undef, undef, undef, undef, undef, undef, undef, undef, undef, undef, undef, undef, undef, undef, undef, undef, undef, undef, undef, undef]) Tryz.func80 rfl (by simp only [Tryz.ntmps80, List.size_toArray, List.length_cons, List.length_nil, Nat.reduceAdd, Nat.reduceSub, Array.replicate_succ, Array.replicate_zero, List.push_toArray, List.append_toArray, List.nil_append, List.cons_append]) ?_
 refine x_seq fun K1 hK1 => x_region ?_
 refine m_alloc ti25 hS (fun w1 g1 hS => ?_)
 try simp only [nY, aY] at hS ⊢
 refine x_nil (hK1 _ _ ?_)
 refine x_seq fun K2 hK2 => x_region ?_
 refine m_alloc ti25 hS (fun w2 g2 hS => ?_)
 try simp only [nY, aY] at hS ⊢
 have hS : St NoB w0 w2 [.obj g2 (.cells (ic .u8 nm0) 25 (0, 0)), .obj g1 (.cells (ic .u8 nm0) 25 (0, 0))] := hS
 refine x_nil (hK2 _ _ ?_)
 refine x_seq fun K3 hK3 => ?_
 refine x_seq fun K4 hK4 => x_region ?_
 refine s_go s_assign ?_
 try simp only [nY]
 refine x_nil (hK4 _ _ ?_)
 refine x_block ?_
 refine x_loop [4, 5, 6, 7, 8, 9, 10, 11, 12, 13, 14, 15, 16, 17, 18, 19] (fun m f w => ∃ k : Nat, k ≤ ns.length ∧ k ≤ 8 ∧ m = 8 - k ∧ f 4 = .int .i64 (k : Int) ∧ St NoB w0 w [.obj g2 (.cells (ic .u8 (padT ns k)) 25 (0, 0)), .obj g1 (.cells (ic .u8 nm0) 25 (0, 0))]) (8) ?init1 (fun m1 f1 wl1 hI => ?_)
 case init1 =>
  try simp only [nY]
  exact ⟨0, by omega, by omega, rfl, rfl, by rw [padT_zero]; exact hS⟩
 obtain ⟨k, hk, hk8, hm, h4, hS⟩ := hI
 simp only [clob, List.foldl, n3, n4, h4]
 have hpl := padT_len hk hk8
 have hbk := hw.get k
 have h0l : nm0.length = 8 := rfl
 refine x_seq fun K5 hK5 => ?_
 refine x_seq fun K6 hK6 => x_region ?_
 refine s_go s_move ?_
 try simp only [nY]
 refine s_go s_move ?_
 try simp only [nY]
 refine s_go (s_len_str U9) ?_
 try simp only [nY]
 rw [strOf_size]
 refine s_go s_lss ?_
 try simp only [nY]
 refine s_go s_move ?_
 try simp only [nY]
 refine s_part 9 rfl (fun hp1 => ?_) (fun hp1 => ?_)
 ·
  try simp only [n3, n4]
  try simp only [dZ, ne_eq] at hp1
  refine g_on (yi (t := 9) rfl rfl) ?_
  refine s_go s_move ?_
  try simp only [nY]
  refine g_on (yi (t := 9) rfl rfl) ?_
  refine s_go s_lss ?_
  try simp only [nY]
  refine s_go s_pick_t ?_
  try simp only [nY]
  refine x_nil (hK6 _ _ ?_)
  refine x_cond (ht := fun hc1 => ?_) (hf := fun hc1 => ?_)
  ·
   try simp only [dY] at hc1
   refine x_skip ?_
   refine hK5 _ _ ?_
   refine x_seq fun K7 hK7 => ?_
   refine x_block ?_
   refine x_region ?_
   refine s_go s_move ?_
   try simp only [nY]
   refine s_go s_move ?_
   try simp only [nY]
   refine s_go s_move ?_
   try simp only [nY]
   refine s_go (s_index_str U9 (hb := strOf_get (a := ns) (i := k) (by omega))) ?_
   try simp only [nY, Nat.mul_one, Nat.zero_add, Int.toNat_natCast, Int.reduceToNat]
   rw [u8_back hbk]
   refine s_go (m_indexAddr_arr U25 ti5) ?_
   try simp only [nY, Nat.mul_one, Nat.zero_add, Int.toNat_natCast, Int.reduceToNat]
   refine m_store_obj ti5 (hS := hS) (h := fun w3 hS => ?_)
   try simp only [nY, aY] at hS ⊢
   refine x_nil (hK7 _ _ ?_)
   refine x_region ?_
   refine s_go s_move ?_
   try simp only [nY]
   refine s_go (s_add (hc := by exact wr_i64 (by omega) (by omega))) ?_
   try simp only [nY]
   refine s_go s_assign ?_
   try simp only [nY]
   refine x_nil ?_
   refine loop_back (m' := 8 - (k + 1)) (by simp only [clob, List.foldl, nZ]) ?_ ?_
   · try simp only [nY]
     exact ⟨k + 1, by omega, by omega, by omega, by rfl, by rw [← padT_set (by omega) (by omega)]; exact hS⟩
   · omega
  try simp only [dY] at hc1
  have hP := padT_all hk hk8 (by omega)
  rw [hP] at hS hpl
  refine x_exit (look_here ?_)
  refine hK3 _ _ ?_
  refine x_seq fun K8 hK8 => x_region ?_
  refine s_go (m_load_row U25 (hi := ti25) (hS := hS)) ?_
  try simp only [nY, gY]
  refine m_store_obj ti25 (hS := hS) (h := fun w4 hS => ?_)
  try simp only [nY, aY] at hS ⊢
  refine x_nil (hK8 _ _ ?_)
  refine x_ret ?_
  refine r_cell_agg rfl U25 ti25 (hS := hS) (hR := ?_)
  exact ⟨rfl, hS.ext_of⟩
 try simp only [n3, n4]
 try simp only [dZ, ne_eq] at hp1
 refine g_off (yi (t := 9) rfl rfl) ?_
 try simp only [nY]
 refine g_off (yi (t := 9) rfl rfl) ?_
 try simp only [nY]
 refine s_go s_pick_f ?_
 try simp only [nY]
 refine x_nil (hK6 _ _ ?_)
 refine x_cond_f (h := ?_)
 have hP := padT_all hk hk8 (by omega)
 rw [hP] at hS hpl
 refine x_exit (look_here ?_)
 refine hK3 _ _ ?_
 refine x_seq fun K9 hK9 => x_region ?_
 refine s_go (m_load_row U25 (hi := ti25) (hS := hS)) ?_
 try simp only [nY, gY]
 refine m_store_obj ti25 (hS := hS) (h := fun w5 hS => ?_)
 try simp only [nY, aY] at hS ⊢
 refine x_nil (hK9 _ _ ?_)
 refine x_ret ?_
 refine r_cell_agg rfl U25 ti25 (hS := hS) (hR := ?_)
 exact ⟨rfl, hS.ext_of⟩
theorem c_ref06Right (l : List Int) (hl : l.length = 8) (hw : Byt l)  (w0 : World) :
    CallR Tryz.prog 41 #[.agg (ic .u8 l)] w0 fun v w' => v = .bool (nright l) ∧ Ext w0 w' := by
 have hS : St NoB w0 w0 [] := St.start w0
 refine c_enter (l := [.agg (ic .u8 l), undef, undef, undef, undef, undef, undef, undef, undef, undef, undef, undef, undef]) Tryz.func41 rfl (by simp only [Tryz.ntmps41, List.size_toArray, List.length_cons, List.length_nil, Nat.reduceAdd, Nat.reduceSub, Array.replicate_succ, Array.replicate_zero, List.push_toArray, List.append_toArray, List.nil_append, List.cons_append]) ?_
 refine x_seq fun K1 hK1 => x_region ?_
 refine m_box hS (fun w1 g1 hS => ?_)
 try simp only [nY, aY] at hS ⊢
 refine s_go s_assign ?_
 try simp only [nY]
 refine x_nil (hK1 _ _ ?_)
 refine x_seq fun K2 hK2 => ?_
 refine x_quiet (by kernel_rfl) (by kernel_rfl) hS ?_
 have hs := nsz_le l
 have htl := nmTxt_len l
 have htb := nmTxt_byt hw
 have hpl := padN_len (nmTxt l)
 refine q_go (fun w hS => m_load_row U25 (hi := ti25) (hS := hS)) ?_
 try simp only [nY, gY]
 apply q_call en79
 case H =>
   intro w hS
   try simp only [nY, mY]
   refine CallR.mono (c_ref06Text _ (by assumption) (by assumption) _) ?_
   rintro _ w1 ⟨rfl, hE⟩; exact ⟨rfl, hS.ext hE⟩
 try simp only [nY]
 apply q_call en78
 case H =>
   intro w hS
   try simp only [nY, mY]
   refine CallR.mono (c_ref06Is _ htb (by omega) _) ?_
   rintro _ w1 ⟨rfl, hE⟩; exact ⟨rfl, hS.ext hE⟩
 try simp only [nY]
 refine q_go (fun w hS => s_move) ?_
 try simp only [nY]
 refine q_part 6 rfl (fun hp1 => ?_) (fun hp1 => ?_)
 ·
  try simp only [n3, n4]
  try simp only [dZ, ne_eq] at hp1
  refine q_on (yi (t := 6) rfl rfl) ?_
  refine q_go (fun w hS => m_load_row U25 (hi := ti25) (hS := hS)) ?_
  try simp only [nY, gY]
  refine q_on (yi (t := 6) rfl rfl) ?_
  apply q_call en79
  case H =>
    intro w hS
    try simp only [nY, mY]
    refine CallR.mono (c_ref06Text _ (by assumption) (by assumption) _) ?_
    rintro _ w1 ⟨rfl, hE⟩; exact ⟨rfl, hS.ext hE⟩
  try simp only [nY]
  refine q_on (yi (t := 6) rfl rfl) ?_
  apply q_call en80
  case H =>
    intro w hS
    try simp only [nY, mY]
    refine CallR.mono (c_ref06Pad _ htb (by omega) _) ?_
    rintro _ w1 ⟨rfl, hE⟩; exact ⟨rfl, hS.ext hE⟩
  try simp only [nY]
  refine q_on (yi (t := 6) rfl rfl) ?_
  refine q_go (fun w hS => m_load_row U25 (hi := ti25) (hS := hS)) ?_
  try simp only [nY, gY]
  refine q_on (yi (t := 6) rfl rfl) ?_
  refine q_go (fun w hS => s_eql_agg eqv25 (hg := eg25) (hX := zi_ic (by assumption)) (hY := zi_ic (by assumption)) (h1 := by assumption) (h2 := by assumption)) ?_
  try simp only [nY]
  refine q_go (fun w hS => s_pick_t) ?_
  try simp only [nY]
  refine q_go (fun w hS => s_assign) ?_
  try simp only [nY]
  clear hS
  refine q_nil fun w2 hS => ?_
  refine hK2 _ _ ?_
  refine x_ret (r_tmp rfl ?_)
  exact ⟨congrArg Value.bool (by simp only [nright_eq hl, *, Bool.true_and, Bool.false_and]), hS.ext_of⟩
 try simp only [n3, n4]
 try simp only [dZ, ne_eq] at hp1
 refine q_off (yi (t := 6) rfl rfl) ?_
 try simp only [nY]
 refine q_off (yi (t := 6) rfl rfl) ?_
 try simp only [nY]
 refine q_off (yi (t := 6) rfl rfl) ?_
 try simp only [nY]
 refine q_off (yi (t := 6) rfl rfl) ?_
 try simp only [nY]
 refine q_off (yi (t := 6) rfl rfl) ?_
 try simp only [nY]
 refine q_go (fun w hS => s_pick_f) ?_
 try simp only [nY]
 refine q_go (fun w hS => s_assign) ?_
 try simp only [nY]
 clear hS
 refine q_nil fun w3 hS => ?_
 refine hK2 _ _ ?_
 refine x_ret (r_tmp rfl ?_)
 exact ⟨congrArg Value.bool (by simp only [nright_eq hl, *, Bool.true_and, Bool.false_and]), hS.ext_of⟩
theorem c_nameLess (a b : List Int) (ha : a.length = 8) (hb : b.length = 8) (hwa : Byt a) (hwb : Byt b)  (w0 : World) :
    CallR Tryz.prog 124 #[.agg (ic .u8 a), .agg (ic .u8 b)] w0 fun v w' => v = .bool (decide (numN a < numN b)) ∧ Ext w0 w' := by
 have hS : St NoB w0 w0 [] := St.start w0
 refine c_enter (l := [.agg (ic .u8 a), .agg (ic .u8 b), undef, undef, undef, undef, undef, undef, undef, undef]) Tryz.func124 rfl (by simp only [Tryz.ntmps124, List.size_toArray, List.length_cons, List.length_nil, Nat.reduceAdd, Nat.reduceSub, Array.replicate_succ, Array.replicate_zero, List.push_toArray, List.append_toArray, List.nil_append, List.cons_append]) ?_
 refine x_seq fun K1 hK1 => x_region ?_
 refine m_box hS (fun w1 g1 hS => ?_)
 try simp only [nY, aY] at hS ⊢
 refine m_box hS (fun w2 g2 hS => ?_)
 try simp only [nY, aY] at hS ⊢
 refine s_go s_assign ?_
 try simp only [nY]
 refine x_nil (hK1 _ _ ?_)
 refine x_seq fun K2 hK2 => ?_
 refine x_quiet (by kernel_rfl) (by kernel_rfl) hS ?_
 refine q_go (fun w hS => m_load_row U25 (hi := ti25) (hS := hS)) ?_
 try simp only [nY, gY]
 apply q_call en129
 case H =>
   intro w hS
   try simp only [nY, mY]
   refine CallR.mono (c_nameNumber a ha hwa _) ?_
   rintro _ w1 ⟨rfl, hE⟩; exact ⟨rfl, hS.ext hE⟩
 try simp only [nY]
 refine q_go (fun w hS => m_load_row U25 (hi := ti25) (hS := hS)) ?_
 try simp only [nY, gY]
 apply q_call en129
 case H =>
   intro w hS
   try simp only [nY, mY]
   refine CallR.mono (c_nameNumber b hb hwb _) ?_
   rintro _ w1 ⟨rfl, hE⟩; exact ⟨rfl, hS.ext hE⟩
 try simp only [nY]
 refine q_go (fun w hS => s_lss) ?_
 try simp only [nY]
 refine q_go (fun w hS => s_assign) ?_
 try simp only [nY]
 clear hS
 refine q_nil fun w3 hS => ?_
 refine hK2 _ _ ?_
 refine x_ret (r_tmp rfl ?_)
 exact ⟨congrArg Value.bool (by rw [Bool.eq_iff_iff]; simp only [decide_eq_true_eq]; omega), hS.ext_of⟩
end Go.Proofs.YtpekghaodmeemaaGreat
