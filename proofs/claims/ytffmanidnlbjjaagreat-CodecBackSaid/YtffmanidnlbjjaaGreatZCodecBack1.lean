/- Rules, plain words and walks that the claim leans on: Va, Vb, Vc, Vd, Ve, Vf, Vq, Vm, Vg, Vh, Vi, Vn, Vk, Vw, Ta, Ca, Ppack, Vs, Cb, Vy, Vr, Vt, Vu, Cp. -/
import Derived.WalkKit
import Derived.WalkSpells
import Derived.WalkLawsBesides
import Derived.Shelf.Abstract
import Derived.Maps.AppendAt
import Derived.Deep.Quiet
import Derived.Lib.ConvBytes
import Derived.Lib.BitFns
import Derived.WideShapes
import Derived.Lib.ItoaNum
import Derived.WalkMore
import Derived.Scope
import Derived.Test.YtffmanidnlbjjaaGreatRows
import Derived.Shelf.SlSortCmp.NoneTotal
import Derived.Shelf.Small.Bits
import Derived.Shelf.Strconv.Itoa0
import Derived.Lib.AppendStr
import Derived.RangeFuncRecord
import Derived.RangeFuncIn
import Derived.RangeFuncCalls
import Derived.OrdersIn
import Derived.ProofKit
import Derived.Carry
import Derived.SizedLaws
import Derived.OpenShut
import Derived.Laws.IdiomRangeMap
import Derived.JoinedOf
set_option linter.unusedSimpArgs false
set_option linter.unusedVariables false
namespace Go.Proofs.YtffmanidnlbjjaaGreat
open Go.RowKit
/-- The blocks outside S are as they were. -/
structure Keep (S : Nat → Prop) (w w' : World) : Prop where
  os : w'.os = w.os
  tape : w'.tape = w.tape
  output : w'.output = w.output
  size : w.heap.size ≤ w'.heap.size
  block : ∀ k, k < w.heap.size → ¬ S k → w'.heap[k]? = w.heap[k]?
  drawn : w.drawn ≤ w'.drawn
def NoB : Nat → Prop := fun _ => False
abbrev Ext (w w' : World) : Prop := Keep NoB w w'
theorem Keep.refl (S : Nat → Prop) (w : World) : Keep S w w := ⟨rfl, rfl, rfl, Nat.le_refl _, fun _ _ _ => rfl, Nat.le_refl _⟩
theorem Ext.rfl' {w : World} : Ext w w := Keep.refl _ w
theorem Keep.trans {S : Nat → Prop} {a b c : World} (h : Keep S a b) (k : Keep S b c) : Keep S a c :=
  ⟨k.os.trans h.os, k.tape.trans h.tape, k.output.trans h.output, Nat.le_trans h.size k.size, fun i hi hs => (k.block i (Nat.lt_of_lt_of_le hi h.size) hs).trans (h.block i hi hs), Nat.le_trans h.drawn k.drawn⟩
theorem Keep.mono {S T : Nat → Prop} {a b : World} (h : Keep S a b) (hs : ∀ k, k < a.heap.size → S k → T k) : Keep T a b :=
  ⟨h.os, h.tape, h.output, h.size, fun i hi ht => h.block i hi fun hx => ht (hs i hi hx), h.drawn⟩
theorem Keep.comp {S T : Nat → Prop} {a b c : World} (h : Keep S a b) (k : Keep T b c) (hs : ∀ k, k < a.heap.size → T k → S k) : Keep S a c :=
  ⟨k.os.trans h.os, k.tape.trans h.tape, k.output.trans h.output, Nat.le_trans h.size k.size, fun i hi hS => (k.block i (Nat.lt_of_lt_of_le hi h.size) (fun ht => hS (hs i hi ht))).trans (h.block i hi hS), Nat.le_trans h.drawn k.drawn⟩
theorem Ext.keep {S : Nat → Prop} {a b : World} (h : Ext a b) : Keep S a b := h.mono fun _ _ f => f.elim
theorem Ext.below {a b : World} (h : Ext a b) : Below a.heap.size a b := ⟨h.os, h.tape, h.output, h.size, fun k hk => h.block k hk (fun f => f)⟩
theorem Ext.cell {a b : World} (h : Ext a b) {p : Addr} {v : Value} (hc : a.cell? p = some v) : b.cell? p = some v :=
  (World.cell?_of_block (h.block _ (World.block_lt_of_cell? a p hc) (fun f => f))).trans hc
theorem Ext.drew (w : World) : Ext w w.drew := ⟨rfl, rfl, rfl, Nat.le_refl _, fun _ _ _ => rfl, Nat.le_succ _⟩
theorem Ext.drewN (w : World) (n : Nat) : Ext w (w.drewN n) := ⟨rfl, rfl, rfl, Nat.le_refl _, fun _ _ _ => rfl, Nat.le_add_right _ _⟩
theorem Ext.alloc (w : World) (o : Obj) : Ext w (w.alloc o) := ⟨rfl, rfl, rfl, by simp, fun k hk _ => Below.heap_alloc w o k hk, Nat.le_refl _⟩
inductive Res where
  | obj (g : Nat) (o : Obj)
  | vec (A : Option Addr) (c : Nat) (e : TypeId) (sz n : Nat) (xs : List Value)
  | rd (A : Option Addr) (sz n : Nat) (xs : List Value)
/-- Cells that may be read at a slice's address. -/
def Rd (w : World) (A : Option Addr) (sz n : Nat) (xs : List Value) : Prop :=
  xs.length = n * sz ∧ (0 < n → ∃ g o, A = some ⟨g, o, none⟩ ∧ g < w.heap.size ∧ ∀ j u, xs[j]? = some u → w.cell? ⟨g, o + j, none⟩ = some u)
def Res.holds (w : World) : Res → Prop
  | .obj g o => w.heap[g]? = some o
  | .vec A c e sz n xs => w.ownsRow 0 e sz (.slice A n c) n xs
  | .rd A sz n xs => Rd w A sz n xs
def Res.own : Res → Option Nat
  | .obj g _ => some g
  | .vec A _ _ _ _ _ => A.map (·.block)
  | .rd _ _ _ _ => none
def Res.reads : Res → Option Nat
  | .rd A _ n _ => if n = 0 then none else A.map (·.block)
  | _ => none
def Res.compat (r s : Res) : Prop := ∀ g, (r.own = some g → s.own ≠ some g ∧ s.reads ≠ some g) ∧ (s.own = some g → r.own ≠ some g ∧ r.reads ≠ some g)
theorem Res.compat.symm {r s : Res} (h : r.compat s) : s.compat r := fun g => ⟨(h g).2, (h g).1⟩
structure St (S : Nat → Prop) (w0 w : World) (L : List Res) : Prop where
  keep : Keep S w0 w
  holds : ∀ r ∈ L, r.holds w
  own : ∀ r ∈ L, ∀ g, r.own = some g → S g ∨ w0.heap.size ≤ g
  apart : L.Pairwise Res.compat
theorem own_lt {r : Res} {w : World} (h : r.holds w) {g : Nat} (hg : r.own = some g) : g < w.heap.size := by
  cases r with
  | obj b o =>
    simp only [Res.own, Option.some.injEq] at hg
    subst hg
    exact (Array.getElem?_eq_some_iff.1 h).1
  | vec A c e sz n xs =>
    refine (World.ownsRow.lt h g ?_).2
    cases A <;> simp_all [Res.own, Value.ownBlock]
  | rd A sz n xs => simp [Res.own] at hg
theorem reads_lt {r : Res} {w : World} (h : r.holds w) {g : Nat} (hg : r.reads = some g) : g < w.heap.size := by
  cases r with
  | obj b o => simp [Res.reads] at hg
  | vec A c e sz n xs => simp [Res.reads] at hg
  | rd A sz n xs =>
    simp only [Res.reads] at hg
    split at hg
    · cases hg
    · obtain ⟨_, h2⟩ := h
      obtain ⟨b, o, rfl, hlt, _⟩ := h2 (by omega)
      simp at hg
      omega
theorem Rd.of_blocks {w w' : World} {A : Option Addr} {sz n : Nat} {xs : List Value} (h : Rd w A sz n xs) (hsz : w.heap.size ≤ w'.heap.size) (hb : ∀ g, (Res.rd A sz n xs).reads = some g → w'.heap[g]? = w.heap[g]?) : Rd w' A sz n xs := by
  refine ⟨h.1, fun hn => ?_⟩
  obtain ⟨g, o, rfl, hlt, hc⟩ := h.2 hn
  refine ⟨g, o, rfl, by omega, fun j u hu => ?_⟩
  have he := hb g (by simp [Res.reads, Nat.ne_of_gt hn])
  exact (World.cell?_of_block (a := ⟨g, o + j, none⟩) he).trans (hc j u hu)
theorem vec_of_blocks {w w' : World} {A : Option Addr} {c : Nat} {e : TypeId} {sz n : Nat} {xs : List Value} (h : w.ownsRow 0 e sz (.slice A n c) n xs) (hb : ∀ g, (Res.vec A c e sz n xs).own = some g → w'.heap[g]? = w.heap[g]?) : w'.ownsRow 0 e sz (.slice A n c) n xs := by
  refine ⟨h.1, ?_⟩
  rcases h.2 with h2 | ⟨g, cap, cur, hv, h0, hg, h3⟩
  · exact .inl h2
  · refine .inr ⟨g, cap, cur, hv, h0, ?_, h3⟩
    simp only [Value.slice.injEq] at hv
    rw [hb g (by simp [Res.own, hv.1])]
    exact hg
/-- A resource holds in whatever world has its blocks unturned. -/
theorem Res.holds_of {r : Res} {w w' : World} (h : r.holds w) (hsz : w.heap.size ≤ w'.heap.size) (ho : ∀ g, r.own = some g → w'.heap[g]? = w.heap[g]?) (hr : ∀ g, r.reads = some g → w'.heap[g]? = w.heap[g]?) : r.holds w' := by
  cases r with
  | obj g o => exact (ho g rfl).trans h
  | vec A c e sz n xs => exact vec_of_blocks h ho
  | rd A sz n xs => exact Rd.of_blocks h hsz hr
theorem Res.holds_ext {r : Res} {w w' : World} (h : r.holds w) (hE : Ext w w') : r.holds w' :=
  r.holds_of h hE.size (fun g hg => hE.block g (own_lt h hg) (fun f => f)) (fun g hg => hE.block g (reads_lt h hg) (fun f => f))
section
variable {S : Nat → Prop} {w0 w w' : World} {L L' : List Res} {r r' : Res}
theorem St.start {S : Nat → Prop} (w : World) : St S w w [] := ⟨Keep.refl _ _, by simp, by simp, .nil⟩
theorem St.ext (h : St S w0 w L) (hE : Ext w w') : St S w0 w' L :=
  ⟨h.keep.trans hE.keep, fun r hr => Res.holds_ext (h.holds r hr) hE, h.own, h.apart⟩
/-- Something that may be read is laid beside. It lies in no owned block. -/
theorem St.add_rd {A : Option Addr} {sz n : Nat} {xs : List Value} (h : St S w0 w L) (hr : Rd w A sz n xs) (hf : ∀ r ∈ L, ∀ g, r.own = some g → (Res.rd A sz n xs).reads ≠ some g) : St S w0 w (.rd A sz n xs :: L) := by
  refine ⟨h.keep, ?_, ?_, ?_⟩
  · intro r hr'
    rcases List.mem_cons.1 hr' with rfl | hr'
    · exact hr
    · exact h.holds r hr'
  · intro r hr' g hg
    rcases List.mem_cons.1 hr' with rfl | hr'
    · simp [Res.own] at hg
    · exact h.own r hr' g hg
  · refine List.pairwise_cons.2 ⟨fun s hs g => ⟨fun hg => by simp [Res.own] at hg, fun hg => ⟨by simp [Res.own], hf s hs g hg⟩⟩, h.apart⟩
/-- Something new, owned or to be read, whose blocks lie beyond all that was. -/
theorem St.add (h : St S w0 w L) (hE : Ext w w') (hr : r.holds w') (hf : ∀ g, r.own = some g ∨ r.reads = some g → w.heap.size ≤ g) : St S w0 w' (r :: L) := by
  have h' := h.ext hE
  refine ⟨h'.keep, ?_, ?_, ?_⟩
  · intro s hs
    rcases List.mem_cons.1 hs with rfl | hs
    · exact hr
    · exact h'.holds s hs
  · intro s hs g hg
    rcases List.mem_cons.1 hs with rfl | hs
    · exact .inr (Nat.le_trans h.keep.size (hf g (.inl hg)))
    · exact h'.own s hs g hg
  · refine List.pairwise_cons.2 ⟨fun s hs g => ⟨fun hg => ?_, fun hg => ?_⟩, h'.apart⟩
    · have h1 := hf g (.inl hg)
      exact ⟨fun e => by have := own_lt (h.holds s hs) e; omega, fun e => by have := reads_lt (h.holds s hs) e; omega⟩
    · have h1 := own_lt (h.holds s hs) hg
      exact ⟨fun e => by have := hf g (.inl e); omega, fun e => by have := hf g (.inr e); omega⟩
theorem St.alloc (h : St S w0 w L) (o : Obj) : St S w0 (w.alloc o) (.obj w.heap.size o :: L) :=
  h.add (Ext.alloc w o) (heap_alloc_new w o) (by
    intro g hg
    rcases hg with hg | hg
    · simp [Res.own] at hg; omega
    · simp [Res.reads] at hg)
/-- r stands in L; with r' in its place the list is L'. -/
inductive Upd : List Res → Res → Res → List Res → Prop
  | head {r r' : Res} {L : List Res} : Upd (r :: L) r r' (r' :: L)
  | tail {s r r' : Res} {L L' : List Res} : Upd L r r' L' → Upd (s :: L) r r' (s :: L')
theorem Upd.mem (h : Upd L r r' L') : r ∈ L := by
  induction h with
  | head => simp
  | tail _ ih => simp [ih]
theorem Upd.mem' (h : Upd L r r' L') : ∀ s ∈ L', s = r' ∨ s ∈ L := by
  induction h with
  | head => intro s hs; rcases List.mem_cons.1 hs with rfl | hs <;> simp_all
  | tail _ ih => intro s hs; rcases List.mem_cons.1 hs with rfl | hs
                 · simp
                 · rcases ih s hs with h | h <;> simp [h]
theorem Upd.pairwise (h : Upd L r r' L') (hp : L.Pairwise Res.compat) (hc : ∀ s ∈ L, r.compat s → r'.compat s) : L'.Pairwise Res.compat := by
  induction h with
  | head =>
    obtain ⟨h1, h2⟩ := List.pairwise_cons.1 hp
    exact List.pairwise_cons.2 ⟨fun s hs => hc s (by simp [hs]) (h1 s hs), h2⟩
  | tail hu ih =>
    obtain ⟨h1, h2⟩ := List.pairwise_cons.1 hp
    refine List.pairwise_cons.2 ⟨fun s hs => ?_, ih h2 (fun s hs => hc s (by simp [hs]))⟩
    rcases hu.mem' s hs with rfl | hs
    · exact (hc _ (by simp) (h1 _ hu.mem).symm).symm
    · exact h1 s hs
/-- of a resource that stands in a pairwise list: what is not it is compatible with it, or it is at its very place -/
theorem Upd.others (h : Upd L r r' L') (hp : L.Pairwise Res.compat) : ∀ s ∈ L', s = r' ∨ r.compat s := by
  induction h with
  | head =>
    obtain ⟨h1, _⟩ := List.pairwise_cons.1 hp
    intro s hs
    rcases List.mem_cons.1 hs with rfl | hs
    · exact .inl rfl
    · exact .inr (h1 s hs)
  | tail hu ih =>
    obtain ⟨h1, h2⟩ := List.pairwise_cons.1 hp
    intro s hs
    rcases List.mem_cons.1 hs with rfl | hs
    · exact .inr (h1 _ hu.mem).symm
    · exact ih h2 s hs
/-- One resource turns: the world changes in its own block alone (or new blocks are laid). -/
theorem St.turn (h : St S w0 w L) (hu : Upd L r r' L') (hk : Keep (fun k => r.own = some k) w w') (hr : r'.holds w')
    (ho : ∀ g, r'.own = some g → r.own = some g ∨ w.heap.size ≤ g) (hn : ∀ g, r'.reads = some g → r.own = some g ∨ r.reads = some g ∨ w.heap.size ≤ g) : St S w0 w' L' := by
  have hmem := hu.mem
  have hS : ∀ k, r.own = some k → S k ∨ w0.heap.size ≤ k := h.own r hmem
  refine ⟨?_, ?_, ?_, ?_⟩
  · exact h.keep.comp hk (fun k hk0 hk1 => by rcases hS k hk1 with h1 | h1; exact h1; omega)
  · intro s hs
    rcases hu.others h.apart s hs with rfl | hc
    · exact hr
    · have hs' : s ∈ L ∨ s = r' := (hu.mem' s hs).symm
      rcases hs' with hs' | rfl
      · refine s.holds_of (h.holds s hs') hk.size (fun g hg => hk.block g (own_lt (h.holds s hs') hg) (fun e => ((hc g).1 e).1 hg)) (fun g hg => hk.block g (reads_lt (h.holds s hs') hg) (fun e => ((hc g).1 e).2 hg))
      · exact hr
  · intro s hs g hg
    rcases hu.mem' s hs with rfl | hs
    · rcases ho g hg with h1 | h1
      · exact hS g h1
      · exact .inr (Nat.le_trans h.keep.size h1)
    · exact h.own s hs g hg
  · refine hu.pairwise h.apart fun s hs hc g => ?_
    have hs := h.holds s hs
    refine ⟨fun hg => ?_, fun hg => ?_⟩
    · rcases ho g hg with h1 | h1
      · exact (hc g).1 h1
      · exact ⟨fun e => by have := own_lt hs e; omega, fun e => by have := reads_lt hs e; omega⟩
    · refine ⟨fun e => ?_, fun e => ?_⟩
      · rcases ho g e with h1 | h1
        · exact ((hc g).1 h1).1 hg
        · have := own_lt hs hg; omega
      · rcases hn g e with h1 | h1 | h1
        · exact ((hc g).1 h1).1 hg
        · exact ((hc g).2 hg).2 h1
        · have := own_lt hs hg; omega
/-- A resource is taken for another one that says less of the same blocks. -/
theorem St.weaken (h : St S w0 w L) (hu : Upd L r r' L') (hr : r'.holds w) (ho : ∀ g, r'.own = some g → r.own = some g) (hn : ∀ g, r'.reads = some g → r.own = some g ∨ r.reads = some g) : St S w0 w L' :=
  h.turn hu (Keep.refl _ _) hr (fun g hg => .inl (ho g hg)) (fun g hg => by rcases hn g hg with h1 | h1; exact .inl h1; exact .inr (.inl h1))
/-- r stands in L; behind it L' is left. -/
inductive Del : List Res → Res → List Res → Prop
  | head {r : Res} {L : List Res} : Del (r :: L) r L
  | tail {s r : Res} {L L' : List Res} : Del L r L' → Del (s :: L) r (s :: L')
theorem Del.perm {L L' : List Res} {r : Res} (h : Del L r L') : L.Perm (r :: L') := by
  induction h with
  | head => exact .refl _
  | tail _ ih => exact (ih.cons _).trans (.swap _ _ _)
theorem St.perm (h : St S w0 w L) (hp : L.Perm L') : St S w0 w L' :=
  ⟨h.keep, fun r hr => h.holds r (hp.mem_iff.2 hr), fun r hr => h.own r (hp.mem_iff.2 hr), (hp.pairwise_iff (fun h => h.symm)).1 h.apart⟩
theorem St.drop (h : St S w0 w (r :: L)) : St S w0 w L :=
  ⟨h.keep, fun s hs => h.holds s (by simp [hs]), fun s hs => h.own s (by simp [hs]), (List.pairwise_cons.1 h.apart).2⟩
/-- L' is chosen out of L, in any order. -/
inductive Sel : List Res → List Res → Prop
  | nil {L : List Res} : Sel [] L
  | cons {r : Res} {L L1 L' : List Res} : Del L r L1 → Sel L' L1 → Sel (r :: L') L
theorem Sel.sub {L L' : List Res} (h : Sel L' L) : ∃ M, L.Perm (L' ++ M) := by
  induction h with
  | nil => exact ⟨_, .refl _⟩
  | cons hd _ ih =>
    obtain ⟨M, hM⟩ := ih
    exact ⟨M, hd.perm.trans (hM.cons _)⟩
theorem St.left {L M : List Res} (h : St S w0 w (L ++ M)) : St S w0 w L :=
  ⟨h.keep, fun s hs => h.holds s (by simp [hs]), fun s hs => h.own s (by simp [hs]), (List.pairwise_append.1 h.apart).1⟩
theorem St.sel (h : St S w0 w L) (hs : Sel L' L) : St S w0 w L' := by
  obtain ⟨M, hM⟩ := hs.sub
  exact (h.perm hM).left
/-- A resource that stands there. -/
inductive Has : List Res → Res → Prop
  | head {r : Res} {L : List Res} : Has (r :: L) r
  | tail {s r : Res} {L : List Res} : Has L r → Has (s :: L) r
theorem Has.mem {L : List Res} {r : Res} (h : Has L r) : r ∈ L := by
  induction h with
  | head => simp
  | tail _ ih => simp [ih]
theorem St.has (h : St S w0 w L) (hr : Has L r) : r.holds w := h.holds r hr.mem
theorem St.ext_of (h : St NoB w0 w L) : Ext w0 w := h.keep
end
end Go.Proofs.YtffmanidnlbjjaaGreat
namespace Go.Proofs.YtffmanidnlbjjaaGreat
open Go.RowKit
def fr (l : List Value) : Act := { tmps := l.toArray, defers := [] }
def opv (l : List Value) : Operand → Value
  | .tmp t => l.getD t undef
  | .const v => v
  | .global g => .pointer (some ⟨g, 0, none⟩)
  | .func f => .func (.func f) #[] #[]
theorem eval_fr (l : List Value) : (fr l).eval = opv l := by
  funext x
  cases x <;> simp [fr, opv, Act.eval, Array.getD_eq_getD_getElem?, List.getD]
theorem put_fr (l : List Value) (d : Nat) (v : Value) : (fr l).put (some d) v = fr (l.set d v) := by simp [fr, Act.put]
theorem put_fr_none (l : List Value) (v : Value) : (fr l).put none v = fr l := rfl
theorem n1 {v : Value} {l : List Value} {n : Nat} {d : Value} : (v :: l).getD (n + 1) d = l.getD n d := List.getD_cons_succ
theorem n2 {v : Value} {l : List Value} {d : Value} : (v :: l).getD 0 d = v := List.getD_cons_zero
theorem n3 {v u : Value} {l : List Value} {n : Nat} : (v :: l).set (n + 1) u = v :: l.set n u := List.set_cons_succ
theorem n4 {v u : Value} {l : List Value} : (v :: l).set 0 u = u :: l := List.set_cons_zero
def ic (k : IntKind) (l : List Int) : Array Value := (l.map (Value.int k)).toArray
@[simp] theorem ic_size (k : IntKind) (l : List Int) : (ic k l).size = l.length := by simp [ic]
theorem ic_get {k : IntKind} {l : List Int} {i : Nat} (h : i < l.length) : (ic k l)[i]? = some (.int k (l.getD i 0)) := by
  simp [ic, List.getElem?_eq_getElem h, List.getD]
theorem il_get {k : IntKind} {l : List Int} {i : Nat} (h : i < l.length) : (l.map (Value.int k))[i]? = some (.int k (l.getD i 0)) := by
  simp [List.getElem?_eq_getElem h, List.getD]
theorem ic_one (k : IntKind) (l : List Int) : ∀ u ∈ (ic k l).toList, u.oneCell' = true := by
  intro u hu; simp [ic] at hu; obtain ⟨a, _, rfl⟩ := hu; rfl
theorem il_one (k : IntKind) (l : List Int) : ∀ u ∈ l.map (Value.int k), u.oneCell' = true := by
  intro u hu; simp at hu; obtain ⟨a, _, rfl⟩ := hu; rfl

/-- written slots hold whatever they hold -/
def clob (l : List Value) (V : List Nat) (f : Nat → Value) : List Value := V.foldl (fun l d => l.set d (f d)) l
theorem set_getD (l : List Value) (d : Nat) : l.set d (l.getD d undef) = l := by
  by_cases h : d < l.length
  · rw [List.getD_eq_getElem?_getD, List.getElem?_eq_getElem h]; simp
  · rw [List.set_eq_of_length_le (by omega)]
theorem clob_self (l : List Value) (V : List Nat) : clob l V (fun d => l.getD d undef) = l := by
  suffices h : ∀ m : List Value, m = l → V.foldl (fun m d => m.set d (l.getD d undef)) m = l from h l rfl
  induction V with
  | nil => exact fun m hm => hm
  | cons d V ih =>
    intro m hm
    subst hm
    exact ih _ (set_getD m d)
def look (i : Nat) : List (Nat × (Act → World → Prop)) → Act → World → Prop
  | [], _, _ => False
  | (j, k) :: ex, a, w => if i = j then k a w else look i ex a w
/-- What stands behind a piece of code: on, out by a return, out of a block. -/
def Qx (n r : Act → World → Prop) (ex : List (Nat × (Act → World → Prop))) : Exit → Act → World → Prop
  | .normal, a, w => n a w
  | .ret, a, w => r a w
  | .exit i, a, w => look i ex a w
  | _, _, _ => False
/-- the walk over a list of operations, shut -/
structure WL (P : Program) (ops : Array Oper) (Q : Exit → Act → World → Prop) (os : List Oper) (a : Act) (w : World) : Prop where
  run : wpList P ops Q os a w
section
variable {P : Program} {n r : Act → World → Prop} {ex : List (Nat × (Act → World → Prop))} {a : Act} {w w' : World} {l : List Value}
theorem x_seq {x y : Code} (h : ∀ K : Act → World → Prop, (∀ a w, y.wp P (Qx n r ex) a w → K a w) → x.wp P (Qx K r ex) a w) : (Code.seq x y).wp P (Qx n r ex) a w :=
  wp_seq (wp_mono (h _ fun _ _ h => h) fun e a w q => by cases e <;> first | exact q | exact q.elim)
theorem x_block {id : Nat} {c : Code} (h : c.wp P (Qx n r ((id, n) :: ex)) a w) : (Code.block id c).wp P (Qx n r ex) a w :=
  wp_block (wp_mono h fun e a w q => by
    cases e with
    | exit i =>
      simp only [Exit.inBlock, Qx, look] at q ⊢
      split
      · rename_i hi; rw [if_pos hi] at q; exact q
      · rename_i hi; rw [if_neg hi] at q; exact q
    | _ => first | exact q | exact q.elim)
theorem x_exit {id : Nat} (h : look id ex a w) : (Code.exit id).wp P (Qx n r ex) a w := wp_exit h
theorem look_here {id : Nat} {k : Act → World → Prop} (h : k a w) : look id ((id, k) :: ex) a w := by simp only [look]; exact h
theorem look_on {i j : Nat} {k : Act → World → Prop} (hne : i ≠ j) (h : look i ex a w) : look i ((j, k) :: ex) a w := by simp only [look, if_neg hne]; exact h
theorem x_ret (h : r a w) : Code.ret.wp P (Qx n r ex) a w := wp_ret h
theorem x_skip (h : n a w) : Code.skip.wp P (Qx n r ex) a w := wp_skip h
theorem x_label {i : Nat} (h : n a w) : (Code.label i).wp P (Qx n r ex) a w := wp_label h
theorem x_cond_t {c : Operand} {x y : Code} (hc : opv l c = .bool true := by rfl) (h : x.wp P (Qx n r ex) (fr l) w) : (Code.cond c x y).wp P (Qx n r ex) (fr l) w := wp_cond_true (by rw [eval_fr]; exact hc) h
theorem x_cond_f {c : Operand} {x y : Code} (hc : opv l c = .bool false := by rfl) (h : y.wp P (Qx n r ex) (fr l) w) : (Code.cond c x y).wp P (Qx n r ex) (fr l) w := wp_cond_false (by rw [eval_fr]; exact hc) h
theorem x_cond {c : Operand} {x y : Code} {b : Bool} (hc : opv l c = .bool b := by rfl) (ht : b = true → x.wp P (Qx n r ex) (fr l) w) (hf : b = false → y.wp P (Qx n r ex) (fr l) w) : (Code.cond c x y).wp P (Qx n r ex) (fr l) w :=
  wp_cond_split (by rw [eval_fr]; exact hc) ht hf
theorem wl_plain {o : Oper} {ops : Array Oper} {rest : List Oper} {Q : Exit → Act → World → Prop} (hg : o.guard = none) (h : ∀ K : Act → World → Prop, (∀ a w, WL P ops Q rest a w → K a w) → o.wp P a w K Q) : WL P ops Q (o :: rest) a w := ⟨wpList_plain hg fun K hK => h K fun a w hh => hK a w hh.run⟩
theorem x_region {id : Nat} {ops : List Oper} (h : WL P ops.toArray (Qx n r ex) ops a w) : (Code.region id ops.toArray false).wp P (Qx n r ex) a w := wp_region_lit h.run
theorem x_nil {ops : Array Oper} (h : n a w) : WL P ops (Qx n r ex) [] a w := ⟨h⟩
def LoopJ (I : Nat → (Nat → Value) → World → Prop) (l : List Value) (V : List Nat) (m : Nat) (a' : Act) (w' : World) : Prop := ∃ m' f', a' = fr (clob l V f') ∧ I m' f' w' ∧ m' < m
theorem loop_back {I : Nat → (Nat → Value) → World → Prop} {l lnow : List Value} {V : List Nat} {m m' : Nat} {w : World} (he : lnow = clob l V (fun d => lnow.getD d undef)) (hI : I m' (fun d => lnow.getD d undef) w) (hm : m' < m) : LoopJ I l V m (fr lnow) w :=
  ⟨m', _, congrArg fr he, hI, hm⟩
theorem x_loop {c : Code} (V : List Nat) (I : Nat → (Nat → Value) → World → Prop) (m0 : Nat) (h0 : I m0 (fun d => l.getD d undef) w)
    (hr : ∀ m f w, I m f w → c.wp P (Qx (LoopJ I l V m) r ex) (fr (clob l V f)) w) : (Code.loop c).wp P (Qx n r ex) (fr l) w := by
  let J : Nat → Act → World → Prop := fun m a w => ∃ f, a = fr (clob l V f) ∧ I m f w
  have key : ∀ m a w, J m a w → (Code.loop c).wp P (Qx n r ex) a w := by
    intro m
    induction m using Nat.strongRecOn with
    | _ m ih =>
      rintro a w ⟨f, rfl, hI⟩
      -- one round of the loop, then the loop again
      refine wp_loop (fun a' w' => ∃ m' ≤ m, J m' a' w') (fun a' w' => Classical.epsilon fun k => (∃ f, a' = fr (clob l V f) ∧ I k f w') ∧ ∀ j, (∃ f, a' = fr (clob l V f) ∧ I j f w') → k ≤ j) ⟨m, Nat.le_refl _, f, rfl, hI⟩ ?_
      rintro a1 w1 ⟨m1, hm1, hJ1⟩
      -- the least number that fits
      have hex : ∃ k, J k a1 w1 := ⟨m1, hJ1⟩
      have hleast : ∃ k, J k a1 w1 ∧ ∀ j, J j a1 w1 → k ≤ j := by
        refine Nat.strongRecOn (motive := fun q => J q a1 w1 → ∃ k, J k a1 w1 ∧ ∀ j, J j a1 w1 → k ≤ j) m1 (fun q ihq hq => ?_) hJ1
        by_cases hx : ∃ j, j < q ∧ J j a1 w1
        · obtain ⟨j, hj, hjj⟩ := hx
          exact ihq j hj hjj
        · exact ⟨q, hq, fun j hj => by
            rcases Nat.lt_or_ge j q with h | h
            · exact absurd ⟨j, h, hj⟩ hx
            · exact h⟩
      have hk := Classical.epsilon_spec hleast
      generalize hke : (Classical.epsilon fun k => (∃ f, a1 = fr (clob l V f) ∧ I k f w1) ∧ ∀ j, (∃ f, a1 = fr (clob l V f) ∧ I j f w1) → k ≤ j) = k at hk ⊢
      obtain ⟨⟨f1, rfl, hI1⟩, hmin⟩ := hk
      have hkm : k ≤ m := Nat.le_trans (hmin m1 hJ1) hm1
      refine wp_mono (hr k f1 w1 hI1) fun e a2 w2 q => ?_
      cases e with
      | normal =>
        obtain ⟨m2, f2, rfl, hI2, hlt⟩ := q
        refine ⟨⟨m2, by omega, f2, rfl, hI2⟩, ?_⟩
        have h2 : ∃ k', J k' (fr (clob l V f2)) w2 ∧ ∀ j, J j (fr (clob l V f2)) w2 → k' ≤ j := by
          refine Nat.strongRecOn (motive := fun q => J q (fr (clob l V f2)) w2 → ∃ k, J k (fr (clob l V f2)) w2 ∧ ∀ j, J j (fr (clob l V f2)) w2 → k ≤ j) m2 (fun q ihq hq => ?_) ⟨f2, rfl, hI2⟩
          by_cases hx : ∃ j, j < q ∧ J j (fr (clob l V f2)) w2
          · obtain ⟨j, hj, hjj⟩ := hx
            exact ihq j hj hjj
          · exact ⟨q, hq, fun j hj => by
              rcases Nat.lt_or_ge j q with h | h
              · exact absurd ⟨j, h, hj⟩ hx
              · exact h⟩
        have hs := Classical.epsilon_spec h2
        exact Nat.lt_of_le_of_lt (hs.2 m2 ⟨f2, rfl, hI2⟩) hlt
      | ret => exact q
      | exit i => exact q
      | goto i => exact q.elim
      | panic ch => exact q.elim
      | outgrown => exact q.elim
  have := key m0 (fr l) w ⟨fun d => l.getD d undef, by rw [clob_self], h0⟩
  exact this
end
end Go.Proofs.YtffmanidnlbjjaaGreat
namespace Go.Proofs.YtffmanidnlbjjaaGreat
open Go.RowKit
/-- a type's size in cells and in bytes, and its zero value -/
def TI (P : Program) (t : TypeId) (sz by' : Nat) (z : Value) : Prop := ∃ i, P.info? t = some i ∧ i.size = sz ∧ i.bytes = by' ∧ i.zero = some z
theorem TI.of {P : Program} {t : TypeId} {sz by' : Nat} {z : Value} (h : (P.info? t).map (fun i => (i.size, i.bytes, i.zero)) = some (sz, by', some z)) : TI P t sz by' z := by
  cases hi : P.info? t with
  | none => rw [hi] at h; cases h
  | some i => rw [hi] at h; simp at h; exact ⟨i, hi, h.1, h.2.1, h.2.2⟩
section
variable {P : Program} {ops : Array Oper} {Q : Exit → Act → World → Prop} {rest : List Oper} {l : List Value} {w w' : World} {d : Nat} {ty : TypeId} {pos : String} {aft : Array Edge}
/-- an operation that yields a value and turns nothing -/
def Go1 (P : Program) (l : List Value) (w : World) (o : Oper) (v : Value) : Prop := (execOp (opv l) o).run P w = .ok (.value v) w
theorem s_val {op : Op} {v : Value} (hr : (execOp (opv l) ⟨some d, op, ty, pos, aft, none⟩).run P w = .ok (.value v) w') (h : WL P ops Q rest (fr (l.set d v)) w') : WL P ops Q (⟨some d, op, ty, pos, aft, none⟩ :: rest) (fr l) w :=
  wl_plain rfl fun K hK => by
    unfold Oper.wp
    rw [eval_fr, hr]
    simp only [Oper.upon_value, put_fr]
    exact hK _ _ h
theorem s_unit {op : Op} (hr : (execOp (opv l) ⟨none, op, ty, pos, aft, none⟩).run P w = .ok .skip w') (h : WL P ops Q rest (fr l) w') : WL P ops Q (⟨none, op, ty, pos, aft, none⟩ :: rest) (fr l) w :=
  wl_plain rfl fun K hK => by
    unfold Oper.wp
    rw [eval_fr, hr]
    simp only [Oper.upon_skip, put_fr_none]
    exact hK _ _ h
theorem s_go {op : Op} {v : Value} (hr : Go1 P l w ⟨some d, op, ty, pos, aft, none⟩ v) (h : WL P ops Q rest (fr (l.set d v)) w) : WL P ops Q (⟨some d, op, ty, pos, aft, none⟩ :: rest) (fr l) w := s_val hr h
theorem yi {os : List Oper} {l : List Value} {j t : Nat} {b : Bool} (ho : ((os[j]?).bind (·.dst)) = some t) (hl : l[t]? = some (.bool b)) : yielded os.toArray l.toArray j = some b := by
  simp [yielded, ho, hl]
theorem yn {os : List Oper} {l : List Value} {j t : Nat} (ho : ((os[j]?).bind (·.dst)) = some t) (hl : l[t]? = some undef) : yielded os.toArray l.toArray j = none := by
  simp [yielded, ho, hl, undef]
/-- a guard that says yes -/
theorem g_on {dst : Option Nat} {op : Op} {g : Nat × Bool} (hg : yielded ops (l.toArray) g.1 = some g.2) (h : WL P ops Q (⟨dst, op, ty, pos, aft, none⟩ :: rest) (fr l) w) : WL P ops Q (⟨dst, op, ty, pos, aft, some g⟩ :: rest) (fr l) w := by
  obtain ⟨h⟩ := h
  refine ⟨?_⟩
  unfold wpList at h ⊢
  have h1 : Region.wanted ⟨dst, op, ty, pos, aft, some g⟩ (yielded ops (fr l).tmps) = true := by simp [Region.wanted, fr, hg]
  have h2 : Region.wanted ⟨dst, op, ty, pos, aft, none⟩ (yielded ops (fr l).tmps) = true := by simp [Region.wanted]
  rw [if_pos h1]
  rw [if_pos h2] at h
  exact h
/-- a guard that says no -/
theorem g_off {op : Op} {g : Nat × Bool} (hg : yielded ops (l.toArray) g.1 = some (!g.2)) (h : WL P ops Q rest (fr (l.set d undef)) w) : WL P ops Q (⟨some d, op, ty, pos, aft, some g⟩ :: rest) (fr l) w := by
  obtain ⟨h⟩ := h
  refine ⟨?_⟩
  unfold wpList
  have h1 : Region.wanted ⟨some d, op, ty, pos, aft, some g⟩ (yielded ops (fr l).tmps) = false := by simp [Region.wanted, fr, hg]
  simp only [h1, Bool.false_eq_true, if_false, put_fr]
  exact h
/-- a guard whose own operation was passed over says no -/
theorem g_un {op : Op} {g : Nat × Bool} (hg : yielded ops (l.toArray) g.1 = none) (h : WL P ops Q rest (fr (l.set d undef)) w) : WL P ops Q (⟨some d, op, ty, pos, aft, some g⟩ :: rest) (fr l) w := by
  obtain ⟨h⟩ := h
  refine ⟨?_⟩
  unfold wpList
  have h1 : Region.wanted ⟨some d, op, ty, pos, aft, some g⟩ (yielded ops (fr l).tmps) = false := by simp [Region.wanted, fr, hg]
  simp only [h1, Bool.false_eq_true, if_false, put_fr]
  exact h
/-- the walk parts on a Bool in a slot -/
theorem s_part {os : List Oper} (t : Nat) {b : Bool} (hb : l.getD t undef = .bool b) (ht : b = true → WL P ops Q os (fr (l.set t (.bool true))) w) (hf : b = false → WL P ops Q os (fr (l.set t (.bool false))) w) : WL P ops Q os (fr l) w := by
  cases b
  · have := hf rfl; rw [← hb, set_getD] at this; exact this
  · have := ht rfl; rw [← hb, set_getD] at this; exact this
theorem s_move {x : Operand} : Go1 P l w ⟨some d, .move x, ty, pos, aft, none⟩ (opv l x) := (by unfold Go1; simp [execOp])
theorem s_assign {x : Operand} : Go1 P l w ⟨some d, .assign x, ty, pos, aft, none⟩ (opv l x) := (by unfold Go1; simp [execOp])
theorem s_pick_t {c x y : Operand} (hc : opv l c = .bool true := by rfl) : Go1 P l w ⟨some d, .pick c x y, ty, pos, aft, none⟩ (opv l x) := (by unfold Go1; simp [execOp, hc, asBool])
theorem s_pick_f {c x y : Operand} (hc : opv l c = .bool false := by rfl) : Go1 P l w ⟨some d, .pick c x y, ty, pos, aft, none⟩ (opv l y) := (by unfold Go1; simp [execOp, hc, asBool])
theorem s_extract {x : Operand} {i : Nat} {vs : Array Value} {v : Value} (hx : opv l x = .tuple vs := by rfl) (hv : vs[i]? = some v := by rfl) : Go1 P l w ⟨some d, .extract x i, ty, pos, aft, none⟩ v := (by unfold Go1; simp [execOp, hx, Instr.extract, hv])
section
variable {x y : Operand} {T yT : TypeId} {k : IntKind} {a b c : Int}
theorem s_add (hx : opv l x = .int k a := by rfl) (hy : opv l y = .int k b := by rfl) (hc : k.wrap (a + b) = c) : Go1 P l w ⟨some d, .binOp .add T x y yT, ty, pos, aft, none⟩ (.int k c) :=
  (by subst hc; unfold Go1; simp [execOp, hx, hy, eqGuard, binOp, Op.intArith])
theorem s_sub (hx : opv l x = .int k a := by rfl) (hy : opv l y = .int k b := by rfl) (hc : k.wrap (a - b) = c) : Go1 P l w ⟨some d, .binOp .sub T x y yT, ty, pos, aft, none⟩ (.int k c) :=
  (by subst hc; unfold Go1; simp [execOp, hx, hy, eqGuard, binOp, Op.intArith])
theorem s_mul (hx : opv l x = .int k a := by rfl) (hy : opv l y = .int k b := by rfl) (hc : k.wrap (a * b) = c) : Go1 P l w ⟨some d, .binOp .mul T x y yT, ty, pos, aft, none⟩ (.int k c) :=
  (by subst hc; unfold Go1; simp [execOp, hx, hy, eqGuard, binOp, Op.intArith])
theorem s_quo (hx : opv l x = .int k a := by rfl) (hy : opv l y = .int k b := by rfl) (hb : b ≠ 0 := by first | decide | omega) (hc : k.wrap (a.tdiv b) = c) : Go1 P l w ⟨some d, .binOp .quo T x y yT, ty, pos, aft, none⟩ (.int k c) :=
  (by subst hc; unfold Go1; simp [execOp, hx, hy, eqGuard, binOp, Op.intDiv, hb])
theorem s_rem (hx : opv l x = .int k a := by rfl) (hy : opv l y = .int k b := by rfl) (hb : b ≠ 0 := by first | decide | omega) (hc : a.tmod b = c) : Go1 P l w ⟨some d, .binOp .rem T x y yT, ty, pos, aft, none⟩ (.int k c) :=
  (by subst hc; unfold Go1; simp [execOp, hx, hy, eqGuard, binOp, Op.intDiv, hb])
theorem s_lss (hx : opv l x = .int k a := by rfl) (hy : opv l y = .int k b := by rfl) : Go1 P l w ⟨some d, .binOp .lss T x y yT, ty, pos, aft, none⟩ (.bool (decide (a < b))) :=
  (by unfold Go1; simp [execOp, hx, hy, eqGuard, binOp, Op.intCmp])
theorem s_leq (hx : opv l x = .int k a := by rfl) (hy : opv l y = .int k b := by rfl) : Go1 P l w ⟨some d, .binOp .leq T x y yT, ty, pos, aft, none⟩ (.bool (decide (a ≤ b))) :=
  (by unfold Go1; simp [execOp, hx, hy, eqGuard, binOp, Op.intCmp])
theorem s_gtr (hx : opv l x = .int k a := by rfl) (hy : opv l y = .int k b := by rfl) : Go1 P l w ⟨some d, .binOp .gtr T x y yT, ty, pos, aft, none⟩ (.bool (decide (b < a))) :=
  (by unfold Go1; simp [execOp, hx, hy, eqGuard, binOp, Op.intCmp])
theorem s_geq (hx : opv l x = .int k a := by rfl) (hy : opv l y = .int k b := by rfl) : Go1 P l w ⟨some d, .binOp .geq T x y yT, ty, pos, aft, none⟩ (.bool (decide (b ≤ a))) :=
  (by unfold Go1; simp [execOp, hx, hy, eqGuard, binOp, Op.intCmp])
theorem s_eql (hx : opv l x = .int k a := by rfl) (hy : opv l y = .int k b := by rfl) : Go1 P l w ⟨some d, .binOp .eql T x y yT, ty, pos, aft, none⟩ (.bool (decide (a = b))) := by
  have e : (a == b) = decide (a = b) := by by_cases e : a = b <;> simp [e]
  unfold Go1
  simp [execOp, hx, hy, eqGuard, binOp, Op.intCmp, e]
theorem s_neq (hx : opv l x = .int k a := by rfl) (hy : opv l y = .int k b := by rfl) : Go1 P l w ⟨some d, .binOp .neq T x y yT, ty, pos, aft, none⟩ (.bool (decide (a ≠ b))) := by
  have e : (a != b) = decide (a ≠ b) := by by_cases e : a = b <;> simp [e, bne]
  unfold Go1
  rw [← e]
  simp [execOp, hx, hy, eqGuard, binOp, Op.intCmp]
theorem s_bits {op : BinOp} (hop : op = .and ∨ op = .or ∨ op = .xor ∨ op = .andNot) (hx : opv l x = .int k a := by rfl) (hy : opv l y = .int k b := by rfl) (hc : bits op k a b = c) : Go1 P l w ⟨some d, .binOp op T x y yT, ty, pos, aft, none⟩ (.int k c) := by
  subst hc
  rcases hop with rfl | rfl | rfl | rfl <;> exact (by unfold Go1; simp [execOp, hx, hy, eqGuard, binOp, Op.intBits, bits])
theorem s_shl {ky : IntKind} (hx : opv l x = .int k a := by rfl) (hy : opv l y = .int ky b := by rfl) (hb : 0 ≤ b := by first | decide | omega) (hc : k.wrap (a * 2 ^ (min b.toNat k.bits)) = c) : Go1 P l w ⟨some d, .binOp .shl T x y yT, ty, pos, aft, none⟩ (.int k c) :=
  (by subst hc; unfold Go1; simp [execOp, hx, hy, eqGuard, binOp, Op.shift, Int.not_lt.2 hb])
theorem s_shr {ky : IntKind} (hx : opv l x = .int k a := by rfl) (hy : opv l y = .int ky b := by rfl) (hb : 0 ≤ b := by first | decide | omega) (hc : a.fdiv (2 ^ (min b.toNat k.bits)) = c) : Go1 P l w ⟨some d, .binOp .shr T x y yT, ty, pos, aft, none⟩ (.int k c) :=
  (by subst hc; unfold Go1; simp [execOp, hx, hy, eqGuard, binOp, Op.shift, Int.not_lt.2 hb])
theorem s_conv {S D : TypeId} {k' : IntKind} (hS : P.underlying S = some (.int k)) (hD : P.underlying D = some (.int k')) (hx : opv l x = .int k a := by rfl) (hc : k'.wrap a = c) : Go1 P l w ⟨some d, .convert S D x, ty, pos, aft, none⟩ (.int k' c) :=
  (by subst hc; unfold Go1; simp [execOp, hx, convert, run_underlying hS, run_underlying hD, Conv.intToInt])
theorem s_not {v : Bool} (hx : opv l x = .bool v := by rfl) : Go1 P l w ⟨some d, .unOp .not T x, ty, pos, aft, none⟩ (.bool (!v)) :=
  (by unfold Go1; simp [execOp, hx, Op.unary])
theorem run_eq_bool {P : Program} {w : World} {T : TypeId} (hT : P.underlying T = some .bool) (u v : Bool) : (Op.equal T (.bool u) (.bool v)).run P w = .ok (u == v) w := run_equalIn_bool' (P := P) w 9999 T u v hT
theorem s_neq_bool {u v : Bool} (hT : P.underlying T = some .bool) (hx : opv l x = .bool u := by rfl) (hy : opv l y = .bool v := by rfl) : Go1 P l w ⟨some d, .binOp .neq T x y yT, ty, pos, aft, none⟩ (.bool (!(u == v))) :=
  (by unfold Go1; simp [execOp, hx, hy, eqGuard, binOp, run_eq_bool hT])
theorem s_max {tys : Array TypeId} (hx : opv l x = .int k a := by rfl) (hy : opv l y = .int k b := by rfl) : Go1 P l w ⟨some d, .call { callee := .builtin .max, args := #[x, y], argTypes := tys }, ty, pos, aft, none⟩ (.int k (max a b)) := by
  have e : (if b > a then b else a) = max a b := by simp only [Int.max_def]; split <;> split <;> omega
  unfold Go1
  rw [← e]
  simp [execOp, resolve, invoke, builtin, hx, hy, Builtin.max_, Builtin.max2]
end
theorem s_len_str {x : Operand} {T : TypeId} {s : ByteArray} (hT : P.underlying T = some .string) (hx : opv l x = .string s := by rfl) : Go1 P l w ⟨some d, .call { callee := .builtin .len, args := #[x], argTypes := #[T] }, ty, pos, aft, none⟩ (.int .i64 s.size) :=
  (by unfold Go1; simp [execOp, resolve, invoke, builtin, hx, Builtin.len_, run_underlying hT, goInt])
theorem s_len_sl {x : Operand} {T e : TypeId} {A : Option Addr} {n c : Nat} (hT : P.underlying T = some (.slice e)) (hx : opv l x = .slice A n c := by rfl) : Go1 P l w ⟨some d, .call { callee := .builtin .len, args := #[x], argTypes := #[T] }, ty, pos, aft, none⟩ (.int .i64 n) :=
  (by unfold Go1; simp [execOp, resolve, invoke, builtin, hx, Builtin.len_, run_underlying hT, goInt])
theorem s_makeFunc {fn : Fn} {f c : Array Operand} : Go1 P l w ⟨some d, .makeFunc fn f c, ty, pos, aft, none⟩ (.func fn (f.map (opv l)) (c.map (opv l))) :=
  (by unfold Go1; simp [execOp, Instr.makeFunc])
def isAggD : TypeDesc → Bool
  | .struct _ | .array _ _ => true
  | _ => false
theorem run_isAgg_yes {P : Program} {t : TypeId} {dsc : TypeDesc} (hu : P.underlying t = some dsc) (hd : isAggD dsc = true) (w : World) : (isAgg t).run P w = .ok true w := by
  cases dsc <;> simp_all [isAgg, run_underlying hu, isAggD]
theorem run_isAgg_no {P : Program} {t : TypeId} {dsc : TypeDesc} (hu : P.underlying t = some dsc) (hd : isAggD dsc = false) (w : World) : (isAgg t).run P w = .ok false w := by
  cases dsc <;> simp_all [isAgg, run_underlying hu, isAggD]
theorem part_agg {P : Program} {w : World} {t : TypeId} {cs : Array Value} {off sz by' : Nat} {z : Value} {dsc : TypeDesc} (hu : P.underlying t = some dsc) (hd : isAggD dsc = true) (hi : TI P t sz by' z) :
    (part t cs off).run P w = .ok (.agg (cs.extract off (off + sz))) w := by
  obtain ⟨i, hi, rfl, _, _⟩ := hi
  simp [part, run_isAgg_yes hu hd, sizeOf, typeInfo, hi]
theorem part_one {P : Program} {w : World} {t : TypeId} {cs : Array Value} {off : Nat} {v : Value} {dsc : TypeDesc} (hu : P.underlying t = some dsc) (hd : isAggD dsc = false) (hv : cs[off]? = some v := by first | rfl | exact ic_get (by first | omega | (simp [*]; done) | (simp [*]; omega))) :
    (part t cs off).run P w = .ok v w := by
  simp [part, run_isAgg_no hu hd, hv]
theorem s_index_one {x y : Operand} {T e : TypeId} {n sz by' : Nat} {z : Value} {k : IntKind} {i : Int} {cs : Array Value} {v : Value} {dsc : TypeDesc} (hT : P.underlying T = some (.array n e)) (hi : TI P e sz by' z) (hu : P.underlying e = some dsc) (hd : isAggD dsc = false := by rfl)
    (hx : opv l x = .agg cs := by rfl) (hy : opv l y = .int k i := by rfl) (h0 : 0 ≤ i := by omega) (h1 : i < n := by omega) (hv : cs[i.toNat * sz]? = some v := by first | rfl | exact ic_get (by first | omega | (simp [*]; done) | (simp [*]; omega))) : Go1 P l w ⟨some d, .index T x y, ty, pos, aft, none⟩ v := by
  obtain ⟨i', hi', rfl, _, _⟩ := hi
  exact (by unfold Go1; simp [execOp, Instr.index, run_underlying hT, hx, hy, asIntOf, h0, h1, sizeOf, typeInfo, hi', part_one hu hd hv])
theorem s_index_str {x y : Operand} {T : TypeId} {s : ByteArray} {k : IntKind} {i : Int} {b : UInt8} (hT : P.underlying T = some .string) (hx : opv l x = .string s := by rfl) (hy : opv l y = .int k i := by rfl) (h0 : 0 ≤ i := by omega) (hb : s[i.toNat]? = some b) : Go1 P l w ⟨some d, .index T x y, ty, pos, aft, none⟩ (.int .u8 b.toNat) :=
  (by unfold Go1; simp [execOp, Instr.index, run_underlying hT, hx, hy, asIntOf, h0, hb])
/-- A call comes back with a value. -/
def CallR (P : Program) (f : FuncId) (args : Array Value) (w : World) (R : Value → World → Prop) : Prop := Calls P f args w fun e w' => ∃ v, e = .returned v ∧ R v w'
theorem CallR.mono {f : FuncId} {args : Array Value} {w : World} {R R' : Value → World → Prop} (h : CallR P f args w R) (hr : ∀ v w', R v w' → R' v w') : CallR P f args w R' :=
  Calls.mono h fun _ _ ⟨v, he, q⟩ => ⟨v, he, hr _ _ q⟩
theorem s_call_any {o : Oper} {f : Nat} {args : Array Value} {K : Act → World → Prop} {Q : Exit → Act → World → Prop} (hr : (execOp (opv l) o).run P w = .ok (.enter f args) w) (h : CallR P f args w fun v w'' => K ((fr l).put o.dst v) w'') : o.wp P (fr l) w K Q := by
  unfold Oper.wp
  rw [eval_fr, hr, Oper.upon_enter]
  refine Calls.mono h ?_
  rintro e w1 ⟨v, rfl, q⟩
  exact q
theorem s_call {f : Nat} {args : Array Operand} {tys : Array TypeId} (he : Enters P f) (h : CallR P f (args.map (opv l)) w fun v w'' => WL P ops Q rest (fr (l.set d v)) w'') : WL P ops Q (⟨some d, .call { callee := .value (.func f), args := args, argTypes := tys }, ty, pos, aft, none⟩ :: rest) (fr l) w :=
  wl_plain rfl fun K hK => by
    have := he (args.map (opv l) ++ #[]) w
    simp only [Array.append_empty] at this
    refine s_call_any (f := f) (args := args.map (opv l)) (by simp [execOp, resolve, opv, Deferred.ofValue, invoke, this]) (h.mono fun v w1 q => ?_)
    show K ((fr l).put (some d) v) w1
    rw [put_fr]; exact hK _ _ q
/-- a call of a function value -/
theorem s_callv {t f : Nat} {args : Array Operand} {tys : Array TypeId} {cap : Array Value} (hv : l.getD t undef = .func (.func f) #[] cap) (he : Enters P f) (h : CallR P f (args.map (opv l) ++ cap) w fun v w'' => WL P ops Q rest (fr (l.set d v)) w'') : WL P ops Q (⟨some d, .call { callee := .value (.tmp t), args := args, argTypes := tys }, ty, pos, aft, none⟩ :: rest) (fr l) w :=
  wl_plain rfl fun K hK => by
    have := he (args.map (opv l) ++ cap) w
    have hv' : opv l (.tmp t) = .func (.func f) #[] cap := hv
    refine s_call_any (f := f) (args := args.map (opv l) ++ cap) (by simp [execOp, resolve, hv', Deferred.ofValue, invoke, this]) (h.mono fun v w1 q => ?_)
    show K ((fr l).put (some d) v) w1
    rw [put_fr]; exact hK _ _ q
end
section
variable {P : Program}
/-- a function's end -/
def Rt (P : Program) (fn : Func) (R : Value → World → Prop) (a : Act) (w : World) : Prop := a.defers = [] ∧ ∃ v, (results fn a.tmps).run P w = .ok v w ∧ R v w
theorem c_enter {f : FuncId} {fn : Func} {c : Code} {args : Array Value} {w : World} {R : Value → World → Prop} {l : List Value} (hf : P.funcs[f]? = some fn) (hb : fn.body = some c)
    (hl : (args ++ Array.replicate (fn.ntmps - args.size) undef) = l.toArray)
    (h : c.wp P (Qx (Rt P fn R) (Rt P fn R) []) (fr l) w) : CallR P f args w R := by
  refine calls_of_wp hf hb ?_
  rw [hl]
  refine wp_mono h fun e a w' q => ?_
  cases e with
  | normal => obtain ⟨h1, v, h2, h3⟩ := q; exact ⟨h1, v, h2, v, rfl, h3⟩
  | ret => obtain ⟨h1, v, h2, h3⟩ := q; exact ⟨h1, v, h2, v, rfl, h3⟩
  | exit i => exact q.elim
  | goto i => exact q.elim
  | panic ch => exact q.elim
  | outgrown => exact q.elim
theorem r_tmp {fn : Func} {t : Nat} {l : List Value} {w : World} {R : Value → World → Prop} (h : fn.results = #[.tmp t]) (hR : R (l.getD t undef) w) :
    Rt P fn R (fr l) w :=
  ⟨rfl, _, results_tmp h _ _ _, by simpa [fr, Array.getD_eq_getD_getElem?, List.getD] using hR⟩
theorem r_none {fn : Func} {l : List Value} {w : World} {R : Value → World → Prop} (h : fn.results = #[]) (hR : R (.tuple #[]) w) :
    Rt P fn R (fr l) w := ⟨rfl, _, results_none h _ _ _, hR⟩
theorem r_tmp2 {fn : Func} {t u : Nat} {l : List Value} {w : World} {R : Value → World → Prop} (h : fn.results = #[.tmp t, .tmp u]) (hR : R (.tuple #[l.getD t undef, l.getD u undef]) w) :
    Rt P fn R (fr l) w :=
  ⟨rfl, _, results_tmp2 h _ _ _, by simpa [fr, Array.getD_eq_getD_getElem?, List.getD] using hR⟩
theorem r_tmp3 {fn : Func} {t u v : Nat} {l : List Value} {w : World} {R : Value → World → Prop} (h : fn.results = #[.tmp t, .tmp u, .tmp v]) (hR : R (.tuple #[l.getD t undef, l.getD u undef, l.getD v undef]) w) :
    Rt P fn R (fr l) w :=
  ⟨rfl, _, results_tmp3 h _ _ _, by simpa [fr, Array.getD_eq_getD_getElem?, List.getD] using hR⟩
/-- one result that lies in a box -/
theorem r_cell {fn : Func} {t : Nat} {T : TypeId} {l : List Value} {w : World} {R : Value → World → Prop} {p : Addr} {v : Value} (h : fn.results = #[.cell t T]) (hp : l.getD t undef = .pointer (some p)) (hv : (loadVar T p).run P w = .ok v w) (hR : R v w) :
    Rt P fn R (fr l) w := by
  have hp' : ((fr l).tmps[t]?.getD undef) = .pointer (some p) := by rw [← hp]; simp [fr, List.getD]
  exact ⟨rfl, v, by simp [results, h, hp', asAddr, hv], hR⟩
theorem r_cell_tmp {fn : Func} {t u : Nat} {T : TypeId} {l : List Value} {w : World} {R : Value → World → Prop} {p : Addr} {v : Value} (h : fn.results = #[.cell t T, .tmp u]) (hp : l.getD t undef = .pointer (some p)) (hv : (loadVar T p).run P w = .ok v w) (hR : R (.tuple #[v, l.getD u undef]) w) :
    Rt P fn R (fr l) w := by
  have hp' : ((fr l).tmps[t]?.getD undef) = .pointer (some p) := by rw [← hp]; simp [fr, List.getD]
  have hu : ((fr l).tmps[u]?.getD undef) = l[u]?.getD undef := by simp [fr]
  exact ⟨rfl, .tuple #[v, l.getD u undef], by simp [results, h, hp', asAddr, hv, hu], hR⟩
end
end Go.Proofs.YtffmanidnlbjjaaGreat
namespace Go.Proofs.YtffmanidnlbjjaaGreat
open Go.RowKit
theorem add_at (g o k : Nat) : (⟨g, o, none⟩ : Addr).add k = ⟨g, o + k, none⟩ := by unfold Addr.add; split <;> simp_all
theorem Upd.has {L L' : List Res} {r r' : Res} (h : Upd L r r' L') : Has L' r' := by
  induction h with
  | head => exact .head
  | tail _ ih => exact .tail ih
/-- cells that lie at a place -/
def At (w : World) (g o : Nat) (cs : List Value) : Prop := ∀ j u, cs[j]? = some u → w.cell? ⟨g, o + j, none⟩ = some u
theorem At.of_obj {w : World} {g : Nat} {cs : Array Value} {t : TypeId} {f : Nat × Nat} (h : w.heap[g]? = some (.cells cs t f)) : At w g 0 cs.toList := fun j u hu => by
  rw [cell_of_row w g (0 + j) cs t f h]; simpa using hu
theorem At.drop {w : World} {g o : Nat} {cs : List Value} (h : At w g o cs) (k : Nat) : At w g (o + k) (cs.drop k) := fun j u hu => by
  rw [Nat.add_assoc]; exact h (k + j) u (by simpa [List.getElem?_drop] using hu)
theorem At.take {w : World} {g o : Nat} {cs : List Value} (h : At w g o cs) (k : Nat) : At w g o (cs.take k) := fun j u hu => by
  refine h j u ?_
  rw [List.getElem?_take] at hu
  split at hu
  · exact hu
  · cases hu
theorem loads_one {P : Program} {w : World} {T : TypeId} {dsc : TypeDesc} {p : Addr} {v : Value} (hu : P.underlying T = some dsc) (hd : isAggD dsc = false) (hv : w.cell? p = some v) : (loadVar T p).run P w = .ok v w := by
  simp [loadVar, run_isAgg_no hu hd, load, Sem.run, hv]
theorem loads_agg {P : Program} {w : World} {T : TypeId} {dsc : TypeDesc} {g o sz by' : Nat} {z : Value} {cs : List Value} (hu : P.underlying T = some dsc) (hd : isAggD dsc = true) (hi : TI P T sz by' z) (hl : cs.length = sz) (hc : At w g o cs) : (loadVar T ⟨g, o, none⟩).run P w = .ok (.agg cs.toArray) w := by
  obtain ⟨i, hi, rfl, _, _⟩ := hi
  have h := run_loadCells_list (P := P) w ⟨g, o, none⟩ cs (fun j v hv => by rw [add_at]; exact hc j v hv)
  rw [hl] at h
  simp [loadVar, run_isAgg_yes hu hd, sizeOf, typeInfo, hi, h]
def splice (cur : List Value) (o : Nat) (vs : List Value) : List Value := cur.take o ++ vs ++ cur.drop (o + vs.length)
theorem length_splice' {cur vs : List Value} {o : Nat} (h : o + vs.length ≤ cur.length) : (splice cur o vs).length = cur.length := by simp [splice]; omega
theorem splice_one {cur : List Value} {o : Nat} {v : Value} (h : o < cur.length) : splice cur o [v] = cur.set o v := by
  unfold splice
  rw [List.set_eq_take_append_cons_drop, if_pos h]
  simp
theorem splice_all {cur vs : List Value} (h : vs.length = cur.length) : splice cur 0 vs = vs := by
  simp [splice, h]
theorem splice_il {k : IntKind} {l : List Int} {i : Nat} {v : Int} (h : i < l.length) : splice (l.map (Value.int k)) i [.int k v] = (l.set i v).map (Value.int k) := by
  rw [splice_one (by simpa using h), List.map_set]
theorem splice_ic {k : IntKind} {l : List Int} {i : Nat} {v : Int} (h : i < l.length) : splice (ic k l).toList i [.int k v] = (l.set i v).map (Value.int k) := splice_il h
theorem splice_whole {cur : Array Value} {vs : List Value} (h : vs.length = cur.size) : splice cur.toList 0 vs = vs := splice_all (by simpa using h)
theorem stores {P : Program} {w : World} {T : TypeId} {g o sz by' : Nat} {z : Value} {cur : Array Value} {t : TypeId} {v : Value} (hi : TI P T sz by' z) (hv : v.cells.size = sz) (h1 : ∀ u ∈ v.cells.toList, u.oneCell' = true) (hg : w.heap[g]? = some (.cells cur t (0, 0))) (hfit : o + sz ≤ cur.size) :
    (storeVar T ⟨g, o, none⟩ v).run P w = .ok () (w.setRow g (splice cur.toList o v.cells.toList).toArray) := by
  obtain ⟨i, hi, rfl, _, _⟩ := hi
  have h := run_storeCells_at P g o t v.cells.toList 0 cur w hg (by simpa [hv] using hfit) h1
  simp only [Nat.add_zero] at h
  simp [storeVar, sizeOf, typeInfo, hi, hv, splice, h]
theorem setRow_keep (w : World) (g : Nat) (cs : Array Value) : Keep (fun k => some g = some k) w (w.setRow g cs) :=
  ⟨rfl, rfl, rfl, by simp, fun k _ hk => setRow_other w g k cs (fun e => hk (by rw [e])), Nat.le_refl _⟩
section
variable {S : Nat → Prop} {w0 w w' : World} {L L' : List Res}
theorem St.obj_at {g : Nat} {cs : Array Value} {t : TypeId} {f : Nat × Nat} (h : St S w0 w L) (hm : Has L (.obj g (.cells cs t f))) : At w g 0 cs.toList := At.of_obj (h.has hm)
theorem St.rd_at {A : Option Addr} {sz n : Nat} {xs : List Value} (h : St S w0 w L) (hm : Has L (.rd A sz n xs)) (hn : 0 < n) : ∃ g o, A = some ⟨g, o, none⟩ ∧ At w g o xs := by
  obtain ⟨_, h2⟩ := h.has hm
  obtain ⟨g, o, e, _, h3⟩ := h2 hn
  exact ⟨g, o, e, h3⟩
theorem vec_at {A : Option Addr} {c : Nat} {e : TypeId} {sz n : Nat} {xs : List Value} (h : w.ownsRow 0 e sz (.slice A n c) n xs) (hn : 0 < n) : ∃ g, A = some ⟨g, 0, none⟩ ∧ At w g 0 xs := by
  obtain ⟨hl, h2⟩ := h
  rcases h2 with ⟨hv, h0⟩ | ⟨g, cap, cur, hv, _, hg, hnc, hcm, hcs, ht⟩
  · omega
  · simp only [Value.slice.injEq] at hv
    refine ⟨g, hv.1, fun j u hu => ?_⟩
    rw [cell_of_row w g (0 + j) cur e (0, 0) hg]
    rw [← ht, List.getElem?_take] at hu
    split at hu
    · simpa using hu
    · cases hu
theorem St.vec_at {A : Option Addr} {c : Nat} {e : TypeId} {sz n : Nat} {xs : List Value} (h : St S w0 w L) (hm : Has L (.vec A c e sz n xs)) (hn : 0 < n) : ∃ g o, A = some ⟨g, o, none⟩ ∧ At w g o xs := by
  obtain ⟨g, e, hc⟩ := Go.Proofs.YtffmanidnlbjjaaGreat.vec_at (h.has hm) hn
  exact ⟨g, 0, e, hc⟩
/-- what is owned may be given up and only read from then on -/
theorem St.vec_rd {A : Option Addr} {c : Nat} {e : TypeId} {sz n : Nat} {xs : List Value} (h : St S w0 w L) (hu : Upd L (.vec A c e sz n xs) (.rd A sz n xs) L') : St S w0 w L' := by
  have hv := h.holds _ hu.mem
  refine h.weaken hu ⟨hv.1, fun hn => ?_⟩ (by intro g hg; simp [Res.own] at hg) ?_
  · obtain ⟨g, e', hc⟩ := Go.Proofs.YtffmanidnlbjjaaGreat.vec_at hv hn
    exact ⟨g, 0, e', own_lt hv (by simp [Res.own, e']), hc⟩
  · intro g hg
    simp only [Res.reads] at hg
    split at hg
    · cases hg
    · exact .inl hg
theorem St.obj_rd {g : Nat} {cs : Array Value} {t : TypeId} {f : Nat × Nat} {sz n : Nat} (h : St S w0 w L) (hn : cs.size = n * sz) (hu : Upd L (.obj g (.cells cs t f)) (.rd (some ⟨g, 0, none⟩) sz n cs.toList) L') : St S w0 w L' := by
  have hv := h.holds _ hu.mem
  refine h.weaken hu ⟨by simpa using hn, fun _ => ⟨g, 0, rfl, own_lt hv rfl, At.of_obj hv⟩⟩ (by intro k hk; simp [Res.own] at hk) ?_
  intro k hk
  simp only [Res.reads] at hk
  split at hk
  · cases hk
  · exact .inl (by simpa [Res.own] using hk)
theorem St.obj_vec {g : Nat} {cs : Array Value} {t : TypeId} {sz n : Nat} (h : St S w0 w L) (hn : cs.size = n * sz) (hm : n ≤ maxLen) (hu : Upd L (.obj g (.cells cs t (0, 0))) (.vec (some ⟨g, 0, none⟩) n t sz n cs.toList) L') : St S w0 w L' := by
  have hv := h.holds _ hu.mem
  refine h.weaken hu ⟨by simpa using hn, .inr ⟨g, n, cs, rfl, Nat.zero_le _, hv, Nat.le_refl _, hm, hn, by rw [← hn]; exact List.take_of_length_le (by simp)⟩⟩ (by intro k hk; simpa [Res.own] using hk) (by intro k hk; simp [Res.reads] at hk)
/-- the nil slice is owned by whoever wants it -/
theorem St.nil_vec (h : St S w0 w L) (e : TypeId) (sz : Nat) : St S w0 w (.vec none 0 e sz 0 [] :: L) :=
  h.add Ext.rfl' (World.ownsRow_nil w 0 e sz) (by intro g hg; rcases hg with hg | hg <;> simp [Res.own, Res.reads] at hg)
/-- nothing is read of an empty slice -/
theorem St.rd_none (h : St S w0 w L) (A : Option Addr) (sz : Nat) : St S w0 w (.rd A sz 0 [] :: L) :=
  h.add_rd ⟨by simp, fun hn => absurd hn (by omega)⟩ (by intro r _ g _; simp [Res.reads])
/-- a piece of what may be read may be read -/
theorem St.rd_sub {A : Option Addr} {sz n : Nat} {xs : List Value} (h : St S w0 w L) (hm : Has L (.rd A sz n xs)) (lo hi : Nat) (h1 : lo ≤ hi) (h2 : hi ≤ n) (A' : Option Addr) (hA : lo < hi → A' = A.map (·.add (lo * sz))) :
    St S w0 w (.rd A' sz (hi - lo) ((xs.drop (lo * sz)).take ((hi - lo) * sz)) :: L) := by
  have hr := h.has hm
  obtain ⟨hl, hc⟩ := hr
  refine h.add_rd ⟨?_, fun hn => ?_⟩ ?_
  · rw [List.length_take, List.length_drop, hl, ← Nat.sub_mul]
    exact Nat.min_eq_left (Nat.mul_le_mul_right _ (by omega))
  · obtain ⟨g, o, rfl, hlt, hcc⟩ := hc (by omega)
    have hcc' : At w g o xs := hcc
    refine ⟨g, o + lo * sz, by rw [hA (by omega)]; simp [add_at], hlt, ?_⟩
    exact (hcc'.drop (lo * sz)).take _
  · intro r hr g hg e
    simp only [Res.reads] at e
    split at e
    · cases e
    · have hn : 0 < n := by omega
      obtain ⟨g', o, rfl, hlt, hcc⟩ := hc hn
      rw [hA (by omega)] at e
      simp [add_at] at e
      subst e
      -- r owns what is read in L: they are apart
      have hmem := hm.mem
      have hap : ∀ {M : List Res}, M.Pairwise Res.compat → r ∈ M → Res.rd (some ⟨g', o, none⟩) sz n xs ∈ M → r.own = some g' → False := by
        intro M hp
        induction hp with
        | nil => intro h1; cases h1
        | cons hhd _ ih =>
          intro hr1 hr2 hg'
          have hread : (Res.rd (some ⟨g', o, none⟩) sz n xs).reads = some g' := by simp [Res.reads, Nat.ne_of_gt hn]
          rcases List.mem_cons.1 hr1 with rfl | hr1
          · rcases List.mem_cons.1 hr2 with e | hr2
            · rw [← e] at hg'; simp [Res.own] at hg'
            · exact ((hhd _ hr2 g').1 hg').2 hread
          · rcases List.mem_cons.1 hr2 with e | hr2
            · rw [← e] at hhd; exact ((hhd _ hr1 g').2 hg').2 hread
            · exact ih hr1 hr2 hg'
      exact hap h.apart hr hmem hg
end
section
variable {P : Program} {ops : Array Oper} {Q : Exit → Act → World → Prop} {rest : List Oper} {l : List Value} {w : World} {d : Nat} {ty : TypeId} {pos : String} {aft : Array Edge}
variable {S : Nat → Prop} {w0 : World} {L L' : List Res}
theorem m_box {elem : TypeId} {x : Operand} (hS : St S w0 w L) (h : ∀ w' g, St S w0 w' (.obj g (.cells (opv l x).cells elem (0, 0)) :: L) → WL P ops Q rest (fr (l.set d (.pointer (some ⟨g, 0, none⟩)))) w') : WL P ops Q (⟨some d, .box elem x, ty, pos, aft, none⟩ :: rest) (fr l) w :=
  s_val (w' := w.alloc (.cells (opv l x).cells elem)) (by simp [execOp, Instr.box, newVar, newRow]) (h _ _ (hS.alloc _))
theorem m_alloc {elem : TypeId} {sz by' : Nat} {z : Value} (hi : TI P elem sz by' z) (hS : St S w0 w L) (h : ∀ w' g, St S w0 w' (.obj g (.cells z.cells elem (0, 0)) :: L) → WL P ops Q rest (fr (l.set d (.pointer (some ⟨g, 0, none⟩)))) w') : WL P ops Q (⟨some d, .alloc elem, ty, pos, aft, none⟩ :: rest) (fr l) w := by
  obtain ⟨i, hi, _, _, hz⟩ := hi
  exact s_val (w' := w.alloc (.cells z.cells elem)) (by simp [execOp, Instr.alloc, newVar, newRow, zeroValue, typeInfo, hi, hz]) (h _ _ (hS.alloc _))
/-- a load of one cell -/
theorem m_load {T : TypeId} {x : Operand} {dsc : TypeDesc} {p : Addr} {v : Value} (hu : P.underlying T = some dsc) (hd : isAggD dsc = false := by rfl) (hx : opv l x = .pointer (some p) := by rfl) (hv : w.cell? p = some v) : Go1 P l w ⟨some d, .load T x, ty, pos, aft, none⟩ v :=
  (by unfold Go1; simp [execOp, Instr.loadAt, hx, Instr.sureAddr, loads_one hu hd hv])
theorem m_load_obj {T : TypeId} {x : Operand} {dsc : TypeDesc} {g o : Nat} {cs : Array Value} {t : TypeId} {f : Nat × Nat} {v : Value} (hu : P.underlying T = some dsc) (hd : isAggD dsc = false := by rfl) (hx : opv l x = .pointer (some ⟨g, o, none⟩) := by rfl) (hS : St S w0 w L) (hm : Has L (.obj g (.cells cs t f)) := by repeat (first | exact Has.head | apply Has.tail)) (hv : cs[o]? = some v := by first | rfl | exact ic_get (by first | omega | (simp [*]; done) | (simp [*]; omega)) | exact il_get (by first | omega | (simp [*]; done) | (simp [*]; omega))) : Go1 P l w ⟨some d, .load T x, ty, pos, aft, none⟩ v :=
  m_load hu hd hx (by have := hS.obj_at hm o v (by simpa using hv); simpa using this)
theorem m_load_rd {T : TypeId} {x : Operand} {dsc : TypeDesc} {k : Nat} {A : Option Addr} {sz n : Nat} {xs : List Value} {v : Value} (hu : P.underlying T = some dsc) (hd : isAggD dsc = false := by rfl) (hx : opv l x = .pointer (A.map (·.add k)) := by rfl) (hS : St S w0 w L) (hm : Has L (.rd A sz n xs) := by repeat (first | exact Has.head | apply Has.tail)) (hn : 0 < n := by omega) (hv : xs[k]? = some v := by first | rfl | exact ic_get (by first | omega | (simp [*]; done) | (simp [*]; omega)) | exact il_get (by first | omega | (simp [*]; done) | (simp [*]; omega))) : Go1 P l w ⟨some d, .load T x, ty, pos, aft, none⟩ v := by
  obtain ⟨g, o, rfl, hc⟩ := hS.rd_at hm hn
  exact m_load hu hd (p := ⟨g, o + k, none⟩) (by rw [hx]; simp [add_at]) (hc k v hv)
/-- a load of a struct or an array -/
theorem m_loada {T : TypeId} {x : Operand} {dsc : TypeDesc} {g o sz by' : Nat} {z : Value} {cs : List Value} (hu : P.underlying T = some dsc) (hd : isAggD dsc = true := by rfl) (hi : TI P T sz by' z) (hx : opv l x = .pointer (some ⟨g, o, none⟩) := by rfl) (hl : cs.length = sz) (hc : At w g o cs) : Go1 P l w ⟨some d, .load T x, ty, pos, aft, none⟩ (.agg cs.toArray) :=
  (by unfold Go1; simp [execOp, Instr.loadAt, hx, Instr.sureAddr, loads_agg hu hd hi hl hc])
theorem m_loada_obj {T : TypeId} {x : Operand} {dsc : TypeDesc} {g o sz by' : Nat} {z : Value} {cs : Array Value} {t : TypeId} {f : Nat × Nat} (hu : P.underlying T = some dsc) (hd : isAggD dsc = true := by rfl) (hi : TI P T sz by' z) (hx : opv l x = .pointer (some ⟨g, o, none⟩) := by rfl) (hS : St S w0 w L) (hm : Has L (.obj g (.cells cs t f)) := by repeat (first | exact Has.head | apply Has.tail)) (hfit : o + sz ≤ cs.size := by first | omega | (simp only [ic_size, List.length_map, List.size_toArray]; omega) | (simp [*]; done) | rfl | (simp [*]; omega)) : Go1 P l w ⟨some d, .load T x, ty, pos, aft, none⟩ (.agg ((cs.toList.drop o).take sz).toArray) :=
  m_loada hu hd hi hx (by simp; omega) (by have := ((hS.obj_at hm).drop o).take sz; rwa [Nat.zero_add] at this)
/-- the whole row -/
theorem m_load_row {T : TypeId} {x : Operand} {dsc : TypeDesc} {g sz by' : Nat} {z : Value} {cs : Array Value} {t : TypeId} {f : Nat × Nat} (hu : P.underlying T = some dsc) (hd : isAggD dsc = true := by rfl) (hi : TI P T sz by' z) (hx : opv l x = .pointer (some ⟨g, 0, none⟩) := by rfl) (hS : St S w0 w L) (hm : Has L (.obj g (.cells cs t f)) := by repeat (first | exact Has.head | apply Has.tail)) (hfit : cs.size = sz := by first | omega | (simp only [ic_size, List.length_map, List.size_toArray]; omega) | (simp [*]; done) | rfl | (simp [*]; omega)) : Go1 P l w ⟨some d, .load T x, ty, pos, aft, none⟩ (.agg cs) :=
  by simpa using m_loada (d := d) (ty := ty) (pos := pos) (aft := aft) hu hd hi hx (cs := cs.toList) (by simpa using hfit) (hS.obj_at hm)
theorem m_loada_rd {T : TypeId} {x : Operand} {dsc : TypeDesc} {k sz by' : Nat} {z : Value} {A : Option Addr} {esz n : Nat} {xs : List Value} (hu : P.underlying T = some dsc) (hd : isAggD dsc = true := by rfl) (hi : TI P T sz by' z) (hx : opv l x = .pointer (A.map (·.add k)) := by rfl) (hS : St S w0 w L) (hm : Has L (.rd A esz n xs) := by repeat (first | exact Has.head | apply Has.tail)) (hn : 0 < n := by omega) (hfit : k + sz ≤ xs.length := by first | omega | (simp only [ic_size, List.length_map, List.size_toArray]; omega) | (simp [*]; done) | rfl | (simp [*]; omega)) : Go1 P l w ⟨some d, .load T x, ty, pos, aft, none⟩ (.agg ((xs.drop k).take sz).toArray) := by
  obtain ⟨g, o, rfl, hc⟩ := hS.rd_at hm hn
  exact m_loada hu hd hi (g := g) (o := o + k) (by rw [hx]; simp [add_at]) (by simp; omega) ((hc.drop k).take sz)
theorem m_loada_vec {T : TypeId} {x : Operand} {dsc : TypeDesc} {k sz by' : Nat} {z : Value} {A : Option Addr} {c : Nat} {e : TypeId} {esz n : Nat} {xs : List Value} (hu : P.underlying T = some dsc) (hd : isAggD dsc = true := by rfl) (hi : TI P T sz by' z) (hx : opv l x = .pointer (A.map (·.add k)) := by rfl) (hS : St S w0 w L) (hm : Has L (.vec A c e esz n xs) := by repeat (first | exact Has.head | apply Has.tail)) (hn : 0 < n := by omega) (hfit : k + sz ≤ xs.length := by first | omega | (simp only [ic_size, List.length_map, List.size_toArray]; omega) | (simp [*]; done) | rfl | (simp [*]; omega)) : Go1 P l w ⟨some d, .load T x, ty, pos, aft, none⟩ (.agg ((xs.drop k).take sz).toArray) := by
  obtain ⟨g, o, rfl, hc⟩ := hS.vec_at hm hn
  exact m_loada hu hd hi (g := g) (o := o + k) (by rw [hx]; simp [add_at]) (by simp; omega) ((hc.drop k).take sz)
/-- a store into an owned row -/
theorem m_store_obj {T : TypeId} {x y : Operand} {g o sz by' : Nat} {z : Value} {cs : Array Value} {t : TypeId} {cs' : List Value} (hi : TI P T sz by' z) (hx : opv l x = .pointer (some ⟨g, o, none⟩) := by rfl) (hv : (opv l y).cells.size = sz := by first | (simp [opv, Value.cells, *]; done) | rfl) (h1 : ∀ u ∈ (opv l y).cells.toList, u.oneCell' = true := by first | exact ic_one _ _ | simp [opv, Value.cells, Value.oneCell']) (hS : St S w0 w L) (_hm : Has L (.obj g (.cells cs t (0, 0))) := by repeat (first | exact Has.head | apply Has.tail)) (hc : splice cs.toList o (opv l y).cells.toList = cs' := by first | exact splice_ic (by first | omega | (simp [*]; done) | (simp [*]; omega)) | exact splice_il (by first | omega | (simp [*]; done) | (simp [*]; omega)) | exact splice_whole (by first | (simp [opv, Value.cells, *]; done) | rfl) | (simp only [opv, n1, n2, Value.cells, splice, List.take_succ_cons, List.take_zero, List.drop_succ_cons, List.drop_zero, List.length_cons, List.length_nil, Nat.zero_add, Nat.reduceAdd, List.append_assoc, List.cons_append, List.nil_append]; rfl)) (hu : Upd L (.obj g (.cells cs t (0, 0))) (.obj g (.cells cs'.toArray t (0, 0))) L' := by repeat (first | exact Upd.head | apply Upd.tail)) (hfit : o + sz ≤ cs.size := by first | omega | (simp only [ic_size, List.length_map, List.size_toArray]; omega) | (simp [*]; done) | rfl | (simp [*]; omega))
    (h : ∀ w', St S w0 w' L' → WL P ops Q rest (fr l) w') : WL P ops Q (⟨none, .store T x y, ty, pos, aft, none⟩ :: rest) (fr l) w := by
  have hg := hS.holds _ hu.mem
  subst hc
  refine s_unit (w' := w.setRow g (splice cs.toList o (opv l y).cells.toList).toArray) (by simp [execOp, Instr.storeAt, hx, Instr.sureAddr, stores hi hv h1 hg hfit]) (h _ ?_)
  exact hS.turn hu (setRow_keep _ _ _) (setRow_heap w g cs _ t (0, 0) hg) (by intro k hk; exact .inl hk) (by intro k hk; simp [Res.reads] at hk)
theorem m_store_vec {T : TypeId} {x y : Operand} {k sz by' : Nat} {z : Value} {A : Option Addr} {c : Nat} {e : TypeId} {esz n : Nat} {xs xs' : List Value} (hi : TI P T sz by' z) (hx : opv l x = .pointer (A.map (·.add k)) := by rfl) (hv : (opv l y).cells.size = sz := by first | (simp [opv, Value.cells, *]; done) | rfl) (h1 : ∀ u ∈ (opv l y).cells.toList, u.oneCell' = true := by first | exact ic_one _ _ | simp [opv, Value.cells, Value.oneCell']) (hS : St S w0 w L) (_hm : Has L (.vec A c e esz n xs) := by repeat (first | exact Has.head | apply Has.tail)) (hc : splice xs k (opv l y).cells.toList = xs' := by first | exact splice_ic (by first | omega | (simp [*]; done) | (simp [*]; omega)) | exact splice_il (by first | omega | (simp [*]; done) | (simp [*]; omega)) | exact splice_whole (by first | (simp [opv, Value.cells, *]; done) | rfl) | (simp only [opv, n1, n2, Value.cells, splice, List.take_succ_cons, List.take_zero, List.drop_succ_cons, List.drop_zero, List.length_cons, List.length_nil, Nat.zero_add, Nat.reduceAdd, List.append_assoc, List.cons_append, List.nil_append]; rfl)) (hu : Upd L (.vec A c e esz n xs) (.vec A c e esz n xs') L' := by repeat (first | exact Upd.head | apply Upd.tail)) (hn : 0 < n := by omega) (hfit : k + sz ≤ xs.length := by first | omega | (simp only [ic_size, List.length_map, List.size_toArray]; omega) | (simp [*]; done) | rfl | (simp [*]; omega))
    (h : ∀ w', St S w0 w' L' → WL P ops Q rest (fr l) w') : WL P ops Q (⟨none, .store T x y, ty, pos, aft, none⟩ :: rest) (fr l) w := by
  have hg := hS.holds _ hu.mem
  subst hc
  obtain ⟨hl, h2⟩ := hg
  rcases h2 with ⟨_, h0⟩ | ⟨g, cap, cur, hvv, _, hg, hnc, hcm, hcs, ht⟩
  · omega
  · simp only [Value.slice.injEq] at hvv
    obtain ⟨rfl, _, rfl⟩ := hvv
    have hlen : xs.length ≤ cur.size := by rw [hl, hcs]; exact Nat.mul_le_mul_right _ hnc
    refine s_unit (w' := w.setRow g (splice cur.toList k (opv l y).cells.toList).toArray) (by
      have hx' : opv l x = .pointer (some ⟨g, k, none⟩) := by rw [hx]; simp [add_at]
      simp [execOp, Instr.storeAt, hx', Instr.sureAddr, stores hi hv h1 hg (o := k) (by omega)]) (h _ ?_)
    have hsz : (splice cur.toList k (opv l y).cells.toList).length = cur.size := by
      rw [length_splice' (by simp [hv]; omega)]; simp
    refine hS.turn hu (setRow_keep _ _ _) ⟨?_, .inr ⟨g, c, _, rfl, Nat.zero_le _, setRow_heap w g cur _ e (0, 0) hg, hnc, hcm, by simpa using hsz.trans hcs, ?_⟩⟩ (by intro k hk; exact .inl hk) (by intro k hk; simp [Res.reads] at hk)
    · rw [length_splice' (by simp [hv]; omega)]; exact hl
    · -- the first cells of the spliced row are the spliced cells
      have hcells : (opv l y).cells.toList.length = sz := by simp [hv]
      unfold splice
      rw [← ht, hcells]
      have hkl : k + sz ≤ n * esz := by omega
      rw [List.take_append, List.take_append]
      have e1 : ((cur.toList.take k).take (n * esz)) = (cur.toList.take (n * esz)).take k := by rw [List.take_take, List.take_take, Nat.min_comm]
      have hkc : (cur.toList.take k).length = k := by simp; omega
      rw [hkc, e1]
      congr 1
      · congr 1
        exact List.take_of_length_le (by rw [hcells]; omega)
      · simp only [List.length_append, hkc, hcells]
        rw [List.drop_take]
theorem obj_loads_agg {T : TypeId} {dsc : TypeDesc} {g sz by' : Nat} {z : Value} {cs : Array Value} {t : TypeId} {f : Nat × Nat} (hu : P.underlying T = some dsc) (hd : isAggD dsc = true) (hi : TI P T sz by' z) (hS : St S w0 w L) (hm : Has L (.obj g (.cells cs t f))) (hfit : cs.size = sz) : (loadVar T ⟨g, 0, none⟩).run P w = .ok (.agg cs) w := by
  have := loads_agg (P := P) hu hd hi (g := g) (o := 0) (cs := cs.toList) (by simpa using hfit) (hS.obj_at hm)
  simpa using this
theorem obj_loads_one {T : TypeId} {dsc : TypeDesc} {g : Nat} {cs : Array Value} {t : TypeId} {f : Nat × Nat} {v : Value} (hu : P.underlying T = some dsc) (hd : isAggD dsc = false) (hS : St S w0 w L) (hm : Has L (.obj g (.cells cs t f))) (hv : cs[0]? = some v) : (loadVar T ⟨g, 0, none⟩).run P w = .ok v w :=
  loads_one hu hd (by have := hS.obj_at hm 0 v (by simpa using hv); simpa using this)
section
variable {fn : Func} {t u : Nat} {T U : TypeId} {dsc : TypeDesc} {g sz by' : Nat} {z : Value} {cs : Array Value} {ct : TypeId} {f : Nat × Nat} {R : Value → World → Prop} {v : Value}
theorem r_cell_agg (h : fn.results = #[.cell t T]) (hu : P.underlying T = some dsc) (hi : TI P T sz by' z) (hd : isAggD dsc = true := by rfl) (hp : l.getD t undef = .pointer (some ⟨g, 0, none⟩) := by rfl) (hS : St S w0 w L) (hm : Has L (.obj g (.cells cs ct f)) := by repeat (first | exact Has.head | apply Has.tail)) (hfit : cs.size = sz := by first | omega | (simp only [ic_size, List.length_map, List.size_toArray]; omega) | (simp [*]; done) | rfl) (hR : R (.agg cs) w) : Rt P fn R (fr l) w := r_cell h hp (obj_loads_agg hu hd hi hS hm hfit) hR
theorem r_cell_tmp_agg (h : fn.results = #[.cell t T, .tmp u]) (hu : P.underlying T = some dsc) (hi : TI P T sz by' z) (hd : isAggD dsc = true := by rfl) (hp : l.getD t undef = .pointer (some ⟨g, 0, none⟩) := by rfl) (hS : St S w0 w L) (hm : Has L (.obj g (.cells cs ct f)) := by repeat (first | exact Has.head | apply Has.tail)) (hfit : cs.size = sz := by first | omega | (simp only [ic_size, List.length_map, List.size_toArray]; omega) | (simp [*]; done) | rfl) (hR : R (.tuple #[.agg cs, l.getD u undef]) w) : Rt P fn R (fr l) w := r_cell_tmp h hp (obj_loads_agg hu hd hi hS hm hfit) hR
theorem r_cell_tmp_one (h : fn.results = #[.cell t T, .tmp u]) (hu : P.underlying T = some dsc) (hd : isAggD dsc = false := by rfl) (hp : l.getD t undef = .pointer (some ⟨g, 0, none⟩) := by rfl) (hS : St S w0 w L) (hm : Has L (.obj g (.cells cs ct f)) := by repeat (first | exact Has.head | apply Has.tail)) (hv : cs[0]? = some v := by rfl) (hR : R (.tuple #[v, l.getD u undef]) w) : Rt P fn R (fr l) w := r_cell_tmp h hp (obj_loads_one hu hd hS hm hv) hR
end
theorem m_fieldAddr {T : TypeId} {x : Operand} {j g o : Nat} {fs : Array Field} {f : Field} {sz by' : Nat} {z : Value} (hT : P.underlying T = some (.struct fs)) (hf : fs[j]? = some f := by rfl) (hi : TI P f.type sz by' z) (h0 : 0 < sz := by decide) (hx : opv l x = .pointer (some ⟨g, o, none⟩) := by rfl) : Go1 P l w ⟨some d, .fieldAddr T x j, ty, pos, aft, none⟩ (.pointer (some ⟨g, o + f.offset, none⟩)) := by
  obtain ⟨i, hi, rfl, _, _⟩ := hi
  exact (by unfold Go1; simp [execOp, Instr.fieldAt, run_underlying hT, hf, hx, Instr.sureAddr, fieldPlace, sizeOf, typeInfo, hi, Nat.ne_of_gt h0, add_at])
theorem m_fieldAddr_at {T : TypeId} {x : Operand} {j k : Nat} {A : Option Addr} {g o : Nat} {fs : Array Field} {f : Field} {sz by' : Nat} {z : Value} (hT : P.underlying T = some (.struct fs)) (hf : fs[j]? = some f := by rfl) (hi : TI P f.type sz by' z) (h0 : 0 < sz := by decide) (hx : opv l x = .pointer (A.map (·.add k)) := by rfl) (hA : A = some ⟨g, o, none⟩) : Go1 P l w ⟨some d, .fieldAddr T x j, ty, pos, aft, none⟩ (.pointer (A.map (·.add (k + f.offset)))) := by
  subst hA
  have := m_fieldAddr (w := w) (d := d) (ty := ty) (pos := pos) (aft := aft) hT hf hi h0 (g := g) (o := o + k) (by rw [hx]; simp [add_at])
  simpa [add_at, Nat.add_assoc] using this
theorem m_fieldAddr_rd {T : TypeId} {x : Operand} {j k : Nat} {A : Option Addr} {esz n : Nat} {xs : List Value} {fs : Array Field} {f : Field} {sz by' : Nat} {z : Value} (hT : P.underlying T = some (.struct fs)) (hf : fs[j]? = some f := by rfl) (hi : TI P f.type sz by' z) (h0 : 0 < sz := by decide) (hx : opv l x = .pointer (A.map (·.add k)) := by rfl) (hS : St S w0 w L) (hm : Has L (.rd A esz n xs) := by repeat (first | exact Has.head | apply Has.tail)) (hn : 0 < n := by omega) : Go1 P l w ⟨some d, .fieldAddr T x j, ty, pos, aft, none⟩ (.pointer (A.map (·.add (k + f.offset)))) := by
  obtain ⟨g, o, e, _⟩ := hS.rd_at hm hn
  exact m_fieldAddr_at hT hf hi h0 hx e
theorem m_fieldAddr_vec {T : TypeId} {x : Operand} {j k : Nat} {A : Option Addr} {c : Nat} {e : TypeId} {esz n : Nat} {xs : List Value} {fs : Array Field} {f : Field} {sz by' : Nat} {z : Value} (hT : P.underlying T = some (.struct fs)) (hf : fs[j]? = some f := by rfl) (hi : TI P f.type sz by' z) (h0 : 0 < sz := by decide) (hx : opv l x = .pointer (A.map (·.add k)) := by rfl) (hS : St S w0 w L) (hm : Has L (.vec A c e esz n xs) := by repeat (first | exact Has.head | apply Has.tail)) (hn : 0 < n := by omega) : Go1 P l w ⟨some d, .fieldAddr T x j, ty, pos, aft, none⟩ (.pointer (A.map (·.add (k + f.offset)))) := by
  obtain ⟨g, o, e, _⟩ := hS.vec_at hm hn
  exact m_fieldAddr_at hT hf hi h0 hx e
theorem m_indexAddr_arr {T e : TypeId} {x y : Operand} {n g o : Nat} {sz by' : Nat} {z : Value} {k : IntKind} {i : Int} (hT : P.underlying T = some (.array n e)) (hi : TI P e sz by' z) (hx : opv l x = .pointer (some ⟨g, o, none⟩) := by rfl) (hy : opv l y = .int k i := by rfl) (h0 : 0 ≤ i := by omega) (h1 : i < n := by omega) : Go1 P l w ⟨some d, .indexAddr T x y, ty, pos, aft, none⟩ (.pointer (some ⟨g, o + i.toNat * sz, none⟩)) := by
  obtain ⟨i', hi, rfl, _, _⟩ := hi
  exact (by unfold Go1; simp [execOp, Instr.indexAt, run_underlying hT, hx, hy, asIntOf, Instr.sureAddr, h0, h1, sizeOf, typeInfo, hi, add_at])
theorem m_indexAddr_sl {T e : TypeId} {x y : Operand} {n c g o : Nat} {A : Option Addr} {sz by' : Nat} {z : Value} {k : IntKind} {i : Int} (hT : P.underlying T = some (.slice e)) (hi : TI P e sz by' z) (hx : opv l x = .slice A n c := by rfl) (hy : opv l y = .int k i := by rfl) (h0 : 0 ≤ i := by omega) (h1 : i < n := by omega) (hA : A = some ⟨g, o, none⟩) : Go1 P l w ⟨some d, .indexAddr T x y, ty, pos, aft, none⟩ (.pointer (A.map (·.add (i.toNat * sz)))) := by
  obtain ⟨i', hi, rfl, _, _⟩ := hi
  subst hA
  exact (by unfold Go1; simp [execOp, Instr.indexAt, run_underlying hT, hx, hy, asIntOf, h0, h1, sizeOf, typeInfo, hi, add_at])
theorem m_indexAddr_rd {T e : TypeId} {x y : Operand} {n c : Nat} {A : Option Addr} {esz : Nat} {xs : List Value} {sz by' : Nat} {z : Value} {k : IntKind} {i : Int} (hT : P.underlying T = some (.slice e)) (hi : TI P e sz by' z) (hx : opv l x = .slice A n c := by rfl) (hy : opv l y = .int k i := by rfl) (hS : St S w0 w L) (hm : Has L (.rd A esz n xs) := by repeat (first | exact Has.head | apply Has.tail)) (h0 : 0 ≤ i := by omega) (h1 : i < n := by omega) : Go1 P l w ⟨some d, .indexAddr T x y, ty, pos, aft, none⟩ (.pointer (A.map (·.add (i.toNat * sz)))) := by
  obtain ⟨g, o, e, _⟩ := hS.rd_at hm (by omega)
  exact m_indexAddr_sl hT hi hx hy h0 h1 e
theorem m_indexAddr_vec {T e : TypeId} {x y : Operand} {n c : Nat} {A : Option Addr} {e' : TypeId} {esz : Nat} {xs : List Value} {sz by' : Nat} {z : Value} {k : IntKind} {i : Int} (hT : P.underlying T = some (.slice e)) (hi : TI P e sz by' z) (hx : opv l x = .slice A n c := by rfl) (hy : opv l y = .int k i := by rfl) (hS : St S w0 w L) (hm : Has L (.vec A c e' esz n xs) := by repeat (first | exact Has.head | apply Has.tail)) (h0 : 0 ≤ i := by omega) (h1 : i < n := by omega) : Go1 P l w ⟨some d, .indexAddr T x y, ty, pos, aft, none⟩ (.pointer (A.map (·.add (i.toNat * sz)))) := by
  obtain ⟨g, o, e, _⟩ := hS.vec_at hm (by omega)
  exact m_indexAddr_sl hT hi hx hy h0 h1 e
theorem m_buildSlice {T e : TypeId} {n : Nat} {parts : Array (Nat × Operand)} {sz by' : Nat} {z : Value} {cells : Array Value} (hT : P.underlying T = some (.slice e)) (hi : TI P e sz by' z) (hsm : n * sz ≤ 2 ^ 24 := by decide)
    (hc : Instr.fill (fun i => some (i * sz, sz)) ((Array.range (n * sz)).map (fun j => z.cells[j % z.cells.size]!)) (parts.map fun (i, x) => (i, opv l x)).toList = some cells) (hS : St S w0 w L)
    (h : ∀ w' g, St S w0 w' (.obj g (.cells cells e (0, 0)) :: L) → WL P ops Q rest (fr (l.set d (.slice (some ⟨g, 0, none⟩) n n))) w') : WL P ops Q (⟨some d, .buildSlice T n parts, ty, pos, aft, none⟩ :: rest) (fr l) w := by
  obtain ⟨i, hi, rfl, _, hz⟩ := hi
  refine s_val (w' := w.alloc (.cells cells e)) ?_ (h _ _ (hS.alloc _))
  have h24 : ¬ (2 ^ 24 < n * i.size) := by omega
  by_cases h0 : n * i.size = 0
  · have hc' : Instr.fill (fun j => some (j * i.size, i.size)) ((Array.range (n * i.size)).map (fun j => (#[] : Array Value)[j % (#[] : Array Value).size]!)) (parts.map fun (j, x) => (j, opv l x)).toList = some cells := by
      have e0 : ∀ f : Nat → Value, (Array.range 0).map f = #[] := fun f => by simp
      rw [← hc, h0, e0, e0]
    simp [execOp, Instr.buildSlice, run_underlying hT, sizeOf, typeInfo, hi, newRow, h0] at hc' ⊢
    rw [hc']
    rfl
  · simp [execOp, Instr.buildSlice, run_underlying hT, sizeOf, typeInfo, hi, newRow, h0, zeroValue, hz, h24] at hc ⊢
    rw [hc]
    rfl
theorem m_slice {T e : TypeId} {x : Operand} {A : Option Addr} {n c : Nat} {sz by' : Nat} {z : Value} {lo hi : Nat} {lo' hi' mx' : Option Operand} (hT : P.underlying T = some (.slice e)) (hi0 : TI P e sz by' z) (hx : opv l x = .slice A n c := by rfl)
    (hlo : (match lo' with | none => lo = 0 | some q => ∃ k, opv l q = .int k (lo : Int))) (hhi : (match hi' with | none => hi = n ∧ mx' = none | some q => ∃ k, opv l q = .int k (hi : Int)))
    {m : Nat} (hmx : (match mx' with | none => m = c | some q => ∃ k, opv l q = .int k (m : Int))) (h1 : lo ≤ hi := by omega) (h2 : hi ≤ m := by omega) (h3 : m ≤ c := by omega) : Go1 P l w ⟨some d, .slice T x lo' hi' mx', ty, pos, aft, none⟩ (.slice (if m = lo then A else A.map (·.add (lo * sz))) (hi - lo) (m - lo)) := by
  obtain ⟨i, hi0, rfl, _, _⟩ := hi0
  have hb : ∀ (k : IntKind) (a b : Nat) (code : BoundsCode), a ≤ b → (Instr.sliceBound (.int k (a : Int)) b code).run P w = .ok a w := fun k a b code hab => by
    simp [Instr.sliceBound, asIntOf, hab]
  unfold Go1
  have hU : ∀ q : Value, (Instr.sliceAt T (.slice A n c) q none none).run P w = (Instr.slice T (.slice A n c) q none none).run P w := fun q => by simp [Instr.sliceAt, run_underlying hT]
  have hU' : ∀ (q r s : Option Value), (Instr.sliceAt T (.slice A n c) q r s).run P w = (Instr.slice T (.slice A n c) q r s).run P w := fun q r s => by simp [Instr.sliceAt, run_underlying hT]
  have hm' : m = c → hi ≤ c := fun e => by omega
  cases lo' with
  | none =>
    subst hlo
    cases hi' with
    | none =>
      obtain ⟨rfl, rfl⟩ := hhi
      simp only at hmx
      subst hmx
      simp [execOp, hx, hU', Instr.slice, run_underlying hT, Instr.sliceBounds, sizeOf, typeInfo, hi0]
    | some q =>
      obtain ⟨k, hk⟩ := hhi
      cases mx' with
      | none =>
        simp only at hmx
        subst hmx
        simp [execOp, hx, hk, hU', Instr.slice, run_underlying hT, Instr.sliceBounds, hb k hi m _ h2, sizeOf, typeInfo, hi0]
      | some q2 =>
        obtain ⟨k2, hk2⟩ := hmx
        simp [execOp, hx, hk, hk2, hU', Instr.slice, run_underlying hT, Instr.sliceBounds, hb k hi m _ h2, hb k2 m c _ h3, sizeOf, typeInfo, hi0]
  | some p =>
    obtain ⟨kl, hkl⟩ := hlo
    cases hi' with
    | none =>
      obtain ⟨rfl, rfl⟩ := hhi
      simp only at hmx
      subst hmx
      simp [execOp, hx, hkl, hU', Instr.slice, run_underlying hT, Instr.sliceBounds, hb kl lo hi _ h1, sizeOf, typeInfo, hi0]
    | some q =>
      obtain ⟨k, hk⟩ := hhi
      cases mx' with
      | none =>
        simp only at hmx
        subst hmx
        simp [execOp, hx, hkl, hk, hU', Instr.slice, run_underlying hT, Instr.sliceBounds, hb k hi m _ h2, hb kl lo hi _ h1, sizeOf, typeInfo, hi0]
      | some q2 =>
        obtain ⟨k2, hk2⟩ := hmx
        simp [execOp, hx, hkl, hk, hk2, hU', Instr.slice, run_underlying hT, Instr.sliceBounds, hb k hi m _ h2, hb kl lo hi _ h1, hb k2 m c _ h3, sizeOf, typeInfo, hi0]
/-- a piece of what may be read: the piece may be read -/
theorem m_slice_rd {T e : TypeId} {x : Operand} {A : Option Addr} {n c : Nat} {sz by' : Nat} {z : Value} {lo hi : Nat} {lo' hi' mx' : Option Operand} {xs : List Value} (hT : P.underlying T = some (.slice e)) (hi0 : TI P e sz by' z) (hx : opv l x = .slice A n c := by rfl)
    (hlo : (match lo' with | none => lo = 0 | some q => ∃ k, opv l q = .int k (lo : Int))) (hhi : (match hi' with | none => hi = n ∧ mx' = none | some q => ∃ k, opv l q = .int k (hi : Int)))
    {m : Nat} (hmx : (match mx' with | none => m = c | some q => ∃ k, opv l q = .int k (m : Int))) (h1 : lo ≤ hi := by omega) (h2 : hi ≤ m := by omega) (h3 : m ≤ c := by omega) (hS : St S w0 w L) (hm : Has L (.rd A sz n xs) := by repeat (first | exact Has.head | apply Has.tail)) (hn : hi ≤ n := by omega)
    (h : ∀ A', (lo < hi → A' = A.map (·.add (lo * sz))) → St S w0 w (.rd A' sz (hi - lo) ((xs.drop (lo * sz)).take ((hi - lo) * sz)) :: L) → WL P ops Q rest (fr (l.set d (.slice A' (hi - lo) (m - lo)))) w) : WL P ops Q (⟨some d, .slice T x lo' hi' mx', ty, pos, aft, none⟩ :: rest) (fr l) w :=
  s_go (m_slice hT hi0 hx hlo hhi hmx h1 h2 h3) (h _ (fun hlt => by rw [if_neg (by omega)]) (hS.rd_sub hm lo hi h1 hn _ (fun hlt => by rw [if_neg (by omega)])))
/-- a piece of an array that lies in a box that is only read -/
theorem m_slice_bx {T e : TypeId} {x : Operand} {g : Nat} {N : Nat} {sz by' : Nat} {z : Value} {lo hi : Nat} {lo' hi' : Option Operand} {xs : List Value} (hT : P.underlying T = some (.array N e)) (hi0 : TI P e sz by' z) (hx : opv l x = .pointer (some ⟨g, 0, none⟩) := by rfl)
    (hlo : (match lo' with | none => lo = 0 | some q => ∃ k, opv l q = .int k (lo : Int))) (hhi : (match hi' with | none => hi = N | some q => ∃ k, opv l q = .int k (hi : Int)))
    (h1 : lo ≤ hi := by omega) (h2 : hi ≤ N := by omega) (hS : St S w0 w L) (hm : Has L (.rd (some ⟨g, 0, none⟩) sz N xs) := by repeat (first | exact Has.head | apply Has.tail))
    (h : ∀ A', St S w0 w (.rd A' sz (hi - lo) ((xs.drop (lo * sz)).take ((hi - lo) * sz)) :: L) → WL P ops Q rest (fr (l.set d (.slice A' (hi - lo) (N - lo)))) w) : WL P ops Q (⟨some d, .slice T x lo' hi' none, ty, pos, aft, none⟩ :: rest) (fr l) w := by
  have hsub := hS.rd_sub hm lo hi h1 h2 (some (if N = lo then ⟨g, 0, none⟩ else ⟨g, lo * sz, none⟩)) (fun hlt => by rw [if_neg (by omega)]; simp [add_at])
  obtain ⟨i, hi0, rfl, _, _⟩ := hi0
  have hb : ∀ (k : IntKind) (a b : Nat) (code : BoundsCode), a ≤ b → (Instr.sliceBound (.int k (a : Int)) b code).run P w = .ok a w := fun k a b code hab => by
    simp [Instr.sliceBound, asIntOf, hab]
  refine s_val (w' := w) ?_ (h _ hsub)
  cases lo' with
  | none =>
    subst hlo
    cases hi' with
    | none =>
      simp only at hhi
      subst hhi
      simp [execOp, hx, Instr.sliceAt, run_underlying hT, Instr.sureAddr, Instr.sliceBounds, sizeOf, typeInfo, hi0, add_at]
    | some q =>
      obtain ⟨k, hk⟩ := hhi
      simp [execOp, hx, hk, Instr.sliceAt, run_underlying hT, Instr.sureAddr, Instr.sliceBounds, hb k hi N _ h2, sizeOf, typeInfo, hi0, add_at]
  | some p =>
    obtain ⟨kl, hkl⟩ := hlo
    cases hi' with
    | none =>
      simp only at hhi
      subst hhi
      simp [execOp, hx, hkl, Instr.sliceAt, run_underlying hT, Instr.sureAddr, Instr.sliceBounds, hb kl lo hi _ h1, sizeOf, typeInfo, hi0, add_at]
    | some q =>
      obtain ⟨k, hk⟩ := hhi
      simp [execOp, hx, hkl, hk, Instr.sliceAt, run_underlying hT, Instr.sureAddr, Instr.sliceBounds, hb k hi N _ h2, hb kl lo hi _ h1, sizeOf, typeInfo, hi0, add_at]
/-- a piece of an array that lies in a box that is only read from then on -/
theorem m_slice_arr {T e : TypeId} {x : Operand} {g : Nat} {N : Nat} {sz by' : Nat} {z : Value} {lo hi : Nat} {lo' hi' : Option Operand} {cs : Array Value} {t : TypeId} {f : Nat × Nat} (hT : P.underlying T = some (.array N e)) (hi0 : TI P e sz by' z) (hx : opv l x = .pointer (some ⟨g, 0, none⟩) := by rfl)
    (hlo : (match lo' with | none => lo = 0 | some q => ∃ k, opv l q = .int k (lo : Int))) (hhi : (match hi' with | none => hi = N | some q => ∃ k, opv l q = .int k (hi : Int)))
    (h1 : lo ≤ hi := by omega) (h2 : hi ≤ N := by omega) (hS : St S w0 w L) (_hm : Has L (.obj g (.cells cs t f)) := by repeat (first | exact Has.head | apply Has.tail)) (hN : cs.size = N * sz := by first | omega | (simp only [ic_size, List.length_map, List.size_toArray]; omega) | (simp [*]; done) | rfl | (simp [*]; omega)) (hu : Upd L (.obj g (.cells cs t f)) (.rd (some ⟨g, 0, none⟩) sz N cs.toList) L' := by repeat (first | exact Upd.head | apply Upd.tail))
    (h : ∀ A', St S w0 w (.rd A' sz (hi - lo) ((cs.toList.drop (lo * sz)).take ((hi - lo) * sz)) :: L') → WL P ops Q rest (fr (l.set d (.slice A' (hi - lo) (N - lo)))) w) : WL P ops Q (⟨some d, .slice T x lo' hi' none, ty, pos, aft, none⟩ :: rest) (fr l) w := by
  exact m_slice_bx hT hi0 hx hlo hhi h1 h2 (hS.obj_rd hN hu) hu.has h
end
end Go.Proofs.YtffmanidnlbjjaaGreat
namespace Go.Proofs.YtffmanidnlbjjaaGreat
open Go.RowKit
theorem wr_i64 {a : Int} (h0 : -9223372036854775808 ≤ a) (h1 : a ≤ 9223372036854775807) : IntKind.i64.wrap a = a := IntWalk.i64_in a ⟨h0, h1⟩
theorem wr_u8 {a : Int} (h0 : 0 ≤ a) (h1 : a ≤ 255) : IntKind.u8.wrap a = a := IntWalk.u8_in a ⟨h0, h1⟩
theorem wr_u16 {a : Int} (h0 : 0 ≤ a) (h1 : a ≤ 65535) : IntKind.u16.wrap a = a := IntWalk.u16_in a ⟨h0, h1⟩
theorem wr_u32 {a : Int} (h0 : 0 ≤ a) (h1 : a ≤ 4294967295) : IntKind.u32.wrap a = a := IntWalk.u32_in a ⟨h0, h1⟩
theorem wr_u64 {a : Int} (h0 : 0 ≤ a) (h1 : a ≤ 18446744073709551615) : IntKind.u64.wrap a = a := IntWalk.u64_in a ⟨h0, h1⟩
def CAt (cs : Array Value) (off : Nat) (vs : List Value) : Prop := ∀ j u, vs[j]? = some u → cs[off + j]? = some u
theorem CAt.app {cs : Array Value} {off : Nat} {a b : List Value} (h : CAt cs off (a ++ b)) : CAt cs off a ∧ CAt cs (off + a.length) b := by
  refine ⟨fun j u hu => h j u ?_, fun j u hu => ?_⟩
  · rw [List.getElem?_append_left (List.getElem?_eq_some_iff.1 hu).1]; exact hu
  · rw [Nat.add_assoc]; refine h _ u ?_
    rw [List.getElem?_append_right (by omega)]; simpa using hu
theorem CAt.extract {cs : Array Value} {off : Nat} {vs : List Value} (h : CAt cs off vs) : CAt (cs.extract off (off + vs.length)) 0 vs := fun j u hu => by
  have hj := (List.getElem?_eq_some_iff.1 hu).1
  have := h j u hu
  have hlt := (Array.getElem?_eq_some_iff.1 this).1
  rw [Nat.zero_add, Array.getElem?_extract, if_pos (by omega)]
  exact this
theorem CAt.of_list (vs : List Value) : CAt vs.toArray 0 vs := fun j u hu => by simpa using hu
def zi (ks : List IntKind) (xs : List Int) : List Value := List.zipWith Value.int ks xs
theorem zi_app {k1 k2 : List IntKind} {x1 x2 : List Int} (h : x1.length = k1.length) : zi (k1 ++ k2) (x1 ++ x2) = zi k1 x1 ++ zi k2 x2 := List.zipWith_append h.symm
theorem zi_len {ks : List IntKind} {xs : List Int} (h : xs.length = ks.length) : (zi ks xs).length = ks.length := by simp [zi, h]
theorem zi_rep (k : IntKind) : ∀ (l : List Int), zi (List.replicate l.length k) l = l.map (Value.int k)
  | [] => rfl
  | x :: l => by
    have := zi_rep k l
    simp only [zi] at this
    simp [zi, List.replicate_succ, this]
/-- what '==' answers at two parts -/
def EqP (P : Program) (D : Nat) (t : TypeId) (ks : List IntKind) : Prop := ∀ d, D ≤ d → ∀ (w : World) (c1 c2 : Array Value) (o1 o2 : Nat) (xs ys : List Int), xs.length = ks.length → ys.length = ks.length → CAt c1 o1 (zi ks xs) → CAt c2 o2 (zi ks ys) →
  ∃ a b, (part t c1 o1).run P w = .ok a w ∧ (part t c2 o2).run P w = .ok b w ∧ (Op.equalIn d t a b).run P w = .ok (decide (xs = ys)) w
def EqV (P : Program) (D : Nat) (t : TypeId) (ks : List IntKind) : Prop := ∀ d, D ≤ d → ∀ (w : World) (c1 c2 : Array Value) (xs ys : List Int), xs.length = ks.length → ys.length = ks.length → CAt c1 0 (zi ks xs) → CAt c2 0 (zi ks ys) →
  (Op.equalIn d t (.agg c1) (.agg c2)).run P w = .ok (decide (xs = ys)) w
theorem eq_int {P : Program} {t : TypeId} {k : IntKind} (h : P.underlying t = some (.int k)) : EqP P 1 t [k] := by
  intro d hd w c1 c2 o1 o2 xs ys hx hy h1 h2
  match xs, hx, ys, hy with
  | [x], _, [y], _ =>
    refine ⟨.int k x, .int k y, part_one h rfl ?_, part_one h rfl ?_, ?_⟩
    · simpa using h1 0 _ rfl
    · simpa using h2 0 _ rfl
    · obtain ⟨d, rfl⟩ : ∃ e, d = e + 1 := ⟨d - 1, by omega⟩
      rw [run_equalIn_int w d t k k x y h]
      congr 1
      by_cases e : x = y <;> simp [e]
theorem eq_part {P : Program} {D : Nat} {t : TypeId} {ks : List IntKind} {dsc : TypeDesc} {sz by' : Nat} {z : Value} (hv : EqV P D t ks) (hu : P.underlying t = some dsc) (hd : isAggD dsc = true) (hi : TI P t sz by' z) (hs : ks.length = sz) : EqP P D t ks := by
  intro d hd' w c1 c2 o1 o2 xs ys hx hy h1 h2
  have e1 := h1.extract
  have e2 := h2.extract
  rw [zi_len hx, hs] at e1
  rw [zi_len hy, hs] at e2
  exact ⟨_, _, part_agg hu hd hi, part_agg hu hd hi, hv d hd' w _ _ xs ys hx hy e1 e2⟩
inductive FieldsEq (P : Program) (D : Nat) : List Field → Nat → List IntKind → Prop
  | nil {o : Nat} : FieldsEq P D [] o []
  | cons {f : Field} {fs : List Field} {o : Nat} {k1 k2 : List IntKind} {D' : Nat} : f.offset = o → f.name ≠ "_" → EqP P D' f.type k1 → D' ≤ D → FieldsEq P D fs (o + k1.length) k2 → FieldsEq P D (f :: fs) o (k1 ++ k2)
theorem eqFields_run {P : Program} {D d : Nat} (hd : D ≤ d) {fs : List Field} {o : Nat} {ks : List IntKind} (hf : FieldsEq P D fs o ks) : ∀ (w : World) (c1 c2 : Array Value) (xs ys : List Int), xs.length = ks.length → ys.length = ks.length → CAt c1 o (zi ks xs) → CAt c2 o (zi ks ys) →
    (Op.eqFields d c1 c2 fs).run P w = .ok (decide (xs = ys)) w := by
  induction hf with
  | nil =>
    intro w c1 c2 xs ys hx hy _ _
    have := List.eq_nil_of_length_eq_zero hx
    have := List.eq_nil_of_length_eq_zero hy
    subst_vars
    simp [Op.eqFields]
  | @cons f fs o k1 k2 D' ho hn hp hD _ ih =>
    intro w c1 c2 xs ys hx hy h1 h2
    obtain ⟨xa, xb, rfl, hxa⟩ : ∃ xa xb, xs = xa ++ xb ∧ xa.length = k1.length := ⟨xs.take k1.length, xs.drop k1.length, (List.take_append_drop _ _).symm, by simp at hx ⊢; omega⟩
    obtain ⟨ya, yb, rfl, hya⟩ : ∃ ya yb, ys = ya ++ yb ∧ ya.length = k1.length := ⟨ys.take k1.length, ys.drop k1.length, (List.take_append_drop _ _).symm, by simp at hy ⊢; omega⟩
    rw [zi_app hxa] at h1
    rw [zi_app hya] at h2
    obtain ⟨h1a, h1b⟩ := h1.app
    obtain ⟨h2a, h2b⟩ := h2.app
    rw [zi_len hxa] at h1b
    rw [zi_len hya] at h2b
    obtain ⟨a, b, ra, rb, re⟩ := hp d (Nat.le_trans hD hd) w c1 c2 o o xa ya hxa hya h1a h2a
    have hi := ih w c1 c2 xb yb (by simp at hx; omega) (by simp at hy; omega) h1b h2b
    subst ho
    simp only [Op.eqFields, if_pos hn, Sem.run_bind, ra, rb, re, Result.andThen_ok]
    by_cases e : xa = ya
    · subst e
      simp [hi]
    · have : ¬ (xa ++ xb = ya ++ yb) := fun h => e (List.append_inj h (by omega)).1
      simp [e, this]
theorem eq_struct {P : Program} {D : Nat} {t : TypeId} {fs : Array Field} {ks : List IntKind} (h : P.underlying t = some (.struct fs)) (hp : P.stoodInHeld t = false) (hf : FieldsEq P D fs.toList 0 ks) : EqV P (D + 1) t ks := by
  intro d hd w c1 c2 xs ys hx hy h1 h2
  obtain ⟨d, rfl⟩ : ∃ e, d = e + 1 := ⟨d - 1, by omega⟩
  have hfo : P.fieldsOf t = fs := by simp [Program.fieldsOf, h]
  rw [run_equalIn_struct w d t c1 c2 (by rw [hfo]; exact h) hp, hfo]
  exact eqFields_run (by omega) hf w c1 c2 xs ys hx hy h1 h2
theorem eq_arr {P : Program} {D : Nat} {t e : TypeId} {n : Nat} {ks : List IntKind} {sz by' : Nat} {z : Value} (h : P.underlying t = some (.array n e)) (hi : TI P e sz by' z) (hs : ks.length = sz) (hp : EqP P D e ks) : EqV P (D + 1) t (List.replicate n ks).flatten := by
  intro d hd w c1 c2 xs ys hx hy h1 h2
  obtain ⟨d, rfl⟩ : ∃ e, d = e + 1 := ⟨d - 1, by omega⟩
  obtain ⟨i, hi, rfl, _, _⟩ := hi
  simp only [Op.equalIn, Sem.run_bind, run_underlying h, Result.andThen_ok, sizeOf, typeInfo, Sem.run_pure]
  have hti : (program).run P w = .ok P w := rfl
  simp only [hti, Result.andThen_ok, hi, Sem.run_pure]
  rw [Std.Legacy.Range.forIn_eq_forIn_range']
  simp only [Std.Legacy.Range.size, Nat.sub_zero, Nat.add_sub_cancel, Nat.div_one]
  -- the rounds from number s on
  have key : ∀ (m s : Nat) (xs ys : List Int), xs.length = (List.replicate m ks).flatten.length → ys.length = (List.replicate m ks).flatten.length → CAt c1 (s * i.size) (zi (List.replicate m ks).flatten xs) → CAt c2 (s * i.size) (zi (List.replicate m ks).flatten ys) →
      (((forIn (List.range' s m) ((none, ()) : Option Bool × Unit) fun j _ => do
        let a ← part e c1 (j * i.size)
        let b ← part e c2 (j * i.size)
        let r ← Op.equalIn d e a b
        if (!r) = true then pure (ForInStep.done (some false, ())) else
          pure (ForInStep.yield (none, ()))) : Sem _).run P w) = .ok (if xs = ys then (none, ()) else (some false, ())) w := by
    intro m
    induction m with
    | zero =>
      intro s xs ys hx hy _ _
      have := List.eq_nil_of_length_eq_zero (by simpa using hx)
      have := List.eq_nil_of_length_eq_zero (by simpa using hy)
      subst_vars
      simp
    | succ m ih =>
      intro s xs ys hx hy h1 h2
      rw [List.replicate_succ, List.flatten_cons] at hx hy h1 h2
      obtain ⟨xa, xb, rfl, hxa⟩ : ∃ xa xb, xs = xa ++ xb ∧ xa.length = ks.length := ⟨xs.take ks.length, xs.drop ks.length, (List.take_append_drop _ _).symm, by simp at hx ⊢; omega⟩
      obtain ⟨ya, yb, rfl, hya⟩ : ∃ ya yb, ys = ya ++ yb ∧ ya.length = ks.length := ⟨ys.take ks.length, ys.drop ks.length, (List.take_append_drop _ _).symm, by simp at hy ⊢; omega⟩
      rw [zi_app hxa] at h1
      rw [zi_app hya] at h2
      obtain ⟨h1a, h1b⟩ := h1.app
      obtain ⟨h2a, h2b⟩ := h2.app
      rw [zi_len hxa, hs, ← Nat.succ_mul] at h1b
      rw [zi_len hya, hs, ← Nat.succ_mul] at h2b
      obtain ⟨a, b, ra, rb, re⟩ := hp d (by omega) w c1 c2 _ _ xa ya hxa hya h1a h2a
      have hI := ih (s + 1) xb yb (by simp at hx ⊢; omega) (by simp at hy ⊢; omega) h1b h2b
      simp only [List.range'_succ, List.forIn_cons, Sem.run_bind, ra, rb, re, Result.andThen_ok]
      by_cases e : xa = ya
      · subst e
        simp only [decide_true, Bool.not_true, Bool.false_eq_true, if_false, Sem.run_pure, Result.andThen_ok, List.append_cancel_left_eq]
        exact hI
      · have : ¬ (xa ++ xb = ya ++ yb) := fun h => e (List.append_inj h (by omega)).1
        simp [e, this]
  have hk := key n 0 xs ys hx hy (by simpa using h1) (by simpa using h2)
  rw [hk]
  by_cases e : xs = ys <;> simp [e]
end Go.Proofs.YtffmanidnlbjjaaGreat
namespace Go.Proofs.YtffmanidnlbjjaaGreat
open Go.RowKit
theorem Del.upd {L L1 : List Res} {r : Res} (h : Del L r L1) (r' : Res) : ∃ L', Upd L r r' L' ∧ L'.Perm (r' :: L1) := by
  induction h with
  | head => exact ⟨_, .head, .refl _⟩
  | @tail s r L L' _ ih =>
    obtain ⟨M, hu, hp⟩ := ih
    exact ⟨s :: M, .tail hu, (hp.cons s).trans (.swap _ _ _)⟩
theorem Del.mem {L L1 : List Res} {r : Res} (h : Del L r L1) : r ∈ L := by
  induction h with
  | head => simp
  | tail _ ih => simp [ih]
theorem Del.mem_of {L L1 : List Res} {r s : Res} (h : Del L r L1) (hs : s ∈ L1) : s ∈ L := by
  induction h with
  | head => simp [hs]
  | tail _ ih => rcases List.mem_cons.1 hs with rfl | hs
                 · simp
                 · simp [ih hs]
section
variable {S : Nat → Prop} {w0 w w' : World} {L L1 : List Res} {r r' : Res}
/-- one resource turns, and is put in front -/
theorem St.turn_front (h : St S w0 w L) (hd : Del L r L1) (hk : Keep (fun k => r.own = some k) w w') (hr : r'.holds w')
    (ho : ∀ g, r'.own = some g → r.own = some g ∨ w.heap.size ≤ g) (hn : ∀ g, r'.reads = some g → r.own = some g ∨ r.reads = some g ∨ w.heap.size ≤ g) : St S w0 w' (r' :: L1) := by
  obtain ⟨L', hu, hp⟩ := hd.upd r'
  exact (h.turn hu hk hr ho hn).perm hp
theorem St.front (h : St S w0 w L) (hd : Del L r L1) : St S w0 w (r :: L1) := h.perm hd.perm
end
theorem keep_of_grown {w w' : World} {v : Value} {A : Option Addr} {n c : Nat} (hv : v = .slice A n c) (h : w.grownBy w' v.ownBlock) (hd : w.drawn ≤ w'.drawn) : Keep (fun k => A.map (·.block) = some k) w w' := by
  subst hv
  refine ⟨h.os, h.tape, h.output, h.size, fun k hk hs => h.block k hk (fun e => hs ?_), hd⟩
  rw [e]
  cases A <;> rfl
section
variable {P : Program} {w : World}
/-- the append of nothing -/
theorem run_append_zero {t ty e : TypeId} {i : TypeInfo} (ht : P.underlying t = some (.slice e)) (hi : P.info? e = some i) {A B : Option Addr} {n c c2 : Nat} (hnc : n ≤ c) :
    (Builtin.append_ #[t, t] ty #[.slice A n c, .slice B 0 c2]).run P w = .ok (.slice A n c) w := by
  cases A <;> cases B <;> simp [Builtin.append_, run_underlying ht, sizeOf, typeInfo, hi, Builtin.lenOf, Builtin.firstCells, hnc, storeCells, loadCells, loadCellsFrom]
theorem append_drawn {t ty e : TypeId} {i : TypeInfo} {z : Value} (ht : P.underlying t = some (.slice e)) (hi : P.info? e = some i) (hz : i.zero = some z) (hsz : 0 < i.size) {A : Option Addr} {n c : Nat} {xs : List Value} (hown : w.ownsRow 0 e i.size (.slice A n c) n xs)
    {a : Addr} {m c2 : Nat} {news : List Value} (hm : 0 < m) (hl : news.length = m * i.size) (hnews : ∀ j u, news[j]? = some u → w.cell? (a.add j) = some u) (h1 : ∀ u ∈ news, u.oneCell' = true) (h63 : n + m ≤ maxLen) (hby : (n + m) * i.bytes ≤ 140737488355328) {v' : Value} {w' : World}
    (hrun : (Builtin.append_ #[t, t] ty #[.slice A n c, .slice (some a) m c2]).run P w = .ok v' w') : w.drawn ≤ w'.drawn := by
  have hsmall : n + m ≤ 9223372036854775807 := by simp only [maxLen] at h63; omega
  rcases hown.2 with ⟨hv, h0⟩ | ⟨g, cap, cur, hv, hbg, hg, hnc, hcm, hcs, htake⟩
  · simp only [Value.slice.injEq] at hv
    obtain ⟨rfl, rfl, rfl⟩ := hv
    have hr := run_append_nil (P := P) w t ty e i z ht hi hz a m c2 news hl hnews (by omega) (by omega) (by have hb := hby; simp only [Nat.zero_add] at hb; omega)
    rw [hr] at hrun
    simp only [Result.ok.injEq] at hrun
    rw [← hrun.2]; exact Nat.le_succ _
  · simp only [Value.slice.injEq] at hv
    obtain ⟨rfl, _, rfl⟩ := hv
    by_cases hroom : n + m ≤ c
    · have hfit : n * i.size + news.length ≤ cur.size := by rw [hl, hcs, ← Nat.add_mul]; exact Nat.mul_le_mul_right _ hroom
      have hr := run_append_room (P := P) w t ty e i ht hi g n c cur hg a m c2 news hl hnews h1 hroom hfit
      rw [hr] at hrun
      simp only [Result.ok.injEq] at hrun
      rw [← hrun.2]; exact Nat.le_refl _
    · have holds : ∀ j u, xs[j]? = some u → w.cell? ((⟨g, 0, none⟩ : Addr).add j) = some u := hown.cells (g := g) rfl
      have hr := run_append_grow (P := P) w t ty e i z ht hi hz ⟨g, 0, none⟩ n c xs hown.1 holds a m c2 news hl hnews (by omega) (by omega) (growslice_fits (by omega) hby)
      rw [hr] at hrun
      simp only [Result.ok.injEq] at hrun
      rw [← hrun.2]; exact Nat.le_succ _
theorem run_append_all {t ty e : TypeId} {sz by' : Nat} {z : Value} (ht : P.underlying t = some (.slice e)) (hi : TI P e sz by' z) (hsz : 0 < sz) (hzs : z.cells.size = sz) {A : Option Addr} {n c : Nat} {xs : List Value} (hown : w.ownsRow 0 e sz (.slice A n c) n xs)
    {B : Option Addr} {m c2 : Nat} {news : List Value} (hr : Rd w B sz m news) (h1 : ∀ u ∈ news, u.oneCell' = true) (h63 : n + m ≤ maxLen) (hby : (n + m) * by' ≤ 140737488355328) :
    ∃ A' c' w', (Builtin.append_ #[t, t] ty #[.slice A n c, .slice B m c2]).run P w = .ok (.slice A' (n + m) c') w' ∧ w'.ownsRow 0 e sz (.slice A' (n + m) c') (n + m) (xs ++ news) ∧ Keep (fun k => A.map (·.block) = some k) w w' ∧ (∀ g, A'.map (·.block) = some g → A.map (·.block) = some g ∨ w.heap.size ≤ g) := by
  obtain ⟨i, hi, rfl, rfl, hz⟩ := hi
  rcases Nat.eq_zero_or_pos m with rfl | hm
  · have hnil : news = [] := List.eq_nil_of_length_eq_zero (by simpa using hr.1)
    subst hnil
    have hnc : n ≤ c := by
      rcases hown.2 with ⟨hv, h0⟩ | ⟨g, cap, cur, hv, _, _, hnc, _⟩
      · omega
      · simp only [Value.slice.injEq] at hv; omega
    exact ⟨A, c, w, run_append_zero ht hi hnc, by simpa using hown, Keep.refl _ _, fun g hg => .inl hg⟩
  · obtain ⟨hl, h2⟩ := hr
    obtain ⟨g, o, rfl, _, hc⟩ := h2 hm
    obtain ⟨v', w', hrun, hown', hgrow, _, hat⟩ := run_append_own_at (P := P) w 0 t ty e i z i.size i.bytes ht hi hz rfl rfl hzs hsz _ n xs hown ⟨g, o, none⟩ m c2 news hl (fun j u hu => by rw [add_at]; exact hc j u hu) h1 h63 hby (Nat.zero_le _)
    have hdr := append_drawn ht hi hz hsz hown hm hl (fun j u hu => by rw [add_at]; exact hc j u hu) h1 h63 hby hrun
    rcases hown'.2 with ⟨_, h0⟩ | ⟨g', cap, cur, hv, hrest⟩
    · omega
    · subst hv
      refine ⟨some ⟨g', 0, none⟩, cap, w', hrun, hown', keep_of_grown rfl hgrow hdr, fun k hk => ?_⟩
      simp at hk
      subst hk
      rcases hat with h5 | h5
      · left
        have h6 : (Value.slice A n c).ownBlock = some g' := by rw [← h5]; rfl
        cases A with
        | none => simp [Value.ownBlock] at h6
        | some a => simpa [Value.ownBlock] using h6
      · right
        simp [Value.ownBlock] at h5
        omega
end
section
variable {P : Program} {ops : Array Oper} {Q : Exit → Act → World → Prop} {rest : List Oper} {l : List Value} {w : World} {d : Nat} {ty : TypeId} {pos : String} {aft : Array Edge}
variable {S : Nat → Prop} {w0 : World} {L L1 : List Res}
theorem m_append {T e : TypeId} {x y : Operand} {sz by' : Nat} {z : Value} {A B : Option Addr} {n c m c2 : Nat} {xs news : List Value} (hT : P.underlying T = some (.slice e)) (hi : TI P e sz by' z) (hsz : 0 < sz ∧ z.cells.size = sz := by decide) (hx : opv l x = .slice A n c := by rfl) (hy : opv l y = .slice B m c2 := by rfl) (hS : St S w0 w L)
    (hd : Del L (.vec A c e sz n xs) L1 := by repeat (first | exact Del.head | apply Del.tail)) (hm : Has L1 (.rd B sz m news) := by repeat (first | exact Has.head | apply Has.tail)) (h1 : ∀ u ∈ news, u.oneCell' = true := by first | exact ic_one _ _ | exact il_one _ _ | simp [Value.oneCell']) (h63 : n + m ≤ maxLen := by first | omega | (simp only [maxLen]; omega)) (hby : (n + m) * by' ≤ 140737488355328 := by omega)
    (h : ∀ w' A' c', St S w0 w' (.vec A' c' e sz (n + m) (xs ++ news) :: L1) → WL P ops Q rest (fr (l.set d (.slice A' (n + m) c'))) w') : WL P ops Q (⟨some d, .call { callee := .builtin .append, args := #[x, y], argTypes := #[T, T] }, ty, pos, aft, none⟩ :: rest) (fr l) w := by
  have hown := hS.holds _ hd.mem
  have hr : Rd w B sz m news := hS.holds _ (hd.mem_of hm.mem)
  obtain ⟨A', c', w', hrun, hown', hk, hat⟩ := run_append_all (t := T) (ty := ty) hT hi hsz.1 hsz.2 hown (c2 := c2) hr h1 h63 hby
  refine s_val (v := .slice A' (n + m) c') (w' := w') (by simp [execOp, resolve, invoke, builtin, hx, hy, hrun]) (h w' A' c' ?_)
  exact hS.turn_front hd hk hown' (fun g hg => hat g hg) (by intro g hg; simp [Res.reads] at hg)
theorem m_make {T e : TypeId} {x y : Operand} {sz by' n : Nat} {z : Value} {kl kc : IntKind} (hT : P.underlying T = some (.slice e)) (hi : TI P e sz by' z) (hx : opv l x = .int kl (n : Int) := by rfl) (hy : opv l y = .int kc (n : Int) := by rfl) (h63 : n ≤ maxLen) (hby : by' * n ≤ 281474976710656 := by omega) (hS : St S w0 w L)
    (h : ∀ w' A', St S w0 w' (.vec A' n e sz n (madeCells z.cells (n * sz)).toList :: L) → WL P ops Q rest (fr (l.set d (.slice A' n n))) w') : WL P ops Q (⟨some d, .makeSlice T x y, ty, pos, aft, none⟩ :: rest) (fr l) w := by
  obtain ⟨i, hi, rfl, rfl, hz⟩ := hi
  have h1 : (n : Int) ≤ 9223372036854775807 := by simp only [maxLen] at h63; omega
  have hb : (i.bytes : Int) * (n : Int) ≤ 281474976710656 := by
    have hh : ((i.bytes * n : Nat) : Int) ≤ 281474976710656 := by omega
    rwa [Int.natCast_mul] at hh
  have hr := run_make (P := P) w T e i z hT hi hz kl kc n n (by omega) (Int.le_refl _) hb h1
  simp only [Int.toNat_natCast] at hr
  refine s_val (v := .slice (some ⟨w.heap.size, 0, none⟩) n n) (w' := w.alloc (.cells (madeCells z.cells (n * i.size)) e)) (by simp [execOp, hx, hy, hr]) (h _ _ ?_)
  exact (hS.alloc _).obj_vec (size_madeCells _ _) h63 .head
theorem run_eql_agg {T : TypeId} {D : Nat} {ks : List IntKind} {X Y : Array Value} {xs ys : List Int} (he : EqV P D T ks) (hD : D ≤ 10000) (hX : X = (zi ks xs).toArray) (hY : Y = (zi ks ys).toArray) (h1 : xs.length = ks.length) (h2 : ys.length = ks.length) (w : World) : (Op.equal T (.agg X) (.agg Y)).run P w = .ok (decide (xs = ys)) w := by
  subst hX hY
  exact he 10000 hD w _ _ xs ys h1 h2 (CAt.of_list _) (CAt.of_list _)
theorem s_eql_agg {T yT : TypeId} {x y : Operand} {D : Nat} {ks : List IntKind} {X Y : Array Value} {xs ys : List Int} (he : EqV P D T ks) (hD : D ≤ 10000 := by decide) (hg : P.eqGuardType P.depth T = false) (hx : opv l x = .agg X := by rfl) (hy : opv l y = .agg Y := by rfl) (hX : X = (zi ks xs).toArray) (hY : Y = (zi ks ys).toArray) (h1 : xs.length = ks.length) (h2 : ys.length = ks.length) : Go1 P l w ⟨some d, .binOp .eql T x y yT, ty, pos, aft, none⟩ (.bool (decide (xs = ys))) := by
  have hr := run_eql_agg he hD hX hY h1 h2 w
  have hgu := run_eqGuard_agg (P := P) w .eql T x y X Y hg
  unfold Go1
  simp [execOp, hx, hy, hgu, binOp, hr]
theorem s_neq_agg {T yT : TypeId} {x y : Operand} {D : Nat} {ks : List IntKind} {X Y : Array Value} {xs ys : List Int} (he : EqV P D T ks) (hD : D ≤ 10000 := by decide) (hg : P.eqGuardType P.depth T = false) (hx : opv l x = .agg X := by rfl) (hy : opv l y = .agg Y := by rfl) (hX : X = (zi ks xs).toArray) (hY : Y = (zi ks ys).toArray) (h1 : xs.length = ks.length) (h2 : ys.length = ks.length) : Go1 P l w ⟨some d, .binOp .neq T x y yT, ty, pos, aft, none⟩ (.bool (!decide (xs = ys))) := by
  have hr := run_eql_agg he hD hX hY h1 h2 w
  have hgu := run_eqGuard_agg (P := P) w .neq T x y X Y hg
  unfold Go1
  simp [execOp, hx, hy, hgu, binOp, hr]
theorem zi_ic {k : IntKind} {n : Nat} {l : List Int} (h : l.length = n) : ic k l = (zi (List.replicate n k) l).toArray := by subst h; rw [zi_rep]; rfl
def strOf (ns : List Int) : ByteArray := ⟨(ns.map fun n => UInt8.ofNat n.toNat).toArray⟩
theorem strOf_eq (ns : List Int) : ns.foldl (fun r n => r.push (UInt8.ofNat n.toNat)) ByteArray.empty = strOf ns := by
  have key : ∀ (ns : List Int) (s : ByteArray), ns.foldl (fun r n => r.push (UInt8.ofNat n.toNat)) s = ⟨s.data ++ (ns.map fun n => UInt8.ofNat n.toNat).toArray⟩ := by
    intro ns
    induction ns with
    | nil => intro s; simp
    | cons n ns ih =>
      intro s
      rw [List.foldl_cons, ih]
      congr 1
      simp [ByteArray.push]
  rw [key]
  simp [strOf, ByteArray.empty, ByteArray.emptyWithCapacity]; rfl
theorem m_bytes_str {U D e : TypeId} {x : Operand} {A : Option Addr} {n c : Nat} {ns : List Int} (hU : P.underlying U = some (.slice e)) (hD : P.underlying D = some .string) (he : P.underlying e = some (.int .u8)) (hx : opv l x = .slice A n c := by rfl) (hS : St S w0 w L) (hm : Has L (.rd A 1 n (ns.map (Value.int .u8))) := by repeat (first | exact Has.head | apply Has.tail)) : Go1 P l w ⟨some d, .convert U D x, ty, pos, aft, none⟩ (.string (strOf ns)) := by
  obtain ⟨hl, h2⟩ := hS.has hm
  have hln : ns.length = n := by simpa using hl
  unfold Go1
  have hr : (Conv.bytesToString (.slice A n c)).run P w = .ok (.string (strOf ns)) w := by
    cases A with
    | none =>
      have : n = 0 := by
        rcases Nat.eq_zero_or_pos n with h0 | h0
        · exact h0
        · obtain ⟨g, o, e, _⟩ := h2 h0; cases e
      subst this
      have : ns = [] := List.eq_nil_of_length_eq_zero hln
      subst this
      simp [Conv.bytesToString, strOf, ByteArray.empty, ByteArray.emptyWithCapacity]; rfl
    | some a =>
      rw [← strOf_eq]
      refine run_bytesToString w a n c ns ?_
      rcases Nat.eq_zero_or_pos n with h0 | h0
      · subst h0
        have : ns = [] := List.eq_nil_of_length_eq_zero hln
        subst this
        simp [loadCells, loadCellsFrom]
      · obtain ⟨g, o, e, _, hc⟩ := h2 h0
        injection e with e
        subst e
        have := run_loadCells_list (P := P) w ⟨g, o, none⟩ (ns.map (Value.int .u8)) (fun j v hv => by rw [add_at]; exact hc j v hv)
        simpa [hln] using this
  simp only [execOp, hx, run_convert_bytes_string (P := P) w U D e A n c hU he hD, Sem.run_bind, hr, Result.andThen_ok, Sem.run_pure]
end
end Go.Proofs.YtffmanidnlbjjaaGreat
namespace Go.Proofs.YtffmanidnlbjjaaGreat
open Go.RowKit
/-- the walk in the text's order, shut -/
structure WQ (P : Program) (ops : Array Oper) (C : World → Prop) (Q : Act → Prop) (os : List Oper) (a : Act) : Prop where
  run : wpQuiet P ops C Q os a
section
variable {P : Program} {ops : Array Oper} {C : World → Prop} {Q : Act → Prop} {rest : List Oper} {l : List Value} {d : Nat} {v : Value} {ty : TypeId} {pos : String} {aft : Array Edge}
theorem q_step {o : Oper} {x : Value} (hw : Region.wanted o (yielded ops (fr l).tmps) = true) (h1 : ∀ w, C w → o.quietAt P (fr l) C w x) (h : WQ P ops C Q rest ((fr l).put o.dst x)) : WQ P ops C Q (o :: rest) (fr l) := by
  refine ⟨?_⟩
  simp only [wpQuiet, hw, if_true]
  exact ⟨x, h1, h.run⟩
theorem wanted_none {dst : Option Nat} {op : Op} {f : Nat → Option Bool} : Region.wanted ⟨dst, op, ty, pos, aft, none⟩ f = true := by simp [Region.wanted]
theorem q_go {op : Op} (H : ∀ w, C w → Go1 P l w ⟨some d, op, ty, pos, aft, none⟩ v) (h : WQ P ops C Q rest (fr (l.set d v))) : WQ P ops C Q (⟨some d, op, ty, pos, aft, none⟩ :: rest) (fr l) :=
  q_step (x := v) wanted_none (fun w hC => by
    have := H w hC
    unfold Go1 at this
    unfold Oper.quietAt
    rw [eval_fr, this]
    exact ⟨rfl, rfl⟩) (by rw [put_fr]; exact h)
theorem q_call_any {dst : Option Nat} {op : Op} {f : Nat} {args : Array Value} (hr : ∀ w, C w → (execOp (opv l) ⟨dst, op, ty, pos, aft, none⟩).run P w = .ok (.enter f args) w) (H : ∀ w, C w → CallR P f args w fun v' w' => v' = v ∧ C w') (h : WQ P ops C Q rest ((fr l).put dst v)) : WQ P ops C Q (⟨dst, op, ty, pos, aft, none⟩ :: rest) (fr l) :=
  q_step (x := v) wanted_none (fun w hC => by
    unfold Oper.quietAt
    rw [eval_fr, hr w hC]
    refine ⟨rfl, Calls.mono (H w hC) ?_⟩
    rintro e w' ⟨v', rfl, rfl, hC'⟩
    exact ⟨rfl, hC'⟩) h
theorem q_call {f : Nat} {args : Array Operand} {tys : Array TypeId} (he : Enters P f) (H : ∀ w, C w → CallR P f (args.map (opv l)) w fun v' w' => v' = v ∧ C w') (h : WQ P ops C Q rest (fr (l.set d v))) : WQ P ops C Q (⟨some d, .call { callee := .value (.func f), args := args, argTypes := tys }, ty, pos, aft, none⟩ :: rest) (fr l) :=
  q_call_any (fun w _ => by
    have := he (args.map (opv l) ++ #[]) w
    simp only [Array.append_empty] at this
    simp [execOp, resolve, opv, Deferred.ofValue, invoke, this]) H (by rw [put_fr]; exact h)
theorem q_on {dst : Option Nat} {op : Op} {g : Nat × Bool} (hg : yielded ops (l.toArray) g.1 = some g.2) (h : WQ P ops C Q (⟨dst, op, ty, pos, aft, none⟩ :: rest) (fr l)) : WQ P ops C Q (⟨dst, op, ty, pos, aft, some g⟩ :: rest) (fr l) := by
  have h1 : Region.wanted ⟨dst, op, ty, pos, aft, some g⟩ (yielded ops (fr l).tmps) = true := by simp [Region.wanted, fr, hg]
  replace h := h.run
  refine ⟨?_⟩
  simp only [wpQuiet, h1, wanted_none, if_true] at h ⊢
  exact h
theorem q_off {op : Op} {g : Nat × Bool} (hg : yielded ops (l.toArray) g.1 = some (!g.2)) (h : WQ P ops C Q rest (fr (l.set d undef))) : WQ P ops C Q (⟨some d, op, ty, pos, aft, some g⟩ :: rest) (fr l) := by
  have h1 : Region.wanted ⟨some d, op, ty, pos, aft, some g⟩ (yielded ops (fr l).tmps) = false := by simp [Region.wanted, fr, hg]
  refine ⟨?_⟩
  simp only [wpQuiet, h1, Bool.false_eq_true, if_false, put_fr]
  exact h.run
theorem q_un {op : Op} {g : Nat × Bool} (hg : yielded ops (l.toArray) g.1 = none) (h : WQ P ops C Q rest (fr (l.set d undef))) : WQ P ops C Q (⟨some d, op, ty, pos, aft, some g⟩ :: rest) (fr l) := by
  have h1 : Region.wanted ⟨some d, op, ty, pos, aft, some g⟩ (yielded ops (fr l).tmps) = false := by simp [Region.wanted, fr, hg]
  refine ⟨?_⟩
  simp only [wpQuiet, h1, Bool.false_eq_true, if_false, put_fr]
  exact h.run
theorem q_part {os : List Oper} (t : Nat) {b : Bool} (hb : l.getD t undef = .bool b) (ht : b = true → WQ P ops C Q os (fr (l.set t (.bool true)))) (hf : b = false → WQ P ops C Q os (fr (l.set t (.bool false)))) : WQ P ops C Q os (fr l) := by
  cases b
  · have := hf rfl; rw [← hb, set_getD] at this; exact this
  · have := ht rfl; rw [← hb, set_getD] at this; exact this
end
section
variable {P : Program} {n r : Act → World → Prop} {ex : List (Nat × (Act → World → Prop))} {w : World} {l : List Value} {S : Nat → Prop} {w0 : World} {L : List Res}
theorem x_quiet {id : Nat} {ops : List Oper} (hm : P.follows .mixedOrders = true) (hB : Region.lexB .any ops.toArray = true) (hS : St S w0 w L) (h : WQ P ops.toArray (fun w => St S w0 w L) (fun a' => ∀ w', St S w0 w' L → n a' w') ops (fr l)) : (Code.region id ops.toArray true).wp P (Qx n r ex) (fr l) w :=
  wp_region_quiet (C := fun w => St S w0 w L) hm hB (hS.ext (Ext.drew w)) (by simpa only [Qx, List.toList_toArray] using h.run)
theorem q_nil {ops : Array Oper} {C : World → Prop} {n : Act → World → Prop} {a : Act} (h : ∀ w', C w' → n a w') : WQ P ops C (fun a' => ∀ w', C w' → n a' w') [] a := ⟨h⟩
end
end Go.Proofs.YtffmanidnlbjjaaGreat
namespace Go.Proofs.YtffmanidnlbjjaaGreat
open Go.RowKit
section
variable {P : Program} {md : Region.Mode} {ops : Array Oper} {C : World → Prop} {lt : List Nat} {Q : Exit → Act → World → Prop}
/-- none of the late operations has come -/
def noLate (lt : List Nat) (listed : Array Bool) : Prop := ∀ k ∈ lt, listed.getD k false = false
/-- every order from here on, whatever is laid beside between two steps -/
def AnyE (P : Program) (md : Region.Mode) (ops : Array Oper) (C : World → Prop) (lt : List Nat) (Q : Exit → Act → World → Prop) : Nat → Array Bool → Act → World → Prop
  | 0, listed, a, w => ∀ w1, Ext w w1 → (noLate lt listed → C w1) ∧ Region.ready md ops listed = [] ∧ Q .normal a w1
  | n + 1, listed, a, w => ∀ w1, Ext w w1 → (noLate lt listed → C w1) ∧ (Region.ready md ops listed = [] → Q .normal a w1) ∧ ∀ i ∈ Region.ready md ops listed, wpOp P ops Q i (AnyE P md ops C lt Q n (listed.setIfInBounds i true)) a w1
theorem AnyE.any : ∀ (n : Nat) {listed : Array Bool} {a : Act} {w : World}, AnyE P md ops C lt Q n listed a w → wpAny P md ops Q n listed a w
  | 0, _, _, w, h => (h w Ext.rfl').2
  | n + 1, _, _, w, h => ⟨(h w Ext.rfl').2.1, fun i hi => wpOp_mono (fun _ _ h' => AnyE.any n h') ((h w Ext.rfl').2.2 i hi)⟩
theorem AnyE.ext {n : Nat} {listed : Array Bool} {a : Act} {w w' : World} (h : AnyE P md ops C lt Q n listed a w) (hE : Ext w w') : AnyE P md ops C lt Q n listed a w' := by
  cases n with
  | zero => exact fun w1 h1 => h w1 (hE.trans h1)
  | succ n => exact fun w1 h1 => h w1 (hE.trans h1)
theorem AnyE.cls {n : Nat} {listed : Array Bool} {a : Act} {w : World} (h : AnyE P md ops C lt Q n listed a w) : noLate lt listed → C w := by
  cases n with
  | zero => exact (h w Ext.rfl').1
  | succ n => exact (h w Ext.rfl').1
def QuietU (P : Program) (w : World) (v : Value) : Result Next → Prop
  | .ok (.value u) w' => w' = w ∧ u = v
  | .ok (.enter f args) w' => w' = w ∧ Calls P f args w (fun e w'' => e = .returned v ∧ Ext w w'')
  | _ => False
def YieldsE (P : Program) (ops : Array Oper) (C : World → Prop) (o : Oper) (v : Value) (a : Act) : Prop :=
  (Region.wanted o (yielded ops a.tmps) = true ∧ ∀ w, C w → QuietU P w v ((execOp a.eval o).run P w)) ∨
  (Region.wanted o (yielded ops a.tmps) = false ∧ v = undef)
theorem YieldsE.of_same {o : Oper} {v : Value} {a a' : Act} (hy : YieldsE P ops C o v a) (he : execOp a'.eval o = execOp a.eval o)
    (hw : Region.wanted o (yielded ops a'.tmps) = Region.wanted o (yielded ops a.tmps)) : YieldsE P ops C o v a' := by
  unfold YieldsE at *
  rw [he, hw]
  exact hy
theorem YieldsE.wpOp {i : Nat} {o : Oper} {v : Value} {a : Act} (hi : ops[i]? = some o) (hy : YieldsE P ops C o v a) {K : Act → World → Prop} {w : World} (hC : C w) (h : ∀ w', Ext w w' → K (a.put o.dst v) w') : wpOp P ops Q i K a w := by
  unfold Go.wpOp
  simp only [hi]
  rcases hy with ⟨hw, hv⟩ | ⟨hw, rfl⟩
  · simp only [hw, if_true]
    have := hv w hC
    refine .inl ?_
    unfold Oper.wp
    generalize (execOp a.eval o).run P w = r at this
    cases r with
    | ok n w' =>
      cases n <;> simp only [QuietU] at this <;> simp only [Oper.upon]
      case value u => obtain ⟨rfl, rfl⟩ := this; exact h _ Ext.rfl'
      case enter f args =>
        obtain ⟨rfl, hc⟩ := this
        exact hc.mono fun e w'' ⟨he, hE⟩ => by subst he; exact h _ hE
    | halt x w' => simp only [QuietU] at this
  · simp only [hw, Bool.false_eq_true, if_false]; exact h _ Ext.rfl'
theorem wpOp_putE {j : Nat} {oi oj : Oper} {v : Value} (hj : ops[j]? = some oj) (hap : oi.apart ops oj = true)
    (hsi : ∀ cs b, oi.op ≠ .select cs b) (hsj : ∀ cs b, oj.op ≠ .select cs b)
    (hQ : ∀ c a w, ¬ Q (.panic c) a w) {K : Act → World → Prop} {a : Act} {w : World}
    (hy : YieldsE P ops C oi v a) (h : wpOp P ops Q j K (a.put oi.dst v) w) :
    wpOp P ops Q j (fun a' w' => YieldsE P ops C oi v a' ∧ K (a'.put oi.dst v) w') a w := by
  obtain ⟨h1, h2, h3⟩ := Oper.apart_spec hap
  have keep : ∀ (a : Act), YieldsE P ops C oi v a → ∀ u, YieldsE P ops C oi v (a.put oj.dst u) := fun a hy u =>
    hy.of_same (execOp_put oi hsi a oj.dst u h3) (wanted_put oi a oj.dst u h3)
  have keepD : ∀ d, YieldsE P ops C oi v { a with defers := d :: a.defers } := fun d => hy.of_same rfl rfl
  unfold wpOp at *
  simp only [hj] at *
  rw [wanted_put oj a oi.dst v h1] at h
  split
  · rename_i hw
    simp only [hw, if_true] at h
    rcases h with h | ⟨hasks, hlets⟩
    case inr => exact .inr ⟨by unfold Oper.asks at *; rw [execOp_put oj hsj a oi.dst v h1] at hasks; exact hasks, hlets⟩
    refine .inl ?_
    unfold Oper.wp at *
    rw [execOp_put oj hsj a oi.dst v h1] at h
    generalize (execOp a.eval oj).run P w = r at *
    cases r with
    | ok n w' =>
      cases n <;> simp only [Oper.upon] at h ⊢
      case value u => exact ⟨keep a hy u, by rw [← Act.put_comm a v u h2]; exact h⟩
      case skip => exact ⟨keep a hy _, by rw [← Act.put_comm a v undef h2]; exact h⟩
      case defer d =>
        refine ⟨keep _ (keepD d) _, ?_⟩
        rw [← Act.put_comm _ v undef h2, ← Act.put_defers]
        exact h
      case enter f args =>
        refine Calls.mono h fun e w'' he => ?_
        cases e with
        | returned u => exact ⟨keep a hy u, by rw [← Act.put_comm a v u h2]; exact he⟩
        | panicked c => exact (hQ _ _ _ he).elim
        | outgrown => exact he
      case row row args => exact Rows.mono h fun u w'' he => ⟨keep a hy u, by rw [← Act.put_comm a v u h2]; exact he⟩
    | halt x w' =>
      cases x <;> simp only [Oper.upon] at h ⊢
      case panic u => exact (hQ _ _ _ h).elim
  · rename_i hw
    simp only [hw] at h
    exact ⟨keep a hy _, by rw [← Act.put_comm a v undef h2]; exact h⟩
theorem noLate_set {i : Nat} {listed : Array Bool} (hi : i ∉ lt) (h : noLate lt listed) : noLate lt (listed.setIfInBounds i true) := fun k hk => by
  have hne : i ≠ k := fun e => hi (e ▸ hk)
  rw [getD_set_ne false hne]; exact h k hk
theorem AnyE.first {i : Nat} {oi : Oper} {v : Value} (hil : i ∉ lt) (hlw : ∀ k ∈ lt, ∀ o, ops[k]? = some o → ∃ e ∈ o.after, Region.binds md e = true ∧ e.on = i) (hi : ops[i]? = some oi) (hsel : ∀ (j : Nat) (o : Oper) cs b, ops[j]? = some o → o.op ≠ .select cs b) (hQ : ∀ c a w, ¬ Q (.panic c) a w) :
    ∀ (fuel : Nat) (listed : Array Bool) (a : Act) (w : World), noLate lt listed →
      (∀ j oj, ops[j]? = some oj → j ≠ i → listed.getD j true = false → (∀ e ∈ oj.after, Region.binds md e = true → e.on ≠ i) → oi.apart ops oj = true) →
      i ∈ Region.ready md ops listed → YieldsE P ops C oi v a →
      AnyE P md ops C lt Q fuel (listed.setIfInBounds i true) (a.put oi.dst v) w → AnyE P md ops C lt Q (fuel + 1) listed a w := by
  intro fuel
  induction fuel with
  | zero =>
    intro listed a w hnl _ hr hy H w1 hE
    have H1 := H.ext hE
    have hcl := H1.cls (noLate_set hil hnl)
    refine ⟨fun _ => hcl, fun h => (by rw [h] at hr; cases hr), fun j hj => ?_⟩
    by_cases hji : j = i
    · subst hji; exact hy.wpOp hi hcl fun w' hE' => H1.ext hE'
    · have := ready_mono hj hji
      rw [(H1 w1 Ext.rfl').2.1] at this
      cases this
  | succ fuel ih =>
    intro listed a w hnl hfree hr hy H w1 hE
    have H1 := H.ext hE
    have hcl := H1.cls (noLate_set hil hnl)
    refine ⟨fun _ => hcl, fun h => (by rw [h] at hr; cases hr), fun j hj => ?_⟩
    by_cases hji : j = i
    · subst hji; exact hy.wpOp hi hcl fun w' hE' => H1.ext hE'
    · have h1 := (H1 w1 Ext.rfl').2.2 j (ready_mono hj hji)
      obtain ⟨hjun, oj, hoj, hall⟩ := mem_ready.1 hj
      have hnot : ∀ e ∈ oj.after, Region.binds md e = true → e.on ≠ i := fun e he hb heq => by
        have h1 := hall e he hb
        have h0 := (mem_ready.1 hr).1
        rw [heq] at h1
        rcases Nat.lt_or_ge i listed.size with h' | h'
        · simp [h'] at h0 h1; rw [h0] at h1; cases h1
        · simp [Array.getElem?_eq_none h'] at h1
      have h2 := wpOp_putE hoj (hfree j oj hoj hji hjun hnot) (fun cs b => hsel i oi cs b hi) (fun cs b => hsel j oj cs b hoj) hQ hy h1
      have hfree' : ∀ k ok, ops[k]? = some ok → k ≠ i → (listed.setIfInBounds j true).getD k true = false →
          (∀ e ∈ ok.after, Region.binds md e = true → e.on ≠ i) → oi.apart ops ok = true := fun k ok hk hki hun hno => by
        refine hfree k ok hk hki ?_ hno
        by_cases hjk : j = k
        · subst hjk; exact hjun
        · rw [getD_set_ne true hjk] at hun; exact hun
      have hjl : j ∉ lt := fun hjl => by
        obtain ⟨e, he, hb, hon⟩ := hlw j hjl oj hoj
        exact hnot e he hb hon
      refine wpOp_mono (fun a' w' h3 => ih (listed.setIfInBounds j true) a' w' (noLate_set hjl hnl) hfree' (ready_mono hr (Ne.symm hji)) h3.1 ?_) h2
      rw [Array.setIfInBounds_comm _ _ hji]
      exact h3.2
/-- the first operations, in the text's order; T: what stands behind them -/
def wpPre (P : Program) (ops : Array Oper) (C : World → Prop) (T : Act → Prop) : List Oper → Act → Prop
  | [], a => T a
  | o :: rest, a => ∃ v, YieldsE P ops C o v a ∧ wpPre P ops C T rest (a.put o.dst v)
def lateB (md : Region.Mode) (ops : Array Oper) (lt : List Nat) (i : Nat) : Bool := !lt.contains i && lt.all fun k => match ops[k]? with | some o => o.after.any fun e => Region.binds md e && e.on == i | none => true
def preB (md : Region.Mode) (ops : Array Oper) (lt : List Nat) : Nat → Nat → Array Bool → Bool
  | 0, _, _ => true
  | m + 1, k, listed => lateB md ops lt k && (Region.ready md ops listed).contains k && Region.free md ops listed k && preB md ops lt m (k + 1) (listed.setIfInBounds k true)
def setAll : Nat → Nat → Array Bool → Array Bool
  | 0, _, listed => listed
  | m + 1, k, listed => setAll m (k + 1) (listed.setIfInBounds k true)
theorem AnyE.pre (hs : Region.noSelect ops = true) (hQ : ∀ c a w, ¬ Q (.panic c) a w) (fuel : Nat) (w : World) : ∀ (l : List Oper) (k : Nat) (listed : Array Bool) (a : Act), noLate lt listed → (∀ j, j < l.length → l[j]? = ops[k + j]?) →
    preB md ops lt l.length k listed = true → wpPre P ops C (fun a' => AnyE P md ops C lt Q fuel (setAll l.length k listed) a' w) l a → AnyE P md ops C lt Q (fuel + l.length) listed a w
  | [], _, _, _, _, _, _, h => h
  | o :: l, k, listed, a, hnl, hl, hB, h => by
    have h0 : ops[k]? = some o := by simpa using (hl 0 (by simp)).symm
    simp only [List.length_cons, preB, Bool.and_eq_true] at hB
    obtain ⟨⟨⟨hlB, hr⟩, hf⟩, hB'⟩ := hB
    simp only [lateB, Bool.and_eq_true, Bool.not_eq_true', List.all_eq_true] at hlB
    have hil : k ∉ lt := fun hk => by have := hlB.1; simp [hk] at this
    have hlw : ∀ k' ∈ lt, ∀ o', ops[k']? = some o' → ∃ e ∈ o'.after, Region.binds md e = true ∧ e.on = k := fun k' hk' o' ho' => by
      have := hlB.2 k' hk'
      rw [ho'] at this
      obtain ⟨e, he, hb⟩ := Array.any_eq_true'.1 this
      simp only [Bool.and_eq_true, beq_iff_eq] at hb
      exact ⟨e, he, hb.1, hb.2⟩
    obtain ⟨v, hy, hK⟩ := h
    have := AnyE.pre hs hQ fuel w l (k + 1) _ _ (noLate_set hil hnl) (fun j hj => by have := hl (j + 1) (by simpa using hj); simpa [Nat.add_assoc, Nat.add_comm 1 j] using this) hB' hK
    exact AnyE.first hil hlw h0 (Region.noSelect_spec hs) hQ (fuel + l.length) listed a w hnl (Region.free_spec h0 hf) (by simpa using hr) hy this
end
section
variable {P : Program} {ops : Array Oper} {C : World → Prop} {T : Act → Prop} {rest : List Oper} {l : List Value} {d : Nat} {v : Value} {ty : TypeId} {pos : String} {aft : Array Edge}
theorem p_nil {a : Act} (h : T a) : wpPre P ops C T [] a := h
end
section
variable {P : Program} {n r : Act → World → Prop} {ex : List (Nat × (Act → World → Prop))} {w : World} {l : List Value} {S : Nat → Prop} {w0 : World} {L : List Res}
theorem Qx_panic {c : List PanicEntry} {a : Act} {w : World} : ¬ Qx n r ex (.panic c) a w := fun h => h
/-- M: what holds behind the region -/
theorem x_mixed {id : Nat} {ops : List Oper} (lt : List Nat) (m : Nat) (M : Act → World → Prop) (hm : P.follows .mixedOrders = true) (hs : Region.noSelect ops.toArray = true) (hB : preB .any ops.toArray lt m 0 (Array.replicate ops.length false) = true) (hml : m ≤ ops.length)
    (hS : St S w0 w L) (h : ∀ w', St S w0 w' L → wpPre P ops.toArray (fun w => St S w0 w L) (fun a' => AnyE P .any ops.toArray (fun w => St S w0 w L) lt (Qx M r ex) (ops.length - m) (setAll m 0 (Array.replicate ops.length false)) a' w') (ops.take m) (fr l))
    (hM : ∀ a' w', M a' w' → n a' w') : (Code.region id ops.toArray true).wp P (Qx n r ex) (fr l) w := by
  refine wp_mono ?_ (fun e a w q => ?_) (Q := Qx M r ex)
  · refine wp_region_any hm (AnyE.any (C := fun w => St S w0 w L) (lt := lt) _ ?_)
    have hlen : (ops.take m).length = m := by simp; omega
    have := AnyE.pre (P := P) (md := .any) (ops := ops.toArray) (C := fun w => St S w0 w L) (lt := lt) (Q := Qx M r ex) hs (fun _ _ _ => Qx_panic) (ops.length - m) w.drew (ops.take m) 0 (Array.replicate ops.length false) (fr l) (fun k _ => by simp [Array.getD_eq_getD_getElem?, Array.getElem?_replicate]; split <;> rfl) (fun j hj => by
      rw [List.getElem?_take, if_pos (by omega)]; simp) (by rw [hlen]; exact hB) (by rw [hlen]; exact h _ (hS.ext (Ext.drew w)))
    rw [hlen, show ops.length - m + m = ops.length by omega] at this
    simpa using this
  · cases e <;> first | exact hM _ _ q | exact q
def MixM (l : List Value) (V : List Nat) (R : (Nat → Value) → World → Prop) (a : Act) (w : World) : Prop := ∃ f, a = fr (clob l V f) ∧ R f w
theorem mix_leaf {lnow : List Value} {V : List Nat} {R : (Nat → Value) → World → Prop} (he : lnow = clob l V (fun d => lnow.getD d undef)) (hR : R (fun d => lnow.getD d undef) w) : MixM l V R (fr lnow) w := ⟨_, congrArg fr he, hR⟩
/-- the same, the written slots told by R alone -/
theorem x_mixed_f {id : Nat} {ops : List Oper} (lt : List Nat) (m : Nat) (V : List Nat) (R : (Nat → Value) → World → Prop) (hm : P.follows .mixedOrders = true) (hs : Region.noSelect ops.toArray = true) (hB : preB .any ops.toArray lt m 0 (Array.replicate ops.length false) = true) (hml : m ≤ ops.length)
    (hS : St S w0 w L) (h : ∀ w', St S w0 w' L → wpPre P ops.toArray (fun w => St S w0 w L) (fun a' => AnyE P .any ops.toArray (fun w => St S w0 w L) lt (Qx (MixM l V R) r ex) (ops.length - m) (setAll m 0 (Array.replicate ops.length false)) a' w') (ops.take m) (fr l))
    (hM : ∀ f w', R f w' → n (fr (clob l V f)) w') : (Code.region id ops.toArray true).wp P (Qx n r ex) (fr l) w :=
  x_mixed lt m (MixM l V R) hm hs hB hml hS h fun a' w' ⟨f, e, hR⟩ => by subst e; exact hM f w' hR
variable {ops : Array Oper} {C : World → Prop} {lt : List Nat} {M : Act → World → Prop} {a : Act}
theorem any_nil {listed : Array Bool} (hr : Region.ready .any ops listed = []) (h : ∀ w1, Ext w w1 → (noLate lt listed → C w1) ∧ M a w1) : AnyE P .any ops C lt (Qx M r ex) 0 listed a w := fun w1 hE => ⟨(h w1 hE).1, hr, (h w1 hE).2⟩
theorem any_step {k : Nat} {listed : Array Bool} (is : List Nat) (hr : Region.ready .any ops listed = is) (hne : is ≠ []) (h : ∀ w1, Ext w w1 → (noLate lt listed → C w1) ∧ ∀ i ∈ is, wpOp P ops (Qx M r ex) i (AnyE P .any ops C lt (Qx M r ex) k (listed.setIfInBounds i true)) a w1) : AnyE P .any ops C lt (Qx M r ex) (k + 1) listed a w := fun w1 hE => by
  refine ⟨(h w1 hE).1, fun h0 => absurd (hr.symm.trans h0) hne, fun i hi => (h w1 hE).2 i (hr ▸ hi)⟩
/-- one operation of those that may come now -/
theorem any_op {i : Nat} {o : Oper} {K : Act → World → Prop} (ho : ops[i]? = some o) (h : WL P ops (Qx K r ex) [o] a w) : wpOp P ops (Qx M r ex) i K a w := by
  replace h := h.run
  unfold wpList at h
  unfold Go.wpOp
  simp only [ho]
  split
  · rename_i hw
    rw [if_pos hw] at h
    rcases h with h | ⟨_, a', w', h⟩
    · refine .inl ?_
      unfold Oper.wp at *
      generalize (execOp a.eval o).run P w = q at *
      cases q with
      | ok n w' =>
        cases n <;> simp only [Oper.upon] at h ⊢
        case enter f args =>
          refine Calls.mono h fun e w'' he => ?_
          cases e with
          | returned u => exact he
          | panicked c => exact he.elim
          | outgrown => obtain ⟨_, _, h⟩ := he; exact h.elim
        all_goals exact h
      | halt x w' =>
        cases x <;> simp only [Oper.upon] at h ⊢
        case panic u => exact h.elim
    · exact h.elim
  · rename_i hw
    rw [if_neg hw] at h
    exact h
end
end Go.Proofs.YtffmanidnlbjjaaGreat
namespace Go.Proofs.YtffmanidnlbjjaaGreat
open Go.RowKit
def Places (P : Program) (fs : Array Field) (pl : Array (Nat × Nat)) : Prop := ∀ w : World, (fs.mapM fun f => do pure (f.offset, ← sizeOf f.type) : Sem (Array (Nat × Nat))).run P w = .ok pl w
theorem foldl_set_splice (vs : List Value) : ∀ (cells : Array Value) (off k : Nat), off + k + vs.length ≤ cells.size →
    (vs.zipIdx k).foldl (fun (cs : Array Value) (p : Value × Nat) => cs.setIfInBounds (off + p.2) p.1) cells = (splice cells.toList (off + k) vs).toArray := by
  induction vs with
  | nil => intro cells off k _; simp [splice]
  | cons v vs ih =>
    intro cells off k h
    rw [List.zipIdx_cons, List.foldl_cons, ih _ _ _ (by simp at h ⊢; omega)]
    simp only [List.length_cons] at h
    congr 1
    unfold splice
    simp only [Array.toList_setIfInBounds, List.length_cons]
    rw [List.set_eq_take_append_cons_drop, if_pos (by simp; omega)]
    have h1 : (cells.toList.take (off + k)).length = off + k := by simp; omega
    rw [← Nat.add_assoc, List.take_append, List.drop_append, h1]
    simp only [List.take_take, Nat.add_sub_cancel_left, List.take_succ_cons, List.take_zero, List.append_assoc]
    rw [Nat.min_eq_right (by omega), List.drop_eq_nil_of_le (by simp; omega)]
    simp only [List.cons_append, List.nil_append]
    rw [show off + k + 1 + vs.length - (off + k) = (vs.length) + 1 by omega, List.drop_succ_cons, List.drop_drop]
    congr 4
    omega
theorem fill_nil {pl : Nat → Option (Nat × Nat)} {cells : Array Value} : Instr.fill pl cells [] = some cells := rfl
theorem fill_cons {pl : Nat → Option (Nat × Nat)} {cells : Array Value} {i off size : Nat} {v : Value} {rest : List (Nat × Value)} {r : Array Value} (hp : pl i = some (off, size)) (hs : v.cells.size = size) (hf : off + size ≤ cells.size)
    (h : Instr.fill pl (splice cells.toList off v.cells.toList).toArray rest = some r) : Instr.fill pl cells ((i, v) :: rest) = some r := by
  subst hs
  simp only [Instr.fill, hp]
  rw [if_neg (by simp; omega)]
  have := foldl_set_splice v.cells.toList cells off 0 (by simpa using hf)
  rw [← h]
  congr 1
  rw [Nat.add_zero] at this
  rw [← this, ← Array.foldl_toList, Array.toList_zipIdx]
theorem zrow_eq (z : List Value) (hz : 0 < z.length) : ∀ n, (List.range (n * z.length)).map (fun j => z.toArray[j % z.length]!) = (List.replicate n z).flatten
  | 0 => by simp
  | n + 1 => by
    rw [List.replicate_succ', List.flatten_append, Nat.succ_mul, List.range_add, List.map_append, zrow_eq z hz n]
    congr 1
    simp only [List.map_map, List.flatten_cons, List.flatten_nil, List.append_nil]
    apply List.ext_getElem (by simp)
    intro i h1 h2
    simp only [List.getElem_map, List.getElem_range, Function.comp]
    rw [Nat.add_comm, Nat.add_mul_mod_self_right, Nat.mod_eq_of_lt h2]
    simp [h2]
section
variable {P : Program} {ops : Array Oper} {Q : Exit → Act → World → Prop} {rest : List Oper} {l : List Value} {w : World} {d : Nat} {ty : TypeId} {pos : String} {aft : Array Edge} {S : Nat → Prop} {w0 : World} {L L' : List Res}
theorem m_buildRow {T e : TypeId} {n : Nat} {parts : Array (Nat × Operand)} {sz by' : Nat} {z : Value} {cells : Array Value} (hT : P.underlying T = some (.slice e)) (hi : TI P e sz by' z) (hzs : 0 < sz ∧ z.cells.size = sz := by decide) (hsm : n * sz ≤ 2 ^ 24 := by decide)
    (hc : Instr.fill (fun i => some (i * sz, sz)) (List.replicate n z.cells.toList).flatten.toArray (parts.map fun (i, x) => (i, opv l x)).toList = some cells) (hS : St S w0 w L)
    (h : ∀ w' g, St S w0 w' (.obj g (.cells cells e (0, 0)) :: L) → WL P ops Q rest (fr (l.set d (.slice (some ⟨g, 0, none⟩) n n))) w') : WL P ops Q (⟨some d, .buildSlice T n parts, ty, pos, aft, none⟩ :: rest) (fr l) w := by
  refine m_buildSlice hT hi hsm ?_ hS h
  rw [← hc]
  congr 1
  have hz := zrow_eq z.cells.toList (by simpa [hzs.2] using hzs.1) n
  rw [← hz]
  apply Array.ext'
  simp [hzs.2]
end
section
variable {P : Program} {l : List Value} {w : World} {d : Nat} {ty : TypeId} {pos : String} {aft : Array Edge}
theorem s_build_arr {T e : TypeId} {n : Nat} {parts : Array (Nat × Operand)} {tz tb sz by' : Nat} {z ez : Value} {cells : Array Value} (hT : P.underlying T = some (.array n e)) (hi : TI P T tz tb z) (he : TI P e sz by' ez)
    (hc : Instr.fill (fun i => some (i * sz, sz)) z.cells (parts.map fun (i, x) => (i, opv l x)).toList = some cells) : Go1 P l w ⟨some d, .build T parts, ty, pos, aft, none⟩ (.agg cells) := by
  obtain ⟨i, hi, _, _, hz⟩ := hi
  obtain ⟨j, hj, rfl, _, _⟩ := he
  unfold Go1
  simp [execOp, Instr.build, zeroValue, typeInfo, hi, hz, run_underlying hT, sizeOf, hj] at hc ⊢
  rw [hc]; rfl
theorem s_build_struct {T : TypeId} {fs : Array Field} {parts : Array (Nat × Operand)} {tz tb : Nat} {z : Value} {pl : Array (Nat × Nat)} {cells : Array Value} (hT : P.underlying T = some (.struct fs)) (hi : TI P T tz tb z) (hp : Places P fs pl)
    (hc : Instr.fill (pl[·]?) z.cells (parts.map fun (i, x) => (i, opv l x)).toList = some cells) : Go1 P l w ⟨some d, .build T parts, ty, pos, aft, none⟩ (.agg cells) := by
  obtain ⟨i, hi, _, _, hz⟩ := hi
  have hp' := hp w
  unfold Go1
  simp only [execOp, Instr.build, Sem.run_bind, zeroValue, typeInfo, Sem.run_pure, run_underlying hT, Result.andThen_ok] at hc hp' ⊢
  have hti : (program).run P w = .ok P w := rfl
  simp only [hti, Result.andThen_ok, hi, hz, Sem.run_pure]
  rw [hp']
  simp only [Result.andThen_ok]
  rw [hc]; rfl
end
end Go.Proofs.YtffmanidnlbjjaaGreat
namespace Go.Proofs.YtffmanidnlbjjaaGreat
open Go.RowKit
theorem wp_u8 (n : Int) : IntKind.u8.wrap n = n % 256 := by simp [IntKind.wrap, IntKind.bits, IntKind.signed]
theorem wp_u32 (n : Int) : IntKind.u32.wrap n = n % 4294967296 := by simp [IntKind.wrap, IntKind.bits, IntKind.signed]
theorem wp_u64 (n : Int) : IntKind.u64.wrap n = n % 18446744073709551616 := by simp [IntKind.wrap, IntKind.bits, IntKind.signed]
theorem bv_ofInt (w a : Nat) (h : a < 2 ^ w) : (BitVec.ofInt w (a : Int)).toNat = a := by
  rw [BitVec.ofInt_natCast, BitVec.toNat_ofNat]; exact Nat.mod_eq_of_lt h
section
variable {a b : Nat}
theorem or_u64 (ha : a < 18446744073709551616) (hb : b < 18446744073709551616) : bits .or .u64 (a : Int) (b : Int) = ((a ||| b : Nat) : Int) := by
  have hx : a ||| b < 2 ^ 64 := Nat.or_lt_two_pow (by omega) (by omega)
  show IntKind.u64.wrap ((BitVec.ofInt 64 (a : Int) ||| BitVec.ofInt 64 (b : Int)).toNat : Int) = _
  rw [BitVec.toNat_or, bv_ofInt 64 a (by omega), bv_ofInt 64 b (by omega), wp_u64]
  omega
end
section
variable {r s n p : Nat} {b : Int}
theorem pw {b : Int} {m n p : Nat} (hn : min b.toNat m = n) (hp : 2 ^ n = p) : (2 : Int) ^ (min b.toNat m) = (p : Int) := by
  rw [hn, ← hp]; exact (Int.natCast_pow 2 n).symm
theorem shl_u64 (hs : r * p % 18446744073709551616 = s) (hn : min b.toNat 64 = n := by rfl) (hp : 2 ^ n = p := by rfl) : IntKind.u64.wrap ((r : Int) * 2 ^ (min b.toNat IntKind.u64.bits)) = (s : Int) := by
  rw [show IntKind.u64.bits = 64 from rfl, pw hn hp, wp_u64, ← hs, Int.natCast_emod, Int.natCast_mul]; rfl
theorem shr_u (k : IntKind) (hs : r / p = s) (hn : min b.toNat k.bits = n := by rfl) (hp : 2 ^ n = p := by rfl) : Int.fdiv (r : Int) (2 ^ (min b.toNat k.bits)) = (s : Int) := by
  rw [pw hn hp, Int.fdiv_eq_ediv_of_nonneg _ (by omega), ← hs]; exact (Int.natCast_ediv r p).symm
theorem cv_u8 (hs : r % 256 = s) : IntKind.u8.wrap (r : Int) = (s : Int) := by rw [wp_u8, ← hs, Int.natCast_emod]; rfl
theorem cv_u32 (hs : r % 4294967296 = s) : IntKind.u32.wrap (r : Int) = (s : Int) := by rw [wp_u32, ← hs, Int.natCast_emod]; rfl
end
theorem quo_i64 {r p : Nat} (hr : r < 9223372036854775808) (hp : 0 < p := by decide) : IntKind.i64.wrap ((r : Int).tdiv (p : Int)) = ((r / p : Nat) : Int) := by
  have h1 : r / p ≤ r := Nat.div_le_self _ _
  have h2 : (r : Int).tdiv (p : Int) = ((r / p : Nat) : Int) := (Int.tdiv_eq_ediv_of_nonneg (by omega)).trans (Int.natCast_ediv r p).symm
  rw [h2]; clear h2
  generalize r / p = q at *
  exact wr_i64 (by omega) (by omega)
theorem quo_u64 {r p : Nat} (hr : r < 18446744073709551616) (hp : 0 < p := by decide) : IntKind.u64.wrap ((r : Int).tdiv (p : Int)) = ((r / p : Nat) : Int) := by
  have h1 : r / p ≤ r := Nat.div_le_self _ _
  have h2 : (r : Int).tdiv (p : Int) = ((r / p : Nat) : Int) := (Int.tdiv_eq_ediv_of_nonneg (by omega)).trans (Int.natCast_ediv r p).symm
  rw [h2]; clear h2
  generalize r / p = q at *
  exact wr_u64 (by omega) (by omega)
theorem rem_nat {r p : Nat} : (r : Int).tmod (p : Int) = ((r % p : Nat) : Int) := (Int.tmod_eq_emod_of_nonneg (by omega)).trans (Int.natCast_emod r p).symm
theorem St.hasRd {S : Nat → Prop} {w0 w : World} {L : List Res} {A : Option Addr} {sz n : Nat} {xs : List Value} (h : St S w0 w L) (hm : Has L (.rd A sz n xs)) : Rd w A sz n xs := h.has hm
section
variable {w : World} {A B C : Option Addr} {sa sb sc na nb nc : Nat} {xa xb xc : List Value}
theorem St.rd1 {S : Nat → Prop} (h : Rd w A sa na xa) : St S w w [.rd A sa na xa] := (St.start w).add_rd h (by intro r h; cases h)
theorem St.rd2 {S : Nat → Prop} (h : Rd w A sa na xa) (k : Rd w B sb nb xb) : St S w w [.rd A sa na xa, .rd B sb nb xb] := (St.rd1 k).add_rd h (by intro r h g hg; simp at h; subst h; simp [Res.own] at hg)
theorem St.rd3 {S : Nat → Prop} (h : Rd w A sa na xa) (k : Rd w B sb nb xb) (j : Rd w C sc nc xc) : St S w w [.rd A sa na xa, .rd B sb nb xb, .rd C sc nc xc] := (St.rd2 k j).add_rd h (by intro r h g hg; simp at h; rcases h with rfl | rfl <;> simp [Res.own] at hg)
end
/-- what a call hands back, beside what was -/
theorem St.call {S : Nat → Prop} {w0 w w' : World} {L M : List Res} (h : St S w0 w L) (k : St NoB w w' M) (hr : ∀ r ∈ M, ∀ g, r.reads = some g → w.heap.size ≤ g := by simp [Res.reads]) : St S w0 w' (M ++ L) := by
  have h' := h.ext k.keep
  refine ⟨h'.keep, ?_, ?_, ?_⟩
  · intro r hm
    rcases List.mem_append.1 hm with hm | hm
    · exact k.holds r hm
    · exact h'.holds r hm
  · intro r hm g hg
    rcases List.mem_append.1 hm with hm | hm
    · rcases k.own r hm g hg with hx | hx
      · exact hx.elim
      · exact .inr (Nat.le_trans h.keep.size hx)
    · exact h.own r hm g hg
  · refine List.pairwise_append.2 ⟨k.apart, h.apart, fun r hm s hs g => ⟨fun hg => ?_, fun hg => ?_⟩⟩
    · have h1 : w.heap.size ≤ g := by rcases k.own r hm g hg with hx | hx; exact hx.elim; exact hx
      exact ⟨fun e => by have := own_lt (h.holds s hs) e; omega, fun e => by have := reads_lt (h.holds s hs) e; omega⟩
    · have h1 := own_lt (h.holds s hs) hg
      refine ⟨fun e => ?_, fun e => by have := hr r hm g e; omega⟩
      rcases k.own r hm g e with hx | hx
      · exact hx.elim
      · omega
def Byt (l : List Int) : Prop := ∀ x ∈ l, 0 ≤ x ∧ x ≤ 255
theorem Byt.get {l : List Int} (h : Byt l) (i : Nat) : 0 ≤ l.getD i 0 ∧ l.getD i 0 ≤ 255 := by
  rcases Nat.lt_or_ge i l.length with hi | hi
  · rw [List.getD_eq_getElem?_getD, List.getElem?_eq_getElem hi]; exact h _ (List.getElem_mem hi)
  · rw [List.getD_eq_getElem?_getD, List.getElem?_eq_none hi]; simp
def bt (l : List Int) (i : Nat) : Nat := (l.getD i 0).toNat
theorem Byt.bt {l : List Int} (h : Byt l) (i : Nat) : l.getD i 0 = (bt l i : Int) ∧ bt l i < 256 := by
  have := h.get i
  unfold Go.Proofs.YtffmanidnlbjjaaGreat.bt
  omega
theorem Byt.app {l m : List Int} (h : Byt l) (k : Byt m) : Byt (l ++ m) := fun x hx => by rcases List.mem_append.1 hx with h' | h'; exact h x h'; exact k x h'
theorem Byt.take {l : List Int} (h : Byt l) (n : Nat) : Byt (l.take n) := fun x hx => h x (List.mem_of_mem_take hx)
theorem Byt.drop {l : List Int} (h : Byt l) (n : Nat) : Byt (l.drop n) := fun x hx => h x (List.mem_of_mem_drop hx)
theorem byt_of_wf {l : List Int} (h : ∀ x ∈ l, (Lit.int .u8 x).wf = true) : Byt l := fun x hx => by
  have := h x hx
  simp [Lit.wf, IntKind.min, IntKind.max, IntKind.signed, IntKind.bits] at this
  omega
theorem take_succ_getD {l : List Int} {k : Nat} (h : k < l.length) : l.take (k + 1) = l.take k ++ [l.getD k 0] := by
  rw [List.take_succ_eq_append_getElem h, List.getD_eq_getElem?_getD, List.getElem?_eq_getElem h]; rfl
end Go.Proofs.YtffmanidnlbjjaaGreat
namespace Go.Proofs.YtffmanidnlbjjaaGreat
open Go.RowKit
def byL (s : ByteArray) : List Int := s.data.toList.map fun b => ((b.toNat : Nat) : Int)
theorem byL_len (s : ByteArray) : (byL s).length = s.size := by simp [byL]
section
variable {P : Program} {ops : Array Oper} {Q : Exit → Act → World → Prop} {rest : List Oper} {l : List Value} {w : World} {d : Nat} {ty : TypeId} {pos : String} {aft : Array Edge}
variable {S : Nat → Prop} {w0 : World} {L L' : List Res}
theorem m_str_bytes {U D e : TypeId} {x : Operand} {s : ByteArray} (hU : P.underlying U = some .string) (hD : P.underlying D = some (.slice e)) (he : P.underlying e = some (.int .u8)) (hx : opv l x = .string s := by rfl) (hS : St S w0 w L)
    (h : ∀ w' A' c', St S w0 w' (.rd A' 1 s.size ((byL s).map (Value.int .u8)) :: L) → WL P ops Q rest (fr (l.set d (.slice A' s.size c'))) w') : WL P ops Q (⟨some d, .convert U D x, ty, pos, aft, none⟩ :: rest) (fr l) w := by
  have hr := Lib.run_convert_string_bytes (P := P) w U D e s hU hD he
  refine s_val (v := .slice (some ⟨w.heap.size, 0, none⟩) s.size (grownCap w s.size 0 e)) (w' := Lib.bytesWorld w e s) (by simp [execOp, hx, hr]) (h _ _ _ ?_)
  have hE : Ext w (Lib.bytesWorld w e s) := ⟨rfl, rfl, rfl, by rw [Lib.bytesWorld_size]; omega, fun k hk _ => Lib.bytesWorld_at_old w e s k hk, Nat.le_succ w.drawn⟩
  refine hS.add hE ⟨by simp [byL_len], fun hn => ⟨w.heap.size, 0, rfl, by rw [Lib.bytesWorld_size]; omega, fun j u hu => ?_⟩⟩ ?_
  · rw [Nat.zero_add]
    have hj : j < s.size := by
      have := (List.getElem?_eq_some_iff.1 hu).1
      simpa [byL_len] using this
    rw [Lib.bytesWorld_cell w e s j hj, ← hu]
    have hj' : j < s.data.toList.length := hj
    simp [byL, List.getD_eq_getElem?_getD, List.getElem?_eq_getElem hj']
  · intro g hg
    rcases hg with hg | hg
    · simp [Res.own] at hg
    · simp only [Res.reads] at hg
      split at hg
      · cases hg
      · simp at hg; omega
theorem St.vec_cap {A : Option Addr} {c : Nat} {e : TypeId} {sz n : Nat} {xs : List Value} (h : St S w0 w L) (hm : Has L (.vec A c e sz n xs)) : n ≤ c := by
  rcases (h.has hm).2 with ⟨hv, h0⟩ | ⟨g, cap, cur, hv, _, _, hnc, _⟩
  · omega
  · simp only [Value.slice.injEq] at hv; omega
theorem St.vecRd {A : Option Addr} {c : Nat} {e : TypeId} {sz n : Nat} {xs : List Value} (h : St S w0 w L) (hm : Has L (.vec A c e sz n xs)) : Rd w A sz n xs := by
  have hv := h.has hm
  refine ⟨hv.1, fun hn => ?_⟩
  obtain ⟨g, e', hc⟩ := Go.Proofs.YtffmanidnlbjjaaGreat.vec_at hv hn
  exact ⟨g, 0, e', own_lt hv (by simp [Res.own, e']), hc⟩
end
end Go.Proofs.YtffmanidnlbjjaaGreat
namespace Go.Proofs.YtffmanidnlbjjaaGreat
open Go.RowKit
/-- the blocks of a row of resources -/
def OwnB (M : List Res) : Nat → Prop := fun g => ∃ r ∈ M, r.own = some g
/-- M is chosen out of L; R is left. -/
inductive Spl : List Res → List Res → List Res → Prop
  | nil {L : List Res} : Spl [] L L
  | cons {r : Res} {L L1 M R : List Res} : Del L r L1 → Spl M L1 R → Spl (r :: M) L R
theorem Spl.perm {M L R : List Res} (h : Spl M L R) : L.Perm (M ++ R) := by
  induction h with
  | nil => exact List.Perm.refl _
  | cons hd _ ih => exact hd.perm.trans (List.Perm.cons _ ih)
section
variable {S : Nat → Prop} {w0 w w' : World} {L M M' R : List Res}
theorem St.owns (h : St S w0 w L) (hs : Spl M L R) : St (OwnB M) w w M := by
  have h := h.perm hs.perm
  refine ⟨Keep.refl _ _, fun r hr => h.holds r (List.mem_append_left _ hr), fun r hr g hg => .inl ⟨r, hr, hg⟩, (List.pairwise_append.1 h.apart).1⟩
theorem St.frame (h : St S w0 w L) (hs : Spl M L R) (k : St (OwnB M) w w' M') (hr : ∀ r ∈ M', ∀ g, r.reads = some g → w.heap.size ≤ g ∨ ∃ s ∈ M, s.own = some g ∨ s.reads = some g) : St S w0 w' (M' ++ R) := by
  have h := h.perm hs.perm
  obtain ⟨_, hR, hMR⟩ := List.pairwise_append.1 h.apart
  have out : ∀ s ∈ R, ∀ g, s.own = some g ∨ s.reads = some g → w'.heap[g]? = w.heap[g]? := fun s hs' g hg => by
    have hw := h.holds s (List.mem_append_right _ hs')
    have hlt : g < w.heap.size := by rcases hg with hg | hg; exact own_lt hw hg; exact reads_lt hw hg
    refine k.keep.block g hlt ?_
    rintro ⟨r, hr', ho⟩
    have := (hMR r hr' s hs' g).1 ho
    rcases hg with hg | hg
    · exact this.1 hg
    · exact this.2 hg
  refine ⟨h.keep.comp k.keep ?_, ?_, ?_, ?_⟩
  · rintro g hg ⟨r, hr', ho⟩
    rcases h.own r (List.mem_append_left _ hr') g ho with h1 | h1
    · exact h1
    · omega
  · intro r hr'
    rcases List.mem_append.1 hr' with hm | hm
    · exact k.holds r hm
    · exact Res.holds_of (h.holds r (List.mem_append_right _ hm)) k.keep.size (fun g hg => out r hm g (.inl hg)) (fun g hg => out r hm g (.inr hg))
  · intro r hr' g hg
    rcases List.mem_append.1 hr' with hm | hm
    · rcases k.own r hm g hg with ⟨s, hs', ho⟩ | h1
      · exact h.own s (List.mem_append_left _ hs') g ho
      · have := h.keep.size; exact .inr (by omega)
    · exact h.own r (List.mem_append_right _ hm) g hg
  · refine List.pairwise_append.2 ⟨k.apart, hR, fun r hr' s hs' g => ?_⟩
    have hsw := h.holds s (List.mem_append_right _ hs')
    refine ⟨fun ho => ?_, fun ho => ?_⟩
    · rcases k.own r hr' g ho with ⟨q, hq, hoq⟩ | h1
      · exact (hMR q hq s hs' g).1 hoq
      · exact ⟨fun e => by have := own_lt hsw e; omega, fun e => by have := reads_lt hsw e; omega⟩
    · have hlt := own_lt hsw ho
      refine ⟨fun e => ?_, fun e => ?_⟩
      · rcases k.own r hr' g e with ⟨q, hq, hoq⟩ | h1
        · exact ((hMR q hq s hs' g).2 ho).1 hoq
        · omega
      · rcases hr r hr' g e with h1 | ⟨q, hq, hoq | hoq⟩
        · omega
        · exact ((hMR q hq s hs' g).2 ho).1 hoq
        · exact ((hMR q hq s hs' g).2 ho).2 hoq
/-- what lay there from the first is looked at -/
theorem St.rd_old {A : Option Addr} {sz n : Nat} {xs : List Value} (h : St NoB w0 w L) (hr : Rd w0 A sz n xs) : St NoB w0 w (.rd A sz n xs :: L) :=
  h.add_rd (Res.holds_ext (r := .rd A sz n xs) hr h.ext_of) (fun r hm g ho e => by
    have h1 := reads_lt (r := .rd A sz n xs) (w := w0) hr e
    rcases h.own r hm g ho with h2 | h2
    · exact h2.elim
    · omega)
theorem Spl.mem {r : Res} {M : List Res} (h : Spl M L R) (hr : r ∈ M) : r ∈ L := (h.perm.mem_iff).2 (List.mem_append_left _ hr)
end
end Go.Proofs.YtffmanidnlbjjaaGreat
namespace Go.Proofs.YtffmanidnlbjjaaGreat
open Go.RowKit
theorem shr_n {k : IntKind} {r n : Nat} {b : Int} (hb : b = (n : Int)) (hn : n ≤ k.bits) : Int.fdiv (r : Int) (2 ^ (min b.toNat k.bits)) = ((r / 2 ^ n : Nat) : Int) := by
  subst hb
  exact shr_u k rfl (by rw [Int.toNat_natCast]; exact Nat.min_eq_left hn) rfl
theorem shl_n64 {r n : Nat} {b : Int} (hb : b = (n : Int)) : IntKind.u64.wrap ((r : Int) * 2 ^ (min b.toNat IntKind.u64.bits)) = ((r * 2 ^ n % 18446744073709551616 : Nat) : Int) := by
  have hbn : b.toNat = n := by omega
  by_cases h : n ≤ 64
  · exact shl_u64 (b := b) (r := r) (p := 2 ^ n) (n := n) (s := r * 2 ^ n % 18446744073709551616) (Eq.refl _) (by rw [hbn]; exact Nat.min_eq_left h) (Eq.refl _)
  · have key : ∀ M, M = 2 ^ 64 → r * M % M = r * 2 ^ n % M := fun M hM => by
      rw [show n = 64 + (n - 64) by omega, Nat.pow_add, ← hM, Nat.mul_mod_left, Nat.mul_left_comm, Nat.mul_mod_right]
    exact shl_u64 (b := b) (r := r) (p := 18446744073709551616) (n := 64) (key _ (by decide)) (by rw [hbn]; exact Nat.min_eq_right (by omega)) (by decide)
theorem andn7 {a : Nat} (h : a < 256) : bits .andNot .u8 (a : Int) 128 = ((a % 128 : Nat) : Int) := by
  have : ∀ a : Fin 256, bits .andNot .u8 ((a.val : Nat) : Int) 128 = ((a.val % 128 : Nat) : Int) := by decide +kernel
  exact this ⟨a, h⟩
theorem or7 {a : Nat} (h : a < 128) : bits .or .u8 (a : Int) 128 = ((a + 128 : Nat) : Int) := by
  have : ∀ a : Fin 128, bits .or .u8 ((a.val : Nat) : Int) 128 = ((a.val + 128 : Nat) : Int) := by decide +kernel
  exact this ⟨a, h⟩
theorem or_dis64 {a b n : Nat} {c d : Int} (hc : c = (a : Int)) (hd : d = ((2 ^ n * b : Nat) : Int)) (ha : a < 2 ^ n) (hs : a + 2 ^ n * b < 18446744073709551616) : bits .or .u64 c d = ((a + 2 ^ n * b : Nat) : Int) := by
  subst hc; subst hd
  rw [or_u64 (by omega) (by omega), Nat.or_comm, Nat.add_comm, Nat.two_pow_add_eq_or_of_lt ha]
theorem or_hi64 {a b n : Nat} (ha : a < 2 ^ n) (hs : 2 ^ n * b + a < 18446744073709551616) : bits .or .u64 ((2 ^ n * b : Nat) : Int) (a : Int) = ((2 ^ n * b + a : Nat) : Int) := by
  rw [or_u64 (by omega) (by omega), Nat.two_pow_add_eq_or_of_lt ha]
theorem shl_lt64 {r n : Nat} {b : Int} (hb : b = (n : Int)) (h : 2 ^ n * r < 18446744073709551616) : IntKind.u64.wrap ((r : Int) * 2 ^ (min b.toNat IntKind.u64.bits)) = ((2 ^ n * r : Nat) : Int) := by
  rw [shl_n64 hb, Nat.mul_comm, Nat.mod_eq_of_lt h]
theorem bitLen_le_iff {x k : Nat} (hx : x < 18446744073709551616) : Lib.bitLen x ≤ k ↔ x < 2 ^ k := by
  by_cases h0 : x = 0
  · subst h0
    simp only [Lib.bitLen, Lib.bitLenAux_zero, Nat.zero_le, true_iff]
    exact Nat.two_pow_pos k
  · obtain ⟨h1, h2, h3⟩ := Lib.bitLenAux_bounds 64 x hx h0
    unfold Lib.bitLen
    refine ⟨fun h => Nat.lt_of_lt_of_le h3 (Nat.pow_le_pow_right (by omega) h), fun h => ?_⟩
    have h4 : 2 ^ (Lib.bitLenAux 64 x - 1) < 2 ^ k := Nat.lt_of_le_of_lt h2 h
    have := (Nat.pow_lt_pow_iff_right (by omega : 1 < 2)).1 h4
    omega
theorem bitLen_le64 {x : Nat} (hx : x < 18446744073709551616) : Lib.bitLen x ≤ 64 := (bitLen_le_iff hx).2 hx
section
variable {P : Program} {l : List Value} {w : World} {d : Nat} {ty : TypeId} {pos : String} {aft : Array Edge} {S : Nat → Prop} {w0 : World} {L : List Res}
theorem St.objRd {g : Nat} {cs : Array Value} {t : TypeId} {f : Nat × Nat} (h : St S w0 w L) (hm : Has L (.obj g (.cells cs t f))) : Rd w (some ⟨g, 0, none⟩) 1 cs.size cs.toList :=
  ⟨by simp, fun _ => ⟨g, 0, rfl, own_lt (h.has hm) rfl, h.obj_at hm⟩⟩
theorem m_load_bx {T : TypeId} {x : Operand} {dsc : TypeDesc} {g o k : Nat} {sz n : Nat} {xs : List Value} {v : Value} (hu : P.underlying T = some dsc) (hd : isAggD dsc = false := by rfl) (hx : opv l x = .pointer (some ⟨g, k, none⟩) := by rfl) (hS : St S w0 w L) (hm : Has L (.rd (some ⟨g, o, none⟩) sz n xs) := by repeat (first | exact Has.head | apply Has.tail)) (hn : 0 < n := by omega) (ho : o ≤ k := by omega) (hv : xs[k - o]? = some v := by first | rfl | exact ic_get (by first | omega | (simp [*]; done) | (simp [*]; omega)) | exact il_get (by first | omega | (simp [*]; done) | (simp [*]; omega))) : Go1 P l w ⟨some d, .load T x, ty, pos, aft, none⟩ v :=
  m_load hu hd hx (by
    obtain ⟨g', o', e, hat⟩ := hS.rd_at hm hn
    cases e
    have := hat (k - o) v hv
    rw [show o + (k - o) = k by omega] at this
    exact this)
theorem m_loada_bx {T : TypeId} {x : Operand} {dsc : TypeDesc} {g o k sz' by' : Nat} {z : Value} {sz n : Nat} {xs : List Value} (hu : P.underlying T = some dsc) (hd : isAggD dsc = true := by rfl) (hi : TI P T sz' by' z) (hx : opv l x = .pointer (some ⟨g, k, none⟩) := by rfl) (hS : St S w0 w L) (hm : Has L (.rd (some ⟨g, o, none⟩) sz n xs) := by repeat (first | exact Has.head | apply Has.tail)) (hn : 0 < n := by omega) (ho : o ≤ k := by omega) (hfit : k - o + sz' ≤ xs.length := by first | (simp [*]; done) | omega | rfl | (simp [*]; omega)) : Go1 P l w ⟨some d, .load T x, ty, pos, aft, none⟩ (.agg ((xs.drop (k - o)).take sz').toArray) :=
  m_loada hu hd hi hx (by simp; omega) (by
    obtain ⟨g', o', e, hat⟩ := hS.rd_at hm hn
    cases e
    have := (hat.drop (k - o)).take sz'
    rw [show o + (k - o) = k by omega] at this
    exact this)
end
theorem x_scope {P : Program} {n r : Act → World → Prop} {ex : List (Nat × (Act → World → Prop))} {a : Act} {w : World} {c : Code} (h : c.wp P (Qx n r ex) a w) : (Code.scope c).wp P (Qx n r ex) a w :=
  wp_scope_straight (wp_mono h fun e a w hq => by cases e <;> exact hq)
theorem calls_r {P : Program} {f : FuncId} {args : Array Value} {w : World} {v : Value} (h : Calls P f args w fun e w' => e = .returned v ∧ w' = w) : CallR P f args w fun u w' => u = v ∧ Ext w w' :=
  Calls.mono h fun _ _ ⟨he, hw⟩ => ⟨v, he, rfl, by subst hw; exact Ext.rfl'⟩
theorem mul_u64 {a b : Nat} (h : a * b < 18446744073709551616) : IntKind.u64.wrap ((a : Int) * (b : Int)) = ((a * b : Nat) : Int) := by
  rw [← Int.natCast_mul]; exact wr_u64 (by omega) (by omega)
theorem add_u64 {a b : Nat} (h : a + b < 18446744073709551616) : IntKind.u64.wrap ((a : Int) + (b : Int)) = ((a + b : Nat) : Int) := by
  rw [← Int.natCast_add]; exact wr_u64 (by omega) (by omega)
theorem strOf_size (a : List Int) : (strOf a).size = a.length := by simp [strOf, ByteArray.size]
theorem strOf_app (a b : List Int) : strOf a ++ strOf b = strOf (a ++ b) := by simp only [strOf, ByteArray.mk_append_mk, List.map_append]
theorem strOf_get {a : List Int} {i : Nat} (h : i < a.length) : (strOf a)[i]? = some (UInt8.ofNat (a.getD i 0).toNat) := by
  have hs : i < (strOf a).size := by rw [strOf_size]; exact h
  rw [getElem?_pos (strOf a) i hs]
  congr 1
  show (strOf a).data[i] = _
  simp [strOf, List.getD_eq_getElem?_getD, List.getElem?_eq_getElem h]
theorem u8_back {b : Int} (h : 0 ≤ b ∧ b ≤ 255) : (((UInt8.ofNat b.toNat).toNat : Nat) : Int) = b := by
  simp; omega
theorem strOf_inj {a b : List Int} (ha : Byt a) (hb : Byt b) : strOf a = strOf b ↔ a = b := by
  refine ⟨fun h => ?_, fun h => by rw [h]⟩
  have h1 : a.map (fun n => UInt8.ofNat n.toNat) = b.map (fun n => UInt8.ofNat n.toNat) := by
    have := congrArg (fun s => s.data.toList) h
    simpa [strOf] using this
  have h2 : a.map (fun n => (((UInt8.ofNat n.toNat).toNat : Nat) : Int)) = b.map (fun n => (((UInt8.ofNat n.toNat).toNat : Nat) : Int)) := by
    have := congrArg (List.map fun u : UInt8 => ((u.toNat : Nat) : Int)) h1
    simpa [List.map_map, Function.comp_def] using this
  have e : ∀ c : List Int, Byt c → c.map (fun n => (((UInt8.ofNat n.toNat).toNat : Nat) : Int)) = c := fun c hc => by
    conv => rhs; rw [← List.map_id c]
    exact List.map_congr_left fun x hx => u8_back (hc x hx)
  rw [e a ha, e b hb] at h2
  exact h2
theorem strOf_beq {a b : List Int} (ha : Byt a) (hb : Byt b) : (strOf a == strOf b) = decide (a = b) := by
  rw [beq_toListBytes, ByteArray.toList_eq, ByteArray.toList_eq, Bool.eq_iff_iff, decide_eq_true_eq, beq_iff_eq, ← strOf_inj ha hb]
  exact ⟨fun h => WideShapes.bytes_inj h, fun h => by rw [h]⟩
section
variable {P : Program} {l : List Value} {w : World} {d : Nat} {ty : TypeId} {pos : String} {aft : Array Edge}
theorem s_nilCheck {x : Operand} {a : Addr} (hx : opv l x = .pointer (some a) := by rfl) : Go1 P l w ⟨some d, .nilCheck x, ty, pos, aft, none⟩ (.pointer (some a)) := by
  unfold Go1; simp [execOp, hx]
theorem run_eqp {T e : TypeId} {p : Option Addr} (hT : P.underlying T = some (.pointer e)) : (Op.equal T (.pointer p) (.pointer none)).run P w = .ok p.isNone w := by
  have h : ∀ d : Nat, (Op.equalIn (d + 1) T (.pointer p) (.pointer none)).run P w = .ok p.isNone w := fun d => by cases p <;> simp [Op.equalIn, run_underlying hT]
  exact h 9999
theorem s_eql_pointer {x y : Operand} {T yT e : TypeId} {p : Option Addr} (hT : P.underlying T = some (.pointer e)) (hx : opv l x = .pointer p := by rfl) (hy : opv l y = .pointer none := by rfl) : Go1 P l w ⟨some d, .binOp .eql T x y yT, ty, pos, aft, none⟩ (.bool p.isNone) := by
  unfold Go1; simp [execOp, hx, hy, eqGuard, binOp, run_eqp hT]
theorem s_neq_pointer {x y : Operand} {T yT e : TypeId} {p : Option Addr} (hT : P.underlying T = some (.pointer e)) (hx : opv l x = .pointer p := by rfl) (hy : opv l y = .pointer none := by rfl) : Go1 P l w ⟨some d, .binOp .neq T x y yT, ty, pos, aft, none⟩ (.bool (!p.isNone)) := by
  unfold Go1; simp [execOp, hx, hy, eqGuard, binOp, run_eqp hT]
theorem s_add_str {x y : Operand} {T yT : TypeId} {a b : ByteArray} (_hT : P.underlying T = some .string) (hx : opv l x = .string a := by rfl) (hy : opv l y = .string b := by rfl) (hn : a.size + b.size ≤ 9223372036854775807) : Go1 P l w ⟨some d, .binOp .add T x y yT, ty, pos, aft, none⟩ (.string (a ++ b)) := by
  unfold Go1; simp [execOp, hx, hy, eqGuard, binOp, run_string_add_sum w a b hn]
theorem s_neq_string {x y : Operand} {T yT : TypeId} {a b : ByteArray} (_hT : P.underlying T = some .string) (hx : opv l x = .string a := by rfl) (hy : opv l y = .string b := by rfl) : Go1 P l w ⟨some d, .binOp .neq T x y yT, ty, pos, aft, none⟩ (.bool (!(a == b))) := by
  unfold Go1; simp [execOp, hx, hy, eqGuard, binOp, Op.stringOp]; exact (beq_toListBytes a b).symm
end
theorem zi_get {ks : List IntKind} {xs : List Int} {i : Nat} {k : IntKind} (hk : ks[i]? = some k) (h : i < xs.length) : (zi ks xs).toArray[i]? = some (.int k (xs.getD i 0)) := by
  simp [zi, List.getElem?_zipWith, hk, List.getElem?_eq_getElem h, List.getD_eq_getElem?_getD]
theorem zi_size {ks : List IntKind} {xs : List Int} (h : xs.length = ks.length) : (zi ks xs).toArray.size = ks.length := by simp [zi_len h]
theorem zi_set {ks : List IntKind} {xs : List Int} {o : Nat} {k : IntKind} {v : Int} (hk : ks[o]? = some k) (h : xs.length = ks.length) : splice (zi ks xs).toArray.toList o [.int k v] = zi ks (xs.set o v) := by
  have ho : o < ks.length := (List.getElem?_eq_some_iff.1 hk).1
  rw [List.toList_toArray, splice_one (by rw [zi_len h]; exact ho)]
  refine List.ext_getElem? fun i => ?_
  simp only [zi, List.getElem?_set, List.getElem?_zipWith, List.length_zipWith]
  by_cases hi : o = i
  · subst hi; simp [h, ho]; rw [List.getElem?_eq_getElem ho] at hk; exact (Option.some.inj hk).symm
  · simp [hi]
theorem zi_whole {ks : List IntKind} {a b : List Int} (ha : a.length = ks.length) (hb : b.length = ks.length) : splice (zi ks a).toArray.toList 0 (zi ks b).toArray.toList = zi ks b :=
  splice_whole (by simp only [List.toList_toArray, List.size_toArray, zi_len ha, zi_len hb])
theorem zi_one (ks : List IntKind) (xs : List Int) : ∀ u ∈ (zi ks xs).toArray.toList, u.oneCell' = true := by
  intro u hu
  simp only [zi] at hu
  obtain ⟨i, hi, rfl⟩ := List.getElem_of_mem hu
  simp [Value.oneCell']
theorem zi_part {k1 k2 k3 : List IntKind} {a b c : List Int} (h1 : a.length = k1.length) (h2 : b.length = k2.length) : (((zi (k1 ++ k2 ++ k3) (a ++ b ++ c)).toArray.toList.drop k1.length).take k2.length).toArray = (zi k2 b).toArray := by
  rw [List.toList_toArray, List.append_assoc, List.append_assoc, zi_app h1, zi_app h2, List.drop_left' (by rw [zi_len h1]), List.take_left' (by rw [zi_len h2])]
section
variable {P : Program} {ops : Array Oper} {Q : Exit → Act → World → Prop} {rest : List Oper} {l : List Value} {w : World} {d : Nat} {ty : TypeId} {pos : String} {aft : Array Edge}
variable {S : Nat → Prop} {w0 : World} {L L1 : List Res}
theorem m_append_vec {T e : TypeId} {x y : Operand} {sz by' : Nat} {z : Value} {A B : Option Addr} {n c m c2 cb : Nat} {eb : TypeId} {xs news : List Value} (hT : P.underlying T = some (.slice e)) (hi : TI P e sz by' z) (hsz : 0 < sz ∧ z.cells.size = sz := by decide) (hx : opv l x = .slice A n c := by rfl) (hy : opv l y = .slice B m c2 := by rfl) (hS : St S w0 w L)
    (hd : Del L (.vec A c e sz n xs) L1 := by repeat (first | exact Del.head | apply Del.tail)) (hm : Has L1 (.vec B cb eb sz m news) := by repeat (first | exact Has.head | apply Has.tail)) (h1 : ∀ u ∈ news, u.oneCell' = true := by first | exact ic_one _ _ | exact il_one _ _ | simp [Value.oneCell']) (h63 : n + m ≤ maxLen := by first | omega | (simp only [maxLen]; omega)) (hby : (n + m) * by' ≤ 140737488355328 := by omega)
    (h : ∀ w' A' c', St S w0 w' (.vec A' c' e sz (n + m) (xs ++ news) :: L1) → WL P ops Q rest (fr (l.set d (.slice A' (n + m) c'))) w') : WL P ops Q (⟨some d, .call { callee := .builtin .append, args := #[x, y], argTypes := #[T, T] }, ty, pos, aft, none⟩ :: rest) (fr l) w := by
  have hown := hS.holds _ hd.mem
  have hr : Rd w B sz m news := ((hS.perm hd.perm).drop).vecRd hm
  obtain ⟨A', c', w', hrun, hown', hk, hat⟩ := run_append_all (t := T) (ty := ty) hT hi hsz.1 hsz.2 hown (c2 := c2) hr h1 h63 hby
  refine s_val (v := .slice A' (n + m) c') (w' := w') (by simp [execOp, resolve, invoke, builtin, hx, hy, hrun]) (h w' A' c' ?_)
  exact hS.turn_front hd hk hown' (fun g hg => hat g hg) (by intro g hg; simp [Res.reads] at hg)
end
section
variable {P : Program} {ops : Array Oper} {Q : Exit → Act → World → Prop} {rest : List Oper} {l : List Value} {w : World} {d : Nat} {ty : TypeId} {pos : String} {aft : Array Edge}
/-- a call of a method's value -/
theorem s_callm {t f : Nat} {args : Array Operand} {tys : Array TypeId} {fst cap : Array Value} (hv : l.getD t undef = .func (.func f) fst cap) (he : Enters P f) (h : CallR P f (fst ++ args.map (opv l) ++ cap) w fun v w'' => WL P ops Q rest (fr (l.set d v)) w'') : WL P ops Q (⟨some d, .call { callee := .value (.tmp t), args := args, argTypes := tys }, ty, pos, aft, none⟩ :: rest) (fr l) w :=
  wl_plain rfl fun K hK => by
    have := he (fst ++ args.map (opv l) ++ cap) w
    have hv' : opv l (.tmp t) = .func (.func f) fst cap := hv
    refine s_call_any (f := f) (args := fst ++ args.map (opv l) ++ cap) (by simp only [Array.append_assoc] at this; simp [execOp, resolve, hv', Deferred.ofValue, invoke, this]) (h.mono fun v w1 q => ?_)
    show K ((fr l).put (some d) v) w1
    rw [put_fr]; exact hK _ _ q
end
theorem byL_strOf {a : List Int} (h : Byt a) : byL (strOf a) = a := by
  simp only [byL, strOf, List.map_map]
  conv => rhs; rw [← List.map_id a]
  exact List.map_congr_left fun x hx => u8_back (h x hx)
theorem made_int (k : IntKind) (n : Nat) : (madeCells #[.int k 0] (n * 1)).toList = (List.replicate n 0).map (Value.int k) := by
  simp only [madeCells, Nat.mul_one, Array.toList_map, Array.toList_range, List.map_replicate]
  refine List.ext_getElem (by simp) fun i h1 h2 => ?_
  simp [Nat.mod_one]
end Go.Proofs.YtffmanidnlbjjaaGreat
namespace Go.Proofs.YtffmanidnlbjjaaGreat
open Go.RowKit
def takeB (ops : Array Oper) (lt : List Nat) (listed : Array Bool) (i : Nat) : Bool := lateB .any ops lt i && (Region.ready .any ops listed).contains i && Region.free .any ops listed i
section
variable {P : Program} {n r : Act → World → Prop} {ex : List (Nat × (Act → World → Prop))} {w : World} {l : List Value} {M : Act → World → Prop} {a : Act}
variable {ops : Array Oper} {C : World → Prop} {lt : List Nat} {listed : Array Bool} {k i d : Nat} {v : Value} {ty : TypeId} {pos : String} {aft : Array Edge}
theorem any_take {o : Oper} (ho : ops[i]? = some o) (hB : takeB ops lt listed i = true) (hs : Region.noSelect ops = true) (hnl : noLate lt listed) (hy : YieldsE P ops C o v a)
    (h : AnyE P .any ops C lt (Qx M r ex) k (listed.setIfInBounds i true) (a.put o.dst v) w) : AnyE P .any ops C lt (Qx M r ex) (k + 1) listed a w := by
  simp only [takeB, Bool.and_eq_true] at hB
  obtain ⟨⟨hlB, hr⟩, hf⟩ := hB
  simp only [lateB, Bool.and_eq_true, Bool.not_eq_true', List.all_eq_true] at hlB
  have hil : i ∉ lt := fun hk => by have := hlB.1; simp [hk] at this
  have hlw : ∀ k' ∈ lt, ∀ o', ops[k']? = some o' → ∃ e ∈ o'.after, Region.binds .any e = true ∧ e.on = i := fun k' hk' o' ho' => by
    have := hlB.2 k' hk'
    rw [ho'] at this
    obtain ⟨e, he, hb⟩ := Array.any_eq_true'.1 this
    simp only [Bool.and_eq_true, beq_iff_eq] at hb
    exact ⟨e, he, hb.1, hb.2⟩
  exact AnyE.first hil hlw ho (Region.noSelect_spec hs) (fun c a w => Qx_panic) k listed a w hnl (Region.free_spec ho hf) (by simpa using hr) hy h
theorem go_yields {op : Op} {g : Option (Nat × Bool)} (hw : Region.wanted ⟨some d, op, ty, pos, aft, g⟩ (yielded ops (fr l).tmps) = true) (H : ∀ w, C w → Go1 P l w ⟨some d, op, ty, pos, aft, none⟩ v) : YieldsE P ops C ⟨some d, op, ty, pos, aft, g⟩ v (fr l) :=
  .inl ⟨hw, fun w hC => by
    have := H w hC
    unfold Go1 at this
    show QuietU P w v ((execOp (fr l).eval ⟨some d, op, ty, pos, aft, none⟩).run P w)
    rw [eval_fr, this]
    exact ⟨rfl, rfl⟩⟩
theorem call_yields {dst : Option Nat} {f : Nat} {args : Array Operand} {tys : Array TypeId} {g : Option (Nat × Bool)} (hw : Region.wanted ⟨dst, .call { callee := .value (.func f), args := args, argTypes := tys }, ty, pos, aft, g⟩ (yielded ops (fr l).tmps) = true) (he : Enters P f) (H : ∀ w, C w → CallR P f (args.map (opv l)) w fun v' w' => v' = v ∧ Ext w w') :
    YieldsE P ops C ⟨dst, .call { callee := .value (.func f), args := args, argTypes := tys }, ty, pos, aft, g⟩ v (fr l) :=
  .inl ⟨hw, fun w hC => by
    have := he (args.map (opv l) ++ #[]) w
    simp only [Array.append_empty] at this
    have hr : (execOp (opv l) ⟨dst, .call { callee := .value (.func f), args := args, argTypes := tys }, ty, pos, aft, g⟩).run P w = .ok (.enter f (args.map (opv l))) w := by simp [execOp, resolve, opv, Deferred.ofValue, invoke, this]
    rw [eval_fr, hr]
    refine ⟨rfl, Calls.mono (H w hC) ?_⟩
    rintro e w' ⟨v', rfl, rfl, hC'⟩
    exact ⟨rfl, hC'⟩⟩
theorem w_none {dst : Option Nat} {op : Op} {f : Nat → Option Bool} : Region.wanted ⟨dst, op, ty, pos, aft, none⟩ f = true := wanted_none
theorem w_on {dst : Option Nat} {op : Op} {g : Nat × Bool} (hg : yielded ops (l.toArray) g.1 = some g.2) : Region.wanted ⟨dst, op, ty, pos, aft, some g⟩ (yielded ops (fr l).tmps) = true := by simp [Region.wanted, fr, hg]
theorem off_yields {dst : Option Nat} {op : Op} {g : Nat × Bool} (hg : yielded ops (l.toArray) g.1 = some (!g.2)) : YieldsE P ops C ⟨dst, op, ty, pos, aft, some g⟩ undef (fr l) := .inr ⟨by simp [Region.wanted, fr, hg], rfl⟩
/-- one operation that yields a value is taken first -/
theorem any_go {op : Op} {g : Option (Nat × Bool)} (ho : ops[i]? = some ⟨some d, op, ty, pos, aft, g⟩) (hB : takeB ops lt listed i = true) (hs : Region.noSelect ops = true) (hnl : noLate lt listed) (hy : YieldsE P ops C ⟨some d, op, ty, pos, aft, g⟩ v (fr l))
    (h : AnyE P .any ops C lt (Qx M r ex) k (listed.setIfInBounds i true) (fr (l.set d v)) w) : AnyE P .any ops C lt (Qx M r ex) (k + 1) listed (fr l) w :=
  any_take ho hB hs hnl hy (by rw [put_fr]; exact h)
theorem any_part (t : Nat) {b : Bool} (hb : l.getD t undef = .bool b) (ht : b = true → AnyE P .any ops C lt (Qx M r ex) k listed (fr (l.set t (.bool true))) w) (hf : b = false → AnyE P .any ops C lt (Qx M r ex) k listed (fr (l.set t (.bool false))) w) : AnyE P .any ops C lt (Qx M r ex) k listed (fr l) w := by
  cases b
  · have := hf rfl; rw [← hb, set_getD] at this; exact this
  · have := ht rfl; rw [← hb, set_getD] at this; exact this
theorem noLate_nil {listed : Array Bool} : noLate [] listed := fun _ h => by cases h
end
end Go.Proofs.YtffmanidnlbjjaaGreat
set_option maxRecDepth 100000
namespace Go.Proofs.YtffmanidnlbjjaaGreat
open Go.RowKit
theorem ti3 : TI Tryz.prog 3 1 8 (.int .i64 0) := TI.of (by kernel_rfl)
theorem ti5 : TI Tryz.prog 5 1 1 (.int .u8 0) := TI.of (by kernel_rfl)
theorem ti22 : TI Tryz.prog 22 1 24 (.slice none 0 0) := TI.of (by kernel_rfl)
theorem ti24 : TI Tryz.prog 24 1 4 (.int .u32 0) := TI.of (by kernel_rfl)
theorem ti39 : TI Tryz.prog 39 1 2 (.int .u16 0) := TI.of (by kernel_rfl)
theorem ti41 : TI Tryz.prog 41 8 8 (.agg #[.int .u8 0, .int .u8 0, .int .u8 0, .int .u8 0, .int .u8 0, .int .u8 0, .int .u8 0, .int .u8 0]) := TI.of (by kernel_rfl)
theorem ti53 : TI Tryz.prog 53 1 8 (.int .i64 0) := TI.of (by kernel_rfl)
theorem ti73 : TI Tryz.prog 73 1 24 (.slice none 0 0) := TI.of (by kernel_rfl)
theorem ti83 : TI Tryz.prog 83 12 20 (.agg #[.int .u8 0, .int .u16 0, .int .u8 0, .int .u8 0, .int .u8 0, .int .u8 0, .int .u8 0, .int .u8 0, .int .u8 0, .int .u8 0, .int .u8 0, .int .u32 0]) := TI.of (by kernel_rfl)
theorem ti84 : TI Tryz.prog 84 1 8 (.int .u64 0) := TI.of (by kernel_rfl)
theorem ti86 : TI Tryz.prog 86 9 16 (.agg #[.int .u64 0, .int .u8 0, .int .u8 0, .int .u8 0, .int .u8 0, .int .u8 0, .int .u8 0, .int .u8 0, .int .u8 0]) := TI.of (by kernel_rfl)
theorem ti88 : TI Tryz.prog 88 21 40 (.agg #[.int .u8 0, .int .u16 0, .int .u8 0, .int .u8 0, .int .u8 0, .int .u8 0, .int .u8 0, .int .u8 0, .int .u8 0, .int .u8 0, .int .u8 0, .int .u32 0, .int .u64 0, .int .u8 0, .int .u8 0, .int .u8 0, .int .u8 0, .int .u8 0, .int .u8 0, .int .u8 0, .int .u8 0]) := TI.of (by kernel_rfl)
theorem ti98 : TI Tryz.prog 98 3 24 (.agg #[.int .u64 0, .int .u64 0, .int .u64 0]) := TI.of (by kernel_rfl)
theorem ti104 : TI Tryz.prog 104 1 8 (.nilFunc) := TI.of (by kernel_rfl)
theorem ti130 : TI Tryz.prog 130 1 8 (.pointer none) := TI.of (by kernel_rfl)
theorem ti145 : TI Tryz.prog 145 1 8 (.pointer none) := TI.of (by kernel_rfl)
theorem ti187 : TI Tryz.prog 187 1 8 (.agg #[.int .i64 0]) := TI.of (by kernel_rfl)
theorem ti189 : TI Tryz.prog 189 2 32 (.agg #[.int .i64 0, .slice none 0 0]) := TI.of (by kernel_rfl)
theorem ti201 : TI Tryz.prog 201 1 24 (.agg #[.slice none 0 0]) := TI.of (by kernel_rfl)
theorem ti235 : TI Tryz.prog 235 1 8 (.nilFunc) := TI.of (by kernel_rfl)
theorem ti236 : TI Tryz.prog 236 5 40 (.agg #[.nilFunc, .nilFunc, .nilFunc, .nilFunc, .nilFunc]) := TI.of (by kernel_rfl)
theorem en22 : Enters Tryz.prog 22 := enters_of Tryz.func22 (by kernel_rfl) rfl
theorem en24 : Enters Tryz.prog 24 := enters_of Tryz.func24 (by kernel_rfl) rfl
theorem en39 : Enters Tryz.prog 39 := enters_of Tryz.func39 (by kernel_rfl) rfl
theorem en40 : Enters Tryz.prog 40 := enters_of Tryz.func40 (by kernel_rfl) rfl
theorem en42 : Enters Tryz.prog 42 := enters_of Tryz.func42 (by kernel_rfl) rfl
theorem en44 : Enters Tryz.prog 44 := enters_of Tryz.func44 (by kernel_rfl) rfl
theorem en46 : Enters Tryz.prog 46 := enters_of Tryz.func46 (by kernel_rfl) rfl
theorem en47 : Enters Tryz.prog 47 := enters_of Tryz.func47 (by kernel_rfl) rfl
theorem en48 : Enters Tryz.prog 48 := enters_of Tryz.func48 (by kernel_rfl) rfl
theorem en53 : Enters Tryz.prog 53 := enters_of Tryz.func53 (by kernel_rfl) rfl
theorem en55 : Enters Tryz.prog 55 := enters_of Tryz.func55 (by kernel_rfl) rfl
theorem en60 : Enters Tryz.prog 60 := enters_of Tryz.func60 (by kernel_rfl) rfl
theorem en62 : Enters Tryz.prog 62 := enters_of Tryz.func62 (by kernel_rfl) rfl
theorem en63 : Enters Tryz.prog 63 := enters_of Tryz.func63 (by kernel_rfl) rfl
theorem en64 : Enters Tryz.prog 64 := enters_of Tryz.func64 (by kernel_rfl) rfl
theorem en69 : Enters Tryz.prog 69 := enters_of Tryz.func69 (by kernel_rfl) rfl
theorem en70 : Enters Tryz.prog 70 := enters_of Tryz.func70 (by kernel_rfl) rfl
theorem en72 : Enters Tryz.prog 72 := enters_of Tryz.func72 (by kernel_rfl) rfl
theorem en73 : Enters Tryz.prog 73 := enters_of Tryz.func73 (by kernel_rfl) rfl
theorem en74 : Enters Tryz.prog 74 := enters_of Tryz.func74 (by kernel_rfl) rfl
theorem en83 : Enters Tryz.prog 83 := enters_of Tryz.func83 (by kernel_rfl) rfl
theorem en84 : Enters Tryz.prog 84 := enters_of Tryz.func84 (by kernel_rfl) rfl
theorem en85 : Enters Tryz.prog 85 := enters_of Tryz.func85 (by kernel_rfl) rfl
theorem en86 : Enters Tryz.prog 86 := enters_of Tryz.func86 (by kernel_rfl) rfl
theorem en87 : Enters Tryz.prog 87 := enters_of Tryz.func87 (by kernel_rfl) rfl
theorem en88 : Enters Tryz.prog 88 := enters_of Tryz.func88 (by kernel_rfl) rfl
theorem en89 : Enters Tryz.prog 89 := enters_of Tryz.func89 (by kernel_rfl) rfl
theorem en93 : Enters Tryz.prog 93 := enters_of Tryz.func93 (by kernel_rfl) rfl
theorem en94 : Enters Tryz.prog 94 := enters_of Tryz.func94 (by kernel_rfl) rfl
theorem en95 : Enters Tryz.prog 95 := enters_of Tryz.func95 (by kernel_rfl) rfl
theorem en96 : Enters Tryz.prog 96 := enters_of Tryz.func96 (by kernel_rfl) rfl
theorem en97 : Enters Tryz.prog 97 := enters_of Tryz.func97 (by kernel_rfl) rfl
theorem en98 : Enters Tryz.prog 98 := enters_of Tryz.func98 (by kernel_rfl) rfl
theorem en101 : Enters Tryz.prog 101 := enters_of Tryz.func101 (by kernel_rfl) rfl
theorem en110 : Enters Tryz.prog 110 := enters_of Tryz.func110 (by kernel_rfl) rfl
theorem en115 : Enters Tryz.prog 115 := enters_of Tryz.func115 (by kernel_rfl) rfl
theorem en116 : Enters Tryz.prog 116 := enters_of Tryz.func116 (by kernel_rfl) rfl
theorem en131 : Enters Tryz.prog 131 := enters_of Tryz.func131 (by kernel_rfl) rfl
theorem en137 : Enters Tryz.prog 137 := enters_of Tryz.func137 (by kernel_rfl) rfl
theorem en138 : Enters Tryz.prog 138 := enters_of Tryz.func138 (by kernel_rfl) rfl
theorem en139 : Enters Tryz.prog 139 := enters_of Tryz.func139 (by kernel_rfl) rfl
theorem en140 : Enters Tryz.prog 140 := enters_of Tryz.func140 (by kernel_rfl) rfl
theorem en141 : Enters Tryz.prog 141 := enters_of Tryz.func141 (by kernel_rfl) rfl
theorem en142 : Enters Tryz.prog 142 := enters_of Tryz.func142 (by kernel_rfl) rfl
theorem en143 : Enters Tryz.prog 143 := enters_of Tryz.func143 (by kernel_rfl) rfl
theorem en144 : Enters Tryz.prog 144 := enters_of Tryz.func144 (by kernel_rfl) rfl
theorem en147 : Enters Tryz.prog 147 := enters_of Tryz.func147 (by kernel_rfl) rfl
theorem en148 : Enters Tryz.prog 148 := enters_of Tryz.func148 (by kernel_rfl) rfl
theorem en149 : Enters Tryz.prog 149 := enters_of Tryz.func149 (by kernel_rfl) rfl
theorem en150 : Enters Tryz.prog 150 := enters_of Tryz.func150 (by kernel_rfl) rfl
theorem en151 : Enters Tryz.prog 151 := enters_of Tryz.func151 (by kernel_rfl) rfl
theorem en152 : Enters Tryz.prog 152 := enters_of Tryz.func152 (by kernel_rfl) rfl
theorem en153 : Enters Tryz.prog 153 := enters_of Tryz.func153 (by kernel_rfl) rfl
theorem en154 : Enters Tryz.prog 154 := enters_of Tryz.func154 (by kernel_rfl) rfl
theorem en155 : Enters Tryz.prog 155 := enters_of Tryz.func155 (by kernel_rfl) rfl
theorem en156 : Enters Tryz.prog 156 := enters_of Tryz.func156 (by kernel_rfl) rfl
theorem en160 : Enters Tryz.prog 160 := enters_of Tryz.func160 (by kernel_rfl) rfl
theorem en161 : Enters Tryz.prog 161 := enters_of Tryz.func161 (by kernel_rfl) rfl
theorem en162 : Enters Tryz.prog 162 := enters_of Tryz.func162 (by kernel_rfl) rfl
theorem en163 : Enters Tryz.prog 163 := enters_of Tryz.func163 (by kernel_rfl) rfl
theorem en164 : Enters Tryz.prog 164 := enters_of Tryz.func164 (by kernel_rfl) rfl
theorem en167 : Enters Tryz.prog 167 := enters_of Tryz.func167 (by kernel_rfl) rfl
theorem en168 : Enters Tryz.prog 168 := enters_of Tryz.func168 (by kernel_rfl) rfl
theorem en172 : Enters Tryz.prog 172 := enters_of Tryz.func172 (by kernel_rfl) rfl
theorem en173 : Enters Tryz.prog 173 := enters_of Tryz.func173 (by kernel_rfl) rfl
theorem en187 : Enters Tryz.prog 187 := enters_of Tryz.func187 (by kernel_rfl) rfl
theorem en188 : Enters Tryz.prog 188 := enters_of Tryz.func188 (by kernel_rfl) rfl
theorem en189 : Enters Tryz.prog 189 := enters_of Tryz.func189 (by kernel_rfl) rfl
theorem en190 : Enters Tryz.prog 190 := enters_of Tryz.func190 (by kernel_rfl) rfl
theorem en191 : Enters Tryz.prog 191 := enters_of Tryz.func191 (by kernel_rfl) rfl
theorem en192 : Enters Tryz.prog 192 := enters_of Tryz.func192 (by kernel_rfl) rfl
theorem en193 : Enters Tryz.prog 193 := enters_of Tryz.func193 (by kernel_rfl) rfl
theorem en196 : Enters Tryz.prog 196 := enters_of Tryz.func196 (by kernel_rfl) rfl
theorem en197 : Enters Tryz.prog 197 := enters_of Tryz.func197 (by kernel_rfl) rfl
theorem en198 : Enters Tryz.prog 198 := enters_of Tryz.func198 (by kernel_rfl) rfl
theorem en199 : Enters Tryz.prog 199 := enters_of Tryz.func199 (by kernel_rfl) rfl
theorem en200 : Enters Tryz.prog 200 := enters_of Tryz.func200 (by kernel_rfl) rfl
theorem en201 : Enters Tryz.prog 201 := enters_of Tryz.func201 (by kernel_rfl) rfl
theorem en204 : Enters Tryz.prog 204 := enters_of Tryz.func204 (by kernel_rfl) rfl
theorem en205 : Enters Tryz.prog 205 := enters_of Tryz.func205 (by kernel_rfl) rfl
theorem en213 : Enters Tryz.prog 213 := enters_of Tryz.func213 (by kernel_rfl) rfl
theorem en215 : Enters Tryz.prog 215 := enters_of Tryz.func215 (by kernel_rfl) rfl
theorem en216 : Enters Tryz.prog 216 := enters_of Tryz.func216 (by kernel_rfl) rfl
theorem en217 : Enters Tryz.prog 217 := enters_of Tryz.func217 (by kernel_rfl) rfl
theorem en218 : Enters Tryz.prog 218 := enters_of Tryz.func218 (by kernel_rfl) rfl
theorem en219 : Enters Tryz.prog 219 := enters_of Tryz.func219 (by kernel_rfl) rfl
theorem en220 : Enters Tryz.prog 220 := enters_of Tryz.func220 (by kernel_rfl) rfl
theorem en221 : Enters Tryz.prog 221 := enters_of Tryz.func221 (by kernel_rfl) rfl
theorem en222 : Enters Tryz.prog 222 := enters_of Tryz.func222 (by kernel_rfl) rfl
theorem en223 : Enters Tryz.prog 223 := enters_of Tryz.func223 (by kernel_rfl) rfl
theorem en224 : Enters Tryz.prog 224 := enters_of Tryz.func224 (by kernel_rfl) rfl
theorem en225 : Enters Tryz.prog 225 := enters_of Tryz.func225 (by kernel_rfl) rfl
theorem en227 : Enters Tryz.prog 227 := enters_of Tryz.func227 (by kernel_rfl) rfl
theorem en228 : Enters Tryz.prog 228 := enters_of Tryz.func228 (by kernel_rfl) rfl
theorem en229 : Enters Tryz.prog 229 := enters_of Tryz.func229 (by kernel_rfl) rfl
theorem en231 : Enters Tryz.prog 231 := enters_of Tryz.func231 (by kernel_rfl) rfl
theorem en232 : Enters Tryz.prog 232 := enters_of Tryz.func232 (by kernel_rfl) rfl
theorem en235 : Enters Tryz.prog 235 := enters_of Tryz.func235 (by kernel_rfl) rfl
theorem en239 : Enters Tryz.prog 239 := enters_of Tryz.func239 (by kernel_rfl) rfl
theorem en240 : Enters Tryz.prog 240 := enters_of Tryz.func240 (by kernel_rfl) rfl
theorem en241 : Enters Tryz.prog 241 := enters_of Tryz.func241 (by kernel_rfl) rfl
theorem en242 : Enters Tryz.prog 242 := enters_of Tryz.func242 (by kernel_rfl) rfl
theorem en243 : Enters Tryz.prog 243 := enters_of Tryz.func243 (by kernel_rfl) rfl
theorem en254 : Enters Tryz.prog 254 := enters_of Tryz.func254 (by kernel_rfl) rfl
theorem eqv41 : EqV Tryz.prog 2 41 (List.replicate 8 .u8) := eq_arr Tryz.underlying41 ti5 rfl (eq_int Tryz.underlying5)
theorem eg41 : Tryz.prog.eqGuardType Tryz.prog.depth 41 = false := by kernel_rfl
theorem eqv83 : EqV Tryz.prog 3 83 [.u8, .u16, .u8, .u8, .u8, .u8, .u8, .u8, .u8, .u8, .u8, .u32] := (show EqV Tryz.prog 3 83 ([IntKind.u8] ++ ([IntKind.u16] ++ ((List.replicate 8 IntKind.u8) ++ ([IntKind.u8] ++ ([IntKind.u32] ++ []))))) from eq_struct Tryz.underlying83 (by kernel_rfl) (.cons rfl (by decide) (eq_int Tryz.underlying5) (by decide) (.cons rfl (by decide) (eq_int Tryz.underlying39) (by decide) (.cons rfl (by decide) (eq_part eqv41 Tryz.underlying41 rfl ti41 rfl) (by decide) (.cons rfl (by decide) (eq_int Tryz.underlying5) (by decide) (.cons rfl (by decide) (eq_int Tryz.underlying24) (by decide) (.nil)))))))
theorem eg83 : Tryz.prog.eqGuardType Tryz.prog.depth 83 = false := by kernel_rfl
theorem eqv86 : EqV Tryz.prog 3 86 [.u64, .u8, .u8, .u8, .u8, .u8, .u8, .u8, .u8] := (show EqV Tryz.prog 3 86 ([IntKind.u64] ++ ((List.replicate 8 IntKind.u8) ++ [])) from eq_struct Tryz.underlying86 (by kernel_rfl) (.cons rfl (by decide) (eq_int Tryz.underlying84) (by decide) (.cons rfl (by decide) (eq_part eqv41 Tryz.underlying41 rfl ti41 rfl) (by decide) (.nil))))
theorem eqv88 : EqV Tryz.prog 4 88 [.u8, .u16, .u8, .u8, .u8, .u8, .u8, .u8, .u8, .u8, .u8, .u32, .u64, .u8, .u8, .u8, .u8, .u8, .u8, .u8, .u8] := (show EqV Tryz.prog 4 88 ([IntKind.u8, IntKind.u16, IntKind.u8, IntKind.u8, IntKind.u8, IntKind.u8, IntKind.u8, IntKind.u8, IntKind.u8, IntKind.u8, IntKind.u8, IntKind.u32] ++ ([IntKind.u64, IntKind.u8, IntKind.u8, IntKind.u8, IntKind.u8, IntKind.u8, IntKind.u8, IntKind.u8, IntKind.u8] ++ [])) from eq_struct Tryz.underlying88 (by kernel_rfl) (.cons rfl (by decide) (eq_part eqv83 Tryz.underlying83 rfl ti83 rfl) (by decide) (.cons rfl (by decide) (eq_part eqv86 Tryz.underlying86 rfl ti86 rfl) (by decide) (.nil))))
theorem eg88 : Tryz.prog.eqGuardType Tryz.prog.depth 88 = false := by kernel_rfl
theorem eqv98 : EqV Tryz.prog 2 98 (List.replicate 3 .u64) := eq_arr Tryz.underlying98 ti84 rfl (eq_int Tryz.underlying84)
theorem eg98 : Tryz.prog.eqGuardType Tryz.prog.depth 98 = false := by kernel_rfl
theorem bp83 : Places Tryz.prog (Tryz.prog.fieldsOf 83) #[(0, 1), (1, 1), (2, 8), (10, 1), (11, 1)] := fun w => by kernel_rfl
theorem bp88 : Places Tryz.prog (Tryz.prog.fieldsOf 88) #[(0, 12), (12, 9)] := fun w => by kernel_rfl
theorem bp189 : Places Tryz.prog (Tryz.prog.fieldsOf 189) #[(0, 1), (1, 1)] := fun w => by kernel_rfl
theorem bp201 : Places Tryz.prog (Tryz.prog.fieldsOf 201) #[(0, 1)] := fun w => by kernel_rfl
end Go.Proofs.YtffmanidnlbjjaaGreat
set_option linter.unusedSimpArgs false
set_option linter.unusedVariables false
set_option maxHeartbeats 800000
set_option maxRecDepth 100000
namespace Go.Proofs.YtffmanidnlbjjaaGreat
open Go.RowKit
theorem c_ref03Same (w0 : World) (A B : Option Addr) (n m c d : Nat) (a b : List Int) (ha : Rd w0 A 1 n (a.map (Value.int .u8))) (hb : Rd w0 B 1 m (b.map (Value.int .u8))) (hal : a.length = n) (hbl : b.length = m) (hn : n ≤ 140737488355328) :
    CallR Tryz.prog 46 #[.slice A n c, .slice B m d] w0 fun v w' => v = .bool (decide (a = b)) ∧ Ext w0 w' := by
 have hS := St.rd2 (S := NoB) ha hb
 refine c_enter (l := [.slice A n c, .slice B m d, undef, undef, undef, undef, undef, undef, undef, undef, undef, undef, undef, undef, undef, undef, undef, undef, undef, undef, undef, undef, undef, undef, undef, undef]) Tryz.func46 rfl (by simp only [Tryz.ntmps46, List.size_toArray, List.length_cons, List.length_nil, Nat.reduceAdd, Nat.reduceSub, Array.replicate_succ, Array.replicate_zero, List.push_toArray, List.append_toArray, List.nil_append, List.cons_append]) ?_
 refine x_seq fun K1 hK1 => ?_
 refine x_region ?_
 refine s_go (s_assign) ?_
 try simp only [opv, n1, n2, n3, n4, Value.cells]
 refine x_nil ?_
 refine hK1 _ _ ?_
 refine x_seq fun K2 hK2 => ?_
 refine x_seq fun K3 hK3 => ?_
 refine x_region ?_
 refine s_go (s_move) ?_
 try simp only [opv, n1, n2, n3, n4, Value.cells]
 refine s_go (s_len_sl Tryz.underlying73) ?_
 try simp only [opv, n1, n2, n3, n4, Value.cells]
 refine s_go (s_move) ?_
 try simp only [opv, n1, n2, n3, n4, Value.cells]
 refine s_go (s_len_sl Tryz.underlying73) ?_
 try simp only [opv, n1, n2, n3, n4, Value.cells]
 refine s_go (s_neq) ?_
 try simp only [opv, n1, n2, n3, n4, Value.cells]
 refine x_nil ?_
 refine hK3 _ _ ?_
 refine x_cond (ht := fun hc1 => ?_) (hf := fun hc1 => ?_)
 ·
  try simp only [decide_eq_true_eq, decide_eq_false_iff_not, Bool.not_eq_true', Bool.not_eq_false', Int.not_lt, Int.not_le, ne_eq, Decidable.not_not, bne_iff_ne, beq_iff_eq, not_true_eq_false, not_false_eq_true] at hc1
  have hne : ¬ a = b := fun h => by subst h; omega
  refine x_seq fun K4 hK4 => ?_
  refine x_region ?_
  refine s_go (s_assign) ?_
  try simp only [opv, n1, n2, n3, n4, Value.cells]
  refine x_nil ?_
  refine hK4 _ _ ?_
  refine x_ret ?_
  refine r_tmp rfl ?_
  exact ⟨by simp [hne], hS.ext_of⟩
 ·
  try simp only [decide_eq_true_eq, decide_eq_false_iff_not, Bool.not_eq_true', Bool.not_eq_false', Int.not_lt, Int.not_le, ne_eq, Decidable.not_not, bne_iff_ne, beq_iff_eq, not_true_eq_false, not_false_eq_true] at hc1
  obtain rfl : n = m := by omega
  refine x_skip ?_
  refine hK2 _ _ ?_
  refine x_seq fun K5 hK5 => ?_
  refine x_seq fun K6 hK6 => ?_
  refine x_region ?_
  refine s_go (s_assign) ?_
  try simp only [opv, n1, n2, n3, n4, Value.cells]
  refine x_nil ?_
  refine hK6 _ _ ?_
  refine x_block ?_
  refine x_loop [4, 5, 11, 12, 13, 14, 15, 16, 17, 18, 19, 20, 21, 22, 23, 24, 25] (fun m f w => ∃ k : Nat, k ≤ n ∧ m = n - k ∧ f 5 = .int .i64 (k : Int) ∧ a.take k = b.take k ∧ St NoB w0 w [.rd A 1 n (a.map (Value.int .u8)), .rd B 1 n (b.map (Value.int .u8))]) (n) ?init1 (fun m1 f1 wl1 hI => ?_)
  case init1 =>
   try simp only [opv, n1, n2, n3, n4, Value.cells]
   exact ⟨0, by omega, rfl, rfl, rfl, hS⟩
  obtain ⟨k, hk, hm, h5, hab, hS⟩ := hI
  simp only [clob, List.foldl, n3, n4, h5]
  refine x_seq fun K7 hK7 => ?_
  refine x_seq fun K8 hK8 => ?_
  refine x_region ?_
  refine s_go (s_move) ?_
  try simp only [opv, n1, n2, n3, n4, Value.cells]
  refine s_go (s_move) ?_
  try simp only [opv, n1, n2, n3, n4, Value.cells]
  refine s_go (s_len_sl Tryz.underlying73) ?_
  try simp only [opv, n1, n2, n3, n4, Value.cells]
  refine s_go (s_lss) ?_
  try simp only [opv, n1, n2, n3, n4, Value.cells]
  refine x_nil ?_
  refine hK8 _ _ ?_
  refine x_cond (ht := fun hc2 => ?_) (hf := fun hc2 => ?_)
  ·
   try simp only [decide_eq_true_eq, decide_eq_false_iff_not, Bool.not_eq_true', Bool.not_eq_false', Int.not_lt, Int.not_le, ne_eq, Decidable.not_not, bne_iff_ne, beq_iff_eq, not_true_eq_false, not_false_eq_true] at hc2
   refine x_skip ?_
   refine hK7 _ _ ?_
   refine x_seq fun K9 hK9 => ?_
   refine x_block ?_
   refine x_seq fun K10 hK10 => ?_
   refine x_quiet (by kernel_rfl) (by kernel_rfl) hS ?_
   refine q_go (fun w hS => s_move) ?_
   try simp only [opv, n1, n2, n3, n4, Value.cells]
   refine q_go (fun w hS => s_move) ?_
   try simp only [opv, n1, n2, n3, n4, Value.cells]
   refine q_go (fun w hS => m_indexAddr_rd Tryz.underlying73 ti5 (hS := hS)) ?_
   try simp only [opv, n1, n2, n3, n4, Value.cells, Nat.mul_one, Nat.zero_add, Int.toNat_natCast, Int.reduceToNat]
   refine q_go (fun w hS => m_load_rd Tryz.underlying5 (hS := hS)) ?_
   try simp only [opv, n1, n2, n3, n4, Value.cells, List.getElem_toArray, List.getElem_cons_zero, List.getElem_cons_succ]
   refine q_go (fun w hS => s_move) ?_
   try simp only [opv, n1, n2, n3, n4, Value.cells]
   refine q_go (fun w hS => s_move) ?_
   try simp only [opv, n1, n2, n3, n4, Value.cells]
   refine q_go (fun w hS => m_indexAddr_rd Tryz.underlying73 ti5 (hS := hS)) ?_
   try simp only [opv, n1, n2, n3, n4, Value.cells, Nat.mul_one, Nat.zero_add, Int.toNat_natCast, Int.reduceToNat]
   refine q_go (fun w hS => m_load_rd Tryz.underlying5 (hS := hS)) ?_
   try simp only [opv, n1, n2, n3, n4, Value.cells, List.getElem_toArray, List.getElem_cons_zero, List.getElem_cons_succ]
   refine q_go (fun w hS => s_neq) ?_
   try simp only [opv, n1, n2, n3, n4, Value.cells]
   clear hS
   refine q_nil fun w1 hS => ?_
   refine hK10 _ _ ?_
   refine x_cond (ht := fun hc3 => ?_) (hf := fun hc3 => ?_)
   ·
    try simp only [decide_eq_true_eq, decide_eq_false_iff_not, Bool.not_eq_true', Bool.not_eq_false', Int.not_lt, Int.not_le, ne_eq, Decidable.not_not, bne_iff_ne, beq_iff_eq, not_true_eq_false, not_false_eq_true] at hc3
    have hne : ¬ a = b := fun h => by subst h; exact hc3 rfl
    refine x_seq fun K11 hK11 => ?_
    refine x_region ?_
    refine s_go (s_assign) ?_
    try simp only [opv, n1, n2, n3, n4, Value.cells]
    refine x_nil ?_
    refine hK11 _ _ ?_
    refine x_ret ?_
    refine r_tmp rfl ?_
    exact ⟨by simp [hne], hS.ext_of⟩
   ·
    try simp only [decide_eq_true_eq, decide_eq_false_iff_not, Bool.not_eq_true', Bool.not_eq_false', Int.not_lt, Int.not_le, ne_eq, Decidable.not_not, bne_iff_ne, beq_iff_eq, not_true_eq_false, not_false_eq_true] at hc3
    refine x_skip ?_
    refine hK9 _ _ ?_
    refine x_region ?_
    refine s_go (s_move) ?_
    try simp only [opv, n1, n2, n3, n4, Value.cells]
    refine s_go (s_add (hc := by exact wr_i64 (by omega) (by omega))) ?_
    try simp only [opv, n1, n2, n3, n4, Value.cells]
    refine s_go (s_assign) ?_
    try simp only [opv, n1, n2, n3, n4, Value.cells]
    refine x_nil ?_
    refine loop_back (m' := n - (k + 1)) (by simp only [clob, List.foldl, n1, n2, n3, n4]) ?_ ?_
    · try simp only [opv, n1, n2, n3, n4, Value.cells]
      exact ⟨k + 1, by omega, by omega, by rfl, by rw [take_succ_getD (by omega), take_succ_getD (by omega), hab, hc3], hS⟩
    · omega
  ·
   try simp only [decide_eq_true_eq, decide_eq_false_iff_not, Bool.not_eq_true', Bool.not_eq_false', Int.not_lt, Int.not_le, ne_eq, Decidable.not_not, bne_iff_ne, beq_iff_eq, not_true_eq_false, not_false_eq_true] at hc2
   obtain rfl : k = n := by omega
   have heq : a = b := by rw [← List.take_length (l := a), ← List.take_length (l := b), hal, hbl]; exact hab
   refine x_exit (look_here ?_)
   refine hK5 _ _ ?_
   refine x_seq fun K12 hK12 => ?_
   refine x_region ?_
   refine s_go (s_assign) ?_
   try simp only [opv, n1, n2, n3, n4, Value.cells]
   refine x_nil ?_
   refine hK12 _ _ ?_
   refine x_ret ?_
   refine r_tmp rfl ?_
   exact ⟨by simp [heq], hS.ext_of⟩
end Go.Proofs.YtffmanidnlbjjaaGreat
namespace Go.Proofs.YtffmanidnlbjjaaGreat
theorem pow128 (i : Nat) : 128 ^ i = 2 ^ (7 * i) := by rw [Nat.pow_mul]
def fillT (F : Nat → Int) (n k : Nat) : List Int := (List.range k).map F ++ List.replicate (n - k) 0
theorem fillT_len {F : Nat → Int} {n k : Nat} (h : k ≤ n) : (fillT F n k).length = n := by simp [fillT]; omega
theorem fillT_zero (F : Nat → Int) (n : Nat) : fillT F n 0 = List.replicate n 0 := by simp [fillT]
theorem fillT_all (F : Nat → Int) (n : Nat) : fillT F n n = (List.range n).map F := by simp [fillT]
theorem fillT_set {F : Nat → Int} {n k : Nat} (h : k < n) : (fillT F n k).set k (F k) = fillT F n (k + 1) := by
  unfold fillT
  rw [List.set_append_right _ _ (by simp), show k - ((List.range k).map F).length = 0 by simp, show n - k = (n - (k + 1)) + 1 by omega, List.replicate_succ, List.set_cons_zero, List.range_succ]
  simp
/-- a number in groups of seven bits -/
def vari (x : Nat) : List Int := if h : x < 128 then [(x : Int)] else ((128 + x % 128 : Nat) : Int) :: vari (x / 128)
termination_by x
decreasing_by omega
theorem vari_lt {x : Nat} (h : x < 128) : vari x = [(x : Int)] := by rw [vari]; simp [h]
theorem vari_ge {x : Nat} (h : ¬ x < 128) : vari x = ((128 + x % 128 : Nat) : Int) :: vari (x / 128) := by rw [vari]; simp [h]
theorem vari_byt (x : Nat) : Byt (vari x) := by
  induction x using Nat.strongRecOn with
  | ind x ih =>
    by_cases h : x < 128
    · rw [vari_lt h]; intro y hy; simp at hy; omega
    · rw [vari_ge h]
      intro y hy
      rcases List.mem_cons.1 hy with rfl | hy
      · omega
      · exact ih _ (by omega) y hy
theorem vari_pos (x : Nat) : 0 < (vari x).length := by
  by_cases h : x < 128
  · simp [vari_lt h]
  · simp [vari_ge h]
/-- how many groups: as many as hold the number -/
theorem vari_len_le {x k : Nat} (hk : 0 < k) (h : x < 128 ^ k) : (vari x).length ≤ k := by
  induction k generalizing x with
  | zero => omega
  | succ k ih =>
    by_cases hx : x < 128
    · simp [vari_lt hx]
    · rw [vari_ge hx]
      have hk0 : 0 < k := by
        rcases Nat.eq_zero_or_pos k with rfl | h0
        · simp at h; omega
        · exact h0
      have := ih (x := x / 128) hk0 (by rw [Nat.pow_succ] at h; omega)
      simp; omega
theorem vari_lt_pow (x : Nat) : x < 128 ^ (vari x).length := by
  induction x using Nat.strongRecOn with
  | ind x ih =>
    by_cases h : x < 128
    · simp [vari_lt h, h]
    · rw [vari_ge h, List.length_cons, Nat.pow_succ]
      have := ih (x / 128) (by omega)
      omega
theorem vari_len_iff {x k : Nat} (hk : 0 < k) : (vari x).length ≤ k ↔ x < 128 ^ k := by
  refine ⟨fun h => Nat.lt_of_lt_of_le (vari_lt_pow x) (Nat.pow_le_pow_right (by omega) h), vari_len_le hk⟩
theorem vari_len10 {x : Nat} (h : x < 18446744073709551616) : (vari x).length ≤ 10 := vari_len_le (by omega) (Nat.lt_of_lt_of_le h (by decide))
/-- each group -/
theorem vari_getD (x : Nat) : ∀ i, i < (vari x).length → (vari x).getD i 0 = ((x / 128 ^ i % 128 + (if i + 1 < (vari x).length then 128 else 0) : Nat) : Int) := by
  induction x using Nat.strongRecOn with
  | ind x ih =>
    intro i hi
    by_cases h : x < 128
    · simp only [vari_lt h, List.length_cons, List.length_nil] at hi ⊢
      obtain rfl : i = 0 := by omega
      simp; omega
    · simp only [vari_ge h, List.length_cons] at hi ⊢
      rcases i with _ | i
      · have := vari_pos (x / 128)
        simp [this]; omega
      · simp only [List.getD_cons_succ]
        rw [ih (x / 128) (by omega) i (by omega), Nat.pow_succ, Nat.mul_comm (128 ^ i) 128, ← Nat.div_div_eq_div_mul]
        simp only [Nat.add_lt_add_iff_right]
/-- what bytes begin with, read group by group -/
def unv (l : List Int) : Nat → Nat → Nat → Nat × Nat × Nat
  | 0, _, _ => (0, 0, 15)
  | k + 1, i, x =>
    if l.length ≤ i then (0, 0, 4) else
    if i = 9 ∧ 1 < bt l i then (0, 0, 15) else
    if bt l i = 0 ∧ 0 < i then (0, 0, 3) else
    if bt l i < 128 then (x + 128 ^ i * bt l i, i + 1, 0) else unv l k (i + 1) (x + 128 ^ i * (bt l i - 128))
def unvar (l : List Int) : Nat × Nat × Nat := unv l 10 0 0
section
variable {l : List Int} {k x : Nat} {r : Nat × Nat × Nat}
theorem unv_at (h : k < 10) : unv l (10 - k) k x = if l.length ≤ k then (0, 0, 4) else if k = 9 ∧ 1 < bt l k then (0, 0, 15) else if bt l k = 0 ∧ 0 < k then (0, 0, 3) else
    if bt l k < 128 then (x + 128 ^ k * bt l k, k + 1, 0) else unv l (10 - (k + 1)) (k + 1) (x + 128 ^ k * (bt l k - 128)) := by
  rw [show 10 - k = (10 - (k + 1)) + 1 by omega, unv]
variable (hU : unv l (10 - k) k x = r) (h : k < 10)
include hU h
theorem unv_short (h1 : l.length ≤ k) : r = (0, 0, 4) := by rw [← hU, unv_at h, if_pos h1]
theorem unv_big (h1 : ¬ l.length ≤ k) (h2 : k = 9 ∧ 1 < bt l k) : r = (0, 0, 15) := by rw [← hU, unv_at h, if_neg h1, if_pos h2]
theorem unv_form (h1 : ¬ l.length ≤ k) (h2 : ¬ (k = 9 ∧ 1 < bt l k)) (h3 : bt l k = 0 ∧ 0 < k) : r = (0, 0, 3) := by rw [← hU, unv_at h, if_neg h1, if_neg h2, if_pos h3]
theorem unv_done (h1 : ¬ l.length ≤ k) (h2 : ¬ (k = 9 ∧ 1 < bt l k)) (h3 : ¬ (bt l k = 0 ∧ 0 < k)) (h4 : bt l k < 128) : r = (x + 128 ^ k * bt l k, k + 1, 0) := by rw [← hU, unv_at h, if_neg h1, if_neg h2, if_neg h3, if_pos h4]
theorem unv_on (h1 : ¬ l.length ≤ k) (h2 : ¬ (k = 9 ∧ 1 < bt l k)) (h3 : ¬ (bt l k = 0 ∧ 0 < k)) (h4 : ¬ bt l k < 128) : unv l (10 - (k + 1)) (k + 1) (x + 128 ^ k * (bt l k - 128)) = r := by rw [← hU, unv_at h, if_neg h1, if_neg h2, if_neg h3, if_neg h4]
end
theorem unv_end {l : List Int} {x : Nat} {r : Nat × Nat × Nat} (hU : unv l (10 - 10) 10 x = r) : r = (0, 0, 15) := by rw [← hU]; rfl
theorem p128_le {k : Nat} (h : k ≤ 9) : 128 ^ k ≤ 9223372036854775808 := Nat.le_trans (Nat.pow_le_pow_right (by omega) h) (by decide)
/-- a group laid on top stays below the next power, or is the last one -/
theorem grp_lt {x k g : Nat} (hx : x < 128 ^ k) (hg : g < 128) : x + 128 ^ k * g < 128 ^ (k + 1) := by
  rw [Nat.pow_succ]
  have : 128 ^ k * g ≤ 128 ^ k * 127 := Nat.mul_le_mul_left _ (by omega)
  omega
theorem grp_64 {x k g : Nat} (hx : x < 128 ^ k) (hg : g < 128) (hk : k ≤ 9) (h9 : k = 9 → g ≤ 1) : x + 128 ^ k * g < 18446744073709551616 := by
  by_cases h : k = 9
  · subst h
    have : 128 ^ 9 * g ≤ 128 ^ 9 * 1 := Nat.mul_le_mul_left _ (h9 rfl)
    have e : (128 : Nat) ^ 9 = 9223372036854775808 := by decide
    rw [e] at hx this ⊢
    omega
  · have := grp_lt hx hg
    have := p128_le (show k + 1 ≤ 9 by omega)
    omega
theorem bt_cons0 (a : Int) (l : List Int) : bt (a :: l) 0 = a.toNat := rfl
theorem bt_cons1 (a : Int) (l : List Int) (j : Nat) : bt (a :: l) (j + 1) = bt l j := rfl
theorem unv_vari (y : Nat) : ∀ (i x : Nat) (l : List Int), (∀ j, j < (vari y).length → bt l (i + j) = bt (vari y) j) → i + (vari y).length ≤ l.length → i + (vari y).length ≤ 10 → (0 < i → 0 < y) → y * 128 ^ i < 18446744073709551616 →
    unv l (10 - i) i x = (x + 128 ^ i * y, i + (vari y).length, 0) := by
  induction y using Nat.strongRecOn with
  | ind y ih =>
    intro i x l hb hl h10 h0 hy
    have hvp := vari_pos y
    have hi : i < 10 := by omega
    rw [unv_at hi, if_neg (by omega)]
    by_cases h : y < 128
    · have e : bt l i = y := by
        have := hb 0 hvp
        rw [vari_lt h, bt_cons0] at this
        simpa using this
      rw [e, if_neg, if_neg (by omega), if_pos h, vari_lt h]
      · rfl
      · rintro ⟨h9, h1⟩
        subst h9
        have e9 : (128 : Nat) ^ 9 = 9223372036854775808 := by decide
        rw [e9] at hy
        omega
    · have hv := vari_ge h
      have e : bt l i = 128 + y % 128 := by
        have := hb 0 hvp
        rw [hv, bt_cons0, Nat.add_zero, Int.toNat_natCast] at this
        exact this
      have hl2 : (vari y).length = (vari (y / 128)).length + 1 := by rw [hv, List.length_cons]
      have hvp2 := vari_pos (y / 128)
      have hm : 128 ^ i * (y % 128) + 128 ^ (i + 1) * (y / 128) = 128 ^ i * y := by
        rw [Nat.pow_succ, Nat.mul_assoc, ← Nat.mul_add]
        congr 1; omega
      rw [e, if_neg (by omega), if_neg (by omega), if_neg (by omega), ih (y / 128) (by omega) (i + 1) _ l]
      · rw [show 128 + y % 128 - 128 = y % 128 by omega, Nat.add_assoc, hm, hl2]
        simp only [Prod.mk.injEq, true_and, and_true]; omega
      · intro j hj
        have := hb (j + 1) (by omega)
        rw [hv, bt_cons1] at this
        rw [← this]; congr 1; omega
      · omega
      · omega
      · intro _; omega
      · refine Nat.lt_of_le_of_lt ?_ hy
        rw [Nat.mul_comm, Nat.mul_comm y, ← hm]; omega
theorem unvar_app {x : Nat} (hx : x < 18446744073709551616) (l : List Int) : unvar (vari x ++ l) = (x, (vari x).length, 0) := by
  have h := unv_vari x 0 0 (vari x ++ l) (fun j hj => by rw [Nat.zero_add, bt, bt, List.getD_eq_getElem?_getD, List.getElem?_append_left hj, ← List.getD_eq_getElem?_getD]) (by simp) (by have := vari_len10 hx; omega) (by omega) (by simpa using hx)
  rw [unvar, show 10 = 10 - 0 from rfl, h]
  simp
theorem unv_back : ∀ (q i x : Nat) (l : List Int) (z m : Nat), Byt l → i + q = 10 → unv l (10 - i) i x = (z, m, 0) → ∃ y, z = x + 128 ^ i * y ∧ m = i + (vari y).length ∧ m ≤ l.length ∧ vari y = (l.drop i).take (m - i) ∧ (0 < i → 0 < y) ∧ (i = 9 → y ≤ 1)
  | 0, i, x, l, z, m, _, hi, h => by
    obtain rfl : i = 10 := by omega
    have := (unv_end h).symm
    simp at this
  | q + 1, i, x, l, z, m, hb, hi, h => by
    have hi10 : i < 10 := by omega
    rw [unv_at hi10] at h
    by_cases h1 : l.length ≤ i
    · rw [if_pos h1] at h; simp at h
    by_cases h2 : i = 9 ∧ 1 < bt l i
    · rw [if_neg h1, if_pos h2] at h; simp at h
    by_cases h3 : bt l i = 0 ∧ 0 < i
    · rw [if_neg h1, if_neg h2, if_pos h3] at h; simp at h
    have hd : l.drop i = (bt l i : Int) :: l.drop (i + 1) := by
      rw [List.drop_eq_getElem_cons (by omega), ← (hb.bt i).1, List.getD_eq_getElem?_getD, List.getElem?_eq_getElem (by omega)]; rfl
    by_cases h4 : bt l i < 128
    · rw [if_neg h1, if_neg h2, if_neg h3, if_pos h4] at h
      simp only [Prod.mk.injEq, and_true] at h
      obtain ⟨rfl, rfl⟩ := h
      refine ⟨bt l i, rfl, by rw [vari_lt h4]; rfl, by omega, ?_, by omega, by omega⟩
      rw [vari_lt h4, hd, show i + 1 - i = 1 by omega]; rfl
    · rw [if_neg h1, if_neg h2, if_neg h3, if_neg h4] at h
      obtain ⟨y, hz, hm, hml, hv, hy, h9⟩ := unv_back q (i + 1) _ l z m hb (by omega) h
      have hy0 := hy (by omega)
      have hlt := (hb.bt i).2
      have hge : ¬ (128 * y + (bt l i - 128)) < 128 := by omega
      have e1 : (128 * y + (bt l i - 128)) % 128 = bt l i - 128 := by omega
      have e2 : (128 * y + (bt l i - 128)) / 128 = y := by omega
      have hvv : vari (128 * y + (bt l i - 128)) = (bt l i : Int) :: vari y := by rw [vari_ge hge, e1, e2, show 128 + (bt l i - 128) = bt l i by omega]
      refine ⟨128 * y + (bt l i - 128), ?_, by rw [hvv, List.length_cons]; omega, hml, ?_, by omega, by omega⟩
      · rw [hz, Nat.pow_succ, Nat.mul_add]
        have : 128 ^ i * (128 * y) = 128 ^ i * 128 * y := (Nat.mul_assoc _ _ _).symm
        omega
      · have hvp := vari_pos y
        rw [hvv, hd, hv, show m - i = (m - (i + 1)) + 1 by omega, List.take_succ_cons]
theorem unvar_back {l : List Int} (hb : Byt l) (h : (unvar l).2.2 = 0) : (unvar l).2.1 ≤ l.length ∧ vari (unvar l).1 = l.take (unvar l).2.1 := by
  have e : unv l (10 - 0) 0 0 = ((unvar l).1, (unvar l).2.1, 0) := Prod.ext rfl (Prod.ext rfl h)
  obtain ⟨y, hz, hm, hml, hv, _, _⟩ := unv_back 10 0 0 l _ _ hb rfl e
  have hz' : (unvar l).1 = y := by rw [hz]; simp
  refine ⟨hml, ?_⟩
  rw [hz', hv]; simp
theorem unv_lt : ∀ (q i x : Nat) (l : List Int), Byt l → i + q = 10 → x < 128 ^ i → x < 18446744073709551616 → (unv l (10 - i) i x).1 < 18446744073709551616 ∧ (unv l (10 - i) i x).2.1 ≤ 10 ∧ (unv l (10 - i) i x).2.2 ≤ 15
  | 0, i, x, l, _, hi, _, _ => by
    obtain rfl : i = 10 := by omega
    simp [unv]
  | q + 1, i, x, l, hb, hi, hx, hx64 => by
    have hi10 : i < 10 := by omega
    have hbb := (hb.bt i).2
    rw [unv_at hi10]
    split
    · simp
    split
    · simp
    split
    · simp
    split
    · next h1 h2 h3 h4 => exact ⟨grp_64 hx h4 (by omega) (by omega), by simp; omega, by simp⟩
    · next h1 h2 h3 h4 => exact unv_lt q (i + 1) _ l hb (by omega) (grp_lt hx (by omega)) (grp_64 hx (by omega) (by omega) (by omega))
theorem unvar_lt {l : List Int} (hb : Byt l) : (unvar l).1 < 18446744073709551616 ∧ (unvar l).2.1 ≤ 10 ∧ (unvar l).2.2 ≤ 15 := unv_lt 10 0 0 l hb rfl (by simp) (by omega)
end Go.Proofs.YtffmanidnlbjjaaGreat
namespace Go.Proofs.YtffmanidnlbjjaaGreat
open Go.Shelf
def lays129_ren : Go.Shelf.Ren := ⟨fun | 129 => 243 | n => n, fun | 53 => 84 | 3 => 3 | 4 => 4 | 46 => 164 | 5 => 5 | 9 => 9 | n => n, fun | n => n⟩
theorem lays129 : Go.Proofs.Lays.n129 Tryz.prog lays129_ren := {
  mixed := by kernel_rfl
  f129 := Tryz.func243.trans (congrArg some (by kernel_rfl))
  t3 := Tryz.underlying3
  a3 := Tryz.isAgg3
  z3 := Tryz.sizeOf3
  v3 := Tryz.zeroValue3
  t4 := Tryz.underlying4
  a4 := Tryz.isAgg4
  z4 := Tryz.sizeOf4
  v4 := Tryz.zeroValue4
  t5 := Tryz.underlying5
  a5 := Tryz.isAgg5
  z5 := Tryz.sizeOf5
  v5 := Tryz.zeroValue5
  t9 := Tryz.underlying9
  a9 := Tryz.isAgg9
  z9 := Tryz.sizeOf9
  v9 := Tryz.zeroValue9
  t46 := Tryz.underlying164
  a46 := Tryz.isAgg164
  z46 := Tryz.sizeOf164
  v46 := Tryz.zeroValue164
  t53 := Tryz.underlying84
  a53 := Tryz.isAgg84
  z53 := Tryz.sizeOf84
  v53 := Tryz.zeroValue84 }
/-- bits.Len64: "Len64 returns the minimum number of bits required to represent x; the result is 0 for x == 0.": IT RETURNS 'Lib.bitLen x'; the world is as it was. ('h0', 'h1': x is a uint64.) (LAID: no walk: one application.) -/
theorem bits_Len64 (x : Int) (w : World) (h0 : 0 ≤ x) (h1 : x ≤ 18446744073709551615) :
    Calls Tryz.prog 243 #[.int .u64 x] w fun e w' => e = .returned (.int .i64 (Lib.bitLen x.toNat)) ∧ w' = w := Any.bits_Len64 lays129 x w h0 h1
def lays6_ren : Go.Shelf.Ren := ⟨fun | 6 => 205 | 15 => 237 | 14 => 236 | 28 => 252 | 29 => 243 | 20 => 244 | 21 => 245 | 22 => 246 | 23 => 247 | 24 => 248 | 25 => 249 | 26 => 250 | 27 => 251 | 46 => 255 | 47 => 256 | 48 => 257 | 49 => 258 | 50 => 259 | 57 => 260 | n => n, fun | 22 => 22 | 24 => 88 | 25 => 207 | 3 => 3 | 39 => 164 | 0 => 0 | 53 => 24 | 55 => 84 | 4 => 4 | 46 => 270 | 45 => 269 | 50 => 63 | 5 => 5 | 9 => 9 | 66 => 279 | 70 => 282 | 76 => 284 | 77 => 285 | n => n, fun | n => n⟩
theorem lays6 : Go.Proofs.SlLaysF0.n6 Tryz.prog lays6_ren := {
  mixed := by kernel_rfl
  f6 := ⟨Tryz.f205.name, by decide, Tryz.func205.trans (congrArg some (by kernel_rfl))⟩
  f14 := ⟨Tryz.f236.name, by decide, Tryz.func236.trans (congrArg some (by kernel_rfl))⟩
  f15 := Tryz.func237.trans (congrArg some (by kernel_rfl))
  f20 := ⟨Tryz.f244.name, by decide, Tryz.func244.trans (congrArg some (by kernel_rfl))⟩
  f21 := ⟨Tryz.f245.name, by decide, Tryz.func245.trans (congrArg some (by kernel_rfl))⟩
  f22 := ⟨Tryz.f246.name, by decide, Tryz.func246.trans (congrArg some (by kernel_rfl))⟩
  f23 := ⟨Tryz.f247.name, by decide, Tryz.func247.trans (congrArg some (by kernel_rfl))⟩
  f24 := ⟨Tryz.f248.name, by decide, Tryz.func248.trans (congrArg some (by kernel_rfl))⟩
  f25 := ⟨Tryz.f249.name, by decide, Tryz.func249.trans (congrArg some (by kernel_rfl))⟩
  f26 := ⟨Tryz.f250.name, by decide, Tryz.func250.trans (congrArg some (by kernel_rfl))⟩
  f27 := ⟨Tryz.f251.name, by decide, Tryz.func251.trans (congrArg some (by kernel_rfl))⟩
  f28 := Tryz.func252.trans (congrArg some (by kernel_rfl))
  f29 := Tryz.func243.trans (congrArg some (by kernel_rfl))
  f46 := ⟨Tryz.f255.name, by decide, Tryz.func255.trans (congrArg some (by kernel_rfl))⟩
  f47 := Tryz.func256.trans (congrArg some (by kernel_rfl))
  f48 := Tryz.func257.trans (congrArg some (by kernel_rfl))
  f49 := ⟨Tryz.f258.name, by decide, Tryz.func258.trans (congrArg some (by kernel_rfl))⟩
  f50 := ⟨Tryz.f259.name, by decide, Tryz.func259.trans (congrArg some (by kernel_rfl))⟩
  f57 := ⟨Tryz.f260.name, by decide, Tryz.func260.trans (congrArg some (by kernel_rfl))⟩
  t0 := Tryz.underlying0
  a0 := Tryz.isAgg0
  z0 := Tryz.sizeOf0
  v0 := Tryz.zeroValue0
  t3 := Tryz.underlying3
  a3 := Tryz.isAgg3
  z3 := Tryz.sizeOf3
  v3 := Tryz.zeroValue3
  t4 := Tryz.underlying4
  a4 := Tryz.isAgg4
  z4 := Tryz.sizeOf4
  v4 := Tryz.zeroValue4
  t5 := Tryz.underlying5
  a5 := Tryz.isAgg5
  z5 := Tryz.sizeOf5
  v5 := Tryz.zeroValue5
  t9 := Tryz.underlying9
  a9 := Tryz.isAgg9
  z9 := Tryz.sizeOf9
  v9 := Tryz.zeroValue9
  t22 := Tryz.underlying22
  a22 := Tryz.isAgg22
  z22 := Tryz.sizeOf22
  v22 := Tryz.zeroValue22
  t25 := Tryz.underlying207
  a25 := Tryz.isAgg207
  z25 := Tryz.sizeOf207
  v25 := Tryz.zeroValue207
  t39 := Tryz.underlying164
  a39 := Tryz.isAgg164
  z39 := Tryz.sizeOf164
  v39 := Tryz.zeroValue164
  t45 := Tryz.underlying269
  a45 := Tryz.isAgg269
  z45 := Tryz.sizeOf269
  v45 := Tryz.zeroValue269
  t46 := Tryz.underlying270
  a46 := Tryz.isAgg270
  z46 := Tryz.sizeOf270
  v46 := Tryz.zeroValue270
  t50 := Tryz.underlying63
  a50 := Tryz.isAgg63
  z50 := Tryz.sizeOf63
  v50 := Tryz.zeroValue63
  t53 := Tryz.underlying24
  a53 := Tryz.isAgg24
  z53 := Tryz.sizeOf24
  v53 := Tryz.zeroValue24
  t55 := Tryz.underlying84
  a55 := Tryz.isAgg84
  z55 := Tryz.sizeOf84
  v55 := Tryz.zeroValue84
  t66 := Tryz.underlying279
  a66 := Tryz.isAgg279
  z66 := Tryz.sizeOf279
  v66 := Tryz.zeroValue279
  t70 := Tryz.underlying282
  a70 := Tryz.isAgg282
  z70 := Tryz.sizeOf282
  v70 := Tryz.zeroValue282
  t76 := Tryz.underlying284
  a76 := Tryz.isAgg284
  z76 := Tryz.sizeOf284
  v76 := Tryz.zeroValue284
  t77 := Tryz.underlying285
  a77 := Tryz.isAgg285
  z77 := Tryz.sizeOf285
  v77 := Tryz.zeroValue285 }
end Go.Proofs.YtffmanidnlbjjaaGreat
set_option linter.unusedSimpArgs false
set_option linter.unusedVariables false
set_option maxHeartbeats 800000
set_option maxRecDepth 100000
namespace Go.Proofs.YtffmanidnlbjjaaGreat
open Go.RowKit

theorem c_bitLen (x : Nat) (hx : x < 18446744073709551616)  (w0 : World) :
    CallR Tryz.prog 227 #[.int .u64 (x : Int)] w0 fun v w' => v = .int .i64 ((Lib.bitLen x : Nat) : Int) ∧ Ext w0 w' := by
 have hS : St NoB w0 w0 [] := St.start w0
 refine c_enter (l := [.int .u64 (x : Int), undef, undef, undef, undef]) Tryz.func227 rfl (by simp only [Tryz.ntmps227, List.size_toArray, List.length_cons, List.length_nil, Nat.reduceAdd, Nat.reduceSub, Array.replicate_succ, Array.replicate_zero, List.push_toArray, List.append_toArray, List.nil_append, List.cons_append]) ?_
 refine x_seq fun K1 hK1 => ?_
 refine x_region ?_
 refine s_go (s_assign) ?_
 try simp only [opv, n1, n2, n3, n4, Value.cells]
 refine x_nil ?_
 refine hK1 _ _ ?_
 refine x_seq fun K2 hK2 => ?_
 refine x_region ?_
 refine s_go (s_move) ?_
 try simp only [opv, n1, n2, n3, n4, Value.cells]
 refine s_call en243 ?_
 try simp only [opv, n1, n2, n3, n4, Value.cells, List.map_toArray, List.map_cons, List.map_nil, List.append_toArray, List.cons_append, List.nil_append, Array.append_empty]
 refine CallR.mono (calls_r (bits_Len64 (x : Int) _ (by omega) (by omega))) ?_
 rintro _ w1 ⟨rfl, hE1⟩
 replace hS := hS.ext hE1
 try simp only [opv, n1, n2, n3, n4, Value.cells]
 rw [Int.toNat_natCast]
 refine s_go (s_assign) ?_
 try simp only [opv, n1, n2, n3, n4, Value.cells]
 refine x_nil ?_
 refine hK2 _ _ ?_
 refine x_ret ?_
 refine r_tmp rfl ?_
 exact ⟨rfl, hS.ext_of⟩
theorem NU {k : IntKind} {a b : Nat} (h : a = b) : Value.int k (a : Int) = Value.int k (b : Int) := by rw [h]
end Go.Proofs.YtffmanidnlbjjaaGreat
namespace Go.Proofs.YtffmanidnlbjjaaGreat
open Go.RowKit
section
variable {P : Program} {ops : Array Oper} {Q : Exit → Act → World → Prop} {rest : List Oper} {l : List Value} {w : World} {d : Nat} {ty : TypeId} {pos : String} {aft : Array Edge}
variable {S : Nat → Prop} {w0 : World} {L L' : List Res}
theorem s_slice_whole {T e : TypeId} {x : Operand} {g N sz by' : Nat} {z : Value} (hT : P.underlying T = some (.array N e)) (hi0 : TI P e sz by' z) (hx : opv l x = .pointer (some ⟨g, 0, none⟩) := by rfl) (hN : 0 < N := by decide) : Go1 P l w ⟨some d, .slice T x none none none, ty, pos, aft, none⟩ (.slice (some ⟨g, 0, none⟩) N N) := by
  obtain ⟨i, hi0, rfl, _, _⟩ := hi0
  unfold Go1
  simp [execOp, hx, Instr.sliceAt, run_underlying hT, Instr.sureAddr, Instr.sliceBounds, sizeOf, typeInfo, hi0, add_at, Nat.ne_of_gt hN]
theorem m_copy_str {T sT e : TypeId} {x y : Operand} {by' N : Nat} {z : Value} {g : Nat} {cs ns : List Int} {t : TypeId} (hT : P.underlying T = some (.slice e)) (hi : TI P e 1 by' z) (hx : opv l x = .slice (some ⟨g, 0, none⟩) N N := by rfl) (hy : opv l y = .string (strOf ns) := by rfl) (hw : Byt ns) (hl : ns.length ≤ N) (hc : cs.length = N) (hS : St S w0 w L)
    (hu : Upd L (.obj g (.cells (ic .u8 cs) t (0, 0))) (.obj g (.cells (ic .u8 (ns ++ cs.drop ns.length)) t (0, 0))) L' := by repeat (first | exact Upd.head | apply Upd.tail))
    (h : ∀ w', St S w0 w' L' → WL P ops Q rest (fr (l.set d (.int .i64 (ns.length : Int)))) w') : WL P ops Q (⟨some d, .call { callee := .builtin .copy, args := #[x, y], argTypes := #[T, sT] }, ty, pos, aft, none⟩ :: rest) (fr l) w := by
  obtain ⟨i, hi, hsz, _, _⟩ := hi
  have hg : w.heap[g]? = some (.cells (ic .u8 cs) t (0, 0)) := hS.holds _ hu.mem
  have hcells : ((strOf ns).extract 0 ns.length).data.map (fun b => Value.int .u8 (b.toNat : Int)) = (ns.map (Value.int .u8)).toArray := by
    have h1 : (strOf ns).extract 0 ns.length = strOf ns := by
      conv => lhs; rw [← strOf_size ns]
      exact ByteArray.extract_zero_size
    rw [h1]
    have h2 := byL_strOf hw
    apply Array.ext'
    rw [Array.toList_map]
    conv => rhs; rw [List.toList_toArray, ← h2]
    simp [byL, Function.comp_def]
  have hfc : (Builtin.firstCells 1 ns.length (.string (strOf ns))).run P w = .ok (ns.map (Value.int .u8)).toArray w := by simp only [Builtin.firstCells, hcells, Sem.run_pure]
  have hst := run_storeCells_at P g 0 t (ns.map (Value.int .u8)) 0 (ic .u8 cs) w hg (by simp; omega) (il_one _ _)
  have hmin : Nat.min ns.length N = ns.length := Nat.min_eq_left hl
  have hrow : ((ic .u8 cs).toList.take (0 + 0) ++ ns.map (Value.int .u8) ++ (ic .u8 cs).toList.drop (0 + 0 + (ns.map (Value.int .u8)).length)).toArray = ic .u8 (ns ++ cs.drop ns.length) := by
    simp [ic, List.map_drop]
  rw [hrow] at hst
  have hsz' : (sizeOf e).run P w = .ok 1 w := by simp [sizeOf, typeInfo, hi, hsz]
  refine s_val (v := .int .i64 (ns.length : Int)) (w' := w.setRow g (ic .u8 (ns ++ cs.drop ns.length))) ?_ (h _ (hS.turn hu (setRow_keep w g _) (setRow_heap w g _ _ t (0, 0) hg) (fun k hk => .inl hk) (fun k hk => by simp [Res.reads] at hk)))
  simp [execOp, resolve, invoke, builtin, Builtin.copy_, hx, hy, run_underlying hT, Builtin.lenOf, strOf_size, hmin, hsz', hfc, hst, goInt]
end
section
variable {P : Program} {n r : Act → World → Prop} {ex : List (Nat × (Act → World → Prop))} {w : World} {l : List Value} {S : Nat → Prop} {w0 : World} {L : List Res} {A : Option Addr}
/-- a region that draws its order, whose quiet operations lean on some of what is owned alone -/
theorem x_mixed_c {id : Nat} {ops : List Oper} {Lc : List Res} (lt : List Nat) (m : Nat) (V : List Nat) (R : (Nat → Value) → World → Prop) (hm : P.follows .mixedOrders = true) (hs : Region.noSelect ops.toArray = true) (hB : preB .any ops.toArray lt m 0 (Array.replicate ops.length false) = true) (hml : m ≤ ops.length)
    (hS : St S w0 w L) (h : ∀ w', St S w0 w' L → wpPre P ops.toArray (fun w => St S w0 w Lc) (fun a' => AnyE P .any ops.toArray (fun w => St S w0 w Lc) lt (Qx (MixM l V R) r ex) (ops.length - m) (setAll m 0 (Array.replicate ops.length false)) a' w') (ops.take m) (fr l))
    (hM : ∀ f w', R f w' → n (fr (clob l V f)) w') : (Code.region id ops.toArray true).wp P (Qx n r ex) (fr l) w := by
  refine wp_mono ?_ (fun e a w q => ?_) (Q := Qx (MixM l V R) r ex)
  · refine wp_region_any hm (AnyE.any (C := fun w => St S w0 w Lc) (lt := lt) _ ?_)
    have hlen : (ops.take m).length = m := by simp; omega
    have := AnyE.pre (P := P) (md := .any) (ops := ops.toArray) (C := fun w => St S w0 w Lc) (lt := lt) (Q := Qx (MixM l V R) r ex) hs (fun _ _ _ => Qx_panic) (ops.length - m) w.drew (ops.take m) 0 (Array.replicate ops.length false) (fr l) (fun k _ => by simp [Array.getD_eq_getD_getElem?, Array.getElem?_replicate]; split <;> rfl) (fun j hj => by
      rw [List.getElem?_take, if_pos (by omega)]; simp) (by rw [hlen]; exact hB) (by rw [hlen]; exact h _ (hS.ext (Ext.drew w)))
    rw [hlen, show ops.length - m + m = ops.length by omega] at this
    simpa using this
  · cases e with
    | normal => obtain ⟨f, e, hR⟩ := q; subst e; exact hM f _ hR
    | _ => exact q
end
end Go.Proofs.YtffmanidnlbjjaaGreat
set_option linter.unusedSimpArgs false
set_option linter.unusedVariables false
namespace Go.Proofs.YtffmanidnlbjjaaGreat
open Go.RowKit
def Fw (r : Option Nat) : Fence := { Fence.wide with round := r }
theorem fw_room (r : Option Nat) (k : Nat) : (Fw r).room k := fun _ h => by simp [Fw, Fence.wide] at h
theorem fw_depth (r : Option Nat) {k : Nat} : (Fw r).depth.isSome = true → 1 ≤ k := fun h => by simp [Fw, Fence.wide] at h
theorem fw_fenced (r : Option Nat) (P : Program) : Machine.fenced P (Fw r) = Machine.fenced P Fence.wide := by cases r <;> rfl
theorem fw_steps {r : Option Nat} {P : Program} {m m' : Machine} : StepsIn (Machine.fenced P (Fw r)) P m m' ↔ Steps P m m' := by rw [fw_fenced]; exact stepsIn_wide
theorem callsIn_fw {r : Option Nat} {k : Nat} {P : Program} {f : FuncId} {args : Array Value} {w : World} {R : Ending → World → Prop} (h : Calls P f args w R) : CallsIn (Fw r) k P f args w R := by
  have h1 : CallsIn Fence.wide k P f args w R := callsIn_wide.2 h
  cases r with
  | none => exact h1
  | some l => exact h1.inRound l
theorem rowsIn_fw {r : Option Nat} {k : Nat} {P : Program} {row : String} {args : Array Value} {w : World} {R : Value → World → Prop} (h : Rows P row args w R) : RowsIn (Fw r) k P row args w R :=
  fun c cs _ => let ⟨v, w', hr, s⟩ := h c cs; ⟨v, w', hr, fw_steps.2 s⟩
def frd (ds : List Deferred) (l : List Value) : Act := { tmps := l.toArray, defers := ds }
def wd (ds : List Deferred) (a : Act) : Act := { tmps := a.tmps, defers := a.defers ++ ds }
theorem wd_fr (ds : List Deferred) (l : List Value) : wd ds (fr l) = frd ds l := rfl
theorem wd_put (ds : List Deferred) (a : Act) (d : Option Nat) (v : Value) : (wd ds a).put d v = wd ds (a.put d v) := by cases d <;> rfl
theorem wd_eval (ds : List Deferred) (a : Act) : (wd ds a).eval = a.eval := by funext x; cases x <;> rfl
theorem eval_frd (ds : List Deferred) (l : List Value) : (frd ds l).eval = opv l := by rw [← wd_fr, wd_eval, eval_fr]
theorem put_frd (ds : List Deferred) (l : List Value) (d : Nat) (v : Value) : (frd ds l).put (some d) v = frd ds (l.set d v) := by rw [← wd_fr, wd_put, put_fr, wd_fr]
def ndB (ops : Array Oper) : Bool := ops.all fun o => match o.op with | .defer _ => false | _ => true
theorem ndB_spec {ops : Array Oper} (h : ndB ops = true) {i : Nat} {o : Oper} (ho : ops[i]? = some o) : ∀ c, o.op ≠ .defer c := fun c e => by
  obtain ⟨hi, rfl⟩ := Array.getElem?_eq_some_iff.1 ho
  have := Array.all_eq_true.1 h i hi
  rw [e] at this
  cases this
section
variable {P : Program} {ops : Array Oper} {Q Q2 : Exit → Act → World → Prop} {ds : List Deferred} {r : Option Nat}
theorem operIn_of {o : Oper} {a : Act} {w : World} {K K2 : Act → World → Prop} (hnd : ∀ c, o.op ≠ .defer c) (hq : ∀ e a w, Q e a w → Q2 e (wd ds a) w) (hk : ∀ a w, K a w → K2 (wd ds a) w) (h : o.wp P a w K Q) : o.wpIn (Fw r) 0 P (wd ds a) w K2 Q2 := by
  refine ⟨fun f _ => trivial, ?_⟩
  rw [Oper.semAt_eq _ _ _ hnd, wd_eval]
  unfold Oper.wp at h
  generalize (execOp a.eval o).run P w = res at h ⊢
  cases res with
  | ok nx w' =>
    cases nx with
    | value v => simp only [Oper.upon, Oper.uponIn] at h ⊢; rw [wd_put]; exact hk _ _ h
    | skip => simp only [Oper.upon, Oper.uponIn] at h ⊢; rw [wd_put]; exact hk _ _ h
    | defer d =>
      simp only [Oper.upon, Oper.uponIn] at h ⊢
      have e : ({ wd ds a with defers := d :: (wd ds a).defers } : Act) = wd ds { a with defers := d :: a.defers } := rfl
      rw [e, wd_put]; exact hk _ _ h
    | enter f args =>
      simp only [Oper.upon, Oper.uponIn] at h ⊢
      refine ⟨fw_depth r, callsIn_fw (Calls.mono h fun e w'' he => ?_)⟩
      cases e with
      | returned v => dsimp only at he ⊢; rw [wd_put]; exact hk _ _ he
      | panicked ch => exact hq _ _ _ he
      | outgrown => obtain ⟨a0, w0, h0⟩ := he; exact ⟨_, _, hq _ _ _ h0⟩
    | row row args =>
      simp only [Oper.upon, Oper.uponIn] at h ⊢
      refine ⟨fw_depth r, rowsIn_fw (Rows.mono h fun v w'' he => ?_)⟩
      rw [wd_put]; exact hk _ _ he
    | _ => exact h.elim
  | halt x w' =>
    cases x with
    | panic v => exact hq _ _ _ h
    | _ => exact h.elim
theorem opsIn_of (hnd : ndB ops = true) (hq : ∀ e a w, Q e a w → Q2 e (wd ds a) w) (hl : ¬ LetsOut Q) : ∀ (idx : List Nat) (a : Act) (w : World), wpOps P ops Q idx a w → wpOpsIn (Fw r) 0 P ops Q2 idx (wd ds a) w
  | [], a, w, h => hq _ _ _ h
  | i :: rest, a, w, h => by
    unfold wpOps at h
    unfold wpOpsIn
    cases ho : ops[i]? with
    | none => simp only [ho] at h ⊢; exact opsIn_of hnd hq hl rest a w h
    | some o =>
      simp only [ho] at h ⊢
      have ht : (wd ds a).tmps = a.tmps := rfl
      rw [ht]
      split
      · next hw =>
        rw [if_pos hw] at h
        rcases h with h | ⟨_, h⟩
        · exact operIn_of (ndB_spec hnd ho) hq (fun a w h => opsIn_of hnd hq hl rest a w h) h
        · exact (hl h).elim
      · next hw =>
        rw [if_neg hw] at h
        refine ⟨fun f _ => trivial, ?_⟩
        rw [wd_put]; exact opsIn_of hnd hq hl rest _ w h
/-- the fenced walk over a list of operations -/
def wpLi (r : Option Nat) (P : Program) (ops : Array Oper) (Q : Exit → Act → World → Prop) : List Oper → Act → World → Prop
  | [], a, w => Q .normal a w
  | o :: rest, a, w => if Region.wanted o (yielded ops a.tmps) then o.wpIn (Fw r) 0 P a w (wpLi r P ops Q rest) Q else wpLi r P ops Q rest (a.put o.dst undef) w
structure WY (r : Option Nat) (P : Program) (ops : Array Oper) (Q : Exit → Act → World → Prop) (os : List Oper) (a : Act) (w : World) : Prop where
  run : wpLi r P ops Q os a w
theorem opsIn_list : ∀ (l : List Oper) (k : Nat), (∀ j, j < l.length → l[j]? = ops[k + j]?) → ∀ (a : Act) (w : World), wpLi r P ops Q l a w → wpOpsIn (Fw r) 0 P ops Q (List.range' k l.length) a w
  | [], _, _, _, _, h => h
  | o :: l, k, hk, a, w, h => by
    have h0 : ops[k]? = some o := by simpa using (hk 0 (by simp)).symm
    have ih := opsIn_list l (k + 1) (fun j hj => by have := hk (j + 1) (by simpa using hj); simpa [Nat.add_assoc, Nat.add_comm 1 j] using this)
    simp only [List.length_cons, List.range'_succ]
    unfold wpLi at h
    unfold wpOpsIn
    simp only [h0]
    split
    · next hw =>
      rw [if_pos hw] at h
      obtain ⟨h1, h2⟩ := h
      refine ⟨h1, ?_⟩
      generalize (o.semAt (Fw r).round a.eval).run P w = res at h2 ⊢
      cases res with
      | ok nx w' =>
        cases nx with
        | value v => exact ih _ _ h2
        | skip => exact ih _ _ h2
        | defer d => exact ih _ _ h2
        | enter f args =>
          obtain ⟨h3, h4⟩ := h2
          refine ⟨h3, CallsIn.mono h4 fun e w'' he => ?_⟩
          cases e with
          | returned v => exact ih _ _ he
          | panicked ch => exact he
          | outgrown => exact he
        | row row args =>
          obtain ⟨h3, h4⟩ := h2
          exact ⟨h3, RowsIn.mono h4 fun v w'' he => ih _ _ he⟩
        | round l f tmps asg bd =>
          obtain ⟨h3, h4⟩ := h2
          refine ⟨h3, RoundIn.mono h4 fun e w'' he => ?_⟩
          cases e with
          | returned v => exact ih _ _ he
          | panicked ch => exact he
          | outgrown => exact he
        | _ => exact h2
      | halt x w' =>
        cases x with
        | panic v => exact h2
        | _ => exact h2
    · next hw =>
      rw [if_neg hw] at h
      exact ⟨fun f _ => trivial, ih _ _ h⟩
theorem pre_list {rest : List Oper} (hq : ∀ e a w, e ≠ .normal → Q e a w → Q2 e (wd ds a) w) (hl : ¬ LetsOut Q) (hn : ∀ a w, Q .normal a w → wpLi r P ops Q2 rest (wd ds a) w) : ∀ (pre : List Oper), (∀ o ∈ pre, ∀ c, o.op ≠ .defer c) → (∀ e a w, Q e a w → e = .normal ∨ Q2 e (wd ds a) w) → ∀ (a : Act) (w : World), wpList P ops Q pre a w → wpLi r P ops Q2 (pre ++ rest) (wd ds a) w
  | [], _, _, a, w, h => hn a w h
  | o :: pre, hnd, hq2, a, w, h => by
    have ih := pre_list hq hl hn pre (fun o ho => hnd o (by simp [ho])) hq2
    unfold wpList at h
    rw [List.cons_append]
    unfold wpLi
    have ht : (wd ds a).tmps = a.tmps := rfl
    rw [ht]
    split
    · next hw =>
      rw [if_pos hw] at h
      rcases h with h | ⟨_, h⟩
      · -- the operation's own panics and calls
        refine ⟨fun f _ => trivial, ?_⟩
        rw [Oper.semAt_eq _ _ _ (hnd o (by simp)), wd_eval]
        unfold Oper.wp at h
        generalize (execOp a.eval o).run P w = res at h ⊢
        cases res with
        | ok nx w' =>
          cases nx with
          | value v => simp only [Oper.upon, Oper.uponIn] at h ⊢; rw [wd_put]; exact ih _ _ h
          | skip => simp only [Oper.upon, Oper.uponIn] at h ⊢; rw [wd_put]; exact ih _ _ h
          | defer d =>
            simp only [Oper.upon, Oper.uponIn] at h ⊢
            have e : ({ wd ds a with defers := d :: (wd ds a).defers } : Act) = wd ds { a with defers := d :: a.defers } := rfl
            rw [e, wd_put]; exact ih _ _ h
          | enter f args =>
            simp only [Oper.upon, Oper.uponIn] at h ⊢
            refine ⟨fw_depth r, callsIn_fw (Calls.mono h fun e w'' he => ?_)⟩
            cases e with
            | returned v => dsimp only at he ⊢; rw [wd_put]; exact ih _ _ he
            | panicked ch => exact hq _ _ _ (by simp) he
            | outgrown => exact (hl he).elim
          | row row args =>
            simp only [Oper.upon, Oper.uponIn] at h ⊢
            refine ⟨fw_depth r, rowsIn_fw (Rows.mono h fun v w'' he => ?_)⟩
            rw [wd_put]; exact ih _ _ he
          | _ => exact h.elim
        | halt x w' =>
          cases x with
          | panic v => exact hq _ _ _ (by simp) h
          | _ => exact h.elim
      · exact (hl h).elim
    · next hw =>
      rw [if_neg hw] at h
      rw [wd_put]; exact ih _ _ h
end
section
variable {P : Program} {n rr : Act → World → Prop} {ex : List (Nat × (Act → World → Prop))} {a : Act} {w w' : World} {l : List Value} {ds : List Deferred} {r : Option Nat}
theorem y_seq {x y : Code} (h : ∀ K : Act → World → Prop, (∀ a w, y.wpIn (Fw r) 0 P (Qx n rr ex) a w → K a w) → x.wpIn (Fw r) 0 P (Qx K rr ex) a w) : (Code.seq x y).wpIn (Fw r) 0 P (Qx n rr ex) a w :=
  wpIn_seq (wpIn_mono (h _ fun _ _ h => h) fun e a w q => by cases e <;> first | exact q | exact q.elim)
theorem y_block {id : Nat} {c : Code} (h : c.wpIn (Fw r) 0 P (Qx n rr ((id, n) :: ex)) a w) : (Code.block id c).wpIn (Fw r) 0 P (Qx n rr ex) a w :=
  wpIn_block (wpIn_mono h fun e a w q => by
    cases e with
    | exit i =>
      simp only [Exit.inBlock, Qx, look] at q ⊢
      split
      · rename_i hi; rw [if_pos hi] at q; exact q
      · rename_i hi; rw [if_neg hi] at q; exact q
    | _ => first | exact q | exact q.elim)
theorem y_exit {id : Nat} (h : look id ex a w) : (Code.exit id).wpIn (Fw r) 0 P (Qx n rr ex) a w := wpIn_exit h
theorem y_ret (h : rr a w) : Code.ret.wpIn (Fw r) 0 P (Qx n rr ex) a w := wpIn_ret h
theorem y_skip (h : n a w) : Code.skip.wpIn (Fw r) 0 P (Qx n rr ex) a w := wpIn_skip h
theorem y_cond_t {c : Operand} {x y : Code} (hc : opv l c = .bool true := by rfl) (h : x.wpIn (Fw r) 0 P (Qx n rr ex) (frd ds l) w) : (Code.cond c x y).wpIn (Fw r) 0 P (Qx n rr ex) (frd ds l) w := wpIn_cond_true (by rw [eval_frd]; exact hc) h
theorem y_cond_f {c : Operand} {x y : Code} (hc : opv l c = .bool false := by rfl) (h : y.wpIn (Fw r) 0 P (Qx n rr ex) (frd ds l) w) : (Code.cond c x y).wpIn (Fw r) 0 P (Qx n rr ex) (frd ds l) w := wpIn_cond_false (by rw [eval_frd]; exact hc) h
theorem y_cond {c : Operand} {x y : Code} {b : Bool} (hc : opv l c = .bool b := by rfl) (ht : b = true → x.wpIn (Fw r) 0 P (Qx n rr ex) (frd ds l) w) (hf : b = false → y.wpIn (Fw r) 0 P (Qx n rr ex) (frd ds l) w) : (Code.cond c x y).wpIn (Fw r) 0 P (Qx n rr ex) (frd ds l) w :=
  wpIn_cond_split (by rw [eval_frd]; exact hc) ht hf
theorem qx_out {n : Act → World → Prop} : ¬ LetsOut (Qx n (fun _ _ => False) []) := fun ⟨_, _, h⟩ => h
theorem y_region {id : Nat} {ops : List Oper} (hnd : ndB ops.toArray = true) (h : WL P ops.toArray (Qx (fun a w => n (wd ds a) w) (fun _ _ => False) []) ops (fr l) w) : (Code.region id ops.toArray false).wpIn (Fw r) 0 P (Qx n rr ex) (frd ds l) w := by
  refine wpIn_region ?_
  have h1 : wpOps P ops.toArray (Qx (fun a w => n (wd ds a) w) (fun _ _ => False) []) (List.range ops.toArray.size) (fr l) w := by
    rw [List.range_eq_range', List.size_toArray, wpOps_eq_wpList ops 0 (fun j => by simp)]
    exact h.run
  refine opsIn_of (ds := ds) hnd (fun e a w q => ?_) qx_out _ _ _ h1
  cases e with
  | normal => exact q
  | exit i => exact q.elim
  | _ => exact q.elim
/-- a region one of whose operations calls yield -/
theorem y_region_y {id : Nat} {ops : List Oper} (h : WY r P ops.toArray (Qx n rr ex) ops (frd ds l) w) : (Code.region id ops.toArray false).wpIn (Fw r) 0 P (Qx n rr ex) (frd ds l) w := by
  refine wpIn_region ?_
  rw [List.range_eq_range', List.size_toArray]
  exact opsIn_list ops 0 (fun j _ => by simp) _ _ h.run
theorem y_pre {ops : Array Oper} (pre rest : List Oper) (hnd : ndB pre.toArray = true) (h : WL P ops (Qx (fun a w => WY r P ops (Qx n rr ex) rest (wd ds a) w) (fun _ _ => False) []) pre (fr l) w) : WY r P ops (Qx n rr ex) (pre ++ rest) (frd ds l) w :=
  ⟨pre_list (Q := Qx (fun a w => WY r P ops (Qx n rr ex) rest (wd ds a) w) (fun _ _ => False) []) (fun e a w hne q => by cases e <;> first | exact absurd rfl hne | exact q.elim) qx_out (fun a w q => q.run) pre
    (fun o ho => by
      obtain ⟨i, hi, rfl⟩ := List.getElem_of_mem ho
      exact ndB_spec hnd (i := i) (by simp [hi]))
    (fun e a w q => by cases e <;> first | exact .inl rfl | exact q.elim) _ _ h.run⟩
def LoopJd (ds : List Deferred) (I : Nat → (Nat → Value) → World → Prop) (l : List Value) (V : List Nat) (m : Nat) (a' : Act) (w' : World) : Prop := ∃ m' f', a' = frd ds (clob l V f') ∧ I m' f' w' ∧ m' < m
theorem loop_back_y {I : Nat → (Nat → Value) → World → Prop} {l lnow : List Value} {V : List Nat} {m m' : Nat} {w : World} (he : lnow = clob l V (fun d => lnow.getD d undef)) (hI : I m' (fun d => lnow.getD d undef) w) (hm : m' < m) : LoopJd ds I l V m (frd ds lnow) w :=
  ⟨m', _, congrArg (frd ds) he, hI, hm⟩
theorem least_ex {q : Nat → Prop} {m : Nat} (h : q m) : ∃ k, q k ∧ ∀ j, q j → k ≤ j := by
  refine Nat.strongRecOn (motive := fun m => q m → ∃ k, q k ∧ ∀ j, q j → k ≤ j) m (fun m ih hm => ?_) h
  by_cases hx : ∃ j, j < m ∧ q j
  · obtain ⟨j, hj, hq⟩ := hx; exact ih j hj hq
  · exact ⟨m, hm, fun j hj => by
      rcases Nat.lt_or_ge j m with h1 | h1
      · exact absurd ⟨j, h1, hj⟩ hx
      · exact h1⟩
theorem y_loop {c : Code} (V : List Nat) (I : Nat → (Nat → Value) → World → Prop) (m0 : Nat) (h0 : I m0 (fun d => l.getD d undef) w)
    (hr : ∀ m f w, I m f w → c.wpIn (Fw r) 0 P (Qx (LoopJd ds I l V m) rr ex) (frd ds (clob l V f)) w) : (Code.loop c).wpIn (Fw r) 0 P (Qx n rr ex) (frd ds l) w := by
  let J : Nat → Act → World → Prop := fun m a w => ∃ f, a = frd ds (clob l V f) ∧ I m f w
  refine wpIn_loop (fun a w => ∃ m, J m a w) (fun a w => Classical.epsilon fun k => J k a w ∧ ∀ j, J j a w → k ≤ j) ⟨m0, fun d => l.getD d undef, by rw [clob_self], h0⟩ ?_
  rintro a1 w1 ⟨m1, hJ1⟩
  have hk := Classical.epsilon_spec (least_ex (q := fun k => J k a1 w1) hJ1)
  generalize hke : (Classical.epsilon fun k => J k a1 w1 ∧ ∀ j, J j a1 w1 → k ≤ j) = k at hk ⊢
  obtain ⟨⟨f1, rfl, hI1⟩, hmin⟩ := hk
  refine wpIn_mono (hr k f1 w1 hI1) fun e a2 w2 q => ?_
  cases e with
  | normal =>
    obtain ⟨m2, f2, rfl, hI2, hlt⟩ := q
    have hJ2 : J m2 (frd ds (clob l V f2)) w2 := ⟨f2, rfl, hI2⟩
    refine ⟨⟨m2, hJ2⟩, ?_⟩
    have hs := Classical.epsilon_spec (least_ex (q := fun k => J k (frd ds (clob l V f2)) w2) hJ2)
    exact Nat.lt_of_le_of_lt (hs.2 m2 hJ2) hlt
  | ret => exact q
  | exit i => exact q
  | goto i => exact q.elim
  | panic ch => exact q.elim
  | outgrown => exact q.elim
end
section
variable {P : Program}
def RtM (P : Program) (fn : Func) (R : Value → World → Prop) (a : Act) (w : World) : Prop := LeavesInM (Fw none) 0 P fn a.tmps (fun e w' => ∃ v, e = .returned v ∧ R v w') a.defers .returning w
theorem y_enter {f : FuncId} {fn : Func} {c : Code} {args : Array Value} {w : World} {R : Value → World → Prop} {l : List Value} (hf : P.funcs[f]? = some fn) (hb : fn.body = some c)
    (hl : (args ++ Array.replicate (fn.ntmps - args.size) undef) = l.toArray)
    (h : c.wpIn (Fw none) 0 P (Qx (RtM P fn R) (RtM P fn R) []) (frd [] l) w) : CallR P f args w R := by
  have h1 : CallsIn (Fw none) 0 P f args w (fun e w' => ∃ v, e = .returned v ∧ R v w') := by
    refine callsIn_of_wp_marks hf hb trivial ?_
    rw [hl]
    refine wpIn_mono h fun e a w' q => ?_
    cases e with
    | normal => exact q
    | ret => exact q
    | exit i => exact q.elim
    | goto i => exact q.elim
    | panic ch => exact q.elim
    | outgrown => exact q.elim
  exact h1.calls (fun k => fw_room _ k)
theorem rm_nil {fn : Func} {R : Value → World → Prop} {l : List Value} {w : World} (h : Rt P fn R (fr l) w) : RtM P fn R (frd [] l) w := by
  obtain ⟨_, v, h1, h2⟩ := h
  exact ⟨v, h1, v, rfl, h2⟩
theorem run_getObj_df {w : World} {b : Nat} {o : Option (List Deferred)} (h : w.heap[b]? = some (.deferred o)) : (getObj b).run P w = .ok (.deferred o) w := by simp [getObj, Sem.run, h]
theorem rm_mark {fn : Func} {R : Value → World → Prop} {l : List Value} {w w0 : World} {S : Nat → Prop} {L L' : List Res} {D : Nat} {ds : List Deferred} (hS : St S w0 w L) (hu : Upd L (.obj D (.deferred (some []))) (.obj D (.deferred none)) L' := by repeat (first | exact Upd.head | apply Upd.tail)) (h : ∀ w', St S w0 w' L' → RtM P fn R (frd ds l) w') : RtM P fn R (frd ({ target := .collected D, args := #[] } :: ds) l) w := by
  have hD : w.heap[D]? = some (.deferred (some [])) := hS.holds _ hu.mem
  have hlt : D < w.heap.size := (Array.getElem?_eq_some_iff.1 hD).1
  refine ⟨by simp, .inl ⟨D, { w with heap := w.heap.setIfInBounds D (.deferred none) }, rfl, ?_, h _ ?_⟩⟩
  · simp [Instr.takeDeferred, Sem.run_bind, run_getObj_df hD, Result.andThen, setObj, Sem.run, hD]
  · refine hS.turn hu ⟨rfl, rfl, rfl, by simp, fun k _ hk => ?_, Nat.le_refl _⟩ ?_ (fun k hk => .inl hk) (fun k hk => by simp [Res.reads] at hk)
    · show (w.heap.setIfInBounds D _)[k]? = _
      rw [Array.getElem?_setIfInBounds_ne]
      exact fun e => hk (by rw [e]; rfl)
    · show (w.heap.setIfInBounds D _)[D]? = _
      simp [hlt]
end
end Go.Proofs.YtffmanidnlbjjaaGreat
set_option linter.unusedSimpArgs false
set_option linter.unusedVariables false
namespace Go.Proofs.YtffmanidnlbjjaaGreat
open Go.RowKit
theorem spl_self (M R : List Res) : Spl M (M ++ R) R := by
  induction M with
  | nil => exact .nil
  | cons x M ih => exact .cons .head ih
theorem upd_mid (A B : List Res) (x y : Res) : Upd (A ++ x :: B) x y (A ++ y :: B) := by
  induction A with
  | nil => exact Upd.head
  | cons z A ih => exact Upd.tail ih
theorem Sel.self : ∀ {L : List Res}, Sel L L
  | [] => .nil
  | _ :: _ => .cons .head Sel.self
theorem Sel.skip {L L' : List Res} {r : Res} (h : Sel L' L) : Sel L' (r :: L) := by
  induction h generalizing r with
  | nil => exact .nil
  | cons hd _ ih => exact .cons (.tail hd) ih
/-- what may be read behind a call -/
def FrOK (w : World) (M M' : List Res) : Prop := ∀ r ∈ M', ∀ g, r.reads = some g → w.heap.size ≤ g ∨ ∃ s ∈ M, s.own = some g ∨ s.reads = some g
theorem FrOK.self (w : World) (M : List Res) : FrOK w M M := fun r hr g hg => .inr ⟨r, hr, .inr hg⟩
structure ClI (I : World → List Res → Prop) : Prop where
  st : ∀ {W L}, I W L → St (OwnB L) W W L
  on : ∀ {W L W' L'}, I W L → St (OwnB L) W W' L' → FrOK W L L' → I W' L'
section
variable {S : Nat → Prop} {w0 w w' : World}
theorem St.eq {L L' : List Res} (h : St S w0 w L) (e : L = L') : St S w0 w L' := e ▸ h
def StX (S : Nat → Prop) (w0 : World) (X : List Res → Prop) (T : List Res) (W : World) : Prop := ∃ R, X R ∧ St S w0 W (R ++ T)
theorem StX.clI (X : List Res → Prop) (A : List Res) : ClI fun W L => StX S w0 X (A ++ L) W where
  st := fun ⟨R, _, h⟩ => (h.perm (by rw [← List.append_assoc]; exact List.perm_append_comm)).owns (spl_self _ _)
  on := fun {W L W' L'} ⟨R, hX, h⟩ k hr =>
    ⟨R, hX, ((h.perm (by rw [← List.append_assoc]; exact List.perm_append_comm) : St S w0 W (L ++ (R ++ A))).frame (spl_self _ _) k hr).perm (by rw [← List.append_assoc R A L']; exact List.perm_append_comm)⟩
theorem ClI.ex {α : Sort _} {I : α → World → List Res → Prop} (h : ∀ a, ClI (I a)) : ClI fun W L => ∃ a, I a W L where
  st := fun ⟨a, h1⟩ => (h a).st h1
  on := fun ⟨a, h1⟩ k hr => ⟨a, (h a).on h1 k hr⟩
theorem ClI.or {I J : World → List Res → Prop} (h : ClI I) (h' : ClI J) : ClI fun W L => I W L ∨ J W L where
  st := fun h1 => h1.elim h.st h'.st
  on := fun h1 k hr => h1.imp (fun q => h.on q k hr) (fun q => h'.on q k hr)
theorem StX.put {X : List Res → Prop} {T : List Res} {g : Nat} {o : Obj} (o' : Obj) (h : StX S w0 X (.obj g o :: T) w) : StX S w0 X (.obj g o' :: T) (w.putObj g o') ∧ w.heap[g]? = some o := by
  obtain ⟨R, hX, h⟩ := h
  have hg : w.heap[g]? = some o := h.holds (.obj g o) (by simp)
  have hlt : g < w.heap.size := (Array.getElem?_eq_some_iff.1 hg).1
  refine ⟨⟨R, hX, h.turn (upd_mid R T _ (.obj g o')) ⟨rfl, rfl, rfl, by simp, fun k _ hk => ?_, Nat.le_refl _⟩ ?_ (fun k hk => .inl hk) (fun k hk => by simp [Res.reads] at hk)⟩, hg⟩
  · exact World.putObj_heap_other (fun e => hk (by rw [e]; rfl))
  · exact World.putObj_heap_same hlt
end
def YC (P : Program) (lp : Nat) (args : Array Value) (w : World) (R : Value → World → Prop) : Prop :=
  ∃ f tmps assign body, (Instr.yield lp args).run P w = .ok (.round lp f tmps assign body) w ∧ RoundIn (Fw none) 0 P lp f tmps assign body w (fun e w' => ∃ v, e = .returned v ∧ R v w')
theorem YC.mono {P : Program} {lp : Nat} {args : Array Value} {w : World} {R R' : Value → World → Prop} (h : YC P lp args w R) (hr : ∀ v w', R v w' → R' v w') : YC P lp args w R' := by
  obtain ⟨f, tmps, asg, bd, h1, h2⟩ := h
  exact ⟨f, tmps, asg, bd, h1, h2.mono fun e w' ⟨v, he, q⟩ => ⟨v, he, hr _ _ q⟩⟩
section
variable {P : Program} {ops : Array Oper} {n rr : Act → World → Prop} {ex : List (Nat × (Act → World → Prop))} {ds : List Deferred} {r : Option Nat} {l : List Value} {w : World} {rest : List Oper} {d : Nat} {ty : TypeId} {pos : String} {aft : Array Edge}
theorem y_rest (hnd : ndB rest.toArray = true) (h : WL P ops (Qx (fun a w => n (wd ds a) w) (fun _ _ => False) []) rest (fr l) w) : WY r P ops (Qx n rr ex) rest (frd ds l) w := by
  have := pre_list (r := r) (rest := []) (Q := Qx (fun a w => n (wd ds a) w) (fun _ _ => False) []) (Q2 := Qx n rr ex) (ds := ds) (fun e a w hne q => by cases e <;> first | exact absurd rfl hne | exact q.elim) qx_out (fun a w q => q) rest
    (fun o ho => by
      obtain ⟨i, hi, rfl⟩ := List.getElem_of_mem ho
      exact ndB_spec hnd (i := i) (by simp [hi]))
    (fun e a w q => by cases e <;> first | exact .inl rfl | exact q.elim) _ _ h.run
  rw [List.append_nil] at this
  exact ⟨this⟩
end
theorem run_endLoop_p {P : Program} {w : World} {k : Nat} {r : Loop} {pe : Option Code} (h : w.heap[k]? = some (.loop r)) (hb : r.state ≠ .busy) (hp : r.pending = pe) : (Instr.endLoop k).run P w = .ok pe (w.putObj k (.loop { r with state := .exhausted })) := by rw [run_endLoop h hb, hp]
def entL (l : List Value) (ps : List Nat) (es : List Value) : List Value := (ps.zip es).foldl (fun l p => l.set p.1 p.2) l
theorem entL_arr (ps : Array Nat) (es : List Value) (l : List Value) : (ps.zip es.toArray).foldl (fun tmps (t, a) => tmps.setIfInBounds t a) l.toArray = (entL l ps.toList es).toArray := by
  have h1 : ∀ (q : List (Nat × Value)) (l : List Value), q.foldl (fun tmps (t, a) => tmps.setIfInBounds t a) l.toArray = (q.foldl (fun l p => l.set p.1 p.2) l).toArray := by
    intro q
    induction q with
    | nil => intro l; rfl
    | cons p q ih => intro l; simp only [List.foldl_cons, List.setIfInBounds_toArray]; exact ih _
  rw [← Array.foldl_toList, Array.toList_zip]
  exact h1 _ _
/-- behind the assignments to a round's variables -/
def AsgK (S : Nat → Prop) (w0 : World) (T : List Res) (B : Act → World → List Res → Prop) (a1 : Act) (W1 : World) : Prop := ∃ R1, St S w0 W1 (R1 ++ T) ∧ ∀ W2 T2, St S w0 W2 (R1 ++ T2) → B a1 W2 T2
/-- at a round's end -/
def StK (S : Nat → Prop) (w0 : World) (X : List Res → Prop) (T : List Res) (_ : Act) (W : World) : Prop := StX S w0 X T W
def mkD (D : Nat) : Deferred := { target := .collected D, args := #[] }
section
variable {P : Program} {n rr : Act → World → Prop} {ex : List (Nat × (Act → World → Prop))} {ds : List Deferred} {l : List Value} {w w0 : World} {S : Nat → Prop} {L : List Res}
end
end Go.Proofs.YtffmanidnlbjjaaGreat
set_option linter.unusedSimpArgs false
set_option linter.unusedVariables false
namespace Go.Proofs.YtffmanidnlbjjaaGreat
open Go.RowKit
section
variable {P : Program} {n rr : Act → World → Prop} {ex : List (Nat × (Act → World → Prop))} {ds : List Deferred} {l : List Value} {w w0 : World} {S : Nat → Prop} {L : List Res} {r : Option Nat}
theorem y_nilf {ops : Array Oper} (h : n (frd ds l) w) : WL P ops (Qx (fun a w => n (wd ds a) w) (fun _ _ => False) []) [] (fr l) w := ⟨h⟩
theorem y_pre_n (m : Nat) {ops : Array Oper} {os : List Oper} (hnd : ndB (os.take m).toArray = true) (h : WL P ops (Qx (fun a w => WY r P ops (Qx n rr ex) (os.drop m) (wd ds a) w) (fun _ _ => False) []) (os.take m) (fr l) w) : WY r P ops (Qx n rr ex) os (frd ds l) w := by
  have := y_pre (os.take m) (os.drop m) hnd h
  rwa [List.take_append_drop] at this
theorem y_pre_nilf {ops : Array Oper} {rest : List Oper} (h : WY r P ops (Qx n rr ex) rest (frd ds l) w) : WL P ops (Qx (fun a w => WY r P ops (Qx n rr ex) rest (wd ds a) w) (fun _ _ => False) []) [] (fr l) w := ⟨h⟩
theorem y_any {id : Nat} {ops : Array Oper} {Q : Exit → Act → World → Prop} (hm : P.follows .mixedOrders = true) (hnd : ndB ops = true) (hl : ¬ LetsOut Q) (hq : ∀ e a w, Q e a w → Qx n rr ex e (wd ds a) w)
    (h : wpAny P .any ops Q ops.size (Array.replicate ops.size false) (fr l) w.drew) : (Code.region id ops true).wpIn (Fw r) 0 P (Qx n rr ex) (frd ds l) w :=
  wpIn_region_draw fun t => by
    simp only [Region.schedule, hm, Bool.true_or, if_true]
    exact opsIn_of (ds := ds) hnd hq hl _ _ _ (wpAny_sound ops.size t _ _ _ h)
theorem qxM {M : Act → World → Prop} (hM : ∀ a w, M a w → n (wd ds a) w) : ∀ e a w, Qx M (fun _ _ => False) [] e a w → Qx n rr ex e (wd ds a) w := fun e a w q => by
  cases e with
  | normal => exact hM _ _ q
  | exit i => exact q.elim
  | _ => exact q.elim
theorem y_mixed_c {id : Nat} {ops : List Oper} {Lc : List Res} (lt : List Nat) (m : Nat) (V : List Nat) (R : (Nat → Value) → World → Prop) (hm : P.follows .mixedOrders = true) (hs : Region.noSelect ops.toArray = true) (hB : preB .any ops.toArray lt m 0 (Array.replicate ops.length false) = true) (hml : m ≤ ops.length) (hnd : ndB ops.toArray = true)
    (hS : St S w0 w L) (h : ∀ w', St S w0 w' L → wpPre P ops.toArray (fun w => St S w0 w Lc) (fun a' => AnyE P .any ops.toArray (fun w => St S w0 w Lc) lt (Qx (MixM l V R) (fun _ _ => False) []) (ops.length - m) (setAll m 0 (Array.replicate ops.length false)) a' w') (ops.take m) (fr l))
    (hM : ∀ f w', R f w' → n (frd ds (clob l V f)) w') : (Code.region id ops.toArray true).wpIn (Fw r) 0 P (Qx n rr ex) (frd ds l) w := by
  refine y_any (Q := Qx (MixM l V R) (fun _ _ => False) []) hm hnd qx_out (qxM fun a w ⟨f, e, hR⟩ => by subst e; exact hM f w hR) (AnyE.any (C := fun w => St S w0 w Lc) (lt := lt) _ ?_)
  have hlen : (ops.take m).length = m := by simp; omega
  have := AnyE.pre (P := P) (md := .any) (ops := ops.toArray) (C := fun w => St S w0 w Lc) (lt := lt) (Q := Qx (MixM l V R) (fun _ _ => False) []) hs (fun _ _ _ => Qx_panic) (ops.length - m) w.drew (ops.take m) 0 (Array.replicate ops.length false) (fr l) (fun k _ => by simp [Array.getD_eq_getD_getElem?, Array.getElem?_replicate]; split <;> rfl) (fun j hj => by
    rw [List.getElem?_take, if_pos (by omega)]; simp) (by rw [hlen]; exact hB) (by rw [hlen]; exact h _ (hS.ext (Ext.drew w)))
  rw [hlen, show ops.length - m + m = ops.length by omega] at this
  simpa using this
/-- the head of a list whose tail is T -/
inductive App : List Res → List Res → List Res → Prop
  | nil {T : List Res} : App [] T T
  | cons {x : Res} {R T L : List Res} : App R T L → App (x :: R) T (x :: L)
theorem App.eq {R T L : List Res} (h : App R T L) : L = R ++ T := by
  induction h with
  | nil => rfl
  | cons _ ih => rw [ih]; rfl
theorem round_open {T R1 : List Res} {a : Act} {B : Act → World → List Res → Prop} (hS : St S w0 w L) (ha : App R1 T L) (h : ∀ W2 T2, St S w0 W2 (R1 ++ T2) → B a W2 T2) : AsgK S w0 T B a w :=
  ⟨R1, ha.eq ▸ hS, h⟩
theorem y_ex_nil {α : Type} {Q : Nat × α → Prop} : ∀ p ∈ ([] : List (Nat × α)), Q p := fun _ h => nomatch h
theorem y_ex_cons {α : Type} {Q : Nat × α → Prop} {p : Nat × α} {ps : List (Nat × α)} (h : Q p) (h2 : ∀ q ∈ ps, Q q) : ∀ q ∈ p :: ps, Q q := fun q hq => by
  rcases List.mem_cons.1 hq with rfl | hq
  · exact h
  · exact h2 q hq
end
section
variable {P : Program} {n rr : Act → World → Prop} {ex : List (Nat × (Act → World → Prop))} {ds : List Deferred} {l : List Value} {w w0 : World} {S : Nat → Prop} {L : List Res} {r : Option Nat} {ops : Array Oper} {listed : Array Bool}
end
section
variable {P : Program} {l : List Value} {w : World} {d : Nat} {ty : TypeId} {pos : String} {aft : Array Edge}
end
section
variable {P : Program} {l : List Value} {w : World} {d : Nat} {ty : TypeId} {pos : String} {aft : Array Edge}
end
end Go.Proofs.YtffmanidnlbjjaaGreat
set_option linter.unusedSimpArgs false
set_option linter.unusedVariables false
set_option maxHeartbeats 800000
set_option maxRecDepth 100000
namespace Go.Proofs.YtffmanidnlbjjaaGreat
open Go.RowKit

def vgrp (x n i : Nat) : Nat := x / 128 ^ i % 128 + (if i + 1 < n then 128 else 0)
theorem vgrp_all (x : Nat) : (List.range (vari x).length).map (fun i => (vgrp x (vari x).length i : Int)) = vari x := by
  refine List.ext_getElem (by simp) fun i h1 h2 => ?_
  have := vari_getD x i h2
  rw [List.getD_eq_getElem?_getD, List.getElem?_eq_getElem h2] at this
  simp only [List.getElem_map, List.getElem_range, vgrp]
  exact this.symm
theorem vari_bits {x : Nat} (hx : x < 18446744073709551616) : (vari x).length = max ((Lib.bitLen x + 6) / 7) 1 := by
  have h0 := vari_pos x
  refine Nat.le_antisymm ?_ ?_
  · refine (vari_len_iff (by omega)).2 ?_
    rw [pow128, ← bitLen_le_iff hx]; omega
  · have h := (vari_len_iff h0 (x := x)).1 (Nat.le_refl _)
    rw [pow128, ← bitLen_le_iff hx] at h; omega
theorem c_packFill (w0 : World) (n : Nat) (hn : n ≤ 1000) (F : Nat → Int) (f : FuncId) (cap : Array Value) (he : Enters Tryz.prog f) (H : ∀ (w : World) (i : Nat), Ext w0 w → i < n → CallR Tryz.prog f (#[.int .i64 (i : Int)] ++ cap) w fun v w' => v = .int .u8 (F i) ∧ Ext w w') :
    CallR Tryz.prog 197 #[.int .i64 (n : Int), .func (.func f) #[] cap] w0 fun v w' => ∃ A, v = .slice A n n ∧ St NoB w0 w' [.vec A n 5 1 n (((List.range n).map F).map (Value.int .u8))] := by
 have hS : St NoB w0 w0 [] := St.start w0
 refine c_enter (l := [.int .i64 (n : Int), .func (.func f) #[] cap, undef, undef, undef, undef, undef, undef, undef, undef, undef, undef, undef, undef, undef, undef, undef, undef, undef, undef, undef, undef]) Tryz.func197 rfl (by simp only [Tryz.ntmps197, List.size_toArray, List.length_cons, List.length_nil, Nat.reduceAdd, Nat.reduceSub, Array.replicate_succ, Array.replicate_zero, List.push_toArray, List.append_toArray, List.nil_append, List.cons_append]) ?_
 refine x_seq fun K1 hK1 => ?_
 refine x_region ?_
 refine s_go (s_assign) ?_
 try simp only [opv, n1, n2, n3, n4, Value.cells]
 refine x_nil ?_
 refine hK1 _ _ ?_
 refine x_seq fun K2 hK2 => ?_
 refine x_region ?_
 refine s_go (s_move) ?_
 try simp only [opv, n1, n2, n3, n4, Value.cells]
 refine m_make (n := _) Tryz.underlying73 ti5 (hx := rfl) (hy := rfl) (h63 := by (simp only [maxLen]; omega)) (hS := hS) (h := fun w1 A1 hS => ?_)
 try simp only [opv, n1, n2, n3, n4, Value.cells, Array.toArray_toList] at hS ⊢
 rw [made_int] at hS
 refine s_go (s_assign) ?_
 try simp only [opv, n1, n2, n3, n4, Value.cells]
 refine x_nil ?_
 refine hK2 _ _ ?_
 refine x_seq fun K3 hK3 => ?_
 refine x_seq fun K4 hK4 => ?_
 refine x_region ?_
 refine s_go (s_move) ?_
 try simp only [opv, n1, n2, n3, n4, Value.cells]
 refine s_go (s_len_sl Tryz.underlying73) ?_
 try simp only [opv, n1, n2, n3, n4, Value.cells]
 refine s_go (s_move) ?_
 try simp only [opv, n1, n2, n3, n4, Value.cells]
 refine x_nil ?_
 refine hK4 _ _ ?_
 refine x_block ?_
 refine x_loop [6, 11, 12, 13, 14, 15, 16, 17, 18, 19, 20] (fun m f w => ∃ k : Nat, k ≤ n ∧ m = n - k ∧ f 11 = .int .i64 (k : Int) ∧ St NoB w0 w [.vec A1 n 5 1 n ((fillT F n k).map (Value.int .u8))]) (n) ?init1 (fun m1 f1 wl1 hI => ?_)
 case init1 =>
  try simp only [opv, n1, n2, n3, n4, Value.cells]
  exact ⟨0, by omega, rfl, rfl, by rw [fillT_zero]; exact hS⟩
 obtain ⟨k, hk, hm, h11, hS⟩ := hI
 simp only [clob, List.foldl, n3, n4, h11]
 have hfl := fillT_len (F := F) hk
 refine x_seq fun K5 hK5 => ?_
 refine x_region ?_
 refine s_go (s_lss) ?_
 try simp only [opv, n1, n2, n3, n4, Value.cells]
 refine x_nil ?_
 refine hK5 _ _ ?_
 refine x_seq fun K6 hK6 => ?_
 refine x_cond (ht := fun hc1 => ?_) (hf := fun hc1 => ?_)
 ·
  try simp only [decide_eq_true_eq, decide_eq_false_iff_not, Bool.not_eq_true', Bool.not_eq_false', Int.not_lt, Int.not_le, ne_eq, Decidable.not_not, bne_iff_ne, beq_iff_eq, not_true_eq_false, not_false_eq_true] at hc1
  refine x_skip ?_
  refine hK6 _ _ ?_
  refine x_seq fun K7 hK7 => ?_
  refine x_block ?_
  refine x_seq fun K8 hK8 => ?_
  refine x_region ?_
  refine s_go (s_move) ?_
  try simp only [opv, n1, n2, n3, n4, Value.cells]
  refine s_go (s_assign) ?_
  try simp only [opv, n1, n2, n3, n4, Value.cells]
  refine x_nil ?_
  refine hK8 _ _ ?_
  refine x_region ?_
  refine s_go (s_move) ?_
  try simp only [opv, n1, n2, n3, n4, Value.cells]
  refine s_go (s_move) ?_
  try simp only [opv, n1, n2, n3, n4, Value.cells]
  refine s_go (s_move) ?_
  try simp only [opv, n1, n2, n3, n4, Value.cells]
  refine s_go (s_move) ?_
  try simp only [opv, n1, n2, n3, n4, Value.cells]
  refine s_callv (hv := rfl) he ?_
  try simp only [opv, n1, n2, n3, n4, Value.cells, List.map_toArray, List.map_cons, List.map_nil, List.append_toArray, List.cons_append, List.nil_append, Array.append_empty]
  refine CallR.mono (H _ k hS.ext_of (by omega)) ?_
  rintro _ w2 ⟨rfl, hE2⟩
  replace hS := hS.ext hE2
  try simp only [opv, n1, n2, n3, n4, Value.cells]
  refine s_go (m_indexAddr_vec Tryz.underlying73 ti5 (hS := hS)) ?_
  try simp only [opv, n1, n2, n3, n4, Value.cells, Nat.mul_one, Nat.zero_add, Int.toNat_natCast, Int.reduceToNat]
  refine m_store_vec ti5 (hS := hS) (h := fun w3 hS => ?_)
  try simp only [opv, n1, n2, n3, n4, Value.cells, Array.toArray_toList] at hS ⊢
  refine x_nil ?_
  refine hK7 _ _ ?_
  refine x_region ?_
  refine s_go (s_add (hc := by exact wr_i64 (by omega) (by omega))) ?_
  try simp only [opv, n1, n2, n3, n4, Value.cells]
  refine s_go (s_move) ?_
  try simp only [opv, n1, n2, n3, n4, Value.cells]
  refine x_nil ?_
  refine loop_back (m' := n - (k + 1)) (by simp only [clob, List.foldl, n1, n2, n3, n4]) ?_ ?_
  · try simp only [opv, n1, n2, n3, n4, Value.cells]
    exact ⟨k + 1, by omega, by omega, by rfl, by rw [← fillT_set (by omega)]; exact hS⟩
  · omega
 ·
  try simp only [decide_eq_true_eq, decide_eq_false_iff_not, Bool.not_eq_true', Bool.not_eq_false', Int.not_lt, Int.not_le, ne_eq, Decidable.not_not, bne_iff_ne, beq_iff_eq, not_true_eq_false, not_false_eq_true] at hc1
  obtain rfl : k = n := by omega
  rw [fillT_all] at hS
  refine x_exit (look_here ?_)
  refine hK3 _ _ ?_
  refine x_seq fun K9 hK9 => ?_
  refine x_region ?_
  refine s_go (s_move) ?_
  try simp only [opv, n1, n2, n3, n4, Value.cells]
  refine s_go (s_assign) ?_
  try simp only [opv, n1, n2, n3, n4, Value.cells]
  refine x_nil ?_
  refine hK9 _ _ ?_
  refine x_ret ?_
  refine r_tmp rfl ?_
  exact ⟨_, rfl, hS⟩
theorem c_packVar1 (w0 : World) (i g q x n : Nat) (hi : i < n) (hn : n ≤ 10) (hx : x < 18446744073709551616) (h1 : Rd w0 (some ⟨g, 0, none⟩) 1 1 [.int .u64 (x : Int)]) (h2 : Rd w0 (some ⟨q, 0, none⟩) 1 1 [.int .i64 ((n - 1 : Nat) : Int)]) :
    CallR Tryz.prog 198 #[.int .i64 (i : Int), .pointer (some ⟨g, 0, none⟩), .pointer (some ⟨q, 0, none⟩)] w0 fun v w' => v = .int .u8 (vgrp x n i : Int) ∧ Ext w0 w' := by
 have hS := St.rd2 (S := NoB) h1 h2
 refine c_enter (l := [.int .i64 (i : Int), .pointer (some ⟨g, 0, none⟩), .pointer (some ⟨q, 0, none⟩), undef, undef, undef, undef, undef, undef, undef, undef, undef, undef, undef, undef, undef, undef, undef, undef]) Tryz.func198 rfl (by simp only [Tryz.ntmps198, List.size_toArray, List.length_cons, List.length_nil, Nat.reduceAdd, Nat.reduceSub, Array.replicate_succ, Array.replicate_zero, List.push_toArray, List.append_toArray, List.nil_append, List.cons_append]) ?_
 refine x_seq fun K1 hK1 => ?_
 refine x_region ?_
 refine s_go (s_assign) ?_
 try simp only [opv, n1, n2, n3, n4, Value.cells]
 refine x_nil ?_
 refine hK1 _ _ ?_
 refine x_seq fun K2 hK2 => ?_
 refine x_region ?_
 refine s_go (m_load_bx Tryz.underlying84 (hS := hS)) ?_
 try simp only [opv, n1, n2, n3, n4, Value.cells, List.getElem_toArray, List.getElem_cons_zero, List.getElem_cons_succ]
 refine s_go (s_move) ?_
 try simp only [opv, n1, n2, n3, n4, Value.cells]
 refine s_go (s_mul (hc := by exact wr_i64 (by omega) (by omega))) ?_
 try simp only [opv, n1, n2, n3, n4, Value.cells]
 refine s_go (s_conv Tryz.underlying3 Tryz.underlying164 (hc := by exact wr_u64 (by omega) (by omega))) ?_
 try simp only [opv, n1, n2, n3, n4, Value.cells]
 refine s_go (s_shr (hc := shr_n (r := x) (n := 7 * i) (by omega) (by simp [IntKind.bits]; omega))) ?_
 try simp only [opv, n1, n2, n3, n4, Value.cells]
 refine s_go (s_conv Tryz.underlying84 Tryz.underlying5 (hc := cv_u8 rfl)) ?_
 try simp only [opv, n1, n2, n3, n4, Value.cells]
 refine s_go (s_bits (by simp) (hc := andn7 (Nat.mod_lt _ (by decide)))) ?_
 try simp only [opv, n1, n2, n3, n4, Value.cells]
 refine s_go (s_assign) ?_
 try simp only [opv, n1, n2, n3, n4, Value.cells]
 refine x_nil ?_
 refine hK2 _ _ ?_
 refine x_seq fun K3 hK3 => ?_
 refine x_seq fun K4 hK4 => ?_
 refine x_region ?_
 refine s_go (s_move) ?_
 try simp only [opv, n1, n2, n3, n4, Value.cells]
 refine s_go (m_load_bx Tryz.underlying3 (hS := hS)) ?_
 try simp only [opv, n1, n2, n3, n4, Value.cells, List.getElem_toArray, List.getElem_cons_zero, List.getElem_cons_succ]
 refine s_go (s_lss) ?_
 try simp only [opv, n1, n2, n3, n4, Value.cells]
 refine x_nil ?_
 refine hK4 _ _ ?_
 refine x_cond (ht := fun hc1 => ?_) (hf := fun hc1 => ?_)
 ·
  try simp only [decide_eq_true_eq, decide_eq_false_iff_not, Bool.not_eq_true', Bool.not_eq_false', Int.not_lt, Int.not_le, ne_eq, Decidable.not_not, bne_iff_ne, beq_iff_eq, not_true_eq_false, not_false_eq_true] at hc1
  refine x_region ?_
  refine s_go (s_move) ?_
  try simp only [opv, n1, n2, n3, n4, Value.cells]
  refine s_go (s_bits (by simp) (hc := or7 (Nat.mod_lt _ (by decide)))) ?_
  try simp only [opv, n1, n2, n3, n4, Value.cells]
  refine s_go (s_assign) ?_
  try simp only [opv, n1, n2, n3, n4, Value.cells]
  refine x_nil ?_
  refine hK3 _ _ ?_
  refine x_seq fun K5 hK5 => ?_
  refine x_region ?_
  refine s_go (s_move) ?_
  try simp only [opv, n1, n2, n3, n4, Value.cells]
  refine s_go (s_assign) ?_
  try simp only [opv, n1, n2, n3, n4, Value.cells]
  refine x_nil ?_
  refine hK5 _ _ ?_
  refine x_ret ?_
  refine r_tmp rfl ?_
  refine ⟨NU ?_, hS.ext_of⟩
  unfold vgrp
  rw [pow128]
  generalize x / 2 ^ (7 * i) = y
  (rw [if_pos (by omega)]; omega)
 ·
  try simp only [decide_eq_true_eq, decide_eq_false_iff_not, Bool.not_eq_true', Bool.not_eq_false', Int.not_lt, Int.not_le, ne_eq, Decidable.not_not, bne_iff_ne, beq_iff_eq, not_true_eq_false, not_false_eq_true] at hc1
  refine x_skip ?_
  refine hK3 _ _ ?_
  refine x_seq fun K6 hK6 => ?_
  refine x_region ?_
  refine s_go (s_move) ?_
  try simp only [opv, n1, n2, n3, n4, Value.cells]
  refine s_go (s_assign) ?_
  try simp only [opv, n1, n2, n3, n4, Value.cells]
  refine x_nil ?_
  refine hK6 _ _ ?_
  refine x_ret ?_
  refine r_tmp rfl ?_
  refine ⟨NU ?_, hS.ext_of⟩
  unfold vgrp
  rw [pow128]
  generalize x / 2 ^ (7 * i) = y
  (rw [if_neg (by omega)]; omega)
theorem c_packSize (x : Nat) (hx : x < 18446744073709551616)  (w0 : World) :
    CallR Tryz.prog 196 #[.int .u64 (x : Int)] w0 fun v w' => v = .int .i64 (((vari x).length : Nat) : Int) ∧ Ext w0 w' := by
 have hS : St NoB w0 w0 [] := St.start w0
 refine c_enter (l := [.int .u64 (x : Int), undef, undef, undef, undef, undef, undef, undef, undef]) Tryz.func196 rfl (by simp only [Tryz.ntmps196, List.size_toArray, List.length_cons, List.length_nil, Nat.reduceAdd, Nat.reduceSub, Array.replicate_succ, Array.replicate_zero, List.push_toArray, List.append_toArray, List.nil_append, List.cons_append]) ?_
 refine x_seq fun K1 hK1 => ?_
 refine x_region ?_
 refine s_go (s_assign) ?_
 try simp only [opv, n1, n2, n3, n4, Value.cells]
 refine x_nil ?_
 refine hK1 _ _ ?_
 refine x_seq fun K2 hK2 => ?_
 refine x_region ?_
 refine s_go (s_move) ?_
 try simp only [opv, n1, n2, n3, n4, Value.cells]
 refine s_call en227 ?_
 try simp only [opv, n1, n2, n3, n4, Value.cells, List.map_toArray, List.map_cons, List.map_nil, List.append_toArray, List.cons_append, List.nil_append, Array.append_empty]
 refine CallR.mono (c_bitLen _ (by assumption) _) ?_
 rintro _ w1 ⟨rfl, hE1⟩
 replace hS := hS.ext hE1
 try simp only [opv, n1, n2, n3, n4, Value.cells]
 have hbl := bitLen_le64 hx
 refine s_go (s_add (hc := by exact wr_i64 (by omega) (by omega))) ?_
 try simp only [opv, n1, n2, n3, n4, Value.cells]
 refine s_go (s_sub (hc := by exact wr_i64 (by omega) (by omega))) ?_
 try simp only [opv, n1, n2, n3, n4, Value.cells]
 rw [show (Lib.bitLen x : Int) + 7 - 1 = ((Lib.bitLen x + 6 : Nat) : Int) by omega]
 refine s_go (s_quo (hc := quo_i64 (r := Lib.bitLen x + 6) (p := 7) (by omega))) ?_
 try simp only [opv, n1, n2, n3, n4, Value.cells]
 refine s_go (s_max) ?_
 try simp only [opv, n1, n2, n3, n4, Value.cells]
 refine s_go (s_assign) ?_
 try simp only [opv, n1, n2, n3, n4, Value.cells]
 refine x_nil ?_
 refine hK2 _ _ ?_
 refine x_ret ?_
 refine r_tmp rfl ?_
 exact ⟨congrArg (Value.int .i64) (by rw [vari_bits hx]; omega), hS.ext_of⟩
theorem c_packVar (x : Nat) (hx : x < 18446744073709551616)  (w0 : World) :
    CallR Tryz.prog 161 #[.int .u64 (x : Int)] w0 fun v w' => ∃ A c, v = .slice A (vari x).length c ∧ St NoB w0 w' [.vec A c 5 1 (vari x).length ((vari x).map (Value.int .u8))] := by
 have hS : St NoB w0 w0 [] := St.start w0
 refine c_enter (l := [.int .u64 (x : Int), undef, undef, undef, undef, undef, undef, undef, undef, undef, undef]) Tryz.func161 rfl (by simp only [Tryz.ntmps161, List.size_toArray, List.length_cons, List.length_nil, Nat.reduceAdd, Nat.reduceSub, Array.replicate_succ, Array.replicate_zero, List.push_toArray, List.append_toArray, List.nil_append, List.cons_append]) ?_
 refine x_seq fun K1 hK1 => ?_
 refine x_region ?_
 refine m_box hS (fun w1 g1 hS => ?_)
 try simp only [opv, n1, n2, n3, n4, Value.cells, Array.toArray_toList] at hS ⊢
 refine s_go (s_assign) ?_
 try simp only [opv, n1, n2, n3, n4, Value.cells]
 refine x_nil ?_
 refine hK1 _ _ ?_
 refine x_seq fun K2 hK2 => ?_
 refine x_region ?_
 refine s_go (m_load_obj Tryz.underlying84 (hS := hS)) ?_
 try simp only [opv, n1, n2, n3, n4, Value.cells, List.getElem_toArray, List.getElem_cons_zero, List.getElem_cons_succ]
 refine s_call en196 ?_
 try simp only [opv, n1, n2, n3, n4, Value.cells, List.map_toArray, List.map_cons, List.map_nil, List.append_toArray, List.cons_append, List.nil_append, Array.append_empty]
 refine CallR.mono (c_packSize _ (by assumption) _) ?_
 rintro _ w2 ⟨rfl, hE2⟩
 replace hS := hS.ext hE2
 try simp only [opv, n1, n2, n3, n4, Value.cells]
 have hvp := vari_pos x
 have hvl := vari_len10 hx
 refine s_go (s_sub (hc := by exact wr_i64 (by omega) (by omega))) ?_
 try simp only [opv, n1, n2, n3, n4, Value.cells]
 rw [show ((vari x).length : Int) - 1 = (((vari x).length - 1 : Nat) : Int) by omega]
 refine m_alloc ti3 hS (fun w3 g3 hS => ?_)
 try simp only [opv, n1, n2, n3, n4, Value.cells, Array.toArray_toList] at hS ⊢
 refine m_store_obj ti3 (hS := hS) (h := fun w4 hS => ?_)
 try simp only [opv, n1, n2, n3, n4, Value.cells, Array.toArray_toList] at hS ⊢
 refine x_nil ?_
 refine hK2 _ _ ?_
 refine x_seq fun K3 hK3 => ?_
 refine x_region ?_
 refine s_go (m_load_obj Tryz.underlying3 (hS := hS)) ?_
 try simp only [opv, n1, n2, n3, n4, Value.cells, List.getElem_toArray, List.getElem_cons_zero, List.getElem_cons_succ]
 refine s_go (s_add (hc := by exact wr_i64 (by omega) (by omega))) ?_
 try simp only [opv, n1, n2, n3, n4, Value.cells]
 rw [show (((vari x).length - 1 : Nat) : Int) + 1 = (((vari x).length : Nat) : Int) by omega]
 refine s_go (s_makeFunc) ?_
 try simp only [opv, n1, n2, n3, n4, Value.cells, List.map_toArray, List.map_cons, List.map_nil]
 refine s_call en197 ?_
 try simp only [opv, n1, n2, n3, n4, Value.cells, List.map_toArray, List.map_cons, List.map_nil, List.append_toArray, List.cons_append, List.nil_append, Array.append_empty]
 refine CallR.mono (c_packFill _ (vari x).length (by omega) (fun i => (vgrp x (vari x).length i : Int)) _ _ en198 (fun w i hE hi => c_packVar1 w i g1 g3 x _ hi hvl hx ((hS.ext hE).objRd (by repeat (first | exact Has.head | apply Has.tail))) ((hS.ext hE).objRd (by repeat (exact Has.head))))) ?_
 rintro _ w5 ⟨A5, rfl, hC5⟩
 rw [vgrp_all] at hC5
 replace hS := hS.call hC5
 simp only [List.cons_append, List.nil_append] at hS
 try simp only [opv, n1, n2, n3, n4, Value.cells]
 refine s_go (s_assign) ?_
 try simp only [opv, n1, n2, n3, n4, Value.cells]
 refine x_nil ?_
 refine hK3 _ _ ?_
 refine x_ret ?_
 refine r_tmp rfl ?_
 exact ⟨_, _, rfl, hS.sel (by repeat (first | exact Sel.nil | (refine Sel.cons (by repeat (exact Del.head)) ?_)))⟩
end Go.Proofs.YtffmanidnlbjjaaGreat
