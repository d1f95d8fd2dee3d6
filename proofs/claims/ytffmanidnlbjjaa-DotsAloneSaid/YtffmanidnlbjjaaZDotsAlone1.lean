/- Rules, plain words and walks that the claim leans on: Va, Vb, Vc, Vd, Ve, Vf, Vq, Vm, Vg, Vh, Vi, Vn, Vk, Vw, Ta, Ppack, Cb, Pname, Pkey, Ck, Patom, Vy, Vr, Vt, Vu, Vz, Vo, Prows, Vp, Pcnt, Plat, Tk, Ga, Gg, Gk, Na, Qt, Pheap, Rt, Vv. -/
import Derived.WalkKit
import Derived.WalkSpells
import Derived.WalkLawsBesides
import Derived.Shelf.Abstract
import Derived.Maps.AppendAt
import Derived.Deep.Quiet
import Derived.Lib.ConvBytes
import Derived.Lib.BitFns
import Derived.WideShapes
import Derived.Lib.ItoaNum
import Derived.WalkMore
import Derived.Scope
import Derived.Test.YtffmanidnlbjjaaRows
import Derived.Shelf.SlSortCmp.NoneTotal
import Derived.Shelf.Small.Bits
import Derived.Shelf.Strconv.Itoa0
import Derived.Lib.AppendStr
import Derived.RangeFuncRecord
import Derived.RangeFuncIn
import Derived.RangeFuncCalls
import Derived.OrdersIn
import Derived.ProofKit
import Derived.Carry
import Derived.SizedLaws
import Derived.OpenShut
import Derived.Laws.IdiomRangeMap
import Derived.JoinedOf
set_option linter.unusedSimpArgs false
set_option linter.unusedVariables false
namespace Go.Proofs.Ytffmanidnlbjjaa
open Go.RowKit
/-- The blocks outside S are as they were. -/
structure Keep (S : Nat → Prop) (w w' : World) : Prop where
  os : w'.os = w.os
  tape : w'.tape = w.tape
  output : w'.output = w.output
  size : w.heap.size ≤ w'.heap.size
  block : ∀ k, k < w.heap.size → ¬ S k → w'.heap[k]? = w.heap[k]?
  drawn : w.drawn ≤ w'.drawn
def NoB : Nat → Prop := fun _ => False
abbrev Ext (w w' : World) : Prop := Keep NoB w w'
theorem Keep.refl (S : Nat → Prop) (w : World) : Keep S w w := ⟨rfl, rfl, rfl, Nat.le_refl _, fun _ _ _ => rfl, Nat.le_refl _⟩
theorem Ext.rfl' {w : World} : Ext w w := Keep.refl _ w
theorem Keep.trans {S : Nat → Prop} {a b c : World} (h : Keep S a b) (k : Keep S b c) : Keep S a c :=
  ⟨k.os.trans h.os, k.tape.trans h.tape, k.output.trans h.output, Nat.le_trans h.size k.size, fun i hi hs => (k.block i (Nat.lt_of_lt_of_le hi h.size) hs).trans (h.block i hi hs), Nat.le_trans h.drawn k.drawn⟩
theorem Keep.mono {S T : Nat → Prop} {a b : World} (h : Keep S a b) (hs : ∀ k, k < a.heap.size → S k → T k) : Keep T a b :=
  ⟨h.os, h.tape, h.output, h.size, fun i hi ht => h.block i hi fun hx => ht (hs i hi hx), h.drawn⟩
theorem Keep.comp {S T : Nat → Prop} {a b c : World} (h : Keep S a b) (k : Keep T b c) (hs : ∀ k, k < a.heap.size → T k → S k) : Keep S a c :=
  ⟨k.os.trans h.os, k.tape.trans h.tape, k.output.trans h.output, Nat.le_trans h.size k.size, fun i hi hS => (k.block i (Nat.lt_of_lt_of_le hi h.size) (fun ht => hS (hs i hi ht))).trans (h.block i hi hS), Nat.le_trans h.drawn k.drawn⟩
theorem Ext.keep {S : Nat → Prop} {a b : World} (h : Ext a b) : Keep S a b := h.mono fun _ _ f => f.elim
theorem Ext.below {a b : World} (h : Ext a b) : Below a.heap.size a b := ⟨h.os, h.tape, h.output, h.size, fun k hk => h.block k hk (fun f => f)⟩
theorem Ext.cell {a b : World} (h : Ext a b) {p : Addr} {v : Value} (hc : a.cell? p = some v) : b.cell? p = some v :=
  (World.cell?_of_block (h.block _ (World.block_lt_of_cell? a p hc) (fun f => f))).trans hc
theorem Ext.drew (w : World) : Ext w w.drew := ⟨rfl, rfl, rfl, Nat.le_refl _, fun _ _ _ => rfl, Nat.le_succ _⟩
theorem Ext.alloc (w : World) (o : Obj) : Ext w (w.alloc o) := ⟨rfl, rfl, rfl, by simp, fun k hk _ => Below.heap_alloc w o k hk, Nat.le_refl _⟩
inductive Res where
  | obj (g : Nat) (o : Obj)
  | vec (A : Option Addr) (c : Nat) (e : TypeId) (sz n : Nat) (xs : List Value)
  | rd (A : Option Addr) (sz n : Nat) (xs : List Value)
/-- Cells that may be read at a slice's address. -/
def Rd (w : World) (A : Option Addr) (sz n : Nat) (xs : List Value) : Prop :=
  xs.length = n * sz ∧ (0 < n → ∃ g o, A = some ⟨g, o, none⟩ ∧ g < w.heap.size ∧ ∀ j u, xs[j]? = some u → w.cell? ⟨g, o + j, none⟩ = some u)
def Res.holds (w : World) : Res → Prop
  | .obj g o => w.heap[g]? = some o
  | .vec A c e sz n xs => w.ownsRow 0 e sz (.slice A n c) n xs
  | .rd A sz n xs => Rd w A sz n xs
def Res.own : Res → Option Nat
  | .obj g _ => some g
  | .vec A _ _ _ _ _ => A.map (·.block)
  | .rd _ _ _ _ => none
def Res.reads : Res → Option Nat
  | .rd A _ n _ => if n = 0 then none else A.map (·.block)
  | _ => none
def Res.compat (r s : Res) : Prop := ∀ g, (r.own = some g → s.own ≠ some g ∧ s.reads ≠ some g) ∧ (s.own = some g → r.own ≠ some g ∧ r.reads ≠ some g)
theorem Res.compat.symm {r s : Res} (h : r.compat s) : s.compat r := fun g => ⟨(h g).2, (h g).1⟩
structure St (S : Nat → Prop) (w0 w : World) (L : List Res) : Prop where
  keep : Keep S w0 w
  holds : ∀ r ∈ L, r.holds w
  own : ∀ r ∈ L, ∀ g, r.own = some g → S g ∨ w0.heap.size ≤ g
  apart : L.Pairwise Res.compat
theorem own_lt {r : Res} {w : World} (h : r.holds w) {g : Nat} (hg : r.own = some g) : g < w.heap.size := by
  cases r with
  | obj b o =>
    simp only [Res.own, Option.some.injEq] at hg
    subst hg
    exact (Array.getElem?_eq_some_iff.1 h).1
  | vec A c e sz n xs =>
    refine (World.ownsRow.lt h g ?_).2
    cases A <;> simp_all [Res.own, Value.ownBlock]
  | rd A sz n xs => simp [Res.own] at hg
theorem reads_lt {r : Res} {w : World} (h : r.holds w) {g : Nat} (hg : r.reads = some g) : g < w.heap.size := by
  cases r with
  | obj b o => simp [Res.reads] at hg
  | vec A c e sz n xs => simp [Res.reads] at hg
  | rd A sz n xs =>
    simp only [Res.reads] at hg
    split at hg
    · cases hg
    · obtain ⟨_, h2⟩ := h
      obtain ⟨b, o, rfl, hlt, _⟩ := h2 (by omega)
      simp at hg
      omega
theorem Rd.of_blocks {w w' : World} {A : Option Addr} {sz n : Nat} {xs : List Value} (h : Rd w A sz n xs) (hsz : w.heap.size ≤ w'.heap.size) (hb : ∀ g, (Res.rd A sz n xs).reads = some g → w'.heap[g]? = w.heap[g]?) : Rd w' A sz n xs := by
  refine ⟨h.1, fun hn => ?_⟩
  obtain ⟨g, o, rfl, hlt, hc⟩ := h.2 hn
  refine ⟨g, o, rfl, by omega, fun j u hu => ?_⟩
  have he := hb g (by simp [Res.reads, Nat.ne_of_gt hn])
  exact (World.cell?_of_block (a := ⟨g, o + j, none⟩) he).trans (hc j u hu)
theorem vec_of_blocks {w w' : World} {A : Option Addr} {c : Nat} {e : TypeId} {sz n : Nat} {xs : List Value} (h : w.ownsRow 0 e sz (.slice A n c) n xs) (hb : ∀ g, (Res.vec A c e sz n xs).own = some g → w'.heap[g]? = w.heap[g]?) : w'.ownsRow 0 e sz (.slice A n c) n xs := by
  refine ⟨h.1, ?_⟩
  rcases h.2 with h2 | ⟨g, cap, cur, hv, h0, hg, h3⟩
  · exact .inl h2
  · refine .inr ⟨g, cap, cur, hv, h0, ?_, h3⟩
    simp only [Value.slice.injEq] at hv
    rw [hb g (by simp [Res.own, hv.1])]
    exact hg
/-- A resource holds in whatever world has its blocks unturned. -/
theorem Res.holds_of {r : Res} {w w' : World} (h : r.holds w) (hsz : w.heap.size ≤ w'.heap.size) (ho : ∀ g, r.own = some g → w'.heap[g]? = w.heap[g]?) (hr : ∀ g, r.reads = some g → w'.heap[g]? = w.heap[g]?) : r.holds w' := by
  cases r with
  | obj g o => exact (ho g rfl).trans h
  | vec A c e sz n xs => exact vec_of_blocks h ho
  | rd A sz n xs => exact Rd.of_blocks h hsz hr
theorem Res.holds_ext {r : Res} {w w' : World} (h : r.holds w) (hE : Ext w w') : r.holds w' :=
  r.holds_of h hE.size (fun g hg => hE.block g (own_lt h hg) (fun f => f)) (fun g hg => hE.block g (reads_lt h hg) (fun f => f))
section
variable {S : Nat → Prop} {w0 w w' : World} {L L' : List Res} {r r' : Res}
theorem St.start {S : Nat → Prop} (w : World) : St S w w [] := ⟨Keep.refl _ _, by simp, by simp, .nil⟩
theorem St.ext (h : St S w0 w L) (hE : Ext w w') : St S w0 w' L :=
  ⟨h.keep.trans hE.keep, fun r hr => Res.holds_ext (h.holds r hr) hE, h.own, h.apart⟩
/-- Something that may be read is laid beside. It lies in no owned block. -/
theorem St.add_rd {A : Option Addr} {sz n : Nat} {xs : List Value} (h : St S w0 w L) (hr : Rd w A sz n xs) (hf : ∀ r ∈ L, ∀ g, r.own = some g → (Res.rd A sz n xs).reads ≠ some g) : St S w0 w (.rd A sz n xs :: L) := by
  refine ⟨h.keep, ?_, ?_, ?_⟩
  · intro r hr'
    rcases List.mem_cons.1 hr' with rfl | hr'
    · exact hr
    · exact h.holds r hr'
  · intro r hr' g hg
    rcases List.mem_cons.1 hr' with rfl | hr'
    · simp [Res.own] at hg
    · exact h.own r hr' g hg
  · refine List.pairwise_cons.2 ⟨fun s hs g => ⟨fun hg => by simp [Res.own] at hg, fun hg => ⟨by simp [Res.own], hf s hs g hg⟩⟩, h.apart⟩
/-- Something new, owned or to be read, whose blocks lie beyond all that was. -/
theorem St.add (h : St S w0 w L) (hE : Ext w w') (hr : r.holds w') (hf : ∀ g, r.own = some g ∨ r.reads = some g → w.heap.size ≤ g) : St S w0 w' (r :: L) := by
  have h' := h.ext hE
  refine ⟨h'.keep, ?_, ?_, ?_⟩
  · intro s hs
    rcases List.mem_cons.1 hs with rfl | hs
    · exact hr
    · exact h'.holds s hs
  · intro s hs g hg
    rcases List.mem_cons.1 hs with rfl | hs
    · exact .inr (Nat.le_trans h.keep.size (hf g (.inl hg)))
    · exact h'.own s hs g hg
  · refine List.pairwise_cons.2 ⟨fun s hs g => ⟨fun hg => ?_, fun hg => ?_⟩, h'.apart⟩
    · have h1 := hf g (.inl hg)
      exact ⟨fun e => by have := own_lt (h.holds s hs) e; omega, fun e => by have := reads_lt (h.holds s hs) e; omega⟩
    · have h1 := own_lt (h.holds s hs) hg
      exact ⟨fun e => by have := hf g (.inl e); omega, fun e => by have := hf g (.inr e); omega⟩
theorem St.alloc (h : St S w0 w L) (o : Obj) : St S w0 (w.alloc o) (.obj w.heap.size o :: L) :=
  h.add (Ext.alloc w o) (heap_alloc_new w o) (by
    intro g hg
    rcases hg with hg | hg
    · simp [Res.own] at hg; omega
    · simp [Res.reads] at hg)
/-- r stands in L; with r' in its place the list is L'. -/
inductive Upd : List Res → Res → Res → List Res → Prop
  | head {r r' : Res} {L : List Res} : Upd (r :: L) r r' (r' :: L)
  | tail {s r r' : Res} {L L' : List Res} : Upd L r r' L' → Upd (s :: L) r r' (s :: L')
theorem Upd.mem (h : Upd L r r' L') : r ∈ L := by
  induction h with
  | head => simp
  | tail _ ih => simp [ih]
theorem Upd.mem' (h : Upd L r r' L') : ∀ s ∈ L', s = r' ∨ s ∈ L := by
  induction h with
  | head => intro s hs; rcases List.mem_cons.1 hs with rfl | hs <;> simp_all
  | tail _ ih => intro s hs; rcases List.mem_cons.1 hs with rfl | hs
                 · simp
                 · rcases ih s hs with h | h <;> simp [h]
theorem Upd.pairwise (h : Upd L r r' L') (hp : L.Pairwise Res.compat) (hc : ∀ s ∈ L, r.compat s → r'.compat s) : L'.Pairwise Res.compat := by
  induction h with
  | head =>
    obtain ⟨h1, h2⟩ := List.pairwise_cons.1 hp
    exact List.pairwise_cons.2 ⟨fun s hs => hc s (by simp [hs]) (h1 s hs), h2⟩
  | tail hu ih =>
    obtain ⟨h1, h2⟩ := List.pairwise_cons.1 hp
    refine List.pairwise_cons.2 ⟨fun s hs => ?_, ih h2 (fun s hs => hc s (by simp [hs]))⟩
    rcases hu.mem' s hs with rfl | hs
    · exact (hc _ (by simp) (h1 _ hu.mem).symm).symm
    · exact h1 s hs
/-- of a resource that stands in a pairwise list: what is not it is compatible with it, or it is at its very place -/
theorem Upd.others (h : Upd L r r' L') (hp : L.Pairwise Res.compat) : ∀ s ∈ L', s = r' ∨ r.compat s := by
  induction h with
  | head =>
    obtain ⟨h1, _⟩ := List.pairwise_cons.1 hp
    intro s hs
    rcases List.mem_cons.1 hs with rfl | hs
    · exact .inl rfl
    · exact .inr (h1 s hs)
  | tail hu ih =>
    obtain ⟨h1, h2⟩ := List.pairwise_cons.1 hp
    intro s hs
    rcases List.mem_cons.1 hs with rfl | hs
    · exact .inr (h1 _ hu.mem).symm
    · exact ih h2 s hs
/-- One resource turns: the world changes in its own block alone (or new blocks are laid). -/
theorem St.turn (h : St S w0 w L) (hu : Upd L r r' L') (hk : Keep (fun k => r.own = some k) w w') (hr : r'.holds w')
    (ho : ∀ g, r'.own = some g → r.own = some g ∨ w.heap.size ≤ g) (hn : ∀ g, r'.reads = some g → r.own = some g ∨ r.reads = some g ∨ w.heap.size ≤ g) : St S w0 w' L' := by
  have hmem := hu.mem
  have hS : ∀ k, r.own = some k → S k ∨ w0.heap.size ≤ k := h.own r hmem
  refine ⟨?_, ?_, ?_, ?_⟩
  · exact h.keep.comp hk (fun k hk0 hk1 => by rcases hS k hk1 with h1 | h1; exact h1; omega)
  · intro s hs
    rcases hu.others h.apart s hs with rfl | hc
    · exact hr
    · have hs' : s ∈ L ∨ s = r' := (hu.mem' s hs).symm
      rcases hs' with hs' | rfl
      · refine s.holds_of (h.holds s hs') hk.size (fun g hg => hk.block g (own_lt (h.holds s hs') hg) (fun e => ((hc g).1 e).1 hg)) (fun g hg => hk.block g (reads_lt (h.holds s hs') hg) (fun e => ((hc g).1 e).2 hg))
      · exact hr
  · intro s hs g hg
    rcases hu.mem' s hs with rfl | hs
    · rcases ho g hg with h1 | h1
      · exact hS g h1
      · exact .inr (Nat.le_trans h.keep.size h1)
    · exact h.own s hs g hg
  · refine hu.pairwise h.apart fun s hs hc g => ?_
    have hs := h.holds s hs
    refine ⟨fun hg => ?_, fun hg => ?_⟩
    · rcases ho g hg with h1 | h1
      · exact (hc g).1 h1
      · exact ⟨fun e => by have := own_lt hs e; omega, fun e => by have := reads_lt hs e; omega⟩
    · refine ⟨fun e => ?_, fun e => ?_⟩
      · rcases ho g e with h1 | h1
        · exact ((hc g).1 h1).1 hg
        · have := own_lt hs hg; omega
      · rcases hn g e with h1 | h1 | h1
        · exact ((hc g).1 h1).1 hg
        · exact ((hc g).2 hg).2 h1
        · have := own_lt hs hg; omega
/-- A resource is taken for another one that says less of the same blocks. -/
theorem St.weaken (h : St S w0 w L) (hu : Upd L r r' L') (hr : r'.holds w) (ho : ∀ g, r'.own = some g → r.own = some g) (hn : ∀ g, r'.reads = some g → r.own = some g ∨ r.reads = some g) : St S w0 w L' :=
  h.turn hu (Keep.refl _ _) hr (fun g hg => .inl (ho g hg)) (fun g hg => by rcases hn g hg with h1 | h1; exact .inl h1; exact .inr (.inl h1))
/-- r stands in L; behind it L' is left. -/
inductive Del : List Res → Res → List Res → Prop
  | head {r : Res} {L : List Res} : Del (r :: L) r L
  | tail {s r : Res} {L L' : List Res} : Del L r L' → Del (s :: L) r (s :: L')
theorem Del.perm {L L' : List Res} {r : Res} (h : Del L r L') : L.Perm (r :: L') := by
  induction h with
  | head => exact .refl _
  | tail _ ih => exact (ih.cons _).trans (.swap _ _ _)
theorem St.perm (h : St S w0 w L) (hp : L.Perm L') : St S w0 w L' :=
  ⟨h.keep, fun r hr => h.holds r (hp.mem_iff.2 hr), fun r hr => h.own r (hp.mem_iff.2 hr), (hp.pairwise_iff (fun h => h.symm)).1 h.apart⟩
theorem St.drop (h : St S w0 w (r :: L)) : St S w0 w L :=
  ⟨h.keep, fun s hs => h.holds s (by simp [hs]), fun s hs => h.own s (by simp [hs]), (List.pairwise_cons.1 h.apart).2⟩
/-- L' is chosen out of L, in any order. -/
inductive Sel : List Res → List Res → Prop
  | nil {L : List Res} : Sel [] L
  | cons {r : Res} {L L1 L' : List Res} : Del L r L1 → Sel L' L1 → Sel (r :: L') L
theorem Sel.sub {L L' : List Res} (h : Sel L' L) : ∃ M, L.Perm (L' ++ M) := by
  induction h with
  | nil => exact ⟨_, .refl _⟩
  | cons hd _ ih =>
    obtain ⟨M, hM⟩ := ih
    exact ⟨M, hd.perm.trans (hM.cons _)⟩
theorem St.left {L M : List Res} (h : St S w0 w (L ++ M)) : St S w0 w L :=
  ⟨h.keep, fun s hs => h.holds s (by simp [hs]), fun s hs => h.own s (by simp [hs]), (List.pairwise_append.1 h.apart).1⟩
theorem St.sel (h : St S w0 w L) (hs : Sel L' L) : St S w0 w L' := by
  obtain ⟨M, hM⟩ := hs.sub
  exact (h.perm hM).left
/-- A resource that stands there. -/
inductive Has : List Res → Res → Prop
  | head {r : Res} {L : List Res} : Has (r :: L) r
  | tail {s r : Res} {L : List Res} : Has L r → Has (s :: L) r
theorem Has.mem {L : List Res} {r : Res} (h : Has L r) : r ∈ L := by
  induction h with
  | head => simp
  | tail _ ih => simp [ih]
theorem St.has (h : St S w0 w L) (hr : Has L r) : r.holds w := h.holds r hr.mem
theorem St.ext_of (h : St NoB w0 w L) : Ext w0 w := h.keep
end
end Go.Proofs.Ytffmanidnlbjjaa
namespace Go.Proofs.Ytffmanidnlbjjaa
open Go.RowKit
def fr (l : List Value) : Act := { tmps := l.toArray, defers := [] }
def opv (l : List Value) : Operand → Value
  | .tmp t => l.getD t undef
  | .const v => v
  | .global g => .pointer (some ⟨g, 0, none⟩)
  | .func f => .func (.func f) #[] #[]
theorem eval_fr (l : List Value) : (fr l).eval = opv l := by
  funext x
  cases x <;> simp [fr, opv, Act.eval, Array.getD_eq_getD_getElem?, List.getD]
theorem put_fr (l : List Value) (d : Nat) (v : Value) : (fr l).put (some d) v = fr (l.set d v) := by simp [fr, Act.put]
theorem put_fr_none (l : List Value) (v : Value) : (fr l).put none v = fr l := rfl
theorem n1 {v : Value} {l : List Value} {n : Nat} {d : Value} : (v :: l).getD (n + 1) d = l.getD n d := List.getD_cons_succ
theorem n2 {v : Value} {l : List Value} {d : Value} : (v :: l).getD 0 d = v := List.getD_cons_zero
theorem n3 {v u : Value} {l : List Value} {n : Nat} : (v :: l).set (n + 1) u = v :: l.set n u := List.set_cons_succ
theorem n4 {v u : Value} {l : List Value} : (v :: l).set 0 u = u :: l := List.set_cons_zero
def ic (k : IntKind) (l : List Int) : Array Value := (l.map (Value.int k)).toArray
@[simp] theorem ic_size (k : IntKind) (l : List Int) : (ic k l).size = l.length := by simp [ic]
theorem ic_get {k : IntKind} {l : List Int} {i : Nat} (h : i < l.length) : (ic k l)[i]? = some (.int k (l.getD i 0)) := by
  simp [ic, List.getElem?_eq_getElem h, List.getD]
theorem il_get {k : IntKind} {l : List Int} {i : Nat} (h : i < l.length) : (l.map (Value.int k))[i]? = some (.int k (l.getD i 0)) := by
  simp [List.getElem?_eq_getElem h, List.getD]
theorem ic_one (k : IntKind) (l : List Int) : ∀ u ∈ (ic k l).toList, u.oneCell' = true := by
  intro u hu; simp [ic] at hu; obtain ⟨a, _, rfl⟩ := hu; rfl
theorem il_one (k : IntKind) (l : List Int) : ∀ u ∈ l.map (Value.int k), u.oneCell' = true := by
  intro u hu; simp at hu; obtain ⟨a, _, rfl⟩ := hu; rfl

/-- written slots hold whatever they hold -/
def clob (l : List Value) (V : List Nat) (f : Nat → Value) : List Value := V.foldl (fun l d => l.set d (f d)) l
theorem set_getD (l : List Value) (d : Nat) : l.set d (l.getD d undef) = l := by
  by_cases h : d < l.length
  · rw [List.getD_eq_getElem?_getD, List.getElem?_eq_getElem h]; simp
  · rw [List.set_eq_of_length_le (by omega)]
theorem clob_self (l : List Value) (V : List Nat) : clob l V (fun d => l.getD d undef) = l := by
  suffices h : ∀ m : List Value, m = l → V.foldl (fun m d => m.set d (l.getD d undef)) m = l from h l rfl
  induction V with
  | nil => exact fun m hm => hm
  | cons d V ih =>
    intro m hm
    subst hm
    exact ih _ (set_getD m d)
def look (i : Nat) : List (Nat × (Act → World → Prop)) → Act → World → Prop
  | [], _, _ => False
  | (j, k) :: ex, a, w => if i = j then k a w else look i ex a w
/-- What stands behind a piece of code: on, out by a return, out of a block. -/
def Qx (n r : Act → World → Prop) (ex : List (Nat × (Act → World → Prop))) : Exit → Act → World → Prop
  | .normal, a, w => n a w
  | .ret, a, w => r a w
  | .exit i, a, w => look i ex a w
  | _, _, _ => False
/-- the walk over a list of operations, shut -/
structure WL (P : Program) (ops : Array Oper) (Q : Exit → Act → World → Prop) (os : List Oper) (a : Act) (w : World) : Prop where
  run : wpList P ops Q os a w
section
variable {P : Program} {n r : Act → World → Prop} {ex : List (Nat × (Act → World → Prop))} {a : Act} {w w' : World} {l : List Value}
theorem x_seq {x y : Code} (h : ∀ K : Act → World → Prop, (∀ a w, y.wp P (Qx n r ex) a w → K a w) → x.wp P (Qx K r ex) a w) : (Code.seq x y).wp P (Qx n r ex) a w :=
  wp_seq (wp_mono (h _ fun _ _ h => h) fun e a w q => by cases e <;> first | exact q | exact q.elim)
theorem x_block {id : Nat} {c : Code} (h : c.wp P (Qx n r ((id, n) :: ex)) a w) : (Code.block id c).wp P (Qx n r ex) a w :=
  wp_block (wp_mono h fun e a w q => by
    cases e with
    | exit i =>
      simp only [Exit.inBlock, Qx, look] at q ⊢
      split
      · rename_i hi; rw [if_pos hi] at q; exact q
      · rename_i hi; rw [if_neg hi] at q; exact q
    | _ => first | exact q | exact q.elim)
theorem x_exit {id : Nat} (h : look id ex a w) : (Code.exit id).wp P (Qx n r ex) a w := wp_exit h
theorem look_here {id : Nat} {k : Act → World → Prop} (h : k a w) : look id ((id, k) :: ex) a w := by simp only [look]; exact h
theorem look_on {i j : Nat} {k : Act → World → Prop} (hne : i ≠ j) (h : look i ex a w) : look i ((j, k) :: ex) a w := by simp only [look, if_neg hne]; exact h
theorem x_ret (h : r a w) : Code.ret.wp P (Qx n r ex) a w := wp_ret h
theorem x_skip (h : n a w) : Code.skip.wp P (Qx n r ex) a w := wp_skip h
theorem x_cond_t {c : Operand} {x y : Code} (hc : opv l c = .bool true := by rfl) (h : x.wp P (Qx n r ex) (fr l) w) : (Code.cond c x y).wp P (Qx n r ex) (fr l) w := wp_cond_true (by rw [eval_fr]; exact hc) h
theorem x_cond_f {c : Operand} {x y : Code} (hc : opv l c = .bool false := by rfl) (h : y.wp P (Qx n r ex) (fr l) w) : (Code.cond c x y).wp P (Qx n r ex) (fr l) w := wp_cond_false (by rw [eval_fr]; exact hc) h
theorem x_cond {c : Operand} {x y : Code} {b : Bool} (hc : opv l c = .bool b := by rfl) (ht : b = true → x.wp P (Qx n r ex) (fr l) w) (hf : b = false → y.wp P (Qx n r ex) (fr l) w) : (Code.cond c x y).wp P (Qx n r ex) (fr l) w :=
  wp_cond_split (by rw [eval_fr]; exact hc) ht hf
theorem wl_plain {o : Oper} {ops : Array Oper} {rest : List Oper} {Q : Exit → Act → World → Prop} (hg : o.guard = none) (h : ∀ K : Act → World → Prop, (∀ a w, WL P ops Q rest a w → K a w) → o.wp P a w K Q) : WL P ops Q (o :: rest) a w := ⟨wpList_plain hg fun K hK => h K fun a w hh => hK a w hh.run⟩
theorem x_region {id : Nat} {ops : List Oper} (h : WL P ops.toArray (Qx n r ex) ops a w) : (Code.region id ops.toArray false).wp P (Qx n r ex) a w := wp_region_lit h.run
theorem x_nil {ops : Array Oper} (h : n a w) : WL P ops (Qx n r ex) [] a w := ⟨h⟩
def LoopJ (I : Nat → (Nat → Value) → World → Prop) (l : List Value) (V : List Nat) (m : Nat) (a' : Act) (w' : World) : Prop := ∃ m' f', a' = fr (clob l V f') ∧ I m' f' w' ∧ m' < m
theorem loop_back {I : Nat → (Nat → Value) → World → Prop} {l lnow : List Value} {V : List Nat} {m m' : Nat} {w : World} (he : lnow = clob l V (fun d => lnow.getD d undef)) (hI : I m' (fun d => lnow.getD d undef) w) (hm : m' < m) : LoopJ I l V m (fr lnow) w :=
  ⟨m', _, congrArg fr he, hI, hm⟩
theorem x_loop {c : Code} (V : List Nat) (I : Nat → (Nat → Value) → World → Prop) (m0 : Nat) (h0 : I m0 (fun d => l.getD d undef) w)
    (hr : ∀ m f w, I m f w → c.wp P (Qx (LoopJ I l V m) r ex) (fr (clob l V f)) w) : (Code.loop c).wp P (Qx n r ex) (fr l) w := by
  let J : Nat → Act → World → Prop := fun m a w => ∃ f, a = fr (clob l V f) ∧ I m f w
  have key : ∀ m a w, J m a w → (Code.loop c).wp P (Qx n r ex) a w := by
    intro m
    induction m using Nat.strongRecOn with
    | _ m ih =>
      rintro a w ⟨f, rfl, hI⟩
      -- one round of the loop, then the loop again
      refine wp_loop (fun a' w' => ∃ m' ≤ m, J m' a' w') (fun a' w' => Classical.epsilon fun k => (∃ f, a' = fr (clob l V f) ∧ I k f w') ∧ ∀ j, (∃ f, a' = fr (clob l V f) ∧ I j f w') → k ≤ j) ⟨m, Nat.le_refl _, f, rfl, hI⟩ ?_
      rintro a1 w1 ⟨m1, hm1, hJ1⟩
      -- the least number that fits
      have hex : ∃ k, J k a1 w1 := ⟨m1, hJ1⟩
      have hleast : ∃ k, J k a1 w1 ∧ ∀ j, J j a1 w1 → k ≤ j := by
        refine Nat.strongRecOn (motive := fun q => J q a1 w1 → ∃ k, J k a1 w1 ∧ ∀ j, J j a1 w1 → k ≤ j) m1 (fun q ihq hq => ?_) hJ1
        by_cases hx : ∃ j, j < q ∧ J j a1 w1
        · obtain ⟨j, hj, hjj⟩ := hx
          exact ihq j hj hjj
        · exact ⟨q, hq, fun j hj => by
            rcases Nat.lt_or_ge j q with h | h
            · exact absurd ⟨j, h, hj⟩ hx
            · exact h⟩
      have hk := Classical.epsilon_spec hleast
      generalize hke : (Classical.epsilon fun k => (∃ f, a1 = fr (clob l V f) ∧ I k f w1) ∧ ∀ j, (∃ f, a1 = fr (clob l V f) ∧ I j f w1) → k ≤ j) = k at hk ⊢
      obtain ⟨⟨f1, rfl, hI1⟩, hmin⟩ := hk
      have hkm : k ≤ m := Nat.le_trans (hmin m1 hJ1) hm1
      refine wp_mono (hr k f1 w1 hI1) fun e a2 w2 q => ?_
      cases e with
      | normal =>
        obtain ⟨m2, f2, rfl, hI2, hlt⟩ := q
        refine ⟨⟨m2, by omega, f2, rfl, hI2⟩, ?_⟩
        have h2 : ∃ k', J k' (fr (clob l V f2)) w2 ∧ ∀ j, J j (fr (clob l V f2)) w2 → k' ≤ j := by
          refine Nat.strongRecOn (motive := fun q => J q (fr (clob l V f2)) w2 → ∃ k, J k (fr (clob l V f2)) w2 ∧ ∀ j, J j (fr (clob l V f2)) w2 → k ≤ j) m2 (fun q ihq hq => ?_) ⟨f2, rfl, hI2⟩
          by_cases hx : ∃ j, j < q ∧ J j (fr (clob l V f2)) w2
          · obtain ⟨j, hj, hjj⟩ := hx
            exact ihq j hj hjj
          · exact ⟨q, hq, fun j hj => by
              rcases Nat.lt_or_ge j q with h | h
              · exact absurd ⟨j, h, hj⟩ hx
              · exact h⟩
        have hs := Classical.epsilon_spec h2
        exact Nat.lt_of_le_of_lt (hs.2 m2 ⟨f2, rfl, hI2⟩) hlt
      | ret => exact q
      | exit i => exact q
      | goto i => exact q.elim
      | panic ch => exact q.elim
      | outgrown => exact q.elim
  have := key m0 (fr l) w ⟨fun d => l.getD d undef, by rw [clob_self], h0⟩
  exact this
end
end Go.Proofs.Ytffmanidnlbjjaa
namespace Go.Proofs.Ytffmanidnlbjjaa
open Go.RowKit
/-- a type's size in cells and in bytes, and its zero value -/
def TI (P : Program) (t : TypeId) (sz by' : Nat) (z : Value) : Prop := ∃ i, P.info? t = some i ∧ i.size = sz ∧ i.bytes = by' ∧ i.zero = some z
theorem TI.of {P : Program} {t : TypeId} {sz by' : Nat} {z : Value} (h : (P.info? t).map (fun i => (i.size, i.bytes, i.zero)) = some (sz, by', some z)) : TI P t sz by' z := by
  cases hi : P.info? t with
  | none => rw [hi] at h; cases h
  | some i => rw [hi] at h; simp at h; exact ⟨i, hi, h.1, h.2.1, h.2.2⟩
section
variable {P : Program} {ops : Array Oper} {Q : Exit → Act → World → Prop} {rest : List Oper} {l : List Value} {w w' : World} {d : Nat} {ty : TypeId} {pos : String} {aft : Array Edge}
/-- an operation that yields a value and turns nothing -/
def Go1 (P : Program) (l : List Value) (w : World) (o : Oper) (v : Value) : Prop := (execOp (opv l) o).run P w = .ok (.value v) w
theorem s_val {op : Op} {v : Value} (hr : (execOp (opv l) ⟨some d, op, ty, pos, aft, none⟩).run P w = .ok (.value v) w') (h : WL P ops Q rest (fr (l.set d v)) w') : WL P ops Q (⟨some d, op, ty, pos, aft, none⟩ :: rest) (fr l) w :=
  wl_plain rfl fun K hK => by
    unfold Oper.wp
    rw [eval_fr, hr]
    simp only [Oper.upon_value, put_fr]
    exact hK _ _ h
theorem s_unit {op : Op} (hr : (execOp (opv l) ⟨none, op, ty, pos, aft, none⟩).run P w = .ok .skip w') (h : WL P ops Q rest (fr l) w') : WL P ops Q (⟨none, op, ty, pos, aft, none⟩ :: rest) (fr l) w :=
  wl_plain rfl fun K hK => by
    unfold Oper.wp
    rw [eval_fr, hr]
    simp only [Oper.upon_skip, put_fr_none]
    exact hK _ _ h
theorem s_go {op : Op} {v : Value} (hr : Go1 P l w ⟨some d, op, ty, pos, aft, none⟩ v) (h : WL P ops Q rest (fr (l.set d v)) w) : WL P ops Q (⟨some d, op, ty, pos, aft, none⟩ :: rest) (fr l) w := s_val hr h
theorem yi {os : List Oper} {l : List Value} {j t : Nat} {b : Bool} (ho : ((os[j]?).bind (·.dst)) = some t) (hl : l[t]? = some (.bool b)) : yielded os.toArray l.toArray j = some b := by
  simp [yielded, ho, hl]
theorem yn {os : List Oper} {l : List Value} {j t : Nat} (ho : ((os[j]?).bind (·.dst)) = some t) (hl : l[t]? = some undef) : yielded os.toArray l.toArray j = none := by
  simp [yielded, ho, hl, undef]
/-- a guard that says yes -/
theorem g_on {dst : Option Nat} {op : Op} {g : Nat × Bool} (hg : yielded ops (l.toArray) g.1 = some g.2) (h : WL P ops Q (⟨dst, op, ty, pos, aft, none⟩ :: rest) (fr l) w) : WL P ops Q (⟨dst, op, ty, pos, aft, some g⟩ :: rest) (fr l) w := by
  obtain ⟨h⟩ := h
  refine ⟨?_⟩
  unfold wpList at h ⊢
  have h1 : Region.wanted ⟨dst, op, ty, pos, aft, some g⟩ (yielded ops (fr l).tmps) = true := by simp [Region.wanted, fr, hg]
  have h2 : Region.wanted ⟨dst, op, ty, pos, aft, none⟩ (yielded ops (fr l).tmps) = true := by simp [Region.wanted]
  rw [if_pos h1]
  rw [if_pos h2] at h
  exact h
/-- a guard that says no -/
theorem g_off {op : Op} {g : Nat × Bool} (hg : yielded ops (l.toArray) g.1 = some (!g.2)) (h : WL P ops Q rest (fr (l.set d undef)) w) : WL P ops Q (⟨some d, op, ty, pos, aft, some g⟩ :: rest) (fr l) w := by
  obtain ⟨h⟩ := h
  refine ⟨?_⟩
  unfold wpList
  have h1 : Region.wanted ⟨some d, op, ty, pos, aft, some g⟩ (yielded ops (fr l).tmps) = false := by simp [Region.wanted, fr, hg]
  simp only [h1, Bool.false_eq_true, if_false, put_fr]
  exact h
/-- a guard whose own operation was passed over says no -/
theorem g_un {op : Op} {g : Nat × Bool} (hg : yielded ops (l.toArray) g.1 = none) (h : WL P ops Q rest (fr (l.set d undef)) w) : WL P ops Q (⟨some d, op, ty, pos, aft, some g⟩ :: rest) (fr l) w := by
  obtain ⟨h⟩ := h
  refine ⟨?_⟩
  unfold wpList
  have h1 : Region.wanted ⟨some d, op, ty, pos, aft, some g⟩ (yielded ops (fr l).tmps) = false := by simp [Region.wanted, fr, hg]
  simp only [h1, Bool.false_eq_true, if_false, put_fr]
  exact h
/-- the walk parts on a Bool in a slot -/
theorem s_part {os : List Oper} (t : Nat) {b : Bool} (hb : l.getD t undef = .bool b) (ht : b = true → WL P ops Q os (fr (l.set t (.bool true))) w) (hf : b = false → WL P ops Q os (fr (l.set t (.bool false))) w) : WL P ops Q os (fr l) w := by
  cases b
  · have := hf rfl; rw [← hb, set_getD] at this; exact this
  · have := ht rfl; rw [← hb, set_getD] at this; exact this
theorem s_move {x : Operand} : Go1 P l w ⟨some d, .move x, ty, pos, aft, none⟩ (opv l x) := (by unfold Go1; simp [execOp])
theorem s_assign {x : Operand} : Go1 P l w ⟨some d, .assign x, ty, pos, aft, none⟩ (opv l x) := (by unfold Go1; simp [execOp])
theorem s_pick_t {c x y : Operand} (hc : opv l c = .bool true := by rfl) : Go1 P l w ⟨some d, .pick c x y, ty, pos, aft, none⟩ (opv l x) := (by unfold Go1; simp [execOp, hc, asBool])
theorem s_pick_f {c x y : Operand} (hc : opv l c = .bool false := by rfl) : Go1 P l w ⟨some d, .pick c x y, ty, pos, aft, none⟩ (opv l y) := (by unfold Go1; simp [execOp, hc, asBool])
theorem s_extract {x : Operand} {i : Nat} {vs : Array Value} {v : Value} (hx : opv l x = .tuple vs := by rfl) (hv : vs[i]? = some v := by rfl) : Go1 P l w ⟨some d, .extract x i, ty, pos, aft, none⟩ v := (by unfold Go1; simp [execOp, hx, Instr.extract, hv])
section
variable {x y : Operand} {T yT : TypeId} {k : IntKind} {a b c : Int}
theorem s_add (hx : opv l x = .int k a := by rfl) (hy : opv l y = .int k b := by rfl) (hc : k.wrap (a + b) = c) : Go1 P l w ⟨some d, .binOp .add T x y yT, ty, pos, aft, none⟩ (.int k c) :=
  (by subst hc; unfold Go1; simp [execOp, hx, hy, eqGuard, binOp, Op.intArith])
theorem s_sub (hx : opv l x = .int k a := by rfl) (hy : opv l y = .int k b := by rfl) (hc : k.wrap (a - b) = c) : Go1 P l w ⟨some d, .binOp .sub T x y yT, ty, pos, aft, none⟩ (.int k c) :=
  (by subst hc; unfold Go1; simp [execOp, hx, hy, eqGuard, binOp, Op.intArith])
theorem s_mul (hx : opv l x = .int k a := by rfl) (hy : opv l y = .int k b := by rfl) (hc : k.wrap (a * b) = c) : Go1 P l w ⟨some d, .binOp .mul T x y yT, ty, pos, aft, none⟩ (.int k c) :=
  (by subst hc; unfold Go1; simp [execOp, hx, hy, eqGuard, binOp, Op.intArith])
theorem s_quo (hx : opv l x = .int k a := by rfl) (hy : opv l y = .int k b := by rfl) (hb : b ≠ 0 := by first | decide | omega) (hc : k.wrap (a.tdiv b) = c) : Go1 P l w ⟨some d, .binOp .quo T x y yT, ty, pos, aft, none⟩ (.int k c) :=
  (by subst hc; unfold Go1; simp [execOp, hx, hy, eqGuard, binOp, Op.intDiv, hb])
theorem s_rem (hx : opv l x = .int k a := by rfl) (hy : opv l y = .int k b := by rfl) (hb : b ≠ 0 := by first | decide | omega) (hc : a.tmod b = c) : Go1 P l w ⟨some d, .binOp .rem T x y yT, ty, pos, aft, none⟩ (.int k c) :=
  (by subst hc; unfold Go1; simp [execOp, hx, hy, eqGuard, binOp, Op.intDiv, hb])
theorem s_lss (hx : opv l x = .int k a := by rfl) (hy : opv l y = .int k b := by rfl) : Go1 P l w ⟨some d, .binOp .lss T x y yT, ty, pos, aft, none⟩ (.bool (decide (a < b))) :=
  (by unfold Go1; simp [execOp, hx, hy, eqGuard, binOp, Op.intCmp])
theorem s_leq (hx : opv l x = .int k a := by rfl) (hy : opv l y = .int k b := by rfl) : Go1 P l w ⟨some d, .binOp .leq T x y yT, ty, pos, aft, none⟩ (.bool (decide (a ≤ b))) :=
  (by unfold Go1; simp [execOp, hx, hy, eqGuard, binOp, Op.intCmp])
theorem s_gtr (hx : opv l x = .int k a := by rfl) (hy : opv l y = .int k b := by rfl) : Go1 P l w ⟨some d, .binOp .gtr T x y yT, ty, pos, aft, none⟩ (.bool (decide (b < a))) :=
  (by unfold Go1; simp [execOp, hx, hy, eqGuard, binOp, Op.intCmp])
theorem s_geq (hx : opv l x = .int k a := by rfl) (hy : opv l y = .int k b := by rfl) : Go1 P l w ⟨some d, .binOp .geq T x y yT, ty, pos, aft, none⟩ (.bool (decide (b ≤ a))) :=
  (by unfold Go1; simp [execOp, hx, hy, eqGuard, binOp, Op.intCmp])
theorem s_eql (hx : opv l x = .int k a := by rfl) (hy : opv l y = .int k b := by rfl) : Go1 P l w ⟨some d, .binOp .eql T x y yT, ty, pos, aft, none⟩ (.bool (decide (a = b))) := by
  have e : (a == b) = decide (a = b) := by by_cases e : a = b <;> simp [e]
  unfold Go1
  simp [execOp, hx, hy, eqGuard, binOp, Op.intCmp, e]
theorem s_neq (hx : opv l x = .int k a := by rfl) (hy : opv l y = .int k b := by rfl) : Go1 P l w ⟨some d, .binOp .neq T x y yT, ty, pos, aft, none⟩ (.bool (decide (a ≠ b))) := by
  have e : (a != b) = decide (a ≠ b) := by by_cases e : a = b <;> simp [e, bne]
  unfold Go1
  rw [← e]
  simp [execOp, hx, hy, eqGuard, binOp, Op.intCmp]
theorem s_bits {op : BinOp} (hop : op = .and ∨ op = .or ∨ op = .xor ∨ op = .andNot) (hx : opv l x = .int k a := by rfl) (hy : opv l y = .int k b := by rfl) (hc : bits op k a b = c) : Go1 P l w ⟨some d, .binOp op T x y yT, ty, pos, aft, none⟩ (.int k c) := by
  subst hc
  rcases hop with rfl | rfl | rfl | rfl <;> exact (by unfold Go1; simp [execOp, hx, hy, eqGuard, binOp, Op.intBits, bits])
theorem s_shl {ky : IntKind} (hx : opv l x = .int k a := by rfl) (hy : opv l y = .int ky b := by rfl) (hb : 0 ≤ b := by first | decide | omega) (hc : k.wrap (a * 2 ^ (min b.toNat k.bits)) = c) : Go1 P l w ⟨some d, .binOp .shl T x y yT, ty, pos, aft, none⟩ (.int k c) :=
  (by subst hc; unfold Go1; simp [execOp, hx, hy, eqGuard, binOp, Op.shift, Int.not_lt.2 hb])
theorem s_shr {ky : IntKind} (hx : opv l x = .int k a := by rfl) (hy : opv l y = .int ky b := by rfl) (hb : 0 ≤ b := by first | decide | omega) (hc : a.fdiv (2 ^ (min b.toNat k.bits)) = c) : Go1 P l w ⟨some d, .binOp .shr T x y yT, ty, pos, aft, none⟩ (.int k c) :=
  (by subst hc; unfold Go1; simp [execOp, hx, hy, eqGuard, binOp, Op.shift, Int.not_lt.2 hb])
theorem s_conv {S D : TypeId} {k' : IntKind} (hS : P.underlying S = some (.int k)) (hD : P.underlying D = some (.int k')) (hx : opv l x = .int k a := by rfl) (hc : k'.wrap a = c) : Go1 P l w ⟨some d, .convert S D x, ty, pos, aft, none⟩ (.int k' c) :=
  (by subst hc; unfold Go1; simp [execOp, hx, convert, run_underlying hS, run_underlying hD, Conv.intToInt])
theorem s_not {v : Bool} (hx : opv l x = .bool v := by rfl) : Go1 P l w ⟨some d, .unOp .not T x, ty, pos, aft, none⟩ (.bool (!v)) :=
  (by unfold Go1; simp [execOp, hx, Op.unary])
theorem run_eq_bool {P : Program} {w : World} {T : TypeId} (hT : P.underlying T = some .bool) (u v : Bool) : (Op.equal T (.bool u) (.bool v)).run P w = .ok (u == v) w := run_equalIn_bool' (P := P) w 9999 T u v hT
theorem s_neq_bool {u v : Bool} (hT : P.underlying T = some .bool) (hx : opv l x = .bool u := by rfl) (hy : opv l y = .bool v := by rfl) : Go1 P l w ⟨some d, .binOp .neq T x y yT, ty, pos, aft, none⟩ (.bool (!(u == v))) :=
  (by unfold Go1; simp [execOp, hx, hy, eqGuard, binOp, run_eq_bool hT])
theorem s_max {tys : Array TypeId} (hx : opv l x = .int k a := by rfl) (hy : opv l y = .int k b := by rfl) : Go1 P l w ⟨some d, .call { callee := .builtin .max, args := #[x, y], argTypes := tys }, ty, pos, aft, none⟩ (.int k (max a b)) := by
  have e : (if b > a then b else a) = max a b := by simp only [Int.max_def]; split <;> split <;> omega
  unfold Go1
  rw [← e]
  simp [execOp, resolve, invoke, builtin, hx, hy, Builtin.max_, Builtin.max2]
end
theorem s_len_sl {x : Operand} {T e : TypeId} {A : Option Addr} {n c : Nat} (hT : P.underlying T = some (.slice e)) (hx : opv l x = .slice A n c := by rfl) : Go1 P l w ⟨some d, .call { callee := .builtin .len, args := #[x], argTypes := #[T] }, ty, pos, aft, none⟩ (.int .i64 n) :=
  (by unfold Go1; simp [execOp, resolve, invoke, builtin, hx, Builtin.len_, run_underlying hT, goInt])
def isAggD : TypeDesc → Bool
  | .struct _ | .array _ _ => true
  | _ => false
theorem run_isAgg_yes {P : Program} {t : TypeId} {dsc : TypeDesc} (hu : P.underlying t = some dsc) (hd : isAggD dsc = true) (w : World) : (isAgg t).run P w = .ok true w := by
  cases dsc <;> simp_all [isAgg, run_underlying hu, isAggD]
theorem run_isAgg_no {P : Program} {t : TypeId} {dsc : TypeDesc} (hu : P.underlying t = some dsc) (hd : isAggD dsc = false) (w : World) : (isAgg t).run P w = .ok false w := by
  cases dsc <;> simp_all [isAgg, run_underlying hu, isAggD]
theorem part_agg {P : Program} {w : World} {t : TypeId} {cs : Array Value} {off sz by' : Nat} {z : Value} {dsc : TypeDesc} (hu : P.underlying t = some dsc) (hd : isAggD dsc = true) (hi : TI P t sz by' z) :
    (part t cs off).run P w = .ok (.agg (cs.extract off (off + sz))) w := by
  obtain ⟨i, hi, rfl, _, _⟩ := hi
  simp [part, run_isAgg_yes hu hd, sizeOf, typeInfo, hi]
theorem part_one {P : Program} {w : World} {t : TypeId} {cs : Array Value} {off : Nat} {v : Value} {dsc : TypeDesc} (hu : P.underlying t = some dsc) (hd : isAggD dsc = false) (hv : cs[off]? = some v := by first | rfl | exact ic_get (by first | omega | (simp [*]; done) | (simp [*]; omega))) :
    (part t cs off).run P w = .ok v w := by
  simp [part, run_isAgg_no hu hd, hv]
theorem s_field_agg {x : Operand} {T : TypeId} {j : Nat} {fs : Array Field} {f : Field} {cs : Array Value} {sz by' : Nat} {z : Value} {dsc : TypeDesc} (hT : P.underlying T = some (.struct fs)) (hf : fs[j]? = some f := by rfl) (hu : P.underlying f.type = some dsc) (hd : isAggD dsc = true := by rfl) (hi : TI P f.type sz by' z)
    (hx : opv l x = .agg cs := by rfl) : Go1 P l w ⟨some d, .field T x j, ty, pos, aft, none⟩ (.agg (cs.extract f.offset (f.offset + sz))) :=
  (by unfold Go1; simp [execOp, Instr.field, run_underlying hT, hf, hx, asAgg, part_agg hu hd hi])
theorem s_index_one {x y : Operand} {T e : TypeId} {n sz by' : Nat} {z : Value} {k : IntKind} {i : Int} {cs : Array Value} {v : Value} {dsc : TypeDesc} (hT : P.underlying T = some (.array n e)) (hi : TI P e sz by' z) (hu : P.underlying e = some dsc) (hd : isAggD dsc = false := by rfl)
    (hx : opv l x = .agg cs := by rfl) (hy : opv l y = .int k i := by rfl) (h0 : 0 ≤ i := by omega) (h1 : i < n := by omega) (hv : cs[i.toNat * sz]? = some v := by first | rfl | exact ic_get (by first | omega | (simp [*]; done) | (simp [*]; omega))) : Go1 P l w ⟨some d, .index T x y, ty, pos, aft, none⟩ v := by
  obtain ⟨i', hi', rfl, _, _⟩ := hi
  exact (by unfold Go1; simp [execOp, Instr.index, run_underlying hT, hx, hy, asIntOf, h0, h1, sizeOf, typeInfo, hi', part_one hu hd hv])
/-- A call comes back with a value. -/
def CallR (P : Program) (f : FuncId) (args : Array Value) (w : World) (R : Value → World → Prop) : Prop := Calls P f args w fun e w' => ∃ v, e = .returned v ∧ R v w'
theorem CallR.mono {f : FuncId} {args : Array Value} {w : World} {R R' : Value → World → Prop} (h : CallR P f args w R) (hr : ∀ v w', R v w' → R' v w') : CallR P f args w R' :=
  Calls.mono h fun _ _ ⟨v, he, q⟩ => ⟨v, he, hr _ _ q⟩
theorem s_call_any {o : Oper} {f : Nat} {args : Array Value} {K : Act → World → Prop} {Q : Exit → Act → World → Prop} (hr : (execOp (opv l) o).run P w = .ok (.enter f args) w) (h : CallR P f args w fun v w'' => K ((fr l).put o.dst v) w'') : o.wp P (fr l) w K Q := by
  unfold Oper.wp
  rw [eval_fr, hr, Oper.upon_enter]
  refine Calls.mono h ?_
  rintro e w1 ⟨v, rfl, q⟩
  exact q
theorem s_call {f : Nat} {args : Array Operand} {tys : Array TypeId} (he : Enters P f) (h : CallR P f (args.map (opv l)) w fun v w'' => WL P ops Q rest (fr (l.set d v)) w'') : WL P ops Q (⟨some d, .call { callee := .value (.func f), args := args, argTypes := tys }, ty, pos, aft, none⟩ :: rest) (fr l) w :=
  wl_plain rfl fun K hK => by
    have := he (args.map (opv l) ++ #[]) w
    simp only [Array.append_empty] at this
    refine s_call_any (f := f) (args := args.map (opv l)) (by simp [execOp, resolve, opv, Deferred.ofValue, invoke, this]) (h.mono fun v w1 q => ?_)
    show K ((fr l).put (some d) v) w1
    rw [put_fr]; exact hK _ _ q
/-- a call of a function value -/
theorem s_callv {t f : Nat} {args : Array Operand} {tys : Array TypeId} {cap : Array Value} (hv : l.getD t undef = .func (.func f) #[] cap) (he : Enters P f) (h : CallR P f (args.map (opv l) ++ cap) w fun v w'' => WL P ops Q rest (fr (l.set d v)) w'') : WL P ops Q (⟨some d, .call { callee := .value (.tmp t), args := args, argTypes := tys }, ty, pos, aft, none⟩ :: rest) (fr l) w :=
  wl_plain rfl fun K hK => by
    have := he (args.map (opv l) ++ cap) w
    have hv' : opv l (.tmp t) = .func (.func f) #[] cap := hv
    refine s_call_any (f := f) (args := args.map (opv l) ++ cap) (by simp [execOp, resolve, hv', Deferred.ofValue, invoke, this]) (h.mono fun v w1 q => ?_)
    show K ((fr l).put (some d) v) w1
    rw [put_fr]; exact hK _ _ q
end
section
variable {P : Program}
/-- a function's end -/
def Rt (P : Program) (fn : Func) (R : Value → World → Prop) (a : Act) (w : World) : Prop := a.defers = [] ∧ ∃ v, (results fn a.tmps).run P w = .ok v w ∧ R v w
theorem c_enter {f : FuncId} {fn : Func} {c : Code} {args : Array Value} {w : World} {R : Value → World → Prop} {l : List Value} (hf : P.funcs[f]? = some fn) (hb : fn.body = some c)
    (hl : (args ++ Array.replicate (fn.ntmps - args.size) undef) = l.toArray)
    (h : c.wp P (Qx (Rt P fn R) (Rt P fn R) []) (fr l) w) : CallR P f args w R := by
  refine calls_of_wp hf hb ?_
  rw [hl]
  refine wp_mono h fun e a w' q => ?_
  cases e with
  | normal => obtain ⟨h1, v, h2, h3⟩ := q; exact ⟨h1, v, h2, v, rfl, h3⟩
  | ret => obtain ⟨h1, v, h2, h3⟩ := q; exact ⟨h1, v, h2, v, rfl, h3⟩
  | exit i => exact q.elim
  | goto i => exact q.elim
  | panic ch => exact q.elim
  | outgrown => exact q.elim
theorem r_tmp {fn : Func} {t : Nat} {l : List Value} {w : World} {R : Value → World → Prop} (h : fn.results = #[.tmp t]) (hR : R (l.getD t undef) w) :
    Rt P fn R (fr l) w :=
  ⟨rfl, _, results_tmp h _ _ _, by simpa [fr, Array.getD_eq_getD_getElem?, List.getD] using hR⟩
theorem r_none {fn : Func} {l : List Value} {w : World} {R : Value → World → Prop} (h : fn.results = #[]) (hR : R (.tuple #[]) w) :
    Rt P fn R (fr l) w := ⟨rfl, _, results_none h _ _ _, hR⟩
theorem r_tmp2 {fn : Func} {t u : Nat} {l : List Value} {w : World} {R : Value → World → Prop} (h : fn.results = #[.tmp t, .tmp u]) (hR : R (.tuple #[l.getD t undef, l.getD u undef]) w) :
    Rt P fn R (fr l) w :=
  ⟨rfl, _, results_tmp2 h _ _ _, by simpa [fr, Array.getD_eq_getD_getElem?, List.getD] using hR⟩
/-- one result that lies in a box -/
theorem r_cell {fn : Func} {t : Nat} {T : TypeId} {l : List Value} {w : World} {R : Value → World → Prop} {p : Addr} {v : Value} (h : fn.results = #[.cell t T]) (hp : l.getD t undef = .pointer (some p)) (hv : (loadVar T p).run P w = .ok v w) (hR : R v w) :
    Rt P fn R (fr l) w := by
  have hp' : ((fr l).tmps[t]?.getD undef) = .pointer (some p) := by rw [← hp]; simp [fr, List.getD]
  exact ⟨rfl, v, by simp [results, h, hp', asAddr, hv], hR⟩
end
end Go.Proofs.Ytffmanidnlbjjaa
namespace Go.Proofs.Ytffmanidnlbjjaa
open Go.RowKit
theorem add_at (g o k : Nat) : (⟨g, o, none⟩ : Addr).add k = ⟨g, o + k, none⟩ := by unfold Addr.add; split <;> simp_all
theorem Upd.has {L L' : List Res} {r r' : Res} (h : Upd L r r' L') : Has L' r' := by
  induction h with
  | head => exact .head
  | tail _ ih => exact .tail ih
/-- cells that lie at a place -/
def At (w : World) (g o : Nat) (cs : List Value) : Prop := ∀ j u, cs[j]? = some u → w.cell? ⟨g, o + j, none⟩ = some u
theorem At.of_obj {w : World} {g : Nat} {cs : Array Value} {t : TypeId} {f : Nat × Nat} (h : w.heap[g]? = some (.cells cs t f)) : At w g 0 cs.toList := fun j u hu => by
  rw [cell_of_row w g (0 + j) cs t f h]; simpa using hu
theorem At.drop {w : World} {g o : Nat} {cs : List Value} (h : At w g o cs) (k : Nat) : At w g (o + k) (cs.drop k) := fun j u hu => by
  rw [Nat.add_assoc]; exact h (k + j) u (by simpa [List.getElem?_drop] using hu)
theorem At.take {w : World} {g o : Nat} {cs : List Value} (h : At w g o cs) (k : Nat) : At w g o (cs.take k) := fun j u hu => by
  refine h j u ?_
  rw [List.getElem?_take] at hu
  split at hu
  · exact hu
  · cases hu
theorem loads_one {P : Program} {w : World} {T : TypeId} {dsc : TypeDesc} {p : Addr} {v : Value} (hu : P.underlying T = some dsc) (hd : isAggD dsc = false) (hv : w.cell? p = some v) : (loadVar T p).run P w = .ok v w := by
  simp [loadVar, run_isAgg_no hu hd, load, Sem.run, hv]
theorem loads_agg {P : Program} {w : World} {T : TypeId} {dsc : TypeDesc} {g o sz by' : Nat} {z : Value} {cs : List Value} (hu : P.underlying T = some dsc) (hd : isAggD dsc = true) (hi : TI P T sz by' z) (hl : cs.length = sz) (hc : At w g o cs) : (loadVar T ⟨g, o, none⟩).run P w = .ok (.agg cs.toArray) w := by
  obtain ⟨i, hi, rfl, _, _⟩ := hi
  have h := run_loadCells_list (P := P) w ⟨g, o, none⟩ cs (fun j v hv => by rw [add_at]; exact hc j v hv)
  rw [hl] at h
  simp [loadVar, run_isAgg_yes hu hd, sizeOf, typeInfo, hi, h]
def splice (cur : List Value) (o : Nat) (vs : List Value) : List Value := cur.take o ++ vs ++ cur.drop (o + vs.length)
theorem length_splice' {cur vs : List Value} {o : Nat} (h : o + vs.length ≤ cur.length) : (splice cur o vs).length = cur.length := by simp [splice]; omega
theorem splice_one {cur : List Value} {o : Nat} {v : Value} (h : o < cur.length) : splice cur o [v] = cur.set o v := by
  unfold splice
  rw [List.set_eq_take_append_cons_drop, if_pos h]
  simp
theorem splice_all {cur vs : List Value} (h : vs.length = cur.length) : splice cur 0 vs = vs := by
  simp [splice, h]
theorem splice_il {k : IntKind} {l : List Int} {i : Nat} {v : Int} (h : i < l.length) : splice (l.map (Value.int k)) i [.int k v] = (l.set i v).map (Value.int k) := by
  rw [splice_one (by simpa using h), List.map_set]
theorem splice_ic {k : IntKind} {l : List Int} {i : Nat} {v : Int} (h : i < l.length) : splice (ic k l).toList i [.int k v] = (l.set i v).map (Value.int k) := splice_il h
theorem splice_whole {cur : Array Value} {vs : List Value} (h : vs.length = cur.size) : splice cur.toList 0 vs = vs := splice_all (by simpa using h)
theorem stores {P : Program} {w : World} {T : TypeId} {g o sz by' : Nat} {z : Value} {cur : Array Value} {t : TypeId} {v : Value} (hi : TI P T sz by' z) (hv : v.cells.size = sz) (h1 : ∀ u ∈ v.cells.toList, u.oneCell' = true) (hg : w.heap[g]? = some (.cells cur t (0, 0))) (hfit : o + sz ≤ cur.size) :
    (storeVar T ⟨g, o, none⟩ v).run P w = .ok () (w.setRow g (splice cur.toList o v.cells.toList).toArray) := by
  obtain ⟨i, hi, rfl, _, _⟩ := hi
  have h := run_storeCells_at P g o t v.cells.toList 0 cur w hg (by simpa [hv] using hfit) h1
  simp only [Nat.add_zero] at h
  simp [storeVar, sizeOf, typeInfo, hi, hv, splice, h]
theorem setRow_keep (w : World) (g : Nat) (cs : Array Value) : Keep (fun k => some g = some k) w (w.setRow g cs) :=
  ⟨rfl, rfl, rfl, by simp, fun k _ hk => setRow_other w g k cs (fun e => hk (by rw [e])), Nat.le_refl _⟩
section
variable {S : Nat → Prop} {w0 w w' : World} {L L' : List Res}
theorem St.obj_at {g : Nat} {cs : Array Value} {t : TypeId} {f : Nat × Nat} (h : St S w0 w L) (hm : Has L (.obj g (.cells cs t f))) : At w g 0 cs.toList := At.of_obj (h.has hm)
theorem St.rd_at {A : Option Addr} {sz n : Nat} {xs : List Value} (h : St S w0 w L) (hm : Has L (.rd A sz n xs)) (hn : 0 < n) : ∃ g o, A = some ⟨g, o, none⟩ ∧ At w g o xs := by
  obtain ⟨_, h2⟩ := h.has hm
  obtain ⟨g, o, e, _, h3⟩ := h2 hn
  exact ⟨g, o, e, h3⟩
theorem vec_at {A : Option Addr} {c : Nat} {e : TypeId} {sz n : Nat} {xs : List Value} (h : w.ownsRow 0 e sz (.slice A n c) n xs) (hn : 0 < n) : ∃ g, A = some ⟨g, 0, none⟩ ∧ At w g 0 xs := by
  obtain ⟨hl, h2⟩ := h
  rcases h2 with ⟨hv, h0⟩ | ⟨g, cap, cur, hv, _, hg, hnc, hcm, hcs, ht⟩
  · omega
  · simp only [Value.slice.injEq] at hv
    refine ⟨g, hv.1, fun j u hu => ?_⟩
    rw [cell_of_row w g (0 + j) cur e (0, 0) hg]
    rw [← ht, List.getElem?_take] at hu
    split at hu
    · simpa using hu
    · cases hu
theorem St.vec_at {A : Option Addr} {c : Nat} {e : TypeId} {sz n : Nat} {xs : List Value} (h : St S w0 w L) (hm : Has L (.vec A c e sz n xs)) (hn : 0 < n) : ∃ g o, A = some ⟨g, o, none⟩ ∧ At w g o xs := by
  obtain ⟨g, e, hc⟩ := Go.Proofs.Ytffmanidnlbjjaa.vec_at (h.has hm) hn
  exact ⟨g, 0, e, hc⟩
/-- what is owned may be given up and only read from then on -/
theorem St.vec_rd {A : Option Addr} {c : Nat} {e : TypeId} {sz n : Nat} {xs : List Value} (h : St S w0 w L) (hu : Upd L (.vec A c e sz n xs) (.rd A sz n xs) L') : St S w0 w L' := by
  have hv := h.holds _ hu.mem
  refine h.weaken hu ⟨hv.1, fun hn => ?_⟩ (by intro g hg; simp [Res.own] at hg) ?_
  · obtain ⟨g, e', hc⟩ := Go.Proofs.Ytffmanidnlbjjaa.vec_at hv hn
    exact ⟨g, 0, e', own_lt hv (by simp [Res.own, e']), hc⟩
  · intro g hg
    simp only [Res.reads] at hg
    split at hg
    · cases hg
    · exact .inl hg
theorem St.obj_rd {g : Nat} {cs : Array Value} {t : TypeId} {f : Nat × Nat} {sz n : Nat} (h : St S w0 w L) (hn : cs.size = n * sz) (hu : Upd L (.obj g (.cells cs t f)) (.rd (some ⟨g, 0, none⟩) sz n cs.toList) L') : St S w0 w L' := by
  have hv := h.holds _ hu.mem
  refine h.weaken hu ⟨by simpa using hn, fun _ => ⟨g, 0, rfl, own_lt hv rfl, At.of_obj hv⟩⟩ (by intro k hk; simp [Res.own] at hk) ?_
  intro k hk
  simp only [Res.reads] at hk
  split at hk
  · cases hk
  · exact .inl (by simpa [Res.own] using hk)
theorem St.obj_vec {g : Nat} {cs : Array Value} {t : TypeId} {sz n : Nat} (h : St S w0 w L) (hn : cs.size = n * sz) (hm : n ≤ maxLen) (hu : Upd L (.obj g (.cells cs t (0, 0))) (.vec (some ⟨g, 0, none⟩) n t sz n cs.toList) L') : St S w0 w L' := by
  have hv := h.holds _ hu.mem
  refine h.weaken hu ⟨by simpa using hn, .inr ⟨g, n, cs, rfl, Nat.zero_le _, hv, Nat.le_refl _, hm, hn, by rw [← hn]; exact List.take_of_length_le (by simp)⟩⟩ (by intro k hk; simpa [Res.own] using hk) (by intro k hk; simp [Res.reads] at hk)
/-- the nil slice is owned by whoever wants it -/
theorem St.nil_vec (h : St S w0 w L) (e : TypeId) (sz : Nat) : St S w0 w (.vec none 0 e sz 0 [] :: L) :=
  h.add Ext.rfl' (World.ownsRow_nil w 0 e sz) (by intro g hg; rcases hg with hg | hg <;> simp [Res.own, Res.reads] at hg)
/-- nothing is read of an empty slice -/
theorem St.rd_none (h : St S w0 w L) (A : Option Addr) (sz : Nat) : St S w0 w (.rd A sz 0 [] :: L) :=
  h.add_rd ⟨by simp, fun hn => absurd hn (by omega)⟩ (by intro r _ g _; simp [Res.reads])
end
section
variable {P : Program} {ops : Array Oper} {Q : Exit → Act → World → Prop} {rest : List Oper} {l : List Value} {w : World} {d : Nat} {ty : TypeId} {pos : String} {aft : Array Edge}
variable {S : Nat → Prop} {w0 : World} {L L' : List Res}
theorem m_box {elem : TypeId} {x : Operand} (hS : St S w0 w L) (h : ∀ w' g, St S w0 w' (.obj g (.cells (opv l x).cells elem (0, 0)) :: L) → WL P ops Q rest (fr (l.set d (.pointer (some ⟨g, 0, none⟩)))) w') : WL P ops Q (⟨some d, .box elem x, ty, pos, aft, none⟩ :: rest) (fr l) w :=
  s_val (w' := w.alloc (.cells (opv l x).cells elem)) (by simp [execOp, Instr.box, newVar, newRow]) (h _ _ (hS.alloc _))
theorem m_alloc {elem : TypeId} {sz by' : Nat} {z : Value} (hi : TI P elem sz by' z) (hS : St S w0 w L) (h : ∀ w' g, St S w0 w' (.obj g (.cells z.cells elem (0, 0)) :: L) → WL P ops Q rest (fr (l.set d (.pointer (some ⟨g, 0, none⟩)))) w') : WL P ops Q (⟨some d, .alloc elem, ty, pos, aft, none⟩ :: rest) (fr l) w := by
  obtain ⟨i, hi, _, _, hz⟩ := hi
  exact s_val (w' := w.alloc (.cells z.cells elem)) (by simp [execOp, Instr.alloc, newVar, newRow, zeroValue, typeInfo, hi, hz]) (h _ _ (hS.alloc _))
/-- a load of one cell -/
theorem m_load {T : TypeId} {x : Operand} {dsc : TypeDesc} {p : Addr} {v : Value} (hu : P.underlying T = some dsc) (hd : isAggD dsc = false := by rfl) (hx : opv l x = .pointer (some p) := by rfl) (hv : w.cell? p = some v) : Go1 P l w ⟨some d, .load T x, ty, pos, aft, none⟩ v :=
  (by unfold Go1; simp [execOp, Instr.loadAt, hx, Instr.sureAddr, loads_one hu hd hv])
theorem m_load_obj {T : TypeId} {x : Operand} {dsc : TypeDesc} {g o : Nat} {cs : Array Value} {t : TypeId} {f : Nat × Nat} {v : Value} (hu : P.underlying T = some dsc) (hd : isAggD dsc = false := by rfl) (hx : opv l x = .pointer (some ⟨g, o, none⟩) := by rfl) (hS : St S w0 w L) (hm : Has L (.obj g (.cells cs t f)) := by repeat (first | exact Has.head | apply Has.tail)) (hv : cs[o]? = some v := by first | rfl | exact ic_get (by first | omega | (simp [*]; done) | (simp [*]; omega)) | exact il_get (by first | omega | (simp [*]; done) | (simp [*]; omega))) : Go1 P l w ⟨some d, .load T x, ty, pos, aft, none⟩ v :=
  m_load hu hd hx (by have := hS.obj_at hm o v (by simpa using hv); simpa using this)
theorem m_load_rd {T : TypeId} {x : Operand} {dsc : TypeDesc} {k : Nat} {A : Option Addr} {sz n : Nat} {xs : List Value} {v : Value} (hu : P.underlying T = some dsc) (hd : isAggD dsc = false := by rfl) (hx : opv l x = .pointer (A.map (·.add k)) := by rfl) (hS : St S w0 w L) (hm : Has L (.rd A sz n xs) := by repeat (first | exact Has.head | apply Has.tail)) (hn : 0 < n := by omega) (hv : xs[k]? = some v := by first | rfl | exact ic_get (by first | omega | (simp [*]; done) | (simp [*]; omega)) | exact il_get (by first | omega | (simp [*]; done) | (simp [*]; omega))) : Go1 P l w ⟨some d, .load T x, ty, pos, aft, none⟩ v := by
  obtain ⟨g, o, rfl, hc⟩ := hS.rd_at hm hn
  exact m_load hu hd (p := ⟨g, o + k, none⟩) (by rw [hx]; simp [add_at]) (hc k v hv)
theorem m_load_vec {T : TypeId} {x : Operand} {dsc : TypeDesc} {k : Nat} {A : Option Addr} {c : Nat} {e : TypeId} {sz n : Nat} {xs : List Value} {v : Value} (hu : P.underlying T = some dsc) (hd : isAggD dsc = false := by rfl) (hx : opv l x = .pointer (A.map (·.add k)) := by rfl) (hS : St S w0 w L) (hm : Has L (.vec A c e sz n xs) := by repeat (first | exact Has.head | apply Has.tail)) (hn : 0 < n := by omega) (hv : xs[k]? = some v := by first | rfl | exact ic_get (by first | omega | (simp [*]; done) | (simp [*]; omega)) | exact il_get (by first | omega | (simp [*]; done) | (simp [*]; omega))) : Go1 P l w ⟨some d, .load T x, ty, pos, aft, none⟩ v := by
  obtain ⟨g, o, rfl, hc⟩ := hS.vec_at hm hn
  exact m_load hu hd (p := ⟨g, o + k, none⟩) (by rw [hx]; simp [add_at]) (hc k v hv)
/-- a load of a struct or an array -/
theorem m_loada {T : TypeId} {x : Operand} {dsc : TypeDesc} {g o sz by' : Nat} {z : Value} {cs : List Value} (hu : P.underlying T = some dsc) (hd : isAggD dsc = true := by rfl) (hi : TI P T sz by' z) (hx : opv l x = .pointer (some ⟨g, o, none⟩) := by rfl) (hl : cs.length = sz) (hc : At w g o cs) : Go1 P l w ⟨some d, .load T x, ty, pos, aft, none⟩ (.agg cs.toArray) :=
  (by unfold Go1; simp [execOp, Instr.loadAt, hx, Instr.sureAddr, loads_agg hu hd hi hl hc])
theorem m_loada_obj {T : TypeId} {x : Operand} {dsc : TypeDesc} {g o sz by' : Nat} {z : Value} {cs : Array Value} {t : TypeId} {f : Nat × Nat} (hu : P.underlying T = some dsc) (hd : isAggD dsc = true := by rfl) (hi : TI P T sz by' z) (hx : opv l x = .pointer (some ⟨g, o, none⟩) := by rfl) (hS : St S w0 w L) (hm : Has L (.obj g (.cells cs t f)) := by repeat (first | exact Has.head | apply Has.tail)) (hfit : o + sz ≤ cs.size := by first | omega | (simp only [ic_size, List.length_map, List.size_toArray]; omega) | (simp [*]; done) | rfl | (simp [*]; omega)) : Go1 P l w ⟨some d, .load T x, ty, pos, aft, none⟩ (.agg ((cs.toList.drop o).take sz).toArray) :=
  m_loada hu hd hi hx (by simp; omega) (by have := ((hS.obj_at hm).drop o).take sz; rwa [Nat.zero_add] at this)
/-- the whole row -/
theorem m_load_row {T : TypeId} {x : Operand} {dsc : TypeDesc} {g sz by' : Nat} {z : Value} {cs : Array Value} {t : TypeId} {f : Nat × Nat} (hu : P.underlying T = some dsc) (hd : isAggD dsc = true := by rfl) (hi : TI P T sz by' z) (hx : opv l x = .pointer (some ⟨g, 0, none⟩) := by rfl) (hS : St S w0 w L) (hm : Has L (.obj g (.cells cs t f)) := by repeat (first | exact Has.head | apply Has.tail)) (hfit : cs.size = sz := by first | omega | (simp only [ic_size, List.length_map, List.size_toArray]; omega) | (simp [*]; done) | rfl | (simp [*]; omega)) : Go1 P l w ⟨some d, .load T x, ty, pos, aft, none⟩ (.agg cs) :=
  by simpa using m_loada (d := d) (ty := ty) (pos := pos) (aft := aft) hu hd hi hx (cs := cs.toList) (by simpa using hfit) (hS.obj_at hm)
/-- a store into an owned row -/
theorem m_store_obj {T : TypeId} {x y : Operand} {g o sz by' : Nat} {z : Value} {cs : Array Value} {t : TypeId} {cs' : List Value} (hi : TI P T sz by' z) (hx : opv l x = .pointer (some ⟨g, o, none⟩) := by rfl) (hv : (opv l y).cells.size = sz := by first | (simp [opv, Value.cells, *]; done) | rfl) (h1 : ∀ u ∈ (opv l y).cells.toList, u.oneCell' = true := by first | exact ic_one _ _ | simp [opv, Value.cells, Value.oneCell']) (hS : St S w0 w L) (_hm : Has L (.obj g (.cells cs t (0, 0))) := by repeat (first | exact Has.head | apply Has.tail)) (hc : splice cs.toList o (opv l y).cells.toList = cs' := by first | exact splice_ic (by first | omega | (simp [*]; done) | (simp [*]; omega)) | exact splice_il (by first | omega | (simp [*]; done) | (simp [*]; omega)) | exact splice_whole (by first | (simp [opv, Value.cells, *]; done) | rfl) | (simp only [opv, n1, n2, Value.cells, splice, List.take_succ_cons, List.take_zero, List.drop_succ_cons, List.drop_zero, List.length_cons, List.length_nil, Nat.zero_add, Nat.reduceAdd, List.append_assoc, List.cons_append, List.nil_append]; rfl)) (hu : Upd L (.obj g (.cells cs t (0, 0))) (.obj g (.cells cs'.toArray t (0, 0))) L' := by repeat (first | exact Upd.head | apply Upd.tail)) (hfit : o + sz ≤ cs.size := by first | omega | (simp only [ic_size, List.length_map, List.size_toArray]; omega) | (simp [*]; done) | rfl | (simp [*]; omega))
    (h : ∀ w', St S w0 w' L' → WL P ops Q rest (fr l) w') : WL P ops Q (⟨none, .store T x y, ty, pos, aft, none⟩ :: rest) (fr l) w := by
  have hg := hS.holds _ hu.mem
  subst hc
  refine s_unit (w' := w.setRow g (splice cs.toList o (opv l y).cells.toList).toArray) (by simp [execOp, Instr.storeAt, hx, Instr.sureAddr, stores hi hv h1 hg hfit]) (h _ ?_)
  exact hS.turn hu (setRow_keep _ _ _) (setRow_heap w g cs _ t (0, 0) hg) (by intro k hk; exact .inl hk) (by intro k hk; simp [Res.reads] at hk)
theorem m_store_vec {T : TypeId} {x y : Operand} {k sz by' : Nat} {z : Value} {A : Option Addr} {c : Nat} {e : TypeId} {esz n : Nat} {xs xs' : List Value} (hi : TI P T sz by' z) (hx : opv l x = .pointer (A.map (·.add k)) := by rfl) (hv : (opv l y).cells.size = sz := by first | (simp [opv, Value.cells, *]; done) | rfl) (h1 : ∀ u ∈ (opv l y).cells.toList, u.oneCell' = true := by first | exact ic_one _ _ | simp [opv, Value.cells, Value.oneCell']) (hS : St S w0 w L) (_hm : Has L (.vec A c e esz n xs) := by repeat (first | exact Has.head | apply Has.tail)) (hc : splice xs k (opv l y).cells.toList = xs' := by first | exact splice_ic (by first | omega | (simp [*]; done) | (simp [*]; omega)) | exact splice_il (by first | omega | (simp [*]; done) | (simp [*]; omega)) | exact splice_whole (by first | (simp [opv, Value.cells, *]; done) | rfl) | (simp only [opv, n1, n2, Value.cells, splice, List.take_succ_cons, List.take_zero, List.drop_succ_cons, List.drop_zero, List.length_cons, List.length_nil, Nat.zero_add, Nat.reduceAdd, List.append_assoc, List.cons_append, List.nil_append]; rfl)) (hu : Upd L (.vec A c e esz n xs) (.vec A c e esz n xs') L' := by repeat (first | exact Upd.head | apply Upd.tail)) (hn : 0 < n := by omega) (hfit : k + sz ≤ xs.length := by first | omega | (simp only [ic_size, List.length_map, List.size_toArray]; omega) | (simp [*]; done) | rfl | (simp [*]; omega))
    (h : ∀ w', St S w0 w' L' → WL P ops Q rest (fr l) w') : WL P ops Q (⟨none, .store T x y, ty, pos, aft, none⟩ :: rest) (fr l) w := by
  have hg := hS.holds _ hu.mem
  subst hc
  obtain ⟨hl, h2⟩ := hg
  rcases h2 with ⟨_, h0⟩ | ⟨g, cap, cur, hvv, _, hg, hnc, hcm, hcs, ht⟩
  · omega
  · simp only [Value.slice.injEq] at hvv
    obtain ⟨rfl, _, rfl⟩ := hvv
    have hlen : xs.length ≤ cur.size := by rw [hl, hcs]; exact Nat.mul_le_mul_right _ hnc
    refine s_unit (w' := w.setRow g (splice cur.toList k (opv l y).cells.toList).toArray) (by
      have hx' : opv l x = .pointer (some ⟨g, k, none⟩) := by rw [hx]; simp [add_at]
      simp [execOp, Instr.storeAt, hx', Instr.sureAddr, stores hi hv h1 hg (o := k) (by omega)]) (h _ ?_)
    have hsz : (splice cur.toList k (opv l y).cells.toList).length = cur.size := by
      rw [length_splice' (by simp [hv]; omega)]; simp
    refine hS.turn hu (setRow_keep _ _ _) ⟨?_, .inr ⟨g, c, _, rfl, Nat.zero_le _, setRow_heap w g cur _ e (0, 0) hg, hnc, hcm, by simpa using hsz.trans hcs, ?_⟩⟩ (by intro k hk; exact .inl hk) (by intro k hk; simp [Res.reads] at hk)
    · rw [length_splice' (by simp [hv]; omega)]; exact hl
    · -- the first cells of the spliced row are the spliced cells
      have hcells : (opv l y).cells.toList.length = sz := by simp [hv]
      unfold splice
      rw [← ht, hcells]
      have hkl : k + sz ≤ n * esz := by omega
      rw [List.take_append, List.take_append]
      have e1 : ((cur.toList.take k).take (n * esz)) = (cur.toList.take (n * esz)).take k := by rw [List.take_take, List.take_take, Nat.min_comm]
      have hkc : (cur.toList.take k).length = k := by simp; omega
      rw [hkc, e1]
      congr 1
      · congr 1
        exact List.take_of_length_le (by rw [hcells]; omega)
      · simp only [List.length_append, hkc, hcells]
        rw [List.drop_take]
theorem obj_loads_agg {T : TypeId} {dsc : TypeDesc} {g sz by' : Nat} {z : Value} {cs : Array Value} {t : TypeId} {f : Nat × Nat} (hu : P.underlying T = some dsc) (hd : isAggD dsc = true) (hi : TI P T sz by' z) (hS : St S w0 w L) (hm : Has L (.obj g (.cells cs t f))) (hfit : cs.size = sz) : (loadVar T ⟨g, 0, none⟩).run P w = .ok (.agg cs) w := by
  have := loads_agg (P := P) hu hd hi (g := g) (o := 0) (cs := cs.toList) (by simpa using hfit) (hS.obj_at hm)
  simpa using this
theorem obj_loads_one {T : TypeId} {dsc : TypeDesc} {g : Nat} {cs : Array Value} {t : TypeId} {f : Nat × Nat} {v : Value} (hu : P.underlying T = some dsc) (hd : isAggD dsc = false) (hS : St S w0 w L) (hm : Has L (.obj g (.cells cs t f))) (hv : cs[0]? = some v) : (loadVar T ⟨g, 0, none⟩).run P w = .ok v w :=
  loads_one hu hd (by have := hS.obj_at hm 0 v (by simpa using hv); simpa using this)
section
variable {fn : Func} {t u : Nat} {T U : TypeId} {dsc : TypeDesc} {g sz by' : Nat} {z : Value} {cs : Array Value} {ct : TypeId} {f : Nat × Nat} {R : Value → World → Prop} {v : Value}
theorem r_cell_agg (h : fn.results = #[.cell t T]) (hu : P.underlying T = some dsc) (hi : TI P T sz by' z) (hd : isAggD dsc = true := by rfl) (hp : l.getD t undef = .pointer (some ⟨g, 0, none⟩) := by rfl) (hS : St S w0 w L) (hm : Has L (.obj g (.cells cs ct f)) := by repeat (first | exact Has.head | apply Has.tail)) (hfit : cs.size = sz := by first | omega | (simp only [ic_size, List.length_map, List.size_toArray]; omega) | (simp [*]; done) | rfl) (hR : R (.agg cs) w) : Rt P fn R (fr l) w := r_cell h hp (obj_loads_agg hu hd hi hS hm hfit) hR
end
theorem m_fieldAddr {T : TypeId} {x : Operand} {j g o : Nat} {fs : Array Field} {f : Field} {sz by' : Nat} {z : Value} (hT : P.underlying T = some (.struct fs)) (hf : fs[j]? = some f := by rfl) (hi : TI P f.type sz by' z) (h0 : 0 < sz := by decide) (hx : opv l x = .pointer (some ⟨g, o, none⟩) := by rfl) : Go1 P l w ⟨some d, .fieldAddr T x j, ty, pos, aft, none⟩ (.pointer (some ⟨g, o + f.offset, none⟩)) := by
  obtain ⟨i, hi, rfl, _, _⟩ := hi
  exact (by unfold Go1; simp [execOp, Instr.fieldAt, run_underlying hT, hf, hx, Instr.sureAddr, fieldPlace, sizeOf, typeInfo, hi, Nat.ne_of_gt h0, add_at])
theorem m_fieldAddr_at {T : TypeId} {x : Operand} {j k : Nat} {A : Option Addr} {g o : Nat} {fs : Array Field} {f : Field} {sz by' : Nat} {z : Value} (hT : P.underlying T = some (.struct fs)) (hf : fs[j]? = some f := by rfl) (hi : TI P f.type sz by' z) (h0 : 0 < sz := by decide) (hx : opv l x = .pointer (A.map (·.add k)) := by rfl) (hA : A = some ⟨g, o, none⟩) : Go1 P l w ⟨some d, .fieldAddr T x j, ty, pos, aft, none⟩ (.pointer (A.map (·.add (k + f.offset)))) := by
  subst hA
  have := m_fieldAddr (w := w) (d := d) (ty := ty) (pos := pos) (aft := aft) hT hf hi h0 (g := g) (o := o + k) (by rw [hx]; simp [add_at])
  simpa [add_at, Nat.add_assoc] using this
theorem m_fieldAddr_rd {T : TypeId} {x : Operand} {j k : Nat} {A : Option Addr} {esz n : Nat} {xs : List Value} {fs : Array Field} {f : Field} {sz by' : Nat} {z : Value} (hT : P.underlying T = some (.struct fs)) (hf : fs[j]? = some f := by rfl) (hi : TI P f.type sz by' z) (h0 : 0 < sz := by decide) (hx : opv l x = .pointer (A.map (·.add k)) := by rfl) (hS : St S w0 w L) (hm : Has L (.rd A esz n xs) := by repeat (first | exact Has.head | apply Has.tail)) (hn : 0 < n := by omega) : Go1 P l w ⟨some d, .fieldAddr T x j, ty, pos, aft, none⟩ (.pointer (A.map (·.add (k + f.offset)))) := by
  obtain ⟨g, o, e, _⟩ := hS.rd_at hm hn
  exact m_fieldAddr_at hT hf hi h0 hx e
theorem m_fieldAddr_vec {T : TypeId} {x : Operand} {j k : Nat} {A : Option Addr} {c : Nat} {e : TypeId} {esz n : Nat} {xs : List Value} {fs : Array Field} {f : Field} {sz by' : Nat} {z : Value} (hT : P.underlying T = some (.struct fs)) (hf : fs[j]? = some f := by rfl) (hi : TI P f.type sz by' z) (h0 : 0 < sz := by decide) (hx : opv l x = .pointer (A.map (·.add k)) := by rfl) (hS : St S w0 w L) (hm : Has L (.vec A c e esz n xs) := by repeat (first | exact Has.head | apply Has.tail)) (hn : 0 < n := by omega) : Go1 P l w ⟨some d, .fieldAddr T x j, ty, pos, aft, none⟩ (.pointer (A.map (·.add (k + f.offset)))) := by
  obtain ⟨g, o, e, _⟩ := hS.vec_at hm hn
  exact m_fieldAddr_at hT hf hi h0 hx e
theorem m_indexAddr_arr {T e : TypeId} {x y : Operand} {n g o : Nat} {sz by' : Nat} {z : Value} {k : IntKind} {i : Int} (hT : P.underlying T = some (.array n e)) (hi : TI P e sz by' z) (hx : opv l x = .pointer (some ⟨g, o, none⟩) := by rfl) (hy : opv l y = .int k i := by rfl) (h0 : 0 ≤ i := by omega) (h1 : i < n := by omega) : Go1 P l w ⟨some d, .indexAddr T x y, ty, pos, aft, none⟩ (.pointer (some ⟨g, o + i.toNat * sz, none⟩)) := by
  obtain ⟨i', hi, rfl, _, _⟩ := hi
  exact (by unfold Go1; simp [execOp, Instr.indexAt, run_underlying hT, hx, hy, asIntOf, Instr.sureAddr, h0, h1, sizeOf, typeInfo, hi, add_at])
theorem m_indexAddr_sl {T e : TypeId} {x y : Operand} {n c g o : Nat} {A : Option Addr} {sz by' : Nat} {z : Value} {k : IntKind} {i : Int} (hT : P.underlying T = some (.slice e)) (hi : TI P e sz by' z) (hx : opv l x = .slice A n c := by rfl) (hy : opv l y = .int k i := by rfl) (h0 : 0 ≤ i := by omega) (h1 : i < n := by omega) (hA : A = some ⟨g, o, none⟩) : Go1 P l w ⟨some d, .indexAddr T x y, ty, pos, aft, none⟩ (.pointer (A.map (·.add (i.toNat * sz)))) := by
  obtain ⟨i', hi, rfl, _, _⟩ := hi
  subst hA
  exact (by unfold Go1; simp [execOp, Instr.indexAt, run_underlying hT, hx, hy, asIntOf, h0, h1, sizeOf, typeInfo, hi, add_at])
theorem m_indexAddr_rd {T e : TypeId} {x y : Operand} {n c : Nat} {A : Option Addr} {esz : Nat} {xs : List Value} {sz by' : Nat} {z : Value} {k : IntKind} {i : Int} (hT : P.underlying T = some (.slice e)) (hi : TI P e sz by' z) (hx : opv l x = .slice A n c := by rfl) (hy : opv l y = .int k i := by rfl) (hS : St S w0 w L) (hm : Has L (.rd A esz n xs) := by repeat (first | exact Has.head | apply Has.tail)) (h0 : 0 ≤ i := by omega) (h1 : i < n := by omega) : Go1 P l w ⟨some d, .indexAddr T x y, ty, pos, aft, none⟩ (.pointer (A.map (·.add (i.toNat * sz)))) := by
  obtain ⟨g, o, e, _⟩ := hS.rd_at hm (by omega)
  exact m_indexAddr_sl hT hi hx hy h0 h1 e
theorem m_indexAddr_vec {T e : TypeId} {x y : Operand} {n c : Nat} {A : Option Addr} {e' : TypeId} {esz : Nat} {xs : List Value} {sz by' : Nat} {z : Value} {k : IntKind} {i : Int} (hT : P.underlying T = some (.slice e)) (hi : TI P e sz by' z) (hx : opv l x = .slice A n c := by rfl) (hy : opv l y = .int k i := by rfl) (hS : St S w0 w L) (hm : Has L (.vec A c e' esz n xs) := by repeat (first | exact Has.head | apply Has.tail)) (h0 : 0 ≤ i := by omega) (h1 : i < n := by omega) : Go1 P l w ⟨some d, .indexAddr T x y, ty, pos, aft, none⟩ (.pointer (A.map (·.add (i.toNat * sz)))) := by
  obtain ⟨g, o, e, _⟩ := hS.vec_at hm (by omega)
  exact m_indexAddr_sl hT hi hx hy h0 h1 e
theorem m_buildSlice {T e : TypeId} {n : Nat} {parts : Array (Nat × Operand)} {sz by' : Nat} {z : Value} {cells : Array Value} (hT : P.underlying T = some (.slice e)) (hi : TI P e sz by' z) (hsm : n * sz ≤ 2 ^ 24 := by decide)
    (hc : Instr.fill (fun i => some (i * sz, sz)) ((Array.range (n * sz)).map (fun j => z.cells[j % z.cells.size]!)) (parts.map fun (i, x) => (i, opv l x)).toList = some cells) (hS : St S w0 w L)
    (h : ∀ w' g, St S w0 w' (.obj g (.cells cells e (0, 0)) :: L) → WL P ops Q rest (fr (l.set d (.slice (some ⟨g, 0, none⟩) n n))) w') : WL P ops Q (⟨some d, .buildSlice T n parts, ty, pos, aft, none⟩ :: rest) (fr l) w := by
  obtain ⟨i, hi, rfl, _, hz⟩ := hi
  refine s_val (w' := w.alloc (.cells cells e)) ?_ (h _ _ (hS.alloc _))
  have h24 : ¬ (2 ^ 24 < n * i.size) := by omega
  by_cases h0 : n * i.size = 0
  · have hc' : Instr.fill (fun j => some (j * i.size, i.size)) ((Array.range (n * i.size)).map (fun j => (#[] : Array Value)[j % (#[] : Array Value).size]!)) (parts.map fun (j, x) => (j, opv l x)).toList = some cells := by
      have e0 : ∀ f : Nat → Value, (Array.range 0).map f = #[] := fun f => by simp
      rw [← hc, h0, e0, e0]
    simp [execOp, Instr.buildSlice, run_underlying hT, sizeOf, typeInfo, hi, newRow, h0] at hc' ⊢
    rw [hc']
    rfl
  · simp [execOp, Instr.buildSlice, run_underlying hT, sizeOf, typeInfo, hi, newRow, h0, zeroValue, hz, h24] at hc ⊢
    rw [hc]
    rfl
theorem m_slice {T e : TypeId} {x : Operand} {A : Option Addr} {n c : Nat} {sz by' : Nat} {z : Value} {lo hi : Nat} {lo' hi' mx' : Option Operand} (hT : P.underlying T = some (.slice e)) (hi0 : TI P e sz by' z) (hx : opv l x = .slice A n c := by rfl)
    (hlo : (match lo' with | none => lo = 0 | some q => ∃ k, opv l q = .int k (lo : Int))) (hhi : (match hi' with | none => hi = n ∧ mx' = none | some q => ∃ k, opv l q = .int k (hi : Int)))
    {m : Nat} (hmx : (match mx' with | none => m = c | some q => ∃ k, opv l q = .int k (m : Int))) (h1 : lo ≤ hi := by omega) (h2 : hi ≤ m := by omega) (h3 : m ≤ c := by omega) : Go1 P l w ⟨some d, .slice T x lo' hi' mx', ty, pos, aft, none⟩ (.slice (if m = lo then A else A.map (·.add (lo * sz))) (hi - lo) (m - lo)) := by
  obtain ⟨i, hi0, rfl, _, _⟩ := hi0
  have hb : ∀ (k : IntKind) (a b : Nat) (code : BoundsCode), a ≤ b → (Instr.sliceBound (.int k (a : Int)) b code).run P w = .ok a w := fun k a b code hab => by
    simp [Instr.sliceBound, asIntOf, hab]
  unfold Go1
  have hU : ∀ q : Value, (Instr.sliceAt T (.slice A n c) q none none).run P w = (Instr.slice T (.slice A n c) q none none).run P w := fun q => by simp [Instr.sliceAt, run_underlying hT]
  have hU' : ∀ (q r s : Option Value), (Instr.sliceAt T (.slice A n c) q r s).run P w = (Instr.slice T (.slice A n c) q r s).run P w := fun q r s => by simp [Instr.sliceAt, run_underlying hT]
  have hm' : m = c → hi ≤ c := fun e => by omega
  cases lo' with
  | none =>
    subst hlo
    cases hi' with
    | none =>
      obtain ⟨rfl, rfl⟩ := hhi
      simp only at hmx
      subst hmx
      simp [execOp, hx, hU', Instr.slice, run_underlying hT, Instr.sliceBounds, sizeOf, typeInfo, hi0]
    | some q =>
      obtain ⟨k, hk⟩ := hhi
      cases mx' with
      | none =>
        simp only at hmx
        subst hmx
        simp [execOp, hx, hk, hU', Instr.slice, run_underlying hT, Instr.sliceBounds, hb k hi m _ h2, sizeOf, typeInfo, hi0]
      | some q2 =>
        obtain ⟨k2, hk2⟩ := hmx
        simp [execOp, hx, hk, hk2, hU', Instr.slice, run_underlying hT, Instr.sliceBounds, hb k hi m _ h2, hb k2 m c _ h3, sizeOf, typeInfo, hi0]
  | some p =>
    obtain ⟨kl, hkl⟩ := hlo
    cases hi' with
    | none =>
      obtain ⟨rfl, rfl⟩ := hhi
      simp only at hmx
      subst hmx
      simp [execOp, hx, hkl, hU', Instr.slice, run_underlying hT, Instr.sliceBounds, hb kl lo hi _ h1, sizeOf, typeInfo, hi0]
    | some q =>
      obtain ⟨k, hk⟩ := hhi
      cases mx' with
      | none =>
        simp only at hmx
        subst hmx
        simp [execOp, hx, hkl, hk, hU', Instr.slice, run_underlying hT, Instr.sliceBounds, hb k hi m _ h2, hb kl lo hi _ h1, sizeOf, typeInfo, hi0]
      | some q2 =>
        obtain ⟨k2, hk2⟩ := hmx
        simp [execOp, hx, hkl, hk, hk2, hU', Instr.slice, run_underlying hT, Instr.sliceBounds, hb k hi m _ h2, hb kl lo hi _ h1, hb k2 m c _ h3, sizeOf, typeInfo, hi0]
end
end Go.Proofs.Ytffmanidnlbjjaa
namespace Go.Proofs.Ytffmanidnlbjjaa
open Go.RowKit
theorem wr_i64 {a : Int} (h0 : -9223372036854775808 ≤ a) (h1 : a ≤ 9223372036854775807) : IntKind.i64.wrap a = a := IntWalk.i64_in a ⟨h0, h1⟩
theorem wr_u8 {a : Int} (h0 : 0 ≤ a) (h1 : a ≤ 255) : IntKind.u8.wrap a = a := IntWalk.u8_in a ⟨h0, h1⟩
theorem wr_u32 {a : Int} (h0 : 0 ≤ a) (h1 : a ≤ 4294967295) : IntKind.u32.wrap a = a := IntWalk.u32_in a ⟨h0, h1⟩
theorem wr_u64 {a : Int} (h0 : 0 ≤ a) (h1 : a ≤ 18446744073709551615) : IntKind.u64.wrap a = a := IntWalk.u64_in a ⟨h0, h1⟩
def CAt (cs : Array Value) (off : Nat) (vs : List Value) : Prop := ∀ j u, vs[j]? = some u → cs[off + j]? = some u
theorem CAt.app {cs : Array Value} {off : Nat} {a b : List Value} (h : CAt cs off (a ++ b)) : CAt cs off a ∧ CAt cs (off + a.length) b := by
  refine ⟨fun j u hu => h j u ?_, fun j u hu => ?_⟩
  · rw [List.getElem?_append_left (List.getElem?_eq_some_iff.1 hu).1]; exact hu
  · rw [Nat.add_assoc]; refine h _ u ?_
    rw [List.getElem?_append_right (by omega)]; simpa using hu
theorem CAt.extract {cs : Array Value} {off : Nat} {vs : List Value} (h : CAt cs off vs) : CAt (cs.extract off (off + vs.length)) 0 vs := fun j u hu => by
  have hj := (List.getElem?_eq_some_iff.1 hu).1
  have := h j u hu
  have hlt := (Array.getElem?_eq_some_iff.1 this).1
  rw [Nat.zero_add, Array.getElem?_extract, if_pos (by omega)]
  exact this
theorem CAt.of_list (vs : List Value) : CAt vs.toArray 0 vs := fun j u hu => by simpa using hu
def zi (ks : List IntKind) (xs : List Int) : List Value := List.zipWith Value.int ks xs
theorem zi_app {k1 k2 : List IntKind} {x1 x2 : List Int} (h : x1.length = k1.length) : zi (k1 ++ k2) (x1 ++ x2) = zi k1 x1 ++ zi k2 x2 := List.zipWith_append h.symm
theorem zi_len {ks : List IntKind} {xs : List Int} (h : xs.length = ks.length) : (zi ks xs).length = ks.length := by simp [zi, h]
theorem zi_rep (k : IntKind) : ∀ (l : List Int), zi (List.replicate l.length k) l = l.map (Value.int k)
  | [] => rfl
  | x :: l => by
    have := zi_rep k l
    simp only [zi] at this
    simp [zi, List.replicate_succ, this]
/-- what '==' answers at two parts -/
def EqP (P : Program) (D : Nat) (t : TypeId) (ks : List IntKind) : Prop := ∀ d, D ≤ d → ∀ (w : World) (c1 c2 : Array Value) (o1 o2 : Nat) (xs ys : List Int), xs.length = ks.length → ys.length = ks.length → CAt c1 o1 (zi ks xs) → CAt c2 o2 (zi ks ys) →
  ∃ a b, (part t c1 o1).run P w = .ok a w ∧ (part t c2 o2).run P w = .ok b w ∧ (Op.equalIn d t a b).run P w = .ok (decide (xs = ys)) w
def EqV (P : Program) (D : Nat) (t : TypeId) (ks : List IntKind) : Prop := ∀ d, D ≤ d → ∀ (w : World) (c1 c2 : Array Value) (xs ys : List Int), xs.length = ks.length → ys.length = ks.length → CAt c1 0 (zi ks xs) → CAt c2 0 (zi ks ys) →
  (Op.equalIn d t (.agg c1) (.agg c2)).run P w = .ok (decide (xs = ys)) w
theorem eq_int {P : Program} {t : TypeId} {k : IntKind} (h : P.underlying t = some (.int k)) : EqP P 1 t [k] := by
  intro d hd w c1 c2 o1 o2 xs ys hx hy h1 h2
  match xs, hx, ys, hy with
  | [x], _, [y], _ =>
    refine ⟨.int k x, .int k y, part_one h rfl ?_, part_one h rfl ?_, ?_⟩
    · simpa using h1 0 _ rfl
    · simpa using h2 0 _ rfl
    · obtain ⟨d, rfl⟩ : ∃ e, d = e + 1 := ⟨d - 1, by omega⟩
      rw [run_equalIn_int w d t k k x y h]
      congr 1
      by_cases e : x = y <;> simp [e]
theorem eq_arr {P : Program} {D : Nat} {t e : TypeId} {n : Nat} {ks : List IntKind} {sz by' : Nat} {z : Value} (h : P.underlying t = some (.array n e)) (hi : TI P e sz by' z) (hs : ks.length = sz) (hp : EqP P D e ks) : EqV P (D + 1) t (List.replicate n ks).flatten := by
  intro d hd w c1 c2 xs ys hx hy h1 h2
  obtain ⟨d, rfl⟩ : ∃ e, d = e + 1 := ⟨d - 1, by omega⟩
  obtain ⟨i, hi, rfl, _, _⟩ := hi
  simp only [Op.equalIn, Sem.run_bind, run_underlying h, Result.andThen_ok, sizeOf, typeInfo, Sem.run_pure]
  have hti : (program).run P w = .ok P w := rfl
  simp only [hti, Result.andThen_ok, hi, Sem.run_pure]
  rw [Std.Legacy.Range.forIn_eq_forIn_range']
  simp only [Std.Legacy.Range.size, Nat.sub_zero, Nat.add_sub_cancel, Nat.div_one]
  -- the rounds from number s on
  have key : ∀ (m s : Nat) (xs ys : List Int), xs.length = (List.replicate m ks).flatten.length → ys.length = (List.replicate m ks).flatten.length → CAt c1 (s * i.size) (zi (List.replicate m ks).flatten xs) → CAt c2 (s * i.size) (zi (List.replicate m ks).flatten ys) →
      (((forIn (List.range' s m) ((none, ()) : Option Bool × Unit) fun j _ => do
        let a ← part e c1 (j * i.size)
        let b ← part e c2 (j * i.size)
        let r ← Op.equalIn d e a b
        if (!r) = true then pure (ForInStep.done (some false, ())) else
          pure (ForInStep.yield (none, ()))) : Sem _).run P w) = .ok (if xs = ys then (none, ()) else (some false, ())) w := by
    intro m
    induction m with
    | zero =>
      intro s xs ys hx hy _ _
      have := List.eq_nil_of_length_eq_zero (by simpa using hx)
      have := List.eq_nil_of_length_eq_zero (by simpa using hy)
      subst_vars
      simp
    | succ m ih =>
      intro s xs ys hx hy h1 h2
      rw [List.replicate_succ, List.flatten_cons] at hx hy h1 h2
      obtain ⟨xa, xb, rfl, hxa⟩ : ∃ xa xb, xs = xa ++ xb ∧ xa.length = ks.length := ⟨xs.take ks.length, xs.drop ks.length, (List.take_append_drop _ _).symm, by simp at hx ⊢; omega⟩
      obtain ⟨ya, yb, rfl, hya⟩ : ∃ ya yb, ys = ya ++ yb ∧ ya.length = ks.length := ⟨ys.take ks.length, ys.drop ks.length, (List.take_append_drop _ _).symm, by simp at hy ⊢; omega⟩
      rw [zi_app hxa] at h1
      rw [zi_app hya] at h2
      obtain ⟨h1a, h1b⟩ := h1.app
      obtain ⟨h2a, h2b⟩ := h2.app
      rw [zi_len hxa, hs, ← Nat.succ_mul] at h1b
      rw [zi_len hya, hs, ← Nat.succ_mul] at h2b
      obtain ⟨a, b, ra, rb, re⟩ := hp d (by omega) w c1 c2 _ _ xa ya hxa hya h1a h2a
      have hI := ih (s + 1) xb yb (by simp at hx ⊢; omega) (by simp at hy ⊢; omega) h1b h2b
      simp only [List.range'_succ, List.forIn_cons, Sem.run_bind, ra, rb, re, Result.andThen_ok]
      by_cases e : xa = ya
      · subst e
        simp only [decide_true, Bool.not_true, Bool.false_eq_true, if_false, Sem.run_pure, Result.andThen_ok, List.append_cancel_left_eq]
        exact hI
      · have : ¬ (xa ++ xb = ya ++ yb) := fun h => e (List.append_inj h (by omega)).1
        simp [e, this]
  have hk := key n 0 xs ys hx hy (by simpa using h1) (by simpa using h2)
  rw [hk]
  by_cases e : xs = ys <;> simp [e]
end Go.Proofs.Ytffmanidnlbjjaa
namespace Go.Proofs.Ytffmanidnlbjjaa
open Go.RowKit
theorem Del.upd {L L1 : List Res} {r : Res} (h : Del L r L1) (r' : Res) : ∃ L', Upd L r r' L' ∧ L'.Perm (r' :: L1) := by
  induction h with
  | head => exact ⟨_, .head, .refl _⟩
  | @tail s r L L' _ ih =>
    obtain ⟨M, hu, hp⟩ := ih
    exact ⟨s :: M, .tail hu, (hp.cons s).trans (.swap _ _ _)⟩
theorem Del.mem {L L1 : List Res} {r : Res} (h : Del L r L1) : r ∈ L := by
  induction h with
  | head => simp
  | tail _ ih => simp [ih]
theorem Del.mem_of {L L1 : List Res} {r s : Res} (h : Del L r L1) (hs : s ∈ L1) : s ∈ L := by
  induction h with
  | head => simp [hs]
  | tail _ ih => rcases List.mem_cons.1 hs with rfl | hs
                 · simp
                 · simp [ih hs]
section
variable {S : Nat → Prop} {w0 w w' : World} {L L1 : List Res} {r r' : Res}
/-- one resource turns, and is put in front -/
theorem St.turn_front (h : St S w0 w L) (hd : Del L r L1) (hk : Keep (fun k => r.own = some k) w w') (hr : r'.holds w')
    (ho : ∀ g, r'.own = some g → r.own = some g ∨ w.heap.size ≤ g) (hn : ∀ g, r'.reads = some g → r.own = some g ∨ r.reads = some g ∨ w.heap.size ≤ g) : St S w0 w' (r' :: L1) := by
  obtain ⟨L', hu, hp⟩ := hd.upd r'
  exact (h.turn hu hk hr ho hn).perm hp
theorem St.front (h : St S w0 w L) (hd : Del L r L1) : St S w0 w (r :: L1) := h.perm hd.perm
end
theorem keep_of_grown {w w' : World} {v : Value} {A : Option Addr} {n c : Nat} (hv : v = .slice A n c) (h : w.grownBy w' v.ownBlock) (hd : w.drawn ≤ w'.drawn) : Keep (fun k => A.map (·.block) = some k) w w' := by
  subst hv
  refine ⟨h.os, h.tape, h.output, h.size, fun k hk hs => h.block k hk (fun e => hs ?_), hd⟩
  rw [e]
  cases A <;> rfl
section
variable {P : Program} {w : World}
/-- the append of nothing -/
theorem run_append_zero {t ty e : TypeId} {i : TypeInfo} (ht : P.underlying t = some (.slice e)) (hi : P.info? e = some i) {A B : Option Addr} {n c c2 : Nat} (hnc : n ≤ c) :
    (Builtin.append_ #[t, t] ty #[.slice A n c, .slice B 0 c2]).run P w = .ok (.slice A n c) w := by
  cases A <;> cases B <;> simp [Builtin.append_, run_underlying ht, sizeOf, typeInfo, hi, Builtin.lenOf, Builtin.firstCells, hnc, storeCells, loadCells, loadCellsFrom]
theorem append_drawn {t ty e : TypeId} {i : TypeInfo} {z : Value} (ht : P.underlying t = some (.slice e)) (hi : P.info? e = some i) (hz : i.zero = some z) (hsz : 0 < i.size) {A : Option Addr} {n c : Nat} {xs : List Value} (hown : w.ownsRow 0 e i.size (.slice A n c) n xs)
    {a : Addr} {m c2 : Nat} {news : List Value} (hm : 0 < m) (hl : news.length = m * i.size) (hnews : ∀ j u, news[j]? = some u → w.cell? (a.add j) = some u) (h1 : ∀ u ∈ news, u.oneCell' = true) (h63 : n + m ≤ maxLen) (hby : (n + m) * i.bytes ≤ 140737488355328) {v' : Value} {w' : World}
    (hrun : (Builtin.append_ #[t, t] ty #[.slice A n c, .slice (some a) m c2]).run P w = .ok v' w') : w.drawn ≤ w'.drawn := by
  have hsmall : n + m ≤ 9223372036854775807 := by simp only [maxLen] at h63; omega
  rcases hown.2 with ⟨hv, h0⟩ | ⟨g, cap, cur, hv, hbg, hg, hnc, hcm, hcs, htake⟩
  · simp only [Value.slice.injEq] at hv
    obtain ⟨rfl, rfl, rfl⟩ := hv
    have hr := run_append_nil (P := P) w t ty e i z ht hi hz a m c2 news hl hnews (by omega) (by omega) (by have hb := hby; simp only [Nat.zero_add] at hb; omega)
    rw [hr] at hrun
    simp only [Result.ok.injEq] at hrun
    rw [← hrun.2]; exact Nat.le_succ _
  · simp only [Value.slice.injEq] at hv
    obtain ⟨rfl, _, rfl⟩ := hv
    by_cases hroom : n + m ≤ c
    · have hfit : n * i.size + news.length ≤ cur.size := by rw [hl, hcs, ← Nat.add_mul]; exact Nat.mul_le_mul_right _ hroom
      have hr := run_append_room (P := P) w t ty e i ht hi g n c cur hg a m c2 news hl hnews h1 hroom hfit
      rw [hr] at hrun
      simp only [Result.ok.injEq] at hrun
      rw [← hrun.2]; exact Nat.le_refl _
    · have holds : ∀ j u, xs[j]? = some u → w.cell? ((⟨g, 0, none⟩ : Addr).add j) = some u := hown.cells (g := g) rfl
      have hr := run_append_grow (P := P) w t ty e i z ht hi hz ⟨g, 0, none⟩ n c xs hown.1 holds a m c2 news hl hnews (by omega) (by omega) (growslice_fits (by omega) hby)
      rw [hr] at hrun
      simp only [Result.ok.injEq] at hrun
      rw [← hrun.2]; exact Nat.le_succ _
theorem run_append_all {t ty e : TypeId} {sz by' : Nat} {z : Value} (ht : P.underlying t = some (.slice e)) (hi : TI P e sz by' z) (hsz : 0 < sz) (hzs : z.cells.size = sz) {A : Option Addr} {n c : Nat} {xs : List Value} (hown : w.ownsRow 0 e sz (.slice A n c) n xs)
    {B : Option Addr} {m c2 : Nat} {news : List Value} (hr : Rd w B sz m news) (h1 : ∀ u ∈ news, u.oneCell' = true) (h63 : n + m ≤ maxLen) (hby : (n + m) * by' ≤ 140737488355328) :
    ∃ A' c' w', (Builtin.append_ #[t, t] ty #[.slice A n c, .slice B m c2]).run P w = .ok (.slice A' (n + m) c') w' ∧ w'.ownsRow 0 e sz (.slice A' (n + m) c') (n + m) (xs ++ news) ∧ Keep (fun k => A.map (·.block) = some k) w w' ∧ (∀ g, A'.map (·.block) = some g → A.map (·.block) = some g ∨ w.heap.size ≤ g) := by
  obtain ⟨i, hi, rfl, rfl, hz⟩ := hi
  rcases Nat.eq_zero_or_pos m with rfl | hm
  · have hnil : news = [] := List.eq_nil_of_length_eq_zero (by simpa using hr.1)
    subst hnil
    have hnc : n ≤ c := by
      rcases hown.2 with ⟨hv, h0⟩ | ⟨g, cap, cur, hv, _, _, hnc, _⟩
      · omega
      · simp only [Value.slice.injEq] at hv; omega
    exact ⟨A, c, w, run_append_zero ht hi hnc, by simpa using hown, Keep.refl _ _, fun g hg => .inl hg⟩
  · obtain ⟨hl, h2⟩ := hr
    obtain ⟨g, o, rfl, _, hc⟩ := h2 hm
    obtain ⟨v', w', hrun, hown', hgrow, _, hat⟩ := run_append_own_at (P := P) w 0 t ty e i z i.size i.bytes ht hi hz rfl rfl hzs hsz _ n xs hown ⟨g, o, none⟩ m c2 news hl (fun j u hu => by rw [add_at]; exact hc j u hu) h1 h63 hby (Nat.zero_le _)
    have hdr := append_drawn ht hi hz hsz hown hm hl (fun j u hu => by rw [add_at]; exact hc j u hu) h1 h63 hby hrun
    rcases hown'.2 with ⟨_, h0⟩ | ⟨g', cap, cur, hv, hrest⟩
    · omega
    · subst hv
      refine ⟨some ⟨g', 0, none⟩, cap, w', hrun, hown', keep_of_grown rfl hgrow hdr, fun k hk => ?_⟩
      simp at hk
      subst hk
      rcases hat with h5 | h5
      · left
        have h6 : (Value.slice A n c).ownBlock = some g' := by rw [← h5]; rfl
        cases A with
        | none => simp [Value.ownBlock] at h6
        | some a => simpa [Value.ownBlock] using h6
      · right
        simp [Value.ownBlock] at h5
        omega
end
section
variable {P : Program} {ops : Array Oper} {Q : Exit → Act → World → Prop} {rest : List Oper} {l : List Value} {w : World} {d : Nat} {ty : TypeId} {pos : String} {aft : Array Edge}
variable {S : Nat → Prop} {w0 : World} {L L1 : List Res}
theorem m_append {T e : TypeId} {x y : Operand} {sz by' : Nat} {z : Value} {A B : Option Addr} {n c m c2 : Nat} {xs news : List Value} (hT : P.underlying T = some (.slice e)) (hi : TI P e sz by' z) (hsz : 0 < sz ∧ z.cells.size = sz := by decide) (hx : opv l x = .slice A n c := by rfl) (hy : opv l y = .slice B m c2 := by rfl) (hS : St S w0 w L)
    (hd : Del L (.vec A c e sz n xs) L1 := by repeat (first | exact Del.head | apply Del.tail)) (hm : Has L1 (.rd B sz m news) := by repeat (first | exact Has.head | apply Has.tail)) (h1 : ∀ u ∈ news, u.oneCell' = true := by first | exact ic_one _ _ | exact il_one _ _ | simp [Value.oneCell']) (h63 : n + m ≤ maxLen := by first | omega | (simp only [maxLen]; omega)) (hby : (n + m) * by' ≤ 140737488355328 := by omega)
    (h : ∀ w' A' c', St S w0 w' (.vec A' c' e sz (n + m) (xs ++ news) :: L1) → WL P ops Q rest (fr (l.set d (.slice A' (n + m) c'))) w') : WL P ops Q (⟨some d, .call { callee := .builtin .append, args := #[x, y], argTypes := #[T, T] }, ty, pos, aft, none⟩ :: rest) (fr l) w := by
  have hown := hS.holds _ hd.mem
  have hr : Rd w B sz m news := hS.holds _ (hd.mem_of hm.mem)
  obtain ⟨A', c', w', hrun, hown', hk, hat⟩ := run_append_all (t := T) (ty := ty) hT hi hsz.1 hsz.2 hown (c2 := c2) hr h1 h63 hby
  refine s_val (v := .slice A' (n + m) c') (w' := w') (by simp [execOp, resolve, invoke, builtin, hx, hy, hrun]) (h w' A' c' ?_)
  exact hS.turn_front hd hk hown' (fun g hg => hat g hg) (by intro g hg; simp [Res.reads] at hg)
theorem run_eql_agg {T : TypeId} {D : Nat} {ks : List IntKind} {X Y : Array Value} {xs ys : List Int} (he : EqV P D T ks) (hD : D ≤ 10000) (hX : X = (zi ks xs).toArray) (hY : Y = (zi ks ys).toArray) (h1 : xs.length = ks.length) (h2 : ys.length = ks.length) (w : World) : (Op.equal T (.agg X) (.agg Y)).run P w = .ok (decide (xs = ys)) w := by
  subst hX hY
  exact he 10000 hD w _ _ xs ys h1 h2 (CAt.of_list _) (CAt.of_list _)
theorem s_eql_agg {T yT : TypeId} {x y : Operand} {D : Nat} {ks : List IntKind} {X Y : Array Value} {xs ys : List Int} (he : EqV P D T ks) (hD : D ≤ 10000 := by decide) (hg : P.eqGuardType P.depth T = false) (hx : opv l x = .agg X := by rfl) (hy : opv l y = .agg Y := by rfl) (hX : X = (zi ks xs).toArray) (hY : Y = (zi ks ys).toArray) (h1 : xs.length = ks.length) (h2 : ys.length = ks.length) : Go1 P l w ⟨some d, .binOp .eql T x y yT, ty, pos, aft, none⟩ (.bool (decide (xs = ys))) := by
  have hr := run_eql_agg he hD hX hY h1 h2 w
  have hgu := run_eqGuard_agg (P := P) w .eql T x y X Y hg
  unfold Go1
  simp [execOp, hx, hy, hgu, binOp, hr]
theorem s_neq_agg {T yT : TypeId} {x y : Operand} {D : Nat} {ks : List IntKind} {X Y : Array Value} {xs ys : List Int} (he : EqV P D T ks) (hD : D ≤ 10000 := by decide) (hg : P.eqGuardType P.depth T = false) (hx : opv l x = .agg X := by rfl) (hy : opv l y = .agg Y := by rfl) (hX : X = (zi ks xs).toArray) (hY : Y = (zi ks ys).toArray) (h1 : xs.length = ks.length) (h2 : ys.length = ks.length) : Go1 P l w ⟨some d, .binOp .neq T x y yT, ty, pos, aft, none⟩ (.bool (!decide (xs = ys))) := by
  have hr := run_eql_agg he hD hX hY h1 h2 w
  have hgu := run_eqGuard_agg (P := P) w .neq T x y X Y hg
  unfold Go1
  simp [execOp, hx, hy, hgu, binOp, hr]
theorem zi_ic {k : IntKind} {n : Nat} {l : List Int} (h : l.length = n) : ic k l = (zi (List.replicate n k) l).toArray := by subst h; rw [zi_rep]; rfl
end
end Go.Proofs.Ytffmanidnlbjjaa
namespace Go.Proofs.Ytffmanidnlbjjaa
open Go.RowKit
/-- the walk in the text's order, shut -/
structure WQ (P : Program) (ops : Array Oper) (C : World → Prop) (Q : Act → Prop) (os : List Oper) (a : Act) : Prop where
  run : wpQuiet P ops C Q os a
section
variable {P : Program} {ops : Array Oper} {C : World → Prop} {Q : Act → Prop} {rest : List Oper} {l : List Value} {d : Nat} {v : Value} {ty : TypeId} {pos : String} {aft : Array Edge}
theorem q_step {o : Oper} {x : Value} (hw : Region.wanted o (yielded ops (fr l).tmps) = true) (h1 : ∀ w, C w → o.quietAt P (fr l) C w x) (h : WQ P ops C Q rest ((fr l).put o.dst x)) : WQ P ops C Q (o :: rest) (fr l) := by
  refine ⟨?_⟩
  simp only [wpQuiet, hw, if_true]
  exact ⟨x, h1, h.run⟩
theorem wanted_none {dst : Option Nat} {op : Op} {f : Nat → Option Bool} : Region.wanted ⟨dst, op, ty, pos, aft, none⟩ f = true := by simp [Region.wanted]
theorem q_go {op : Op} (H : ∀ w, C w → Go1 P l w ⟨some d, op, ty, pos, aft, none⟩ v) (h : WQ P ops C Q rest (fr (l.set d v))) : WQ P ops C Q (⟨some d, op, ty, pos, aft, none⟩ :: rest) (fr l) :=
  q_step (x := v) wanted_none (fun w hC => by
    have := H w hC
    unfold Go1 at this
    unfold Oper.quietAt
    rw [eval_fr, this]
    exact ⟨rfl, rfl⟩) (by rw [put_fr]; exact h)
theorem q_call_any {dst : Option Nat} {op : Op} {f : Nat} {args : Array Value} (hr : ∀ w, C w → (execOp (opv l) ⟨dst, op, ty, pos, aft, none⟩).run P w = .ok (.enter f args) w) (H : ∀ w, C w → CallR P f args w fun v' w' => v' = v ∧ C w') (h : WQ P ops C Q rest ((fr l).put dst v)) : WQ P ops C Q (⟨dst, op, ty, pos, aft, none⟩ :: rest) (fr l) :=
  q_step (x := v) wanted_none (fun w hC => by
    unfold Oper.quietAt
    rw [eval_fr, hr w hC]
    refine ⟨rfl, Calls.mono (H w hC) ?_⟩
    rintro e w' ⟨v', rfl, rfl, hC'⟩
    exact ⟨rfl, hC'⟩) h
theorem q_call {f : Nat} {args : Array Operand} {tys : Array TypeId} (he : Enters P f) (H : ∀ w, C w → CallR P f (args.map (opv l)) w fun v' w' => v' = v ∧ C w') (h : WQ P ops C Q rest (fr (l.set d v))) : WQ P ops C Q (⟨some d, .call { callee := .value (.func f), args := args, argTypes := tys }, ty, pos, aft, none⟩ :: rest) (fr l) :=
  q_call_any (fun w _ => by
    have := he (args.map (opv l) ++ #[]) w
    simp only [Array.append_empty] at this
    simp [execOp, resolve, opv, Deferred.ofValue, invoke, this]) H (by rw [put_fr]; exact h)
theorem q_on {dst : Option Nat} {op : Op} {g : Nat × Bool} (hg : yielded ops (l.toArray) g.1 = some g.2) (h : WQ P ops C Q (⟨dst, op, ty, pos, aft, none⟩ :: rest) (fr l)) : WQ P ops C Q (⟨dst, op, ty, pos, aft, some g⟩ :: rest) (fr l) := by
  have h1 : Region.wanted ⟨dst, op, ty, pos, aft, some g⟩ (yielded ops (fr l).tmps) = true := by simp [Region.wanted, fr, hg]
  replace h := h.run
  refine ⟨?_⟩
  simp only [wpQuiet, h1, wanted_none, if_true] at h ⊢
  exact h
theorem q_off {op : Op} {g : Nat × Bool} (hg : yielded ops (l.toArray) g.1 = some (!g.2)) (h : WQ P ops C Q rest (fr (l.set d undef))) : WQ P ops C Q (⟨some d, op, ty, pos, aft, some g⟩ :: rest) (fr l) := by
  have h1 : Region.wanted ⟨some d, op, ty, pos, aft, some g⟩ (yielded ops (fr l).tmps) = false := by simp [Region.wanted, fr, hg]
  refine ⟨?_⟩
  simp only [wpQuiet, h1, Bool.false_eq_true, if_false, put_fr]
  exact h.run
theorem q_part {os : List Oper} (t : Nat) {b : Bool} (hb : l.getD t undef = .bool b) (ht : b = true → WQ P ops C Q os (fr (l.set t (.bool true)))) (hf : b = false → WQ P ops C Q os (fr (l.set t (.bool false)))) : WQ P ops C Q os (fr l) := by
  cases b
  · have := hf rfl; rw [← hb, set_getD] at this; exact this
  · have := ht rfl; rw [← hb, set_getD] at this; exact this
end
section
variable {P : Program} {n r : Act → World → Prop} {ex : List (Nat × (Act → World → Prop))} {w : World} {l : List Value} {S : Nat → Prop} {w0 : World} {L : List Res}
theorem x_quiet {id : Nat} {ops : List Oper} (hm : P.follows .mixedOrders = true) (hB : Region.lexB .any ops.toArray = true) (hS : St S w0 w L) (h : WQ P ops.toArray (fun w => St S w0 w L) (fun a' => ∀ w', St S w0 w' L → n a' w') ops (fr l)) : (Code.region id ops.toArray true).wp P (Qx n r ex) (fr l) w :=
  wp_region_quiet (C := fun w => St S w0 w L) hm hB (hS.ext (Ext.drew w)) (by simpa only [Qx, List.toList_toArray] using h.run)
theorem q_nil {ops : Array Oper} {C : World → Prop} {n : Act → World → Prop} {a : Act} (h : ∀ w', C w' → n a w') : WQ P ops C (fun a' => ∀ w', C w' → n a' w') [] a := ⟨h⟩
end
end Go.Proofs.Ytffmanidnlbjjaa
namespace Go.Proofs.Ytffmanidnlbjjaa
open Go.RowKit
section
variable {P : Program} {md : Region.Mode} {ops : Array Oper} {C : World → Prop} {lt : List Nat} {Q : Exit → Act → World → Prop}
/-- none of the late operations has come -/
def noLate (lt : List Nat) (listed : Array Bool) : Prop := ∀ k ∈ lt, listed.getD k false = false
/-- every order from here on, whatever is laid beside between two steps -/
def AnyE (P : Program) (md : Region.Mode) (ops : Array Oper) (C : World → Prop) (lt : List Nat) (Q : Exit → Act → World → Prop) : Nat → Array Bool → Act → World → Prop
  | 0, listed, a, w => ∀ w1, Ext w w1 → (noLate lt listed → C w1) ∧ Region.ready md ops listed = [] ∧ Q .normal a w1
  | n + 1, listed, a, w => ∀ w1, Ext w w1 → (noLate lt listed → C w1) ∧ (Region.ready md ops listed = [] → Q .normal a w1) ∧ ∀ i ∈ Region.ready md ops listed, wpOp P ops Q i (AnyE P md ops C lt Q n (listed.setIfInBounds i true)) a w1
theorem AnyE.any : ∀ (n : Nat) {listed : Array Bool} {a : Act} {w : World}, AnyE P md ops C lt Q n listed a w → wpAny P md ops Q n listed a w
  | 0, _, _, w, h => (h w Ext.rfl').2
  | n + 1, _, _, w, h => ⟨(h w Ext.rfl').2.1, fun i hi => wpOp_mono (fun _ _ h' => AnyE.any n h') ((h w Ext.rfl').2.2 i hi)⟩
theorem AnyE.ext {n : Nat} {listed : Array Bool} {a : Act} {w w' : World} (h : AnyE P md ops C lt Q n listed a w) (hE : Ext w w') : AnyE P md ops C lt Q n listed a w' := by
  cases n with
  | zero => exact fun w1 h1 => h w1 (hE.trans h1)
  | succ n => exact fun w1 h1 => h w1 (hE.trans h1)
theorem AnyE.cls {n : Nat} {listed : Array Bool} {a : Act} {w : World} (h : AnyE P md ops C lt Q n listed a w) : noLate lt listed → C w := by
  cases n with
  | zero => exact (h w Ext.rfl').1
  | succ n => exact (h w Ext.rfl').1
def QuietU (P : Program) (w : World) (v : Value) : Result Next → Prop
  | .ok (.value u) w' => w' = w ∧ u = v
  | .ok (.enter f args) w' => w' = w ∧ Calls P f args w (fun e w'' => e = .returned v ∧ Ext w w'')
  | _ => False
def YieldsE (P : Program) (ops : Array Oper) (C : World → Prop) (o : Oper) (v : Value) (a : Act) : Prop :=
  (Region.wanted o (yielded ops a.tmps) = true ∧ ∀ w, C w → QuietU P w v ((execOp a.eval o).run P w)) ∨
  (Region.wanted o (yielded ops a.tmps) = false ∧ v = undef)
theorem YieldsE.of_same {o : Oper} {v : Value} {a a' : Act} (hy : YieldsE P ops C o v a) (he : execOp a'.eval o = execOp a.eval o)
    (hw : Region.wanted o (yielded ops a'.tmps) = Region.wanted o (yielded ops a.tmps)) : YieldsE P ops C o v a' := by
  unfold YieldsE at *
  rw [he, hw]
  exact hy
theorem YieldsE.wpOp {i : Nat} {o : Oper} {v : Value} {a : Act} (hi : ops[i]? = some o) (hy : YieldsE P ops C o v a) {K : Act → World → Prop} {w : World} (hC : C w) (h : ∀ w', Ext w w' → K (a.put o.dst v) w') : wpOp P ops Q i K a w := by
  unfold Go.wpOp
  simp only [hi]
  rcases hy with ⟨hw, hv⟩ | ⟨hw, rfl⟩
  · simp only [hw, if_true]
    have := hv w hC
    refine .inl ?_
    unfold Oper.wp
    generalize (execOp a.eval o).run P w = r at this
    cases r with
    | ok n w' =>
      cases n <;> simp only [QuietU] at this <;> simp only [Oper.upon]
      case value u => obtain ⟨rfl, rfl⟩ := this; exact h _ Ext.rfl'
      case enter f args =>
        obtain ⟨rfl, hc⟩ := this
        exact hc.mono fun e w'' ⟨he, hE⟩ => by subst he; exact h _ hE
    | halt x w' => simp only [QuietU] at this
  · simp only [hw, Bool.false_eq_true, if_false]; exact h _ Ext.rfl'
theorem wpOp_putE {j : Nat} {oi oj : Oper} {v : Value} (hj : ops[j]? = some oj) (hap : oi.apart ops oj = true)
    (hsi : ∀ cs b, oi.op ≠ .select cs b) (hsj : ∀ cs b, oj.op ≠ .select cs b)
    (hQ : ∀ c a w, ¬ Q (.panic c) a w) {K : Act → World → Prop} {a : Act} {w : World}
    (hy : YieldsE P ops C oi v a) (h : wpOp P ops Q j K (a.put oi.dst v) w) :
    wpOp P ops Q j (fun a' w' => YieldsE P ops C oi v a' ∧ K (a'.put oi.dst v) w') a w := by
  obtain ⟨h1, h2, h3⟩ := Oper.apart_spec hap
  have keep : ∀ (a : Act), YieldsE P ops C oi v a → ∀ u, YieldsE P ops C oi v (a.put oj.dst u) := fun a hy u =>
    hy.of_same (execOp_put oi hsi a oj.dst u h3) (wanted_put oi a oj.dst u h3)
  have keepD : ∀ d, YieldsE P ops C oi v { a with defers := d :: a.defers } := fun d => hy.of_same rfl rfl
  unfold wpOp at *
  simp only [hj] at *
  rw [wanted_put oj a oi.dst v h1] at h
  split
  · rename_i hw
    simp only [hw, if_true] at h
    rcases h with h | ⟨hasks, hlets⟩
    case inr => exact .inr ⟨by unfold Oper.asks at *; rw [execOp_put oj hsj a oi.dst v h1] at hasks; exact hasks, hlets⟩
    refine .inl ?_
    unfold Oper.wp at *
    rw [execOp_put oj hsj a oi.dst v h1] at h
    generalize (execOp a.eval oj).run P w = r at *
    cases r with
    | ok n w' =>
      cases n <;> simp only [Oper.upon] at h ⊢
      case value u => exact ⟨keep a hy u, by rw [← Act.put_comm a v u h2]; exact h⟩
      case skip => exact ⟨keep a hy _, by rw [← Act.put_comm a v undef h2]; exact h⟩
      case defer d =>
        refine ⟨keep _ (keepD d) _, ?_⟩
        rw [← Act.put_comm _ v undef h2, ← Act.put_defers]
        exact h
      case enter f args =>
        refine Calls.mono h fun e w'' he => ?_
        cases e with
        | returned u => exact ⟨keep a hy u, by rw [← Act.put_comm a v u h2]; exact he⟩
        | panicked c => exact (hQ _ _ _ he).elim
        | outgrown => exact he
      case row row args => exact Rows.mono h fun u w'' he => ⟨keep a hy u, by rw [← Act.put_comm a v u h2]; exact he⟩
    | halt x w' =>
      cases x <;> simp only [Oper.upon] at h ⊢
      case panic u => exact (hQ _ _ _ h).elim
  · rename_i hw
    simp only [hw] at h
    exact ⟨keep a hy _, by rw [← Act.put_comm a v undef h2]; exact h⟩
theorem noLate_set {i : Nat} {listed : Array Bool} (hi : i ∉ lt) (h : noLate lt listed) : noLate lt (listed.setIfInBounds i true) := fun k hk => by
  have hne : i ≠ k := fun e => hi (e ▸ hk)
  rw [getD_set_ne false hne]; exact h k hk
theorem AnyE.first {i : Nat} {oi : Oper} {v : Value} (hil : i ∉ lt) (hlw : ∀ k ∈ lt, ∀ o, ops[k]? = some o → ∃ e ∈ o.after, Region.binds md e = true ∧ e.on = i) (hi : ops[i]? = some oi) (hsel : ∀ (j : Nat) (o : Oper) cs b, ops[j]? = some o → o.op ≠ .select cs b) (hQ : ∀ c a w, ¬ Q (.panic c) a w) :
    ∀ (fuel : Nat) (listed : Array Bool) (a : Act) (w : World), noLate lt listed →
      (∀ j oj, ops[j]? = some oj → j ≠ i → listed.getD j true = false → (∀ e ∈ oj.after, Region.binds md e = true → e.on ≠ i) → oi.apart ops oj = true) →
      i ∈ Region.ready md ops listed → YieldsE P ops C oi v a →
      AnyE P md ops C lt Q fuel (listed.setIfInBounds i true) (a.put oi.dst v) w → AnyE P md ops C lt Q (fuel + 1) listed a w := by
  intro fuel
  induction fuel with
  | zero =>
    intro listed a w hnl _ hr hy H w1 hE
    have H1 := H.ext hE
    have hcl := H1.cls (noLate_set hil hnl)
    refine ⟨fun _ => hcl, fun h => (by rw [h] at hr; cases hr), fun j hj => ?_⟩
    by_cases hji : j = i
    · subst hji; exact hy.wpOp hi hcl fun w' hE' => H1.ext hE'
    · have := ready_mono hj hji
      rw [(H1 w1 Ext.rfl').2.1] at this
      cases this
  | succ fuel ih =>
    intro listed a w hnl hfree hr hy H w1 hE
    have H1 := H.ext hE
    have hcl := H1.cls (noLate_set hil hnl)
    refine ⟨fun _ => hcl, fun h => (by rw [h] at hr; cases hr), fun j hj => ?_⟩
    by_cases hji : j = i
    · subst hji; exact hy.wpOp hi hcl fun w' hE' => H1.ext hE'
    · have h1 := (H1 w1 Ext.rfl').2.2 j (ready_mono hj hji)
      obtain ⟨hjun, oj, hoj, hall⟩ := mem_ready.1 hj
      have hnot : ∀ e ∈ oj.after, Region.binds md e = true → e.on ≠ i := fun e he hb heq => by
        have h1 := hall e he hb
        have h0 := (mem_ready.1 hr).1
        rw [heq] at h1
        rcases Nat.lt_or_ge i listed.size with h' | h'
        · simp [h'] at h0 h1; rw [h0] at h1; cases h1
        · simp [Array.getElem?_eq_none h'] at h1
      have h2 := wpOp_putE hoj (hfree j oj hoj hji hjun hnot) (fun cs b => hsel i oi cs b hi) (fun cs b => hsel j oj cs b hoj) hQ hy h1
      have hfree' : ∀ k ok, ops[k]? = some ok → k ≠ i → (listed.setIfInBounds j true).getD k true = false →
          (∀ e ∈ ok.after, Region.binds md e = true → e.on ≠ i) → oi.apart ops ok = true := fun k ok hk hki hun hno => by
        refine hfree k ok hk hki ?_ hno
        by_cases hjk : j = k
        · subst hjk; exact hjun
        · rw [getD_set_ne true hjk] at hun; exact hun
      have hjl : j ∉ lt := fun hjl => by
        obtain ⟨e, he, hb, hon⟩ := hlw j hjl oj hoj
        exact hnot e he hb hon
      refine wpOp_mono (fun a' w' h3 => ih (listed.setIfInBounds j true) a' w' (noLate_set hjl hnl) hfree' (ready_mono hr (Ne.symm hji)) h3.1 ?_) h2
      rw [Array.setIfInBounds_comm _ _ hji]
      exact h3.2
/-- the first operations, in the text's order; T: what stands behind them -/
def wpPre (P : Program) (ops : Array Oper) (C : World → Prop) (T : Act → Prop) : List Oper → Act → Prop
  | [], a => T a
  | o :: rest, a => ∃ v, YieldsE P ops C o v a ∧ wpPre P ops C T rest (a.put o.dst v)
def lateB (md : Region.Mode) (ops : Array Oper) (lt : List Nat) (i : Nat) : Bool := !lt.contains i && lt.all fun k => match ops[k]? with | some o => o.after.any fun e => Region.binds md e && e.on == i | none => true
def preB (md : Region.Mode) (ops : Array Oper) (lt : List Nat) : Nat → Nat → Array Bool → Bool
  | 0, _, _ => true
  | m + 1, k, listed => lateB md ops lt k && (Region.ready md ops listed).contains k && Region.free md ops listed k && preB md ops lt m (k + 1) (listed.setIfInBounds k true)
def setAll : Nat → Nat → Array Bool → Array Bool
  | 0, _, listed => listed
  | m + 1, k, listed => setAll m (k + 1) (listed.setIfInBounds k true)
theorem AnyE.pre (hs : Region.noSelect ops = true) (hQ : ∀ c a w, ¬ Q (.panic c) a w) (fuel : Nat) (w : World) : ∀ (l : List Oper) (k : Nat) (listed : Array Bool) (a : Act), noLate lt listed → (∀ j, j < l.length → l[j]? = ops[k + j]?) →
    preB md ops lt l.length k listed = true → wpPre P ops C (fun a' => AnyE P md ops C lt Q fuel (setAll l.length k listed) a' w) l a → AnyE P md ops C lt Q (fuel + l.length) listed a w
  | [], _, _, _, _, _, _, h => h
  | o :: l, k, listed, a, hnl, hl, hB, h => by
    have h0 : ops[k]? = some o := by simpa using (hl 0 (by simp)).symm
    simp only [List.length_cons, preB, Bool.and_eq_true] at hB
    obtain ⟨⟨⟨hlB, hr⟩, hf⟩, hB'⟩ := hB
    simp only [lateB, Bool.and_eq_true, Bool.not_eq_true', List.all_eq_true] at hlB
    have hil : k ∉ lt := fun hk => by have := hlB.1; simp [hk] at this
    have hlw : ∀ k' ∈ lt, ∀ o', ops[k']? = some o' → ∃ e ∈ o'.after, Region.binds md e = true ∧ e.on = k := fun k' hk' o' ho' => by
      have := hlB.2 k' hk'
      rw [ho'] at this
      obtain ⟨e, he, hb⟩ := Array.any_eq_true'.1 this
      simp only [Bool.and_eq_true, beq_iff_eq] at hb
      exact ⟨e, he, hb.1, hb.2⟩
    obtain ⟨v, hy, hK⟩ := h
    have := AnyE.pre hs hQ fuel w l (k + 1) _ _ (noLate_set hil hnl) (fun j hj => by have := hl (j + 1) (by simpa using hj); simpa [Nat.add_assoc, Nat.add_comm 1 j] using this) hB' hK
    exact AnyE.first hil hlw h0 (Region.noSelect_spec hs) hQ (fuel + l.length) listed a w hnl (Region.free_spec h0 hf) (by simpa using hr) hy this
end
section
variable {P : Program} {ops : Array Oper} {C : World → Prop} {T : Act → Prop} {rest : List Oper} {l : List Value} {d : Nat} {v : Value} {ty : TypeId} {pos : String} {aft : Array Edge}
theorem p_nil {a : Act} (h : T a) : wpPre P ops C T [] a := h
end
section
variable {P : Program} {n r : Act → World → Prop} {ex : List (Nat × (Act → World → Prop))} {w : World} {l : List Value} {S : Nat → Prop} {w0 : World} {L : List Res}
theorem Qx_panic {c : List PanicEntry} {a : Act} {w : World} : ¬ Qx n r ex (.panic c) a w := fun h => h
def MixM (l : List Value) (V : List Nat) (R : (Nat → Value) → World → Prop) (a : Act) (w : World) : Prop := ∃ f, a = fr (clob l V f) ∧ R f w
theorem mix_leaf {lnow : List Value} {V : List Nat} {R : (Nat → Value) → World → Prop} (he : lnow = clob l V (fun d => lnow.getD d undef)) (hR : R (fun d => lnow.getD d undef) w) : MixM l V R (fr lnow) w := ⟨_, congrArg fr he, hR⟩
variable {ops : Array Oper} {C : World → Prop} {lt : List Nat} {M : Act → World → Prop} {a : Act}
theorem any_nil {listed : Array Bool} (hr : Region.ready .any ops listed = []) (h : ∀ w1, Ext w w1 → (noLate lt listed → C w1) ∧ M a w1) : AnyE P .any ops C lt (Qx M r ex) 0 listed a w := fun w1 hE => ⟨(h w1 hE).1, hr, (h w1 hE).2⟩
theorem any_step {k : Nat} {listed : Array Bool} (is : List Nat) (hr : Region.ready .any ops listed = is) (hne : is ≠ []) (h : ∀ w1, Ext w w1 → (noLate lt listed → C w1) ∧ ∀ i ∈ is, wpOp P ops (Qx M r ex) i (AnyE P .any ops C lt (Qx M r ex) k (listed.setIfInBounds i true)) a w1) : AnyE P .any ops C lt (Qx M r ex) (k + 1) listed a w := fun w1 hE => by
  refine ⟨(h w1 hE).1, fun h0 => absurd (hr.symm.trans h0) hne, fun i hi => (h w1 hE).2 i (hr ▸ hi)⟩
/-- one operation of those that may come now -/
theorem any_op {i : Nat} {o : Oper} {K : Act → World → Prop} (ho : ops[i]? = some o) (h : WL P ops (Qx K r ex) [o] a w) : wpOp P ops (Qx M r ex) i K a w := by
  replace h := h.run
  unfold wpList at h
  unfold Go.wpOp
  simp only [ho]
  split
  · rename_i hw
    rw [if_pos hw] at h
    rcases h with h | ⟨_, a', w', h⟩
    · refine .inl ?_
      unfold Oper.wp at *
      generalize (execOp a.eval o).run P w = q at *
      cases q with
      | ok n w' =>
        cases n <;> simp only [Oper.upon] at h ⊢
        case enter f args =>
          refine Calls.mono h fun e w'' he => ?_
          cases e with
          | returned u => exact he
          | panicked c => exact he.elim
          | outgrown => obtain ⟨_, _, h⟩ := he; exact h.elim
        all_goals exact h
      | halt x w' =>
        cases x <;> simp only [Oper.upon] at h ⊢
        case panic u => exact h.elim
    · exact h.elim
  · rename_i hw
    rw [if_neg hw] at h
    exact h
end
end Go.Proofs.Ytffmanidnlbjjaa
namespace Go.Proofs.Ytffmanidnlbjjaa
open Go.RowKit
def Places (P : Program) (fs : Array Field) (pl : Array (Nat × Nat)) : Prop := ∀ w : World, (fs.mapM fun f => do pure (f.offset, ← sizeOf f.type) : Sem (Array (Nat × Nat))).run P w = .ok pl w
theorem foldl_set_splice (vs : List Value) : ∀ (cells : Array Value) (off k : Nat), off + k + vs.length ≤ cells.size →
    (vs.zipIdx k).foldl (fun (cs : Array Value) (p : Value × Nat) => cs.setIfInBounds (off + p.2) p.1) cells = (splice cells.toList (off + k) vs).toArray := by
  induction vs with
  | nil => intro cells off k _; simp [splice]
  | cons v vs ih =>
    intro cells off k h
    rw [List.zipIdx_cons, List.foldl_cons, ih _ _ _ (by simp at h ⊢; omega)]
    simp only [List.length_cons] at h
    congr 1
    unfold splice
    simp only [Array.toList_setIfInBounds, List.length_cons]
    rw [List.set_eq_take_append_cons_drop, if_pos (by simp; omega)]
    have h1 : (cells.toList.take (off + k)).length = off + k := by simp; omega
    rw [← Nat.add_assoc, List.take_append, List.drop_append, h1]
    simp only [List.take_take, Nat.add_sub_cancel_left, List.take_succ_cons, List.take_zero, List.append_assoc]
    rw [Nat.min_eq_right (by omega), List.drop_eq_nil_of_le (by simp; omega)]
    simp only [List.cons_append, List.nil_append]
    rw [show off + k + 1 + vs.length - (off + k) = (vs.length) + 1 by omega, List.drop_succ_cons, List.drop_drop]
    congr 4
    omega
theorem fill_nil {pl : Nat → Option (Nat × Nat)} {cells : Array Value} : Instr.fill pl cells [] = some cells := rfl
theorem fill_cons {pl : Nat → Option (Nat × Nat)} {cells : Array Value} {i off size : Nat} {v : Value} {rest : List (Nat × Value)} {r : Array Value} (hp : pl i = some (off, size)) (hs : v.cells.size = size) (hf : off + size ≤ cells.size)
    (h : Instr.fill pl (splice cells.toList off v.cells.toList).toArray rest = some r) : Instr.fill pl cells ((i, v) :: rest) = some r := by
  subst hs
  simp only [Instr.fill, hp]
  rw [if_neg (by simp; omega)]
  have := foldl_set_splice v.cells.toList cells off 0 (by simpa using hf)
  rw [← h]
  congr 1
  rw [Nat.add_zero] at this
  rw [← this, ← Array.foldl_toList, Array.toList_zipIdx]
theorem zrow_eq (z : List Value) (hz : 0 < z.length) : ∀ n, (List.range (n * z.length)).map (fun j => z.toArray[j % z.length]!) = (List.replicate n z).flatten
  | 0 => by simp
  | n + 1 => by
    rw [List.replicate_succ', List.flatten_append, Nat.succ_mul, List.range_add, List.map_append, zrow_eq z hz n]
    congr 1
    simp only [List.map_map, List.flatten_cons, List.flatten_nil, List.append_nil]
    apply List.ext_getElem (by simp)
    intro i h1 h2
    simp only [List.getElem_map, List.getElem_range, Function.comp]
    rw [Nat.add_comm, Nat.add_mul_mod_self_right, Nat.mod_eq_of_lt h2]
    simp [h2]
section
variable {P : Program} {ops : Array Oper} {Q : Exit → Act → World → Prop} {rest : List Oper} {l : List Value} {w : World} {d : Nat} {ty : TypeId} {pos : String} {aft : Array Edge} {S : Nat → Prop} {w0 : World} {L L' : List Res}
theorem m_buildRow {T e : TypeId} {n : Nat} {parts : Array (Nat × Operand)} {sz by' : Nat} {z : Value} {cells : Array Value} (hT : P.underlying T = some (.slice e)) (hi : TI P e sz by' z) (hzs : 0 < sz ∧ z.cells.size = sz := by decide) (hsm : n * sz ≤ 2 ^ 24 := by decide)
    (hc : Instr.fill (fun i => some (i * sz, sz)) (List.replicate n z.cells.toList).flatten.toArray (parts.map fun (i, x) => (i, opv l x)).toList = some cells) (hS : St S w0 w L)
    (h : ∀ w' g, St S w0 w' (.obj g (.cells cells e (0, 0)) :: L) → WL P ops Q rest (fr (l.set d (.slice (some ⟨g, 0, none⟩) n n))) w') : WL P ops Q (⟨some d, .buildSlice T n parts, ty, pos, aft, none⟩ :: rest) (fr l) w := by
  refine m_buildSlice hT hi hsm ?_ hS h
  rw [← hc]
  congr 1
  have hz := zrow_eq z.cells.toList (by simpa [hzs.2] using hzs.1) n
  rw [← hz]
  apply Array.ext'
  simp [hzs.2]
end
section
variable {P : Program} {l : List Value} {w : World} {d : Nat} {ty : TypeId} {pos : String} {aft : Array Edge}
theorem s_build_arr {T e : TypeId} {n : Nat} {parts : Array (Nat × Operand)} {tz tb sz by' : Nat} {z ez : Value} {cells : Array Value} (hT : P.underlying T = some (.array n e)) (hi : TI P T tz tb z) (he : TI P e sz by' ez)
    (hc : Instr.fill (fun i => some (i * sz, sz)) z.cells (parts.map fun (i, x) => (i, opv l x)).toList = some cells) : Go1 P l w ⟨some d, .build T parts, ty, pos, aft, none⟩ (.agg cells) := by
  obtain ⟨i, hi, _, _, hz⟩ := hi
  obtain ⟨j, hj, rfl, _, _⟩ := he
  unfold Go1
  simp [execOp, Instr.build, zeroValue, typeInfo, hi, hz, run_underlying hT, sizeOf, hj] at hc ⊢
  rw [hc]; rfl
theorem s_build_struct {T : TypeId} {fs : Array Field} {parts : Array (Nat × Operand)} {tz tb : Nat} {z : Value} {pl : Array (Nat × Nat)} {cells : Array Value} (hT : P.underlying T = some (.struct fs)) (hi : TI P T tz tb z) (hp : Places P fs pl)
    (hc : Instr.fill (pl[·]?) z.cells (parts.map fun (i, x) => (i, opv l x)).toList = some cells) : Go1 P l w ⟨some d, .build T parts, ty, pos, aft, none⟩ (.agg cells) := by
  obtain ⟨i, hi, _, _, hz⟩ := hi
  have hp' := hp w
  unfold Go1
  simp only [execOp, Instr.build, Sem.run_bind, zeroValue, typeInfo, Sem.run_pure, run_underlying hT, Result.andThen_ok] at hc hp' ⊢
  have hti : (program).run P w = .ok P w := rfl
  simp only [hti, Result.andThen_ok, hi, hz, Sem.run_pure]
  rw [hp']
  simp only [Result.andThen_ok]
  rw [hc]; rfl
end
end Go.Proofs.Ytffmanidnlbjjaa
namespace Go.Proofs.Ytffmanidnlbjjaa
open Go.RowKit
theorem wp_u32 (n : Int) : IntKind.u32.wrap n = n % 4294967296 := by simp [IntKind.wrap, IntKind.bits, IntKind.signed]
theorem wp_u64 (n : Int) : IntKind.u64.wrap n = n % 18446744073709551616 := by simp [IntKind.wrap, IntKind.bits, IntKind.signed]
theorem bv_ofInt (w a : Nat) (h : a < 2 ^ w) : (BitVec.ofInt w (a : Int)).toNat = a := by
  rw [BitVec.ofInt_natCast, BitVec.toNat_ofNat]; exact Nat.mod_eq_of_lt h
section
variable {a b : Nat}
theorem and_u64 (ha : a < 18446744073709551616) (hb : b < 18446744073709551616) : bits .and .u64 (a : Int) (b : Int) = ((a &&& b : Nat) : Int) := by
  have hx : a &&& b < 2 ^ 64 := Nat.and_lt_two_pow _ (by omega)
  show IntKind.u64.wrap ((BitVec.ofInt 64 (a : Int) &&& BitVec.ofInt 64 (b : Int)).toNat : Int) = _
  rw [BitVec.toNat_and, bv_ofInt 64 a (by omega), bv_ofInt 64 b (by omega), wp_u64]
  omega
end
section
variable {r s n p : Nat} {b : Int}
theorem pw {b : Int} {m n p : Nat} (hn : min b.toNat m = n) (hp : 2 ^ n = p) : (2 : Int) ^ (min b.toNat m) = (p : Int) := by
  rw [hn, ← hp]; exact (Int.natCast_pow 2 n).symm
theorem shl_u64 (hs : r * p % 18446744073709551616 = s) (hn : min b.toNat 64 = n := by rfl) (hp : 2 ^ n = p := by rfl) : IntKind.u64.wrap ((r : Int) * 2 ^ (min b.toNat IntKind.u64.bits)) = (s : Int) := by
  rw [show IntKind.u64.bits = 64 from rfl, pw hn hp, wp_u64, ← hs, Int.natCast_emod, Int.natCast_mul]; rfl
theorem shr_u (k : IntKind) (hs : r / p = s) (hn : min b.toNat k.bits = n := by rfl) (hp : 2 ^ n = p := by rfl) : Int.fdiv (r : Int) (2 ^ (min b.toNat k.bits)) = (s : Int) := by
  rw [pw hn hp, Int.fdiv_eq_ediv_of_nonneg _ (by omega), ← hs]; exact (Int.natCast_ediv r p).symm
theorem cv_u32 (hs : r % 4294967296 = s) : IntKind.u32.wrap (r : Int) = (s : Int) := by rw [wp_u32, ← hs, Int.natCast_emod]; rfl
end
theorem quo_i64 {r p : Nat} (hr : r < 9223372036854775808) (hp : 0 < p := by decide) : IntKind.i64.wrap ((r : Int).tdiv (p : Int)) = ((r / p : Nat) : Int) := by
  have h1 : r / p ≤ r := Nat.div_le_self _ _
  have h2 : (r : Int).tdiv (p : Int) = ((r / p : Nat) : Int) := (Int.tdiv_eq_ediv_of_nonneg (by omega)).trans (Int.natCast_ediv r p).symm
  rw [h2]; clear h2
  generalize r / p = q at *
  exact wr_i64 (by omega) (by omega)
theorem quo_u64 {r p : Nat} (hr : r < 18446744073709551616) (hp : 0 < p := by decide) : IntKind.u64.wrap ((r : Int).tdiv (p : Int)) = ((r / p : Nat) : Int) := by
  have h1 : r / p ≤ r := Nat.div_le_self _ _
  have h2 : (r : Int).tdiv (p : Int) = ((r / p : Nat) : Int) := (Int.tdiv_eq_ediv_of_nonneg (by omega)).trans (Int.natCast_ediv r p).symm
  rw [h2]; clear h2
  generalize r / p = q at *
  exact wr_u64 (by omega) (by omega)
theorem rem_nat {r p : Nat} : (r : Int).tmod (p : Int) = ((r % p : Nat) : Int) := (Int.tmod_eq_emod_of_nonneg (by omega)).trans (Int.natCast_emod r p).symm
theorem St.hasRd {S : Nat → Prop} {w0 w : World} {L : List Res} {A : Option Addr} {sz n : Nat} {xs : List Value} (h : St S w0 w L) (hm : Has L (.rd A sz n xs)) : Rd w A sz n xs := h.has hm
section
variable {w : World} {A B C : Option Addr} {sa sb sc na nb nc : Nat} {xa xb xc : List Value}
theorem St.rd1 {S : Nat → Prop} (h : Rd w A sa na xa) : St S w w [.rd A sa na xa] := (St.start w).add_rd h (by intro r h; cases h)
theorem St.rd2 {S : Nat → Prop} (h : Rd w A sa na xa) (k : Rd w B sb nb xb) : St S w w [.rd A sa na xa, .rd B sb nb xb] := (St.rd1 k).add_rd h (by intro r h g hg; simp at h; subst h; simp [Res.own] at hg)
theorem St.rd3 {S : Nat → Prop} (h : Rd w A sa na xa) (k : Rd w B sb nb xb) (j : Rd w C sc nc xc) : St S w w [.rd A sa na xa, .rd B sb nb xb, .rd C sc nc xc] := (St.rd2 k j).add_rd h (by intro r h g hg; simp at h; rcases h with rfl | rfl <;> simp [Res.own] at hg)
end
/-- what a call hands back, beside what was -/
theorem St.call {S : Nat → Prop} {w0 w w' : World} {L M : List Res} (h : St S w0 w L) (k : St NoB w w' M) (hr : ∀ r ∈ M, ∀ g, r.reads = some g → w.heap.size ≤ g := by simp [Res.reads]) : St S w0 w' (M ++ L) := by
  have h' := h.ext k.keep
  refine ⟨h'.keep, ?_, ?_, ?_⟩
  · intro r hm
    rcases List.mem_append.1 hm with hm | hm
    · exact k.holds r hm
    · exact h'.holds r hm
  · intro r hm g hg
    rcases List.mem_append.1 hm with hm | hm
    · rcases k.own r hm g hg with hx | hx
      · exact hx.elim
      · exact .inr (Nat.le_trans h.keep.size hx)
    · exact h.own r hm g hg
  · refine List.pairwise_append.2 ⟨k.apart, h.apart, fun r hm s hs g => ⟨fun hg => ?_, fun hg => ?_⟩⟩
    · have h1 : w.heap.size ≤ g := by rcases k.own r hm g hg with hx | hx; exact hx.elim; exact hx
      exact ⟨fun e => by have := own_lt (h.holds s hs) e; omega, fun e => by have := reads_lt (h.holds s hs) e; omega⟩
    · have h1 := own_lt (h.holds s hs) hg
      refine ⟨fun e => ?_, fun e => by have := hr r hm g e; omega⟩
      rcases k.own r hm g e with hx | hx
      · exact hx.elim
      · omega
/-- another look at what is read -/
theorem St.add_rd_of {S : Nat → Prop} {w0 w : World} {L : List Res} {A A' : Option Addr} {sz n sz' m : Nat} {xs ys : List Value} (h : St S w0 w L) (hm : Has L (.rd A sz n xs)) (hr : Rd w A' sz' m ys) (hb : 0 < m → 0 < n ∧ A'.map (·.block) = A.map (·.block)) : St S w0 w (.rd A' sz' m ys :: L) := by
  refine h.add_rd hr fun r hr' g hg e => ?_
  simp only [Res.reads] at e
  split at e
  · cases e
  · have hp : 0 < m := by omega
    obtain ⟨hn, he⟩ := hb hp
    have hread : (Res.rd A sz n xs).reads = some g := by simp only [Res.reads, if_neg (Nat.ne_of_gt hn)]; rw [← he]; exact e
    have hap : ∀ {M : List Res}, M.Pairwise Res.compat → r ∈ M → Res.rd A sz n xs ∈ M → False := by
      intro M hpw
      induction hpw with
      | nil => intro h1; cases h1
      | cons hhd _ ih =>
        intro h1 h2
        rcases List.mem_cons.1 h1 with rfl | h1
        · rcases List.mem_cons.1 h2 with e2 | h2
          · rw [← e2] at hg; simp [Res.own] at hg
          · exact ((hhd _ h2 g).1 hg).2 hread
        · rcases List.mem_cons.1 h2 with e2 | h2
          · rw [← e2] at hhd; exact ((hhd _ h1 g).2 hg).2 hread
          · exact ih h1 h2
    exact hap h.apart hr' hm.mem
def Byt (l : List Int) : Prop := ∀ x ∈ l, 0 ≤ x ∧ x ≤ 255
theorem Byt.get {l : List Int} (h : Byt l) (i : Nat) : 0 ≤ l.getD i 0 ∧ l.getD i 0 ≤ 255 := by
  rcases Nat.lt_or_ge i l.length with hi | hi
  · rw [List.getD_eq_getElem?_getD, List.getElem?_eq_getElem hi]; exact h _ (List.getElem_mem hi)
  · rw [List.getD_eq_getElem?_getD, List.getElem?_eq_none hi]; simp
def bt (l : List Int) (i : Nat) : Nat := (l.getD i 0).toNat
theorem Byt.bt {l : List Int} (h : Byt l) (i : Nat) : l.getD i 0 = (bt l i : Int) ∧ bt l i < 256 := by
  have := h.get i
  unfold Go.Proofs.Ytffmanidnlbjjaa.bt
  omega
theorem Byt.app {l m : List Int} (h : Byt l) (k : Byt m) : Byt (l ++ m) := fun x hx => by rcases List.mem_append.1 hx with h' | h'; exact h x h'; exact k x h'
theorem Byt.take {l : List Int} (h : Byt l) (n : Nat) : Byt (l.take n) := fun x hx => h x (List.mem_of_mem_take hx)
theorem Byt.drop {l : List Int} (h : Byt l) (n : Nat) : Byt (l.drop n) := fun x hx => h x (List.mem_of_mem_drop hx)
theorem take_succ_getD {l : List Int} {k : Nat} (h : k < l.length) : l.take (k + 1) = l.take k ++ [l.getD k 0] := by
  rw [List.take_succ_eq_append_getElem h, List.getD_eq_getElem?_getD, List.getElem?_eq_getElem h]; rfl
end Go.Proofs.Ytffmanidnlbjjaa
namespace Go.Proofs.Ytffmanidnlbjjaa
open Go.RowKit
section
variable {P : Program} {ops : Array Oper} {Q : Exit → Act → World → Prop} {rest : List Oper} {l : List Value} {w : World} {d : Nat} {ty : TypeId} {pos : String} {aft : Array Edge}
variable {S : Nat → Prop} {w0 : World} {L L' : List Res}
theorem St.vec_cap {A : Option Addr} {c : Nat} {e : TypeId} {sz n : Nat} {xs : List Value} (h : St S w0 w L) (hm : Has L (.vec A c e sz n xs)) : n ≤ c := by
  rcases (h.has hm).2 with ⟨hv, h0⟩ | ⟨g, cap, cur, hv, _, _, hnc, _⟩
  · omega
  · simp only [Value.slice.injEq] at hv; omega
theorem St.vecRd {A : Option Addr} {c : Nat} {e : TypeId} {sz n : Nat} {xs : List Value} (h : St S w0 w L) (hm : Has L (.vec A c e sz n xs)) : Rd w A sz n xs := by
  have hv := h.has hm
  refine ⟨hv.1, fun hn => ?_⟩
  obtain ⟨g, e', hc⟩ := Go.Proofs.Ytffmanidnlbjjaa.vec_at hv hn
  exact ⟨g, 0, e', own_lt hv (by simp [Res.own, e']), hc⟩
end
end Go.Proofs.Ytffmanidnlbjjaa
namespace Go.Proofs.Ytffmanidnlbjjaa
open Go.RowKit
/-- the blocks of a row of resources -/
def OwnB (M : List Res) : Nat → Prop := fun g => ∃ r ∈ M, r.own = some g
/-- M is chosen out of L; R is left. -/
inductive Spl : List Res → List Res → List Res → Prop
  | nil {L : List Res} : Spl [] L L
  | cons {r : Res} {L L1 M R : List Res} : Del L r L1 → Spl M L1 R → Spl (r :: M) L R
theorem Spl.perm {M L R : List Res} (h : Spl M L R) : L.Perm (M ++ R) := by
  induction h with
  | nil => exact List.Perm.refl _
  | cons hd _ ih => exact hd.perm.trans (List.Perm.cons _ ih)
section
variable {S : Nat → Prop} {w0 w w' : World} {L M M' R : List Res}
theorem St.owns (h : St S w0 w L) (hs : Spl M L R) : St (OwnB M) w w M := by
  have h := h.perm hs.perm
  refine ⟨Keep.refl _ _, fun r hr => h.holds r (List.mem_append_left _ hr), fun r hr g hg => .inl ⟨r, hr, hg⟩, (List.pairwise_append.1 h.apart).1⟩
theorem St.frame (h : St S w0 w L) (hs : Spl M L R) (k : St (OwnB M) w w' M') (hr : ∀ r ∈ M', ∀ g, r.reads = some g → w.heap.size ≤ g ∨ ∃ s ∈ M, s.own = some g ∨ s.reads = some g) : St S w0 w' (M' ++ R) := by
  have h := h.perm hs.perm
  obtain ⟨_, hR, hMR⟩ := List.pairwise_append.1 h.apart
  have out : ∀ s ∈ R, ∀ g, s.own = some g ∨ s.reads = some g → w'.heap[g]? = w.heap[g]? := fun s hs' g hg => by
    have hw := h.holds s (List.mem_append_right _ hs')
    have hlt : g < w.heap.size := by rcases hg with hg | hg; exact own_lt hw hg; exact reads_lt hw hg
    refine k.keep.block g hlt ?_
    rintro ⟨r, hr', ho⟩
    have := (hMR r hr' s hs' g).1 ho
    rcases hg with hg | hg
    · exact this.1 hg
    · exact this.2 hg
  refine ⟨h.keep.comp k.keep ?_, ?_, ?_, ?_⟩
  · rintro g hg ⟨r, hr', ho⟩
    rcases h.own r (List.mem_append_left _ hr') g ho with h1 | h1
    · exact h1
    · omega
  · intro r hr'
    rcases List.mem_append.1 hr' with hm | hm
    · exact k.holds r hm
    · exact Res.holds_of (h.holds r (List.mem_append_right _ hm)) k.keep.size (fun g hg => out r hm g (.inl hg)) (fun g hg => out r hm g (.inr hg))
  · intro r hr' g hg
    rcases List.mem_append.1 hr' with hm | hm
    · rcases k.own r hm g hg with ⟨s, hs', ho⟩ | h1
      · exact h.own s (List.mem_append_left _ hs') g ho
      · have := h.keep.size; exact .inr (by omega)
    · exact h.own r (List.mem_append_right _ hm) g hg
  · refine List.pairwise_append.2 ⟨k.apart, hR, fun r hr' s hs' g => ?_⟩
    have hsw := h.holds s (List.mem_append_right _ hs')
    refine ⟨fun ho => ?_, fun ho => ?_⟩
    · rcases k.own r hr' g ho with ⟨q, hq, hoq⟩ | h1
      · exact (hMR q hq s hs' g).1 hoq
      · exact ⟨fun e => by have := own_lt hsw e; omega, fun e => by have := reads_lt hsw e; omega⟩
    · have hlt := own_lt hsw ho
      refine ⟨fun e => ?_, fun e => ?_⟩
      · rcases k.own r hr' g e with ⟨q, hq, hoq⟩ | h1
        · exact ((hMR q hq s hs' g).2 ho).1 hoq
        · omega
      · rcases hr r hr' g e with h1 | ⟨q, hq, hoq | hoq⟩
        · omega
        · exact ((hMR q hq s hs' g).2 ho).1 hoq
        · exact ((hMR q hq s hs' g).2 ho).2 hoq
theorem Spl.mem {r : Res} {M : List Res} (h : Spl M L R) (hr : r ∈ M) : r ∈ L := (h.perm.mem_iff).2 (List.mem_append_left _ hr)
/-- what is read is looked at once more -/
theorem St.rd_dup {A : Option Addr} {sz n : Nat} {xs : List Value} (h : St S w0 w L) (hm : Has L (.rd A sz n xs)) : St S w0 w (.rd A sz n xs :: L) :=
  h.add_rd_of hm (h.hasRd hm) (fun h0 => ⟨h0, rfl⟩)
end
end Go.Proofs.Ytffmanidnlbjjaa
namespace Go.Proofs.Ytffmanidnlbjjaa
open Go.RowKit
theorem shr_n {k : IntKind} {r n : Nat} {b : Int} (hb : b = (n : Int)) (hn : n ≤ k.bits) : Int.fdiv (r : Int) (2 ^ (min b.toNat k.bits)) = ((r / 2 ^ n : Nat) : Int) := by
  subst hb
  exact shr_u k rfl (by rw [Int.toNat_natCast]; exact Nat.min_eq_left hn) rfl
theorem shl_n64 {r n : Nat} {b : Int} (hb : b = (n : Int)) : IntKind.u64.wrap ((r : Int) * 2 ^ (min b.toNat IntKind.u64.bits)) = ((r * 2 ^ n % 18446744073709551616 : Nat) : Int) := by
  have hbn : b.toNat = n := by omega
  by_cases h : n ≤ 64
  · exact shl_u64 (b := b) (r := r) (p := 2 ^ n) (n := n) (s := r * 2 ^ n % 18446744073709551616) (Eq.refl _) (by rw [hbn]; exact Nat.min_eq_left h) (Eq.refl _)
  · have key : ∀ M, M = 2 ^ 64 → r * M % M = r * 2 ^ n % M := fun M hM => by
      rw [show n = 64 + (n - 64) by omega, Nat.pow_add, ← hM, Nat.mul_mod_left, Nat.mul_left_comm, Nat.mul_mod_right]
    exact shl_u64 (b := b) (r := r) (p := 18446744073709551616) (n := 64) (key _ (by decide)) (by rw [hbn]; exact Nat.min_eq_right (by omega)) (by decide)
theorem shl_lt64 {r n : Nat} {b : Int} (hb : b = (n : Int)) (h : 2 ^ n * r < 18446744073709551616) : IntKind.u64.wrap ((r : Int) * 2 ^ (min b.toNat IntKind.u64.bits)) = ((2 ^ n * r : Nat) : Int) := by
  rw [shl_n64 hb, Nat.mul_comm, Nat.mod_eq_of_lt h]
theorem and_mask {x n : Nat} {c : Int} (hx : x < 18446744073709551616) (hc : c = ((2 ^ n - 1 : Nat) : Int)) (hn : n ≤ 63) : bits .and .u64 (x : Int) c = ((x % 2 ^ n : Nat) : Int) := by
  subst hc
  have h1 : 2 ^ n ≤ 2 ^ 63 := Nat.pow_le_pow_right (by omega) hn
  rw [and_u64 hx (by omega), Nat.and_two_pow_sub_one_eq_mod]
section
variable {P : Program} {l : List Value} {w : World} {d : Nat} {ty : TypeId} {pos : String} {aft : Array Edge} {S : Nat → Prop} {w0 : World} {L : List Res}
theorem m_load_bx {T : TypeId} {x : Operand} {dsc : TypeDesc} {g o k : Nat} {sz n : Nat} {xs : List Value} {v : Value} (hu : P.underlying T = some dsc) (hd : isAggD dsc = false := by rfl) (hx : opv l x = .pointer (some ⟨g, k, none⟩) := by rfl) (hS : St S w0 w L) (hm : Has L (.rd (some ⟨g, o, none⟩) sz n xs) := by repeat (first | exact Has.head | apply Has.tail)) (hn : 0 < n := by omega) (ho : o ≤ k := by omega) (hv : xs[k - o]? = some v := by first | rfl | exact ic_get (by first | omega | (simp [*]; done) | (simp [*]; omega)) | exact il_get (by first | omega | (simp [*]; done) | (simp [*]; omega))) : Go1 P l w ⟨some d, .load T x, ty, pos, aft, none⟩ v :=
  m_load hu hd hx (by
    obtain ⟨g', o', e, hat⟩ := hS.rd_at hm hn
    cases e
    have := hat (k - o) v hv
    rw [show o + (k - o) = k by omega] at this
    exact this)
end
section
variable {P : Program} {l : List Value} {w : World} {d : Nat} {ty : TypeId} {pos : String} {aft : Array Edge}
theorem s_nilCheck {x : Operand} {a : Addr} (hx : opv l x = .pointer (some a) := by rfl) : Go1 P l w ⟨some d, .nilCheck x, ty, pos, aft, none⟩ (.pointer (some a)) := by
  unfold Go1; simp [execOp, hx]
end
section
variable {P : Program} {ops : Array Oper} {Q : Exit → Act → World → Prop} {rest : List Oper} {l : List Value} {w : World} {d : Nat} {ty : TypeId} {pos : String} {aft : Array Edge}
variable {S : Nat → Prop} {w0 : World} {L L1 : List Res}
end
section
variable {P : Program} {ops : Array Oper} {Q : Exit → Act → World → Prop} {rest : List Oper} {l : List Value} {w : World} {d : Nat} {ty : TypeId} {pos : String} {aft : Array Edge}
end
end Go.Proofs.Ytffmanidnlbjjaa
namespace Go.Proofs.Ytffmanidnlbjjaa
open Go.RowKit
def takeB (ops : Array Oper) (lt : List Nat) (listed : Array Bool) (i : Nat) : Bool := lateB .any ops lt i && (Region.ready .any ops listed).contains i && Region.free .any ops listed i
section
variable {P : Program} {n r : Act → World → Prop} {ex : List (Nat × (Act → World → Prop))} {w : World} {l : List Value} {M : Act → World → Prop} {a : Act}
variable {ops : Array Oper} {C : World → Prop} {lt : List Nat} {listed : Array Bool} {k i d : Nat} {v : Value} {ty : TypeId} {pos : String} {aft : Array Edge}
theorem any_take {o : Oper} (ho : ops[i]? = some o) (hB : takeB ops lt listed i = true) (hs : Region.noSelect ops = true) (hnl : noLate lt listed) (hy : YieldsE P ops C o v a)
    (h : AnyE P .any ops C lt (Qx M r ex) k (listed.setIfInBounds i true) (a.put o.dst v) w) : AnyE P .any ops C lt (Qx M r ex) (k + 1) listed a w := by
  simp only [takeB, Bool.and_eq_true] at hB
  obtain ⟨⟨hlB, hr⟩, hf⟩ := hB
  simp only [lateB, Bool.and_eq_true, Bool.not_eq_true', List.all_eq_true] at hlB
  have hil : i ∉ lt := fun hk => by have := hlB.1; simp [hk] at this
  have hlw : ∀ k' ∈ lt, ∀ o', ops[k']? = some o' → ∃ e ∈ o'.after, Region.binds .any e = true ∧ e.on = i := fun k' hk' o' ho' => by
    have := hlB.2 k' hk'
    rw [ho'] at this
    obtain ⟨e, he, hb⟩ := Array.any_eq_true'.1 this
    simp only [Bool.and_eq_true, beq_iff_eq] at hb
    exact ⟨e, he, hb.1, hb.2⟩
  exact AnyE.first hil hlw ho (Region.noSelect_spec hs) (fun c a w => Qx_panic) k listed a w hnl (Region.free_spec ho hf) (by simpa using hr) hy h
theorem go_yields {op : Op} {g : Option (Nat × Bool)} (hw : Region.wanted ⟨some d, op, ty, pos, aft, g⟩ (yielded ops (fr l).tmps) = true) (H : ∀ w, C w → Go1 P l w ⟨some d, op, ty, pos, aft, none⟩ v) : YieldsE P ops C ⟨some d, op, ty, pos, aft, g⟩ v (fr l) :=
  .inl ⟨hw, fun w hC => by
    have := H w hC
    unfold Go1 at this
    show QuietU P w v ((execOp (fr l).eval ⟨some d, op, ty, pos, aft, none⟩).run P w)
    rw [eval_fr, this]
    exact ⟨rfl, rfl⟩⟩
theorem call_yields {dst : Option Nat} {f : Nat} {args : Array Operand} {tys : Array TypeId} {g : Option (Nat × Bool)} (hw : Region.wanted ⟨dst, .call { callee := .value (.func f), args := args, argTypes := tys }, ty, pos, aft, g⟩ (yielded ops (fr l).tmps) = true) (he : Enters P f) (H : ∀ w, C w → CallR P f (args.map (opv l)) w fun v' w' => v' = v ∧ Ext w w') :
    YieldsE P ops C ⟨dst, .call { callee := .value (.func f), args := args, argTypes := tys }, ty, pos, aft, g⟩ v (fr l) :=
  .inl ⟨hw, fun w hC => by
    have := he (args.map (opv l) ++ #[]) w
    simp only [Array.append_empty] at this
    have hr : (execOp (opv l) ⟨dst, .call { callee := .value (.func f), args := args, argTypes := tys }, ty, pos, aft, g⟩).run P w = .ok (.enter f (args.map (opv l))) w := by simp [execOp, resolve, opv, Deferred.ofValue, invoke, this]
    rw [eval_fr, hr]
    refine ⟨rfl, Calls.mono (H w hC) ?_⟩
    rintro e w' ⟨v', rfl, rfl, hC'⟩
    exact ⟨rfl, hC'⟩⟩
theorem w_none {dst : Option Nat} {op : Op} {f : Nat → Option Bool} : Region.wanted ⟨dst, op, ty, pos, aft, none⟩ f = true := wanted_none
/-- one operation that yields a value is taken first -/
theorem any_go {op : Op} {g : Option (Nat × Bool)} (ho : ops[i]? = some ⟨some d, op, ty, pos, aft, g⟩) (hB : takeB ops lt listed i = true) (hs : Region.noSelect ops = true) (hnl : noLate lt listed) (hy : YieldsE P ops C ⟨some d, op, ty, pos, aft, g⟩ v (fr l))
    (h : AnyE P .any ops C lt (Qx M r ex) k (listed.setIfInBounds i true) (fr (l.set d v)) w) : AnyE P .any ops C lt (Qx M r ex) (k + 1) listed (fr l) w :=
  any_take ho hB hs hnl hy (by rw [put_fr]; exact h)
theorem noLate_nil {listed : Array Bool} : noLate [] listed := fun _ h => by cases h
end
end Go.Proofs.Ytffmanidnlbjjaa
set_option maxRecDepth 100000
namespace Go.Proofs.Ytffmanidnlbjjaa
open Go.RowKit
theorem ti3 : TI Try.prog 3 1 8 (.int .i64 0) := TI.of (by kernel_rfl)
theorem ti29 : TI Try.prog 29 1 4 (.int .u32 0) := TI.of (by kernel_rfl)
theorem ti48 : TI Try.prog 48 1 8 (.int .u64 0) := TI.of (by kernel_rfl)
theorem ti64 : TI Try.prog 64 16 64 (.agg #[.int .u32 0, .int .u32 0, .int .u32 0, .int .u32 0, .int .u32 0, .int .u32 0, .int .u32 0, .int .u32 0, .int .u32 0, .int .u32 0, .int .u32 0, .int .u32 0, .int .u32 0, .int .u32 0, .int .u32 0, .int .u32 0]) := TI.of (by kernel_rfl)
theorem ti65 : TI Try.prog 65 1 24 (.slice none 0 0) := TI.of (by kernel_rfl)
theorem ti67 : TI Try.prog 67 17 88 (.agg #[.int .u32 0, .int .u32 0, .int .u32 0, .int .u32 0, .int .u32 0, .int .u32 0, .int .u32 0, .int .u32 0, .int .u32 0, .int .u32 0, .int .u32 0, .int .u32 0, .int .u32 0, .int .u32 0, .int .u32 0, .int .u32 0, .slice none 0 0]) := TI.of (by kernel_rfl)
theorem ti70 : TI Try.prog 70 16 64 (.agg #[.int .u32 0, .int .u32 0, .int .u32 0, .int .u32 0, .int .u32 0, .int .u32 0, .int .u32 0, .int .u32 0, .int .u32 0, .int .u32 0, .int .u32 0, .int .u32 0, .int .u32 0, .int .u32 0, .int .u32 0, .int .u32 0]) := TI.of (by kernel_rfl)
theorem ti72 : TI Try.prog 72 17 88 (.agg #[.int .u32 0, .int .u32 0, .int .u32 0, .int .u32 0, .int .u32 0, .int .u32 0, .int .u32 0, .int .u32 0, .int .u32 0, .int .u32 0, .int .u32 0, .int .u32 0, .int .u32 0, .int .u32 0, .int .u32 0, .int .u32 0, .slice none 0 0]) := TI.of (by kernel_rfl)
theorem ti116 : TI Try.prog 116 1 24 (.slice none 0 0) := TI.of (by kernel_rfl)
theorem en31 : Enters Try.prog 31 := enters_of Try.func31 (by kernel_rfl) rfl
theorem en32 : Enters Try.prog 32 := enters_of Try.func32 (by kernel_rfl) rfl
theorem en33 : Enters Try.prog 33 := enters_of Try.func33 (by kernel_rfl) rfl
theorem en34 : Enters Try.prog 34 := enters_of Try.func34 (by kernel_rfl) rfl
theorem en36 : Enters Try.prog 36 := enters_of Try.func36 (by kernel_rfl) rfl
theorem en38 : Enters Try.prog 38 := enters_of Try.func38 (by kernel_rfl) rfl
theorem en40 : Enters Try.prog 40 := enters_of Try.func40 (by kernel_rfl) rfl
theorem en42 : Enters Try.prog 42 := enters_of Try.func42 (by kernel_rfl) rfl
theorem en44 : Enters Try.prog 44 := enters_of Try.func44 (by kernel_rfl) rfl
theorem en45 : Enters Try.prog 45 := enters_of Try.func45 (by kernel_rfl) rfl
theorem en46 : Enters Try.prog 46 := enters_of Try.func46 (by kernel_rfl) rfl
theorem en78 : Enters Try.prog 78 := enters_of Try.func78 (by kernel_rfl) rfl
theorem en79 : Enters Try.prog 79 := enters_of Try.func79 (by kernel_rfl) rfl
theorem en80 : Enters Try.prog 80 := enters_of Try.func80 (by kernel_rfl) rfl
theorem en81 : Enters Try.prog 81 := enters_of Try.func81 (by kernel_rfl) rfl
theorem en82 : Enters Try.prog 82 := enters_of Try.func82 (by kernel_rfl) rfl
theorem en83 : Enters Try.prog 83 := enters_of Try.func83 (by kernel_rfl) rfl
theorem en84 : Enters Try.prog 84 := enters_of Try.func84 (by kernel_rfl) rfl
theorem en85 : Enters Try.prog 85 := enters_of Try.func85 (by kernel_rfl) rfl
theorem en86 : Enters Try.prog 86 := enters_of Try.func86 (by kernel_rfl) rfl
theorem en102 : Enters Try.prog 102 := enters_of Try.func102 (by kernel_rfl) rfl
theorem en103 : Enters Try.prog 103 := enters_of Try.func103 (by kernel_rfl) rfl
theorem en104 : Enters Try.prog 104 := enters_of Try.func104 (by kernel_rfl) rfl
theorem en105 : Enters Try.prog 105 := enters_of Try.func105 (by kernel_rfl) rfl
theorem en106 : Enters Try.prog 106 := enters_of Try.func106 (by kernel_rfl) rfl
theorem en107 : Enters Try.prog 107 := enters_of Try.func107 (by kernel_rfl) rfl
theorem en108 : Enters Try.prog 108 := enters_of Try.func108 (by kernel_rfl) rfl
theorem en109 : Enters Try.prog 109 := enters_of Try.func109 (by kernel_rfl) rfl
theorem en118 : Enters Try.prog 118 := enters_of Try.func118 (by kernel_rfl) rfl
theorem en119 : Enters Try.prog 119 := enters_of Try.func119 (by kernel_rfl) rfl
theorem en130 : Enters Try.prog 130 := enters_of Try.func130 (by kernel_rfl) rfl
theorem en185 : Enters Try.prog 185 := enters_of Try.func185 (by kernel_rfl) rfl
theorem en186 : Enters Try.prog 186 := enters_of Try.func186 (by kernel_rfl) rfl
theorem en187 : Enters Try.prog 187 := enters_of Try.func187 (by kernel_rfl) rfl
theorem en188 : Enters Try.prog 188 := enters_of Try.func188 (by kernel_rfl) rfl
theorem eqv64 : EqV Try.prog 2 64 (List.replicate 16 .u32) := eq_arr Try.underlying64 ti29 rfl (eq_int Try.underlying29)
theorem eg64 : Try.prog.eqGuardType Try.prog.depth 64 = false := by kernel_rfl
theorem eqv70 : EqV Try.prog 2 70 (List.replicate 16 .u32) := eq_arr Try.underlying70 ti29 rfl (eq_int Try.underlying29)
theorem eg70 : Try.prog.eqGuardType Try.prog.depth 70 = false := by kernel_rfl
theorem bp67 : Places Try.prog (Try.prog.fieldsOf 67) #[(0, 16), (16, 1)] := fun w => by kernel_rfl
theorem bp72 : Places Try.prog (Try.prog.fieldsOf 72) #[(0, 16), (16, 1)] := fun w => by kernel_rfl
end Go.Proofs.Ytffmanidnlbjjaa
namespace Go.Proofs.Ytffmanidnlbjjaa
/-- what bytes begin with, read group by group -/
def unv (l : List Int) : Nat → Nat → Nat → Nat × Nat × Nat
  | 0, _, _ => (0, 0, 15)
  | k + 1, i, x =>
    if l.length ≤ i then (0, 0, 4) else
    if i = 9 ∧ 1 < bt l i then (0, 0, 15) else
    if bt l i = 0 ∧ 0 < i then (0, 0, 3) else
    if bt l i < 128 then (x + 128 ^ i * bt l i, i + 1, 0) else unv l k (i + 1) (x + 128 ^ i * (bt l i - 128))
section
variable {l : List Int} {k x : Nat} {r : Nat × Nat × Nat}
variable (hU : unv l (10 - k) k x = r) (h : k < 10)
include hU h
end
end Go.Proofs.Ytffmanidnlbjjaa
set_option linter.unusedSimpArgs false
set_option linter.unusedVariables false
set_option maxHeartbeats 800000
set_option maxRecDepth 100000
namespace Go.Proofs.Ytffmanidnlbjjaa
open Go.RowKit

def lowN (x : Nat) (z : Int) : Nat := if z ≤ 0 then 0 else if 64 ≤ z then x else x % 2 ^ z.toNat
theorem NU {k : IntKind} {a b : Nat} (h : a = b) : Value.int k (a : Int) = Value.int k (b : Int) := by rw [h]
end Go.Proofs.Ytffmanidnlbjjaa
namespace Go.Proofs.Ytffmanidnlbjjaa
/-- how many bytes stand ahead of the first zero -/
def nsz : List Int → Nat
  | [] => 0
  | b :: l => if b = 0 then 0 else nsz l + 1
def isLet (b : Int) : Bool := decide (97 ≤ b ∧ b ≤ 122)
def isOth (b : Int) : Bool := decide ((97 ≤ b ∧ b ≤ 122) ∨ (48 ≤ b ∧ b ≤ 57) ∨ b = 45)
def isZer (b : Int) : Bool := decide (b = 0)
def nright (l : List Int) : Bool := isLet (l.getD 0 0) && (l.take (nsz l)).all isOth && (l.drop (nsz l)).all isZer
def numN (l : List Int) : Nat := l.foldl (fun x b => 256 * x + b.toNat) 0
def nm0 : List Int := List.replicate 8 0
end Go.Proofs.Ytffmanidnlbjjaa
namespace Go.Proofs.Ytffmanidnlbjjaa
def kn (x : List Int) (i : Nat) : Nat := (x.getD i 0).toNat
def kitem (x : List Int) : List Int := (x.drop 2).take 8
structure KeyOk (x : List Int) : Prop where
  len : x.length = 12
  e0 : x.getD 0 0 = (kn x 0 : Int)
  b0 : kn x 0 < 256
  e1 : x.getD 1 0 = (kn x 1 : Int)
  b1 : kn x 1 < 65536
  item : Byt (kitem x)
  e10 : x.getD 10 0 = (kn x 10 : Int)
  b10 : kn x 10 < 256
  e11 : x.getD 11 0 = (kn x 11 : Int)
  b11 : kn x 11 < 4294967296
def mkKey (s c : Nat) (l : List Int) (r q : Nat) : List Int := [(s : Int), (c : Int)] ++ l ++ [(r : Int), (q : Int)]
section
variable {s c r q : Nat} {l : List Int}
end
def dotN (x : List Int) : Nat := 4294967296 * kn x 10 + kn x 11
def headN (x : List Int) : Nat := 65536 * kn x 0 + kn x 1
def wordsL (x : List Int) : List Int := [(headN x : Int), (numN (kitem x) : Int), (dotN x : Int)]
def bareK (x : List Int) : List Int := mkKey (kn x 0) (kn x 1) nm0 0 0
def keyR (x : List Int) : Bool :=
  if kn x 0 = 4 then decide (x = bareK x) else
  if kn x 0 = 1 then decide (kn x 11 ≠ 0) && nright (kitem x) && decide (kn x 10 < 16) else
  if kn x 0 = 2 ∨ kn x 0 = 3 then decide (kn x 11 = 0) && nright (kitem x) && decide (kn x 10 < 16) else false
def lexLt : List Int → List Int → Bool
  | a :: x, b :: y => if a = b then lexLt x y else decide (a < b)
  | _, _ => false
def keyLt (x y : List Int) : Bool := lexLt (wordsL x) (wordsL y)
end Go.Proofs.Ytffmanidnlbjjaa
set_option linter.unusedSimpArgs false
set_option linter.unusedVariables false
set_option maxHeartbeats 800000
set_option maxRecDepth 100000
namespace Go.Proofs.Ytffmanidnlbjjaa
open Go.RowKit
theorem c_bitDown  (w0 : World) :
    CallR Try.prog 118 #[.bool false] w0 fun v w' => v = .func (.func 130) #[] #[] ∧ Ext w0 w' := by
 have hS : St NoB w0 w0 [] := St.start w0
 refine c_enter (l := [.bool false, undef, undef, undef]) Try.func118 rfl (by simp only [Try.ntmps118, List.size_toArray, List.length_cons, List.length_nil, Nat.reduceAdd, Nat.reduceSub, Array.replicate_succ, Array.replicate_zero, List.push_toArray, List.append_toArray, List.nil_append, List.cons_append]) ?_
 refine x_seq fun K1 hK1 => ?_
 refine x_region ?_
 refine s_go (s_assign) ?_
 try simp only [opv, n1, n2, n3, n4, Value.cells]
 refine x_nil ?_
 refine hK1 _ _ ?_
 refine x_seq fun K2 hK2 => ?_
 refine x_seq fun K3 hK3 => ?_
 refine x_region ?_
 refine s_go (s_move) ?_
 try simp only [opv, n1, n2, n3, n4, Value.cells]
 refine x_nil ?_
 refine hK3 _ _ ?_
 refine x_cond_f (h := ?_)
 refine x_skip ?_
 refine hK2 _ _ ?_
 refine x_seq fun K4 hK4 => ?_
 refine x_region ?_
 refine s_go (s_assign) ?_
 try simp only [opv, n1, n2, n3, n4, Value.cells]
 refine x_nil ?_
 refine hK4 _ _ ?_
 refine x_ret ?_
 refine r_tmp rfl ?_
 exact ⟨rfl, hS.ext_of⟩
theorem c_bitDown2 (x : Nat) (hx : x < 18446744073709551616) (n : Nat) (hn : n ≤ 63)  (w0 : World) :
    CallR Try.prog 130 #[.int .u64 (x : Int), .int .i64 (n : Int)] w0 fun v w' => v = .int .u64 ((x / 2 ^ n : Nat) : Int) ∧ Ext w0 w' := by
 have hS : St NoB w0 w0 [] := St.start w0
 refine c_enter (l := [.int .u64 (x : Int), .int .i64 (n : Int), undef, undef, undef, undef, undef, undef, undef]) Try.func130 rfl (by simp only [Try.ntmps130, List.size_toArray, List.length_cons, List.length_nil, Nat.reduceAdd, Nat.reduceSub, Array.replicate_succ, Array.replicate_zero, List.push_toArray, List.append_toArray, List.nil_append, List.cons_append]) ?_
 refine x_seq fun K1 hK1 => ?_
 refine x_region ?_
 refine s_go (s_assign) ?_
 try simp only [opv, n1, n2, n3, n4, Value.cells]
 refine x_nil ?_
 refine hK1 _ _ ?_
 refine x_seq fun K2 hK2 => ?_
 refine x_region ?_
 refine s_go (s_move) ?_
 try simp only [opv, n1, n2, n3, n4, Value.cells]
 refine s_go (s_move) ?_
 try simp only [opv, n1, n2, n3, n4, Value.cells]
 refine s_go (s_conv Try.underlying3 Try.underlying173 (hc := by exact wr_u64 (by omega) (by omega))) ?_
 try simp only [opv, n1, n2, n3, n4, Value.cells]
 refine s_go (s_shr (hc := shr_n (r := x) (n := n) rfl (by simp [IntKind.bits]; omega))) ?_
 try simp only [opv, n1, n2, n3, n4, Value.cells]
 refine s_go (s_assign) ?_
 try simp only [opv, n1, n2, n3, n4, Value.cells]
 refine x_nil ?_
 refine hK2 _ _ ?_
 refine x_ret ?_
 refine r_tmp rfl ?_
 exact ⟨rfl, hS.ext_of⟩
theorem c_bitLow (x : Nat) (hx : x < 18446744073709551616) (z : Int) (hz : -9223372036854775808 ≤ z ∧ z ≤ 9223372036854775807)  (w0 : World) :
    CallR Try.prog 119 #[.int .u64 (x : Int), .int .i64 z] w0 fun v w' => v = .int .u64 (lowN x z : Int) ∧ Ext w0 w' := by
 have hS : St NoB w0 w0 [] := St.start w0
 refine c_enter (l := [.int .u64 (x : Int), .int .i64 z, undef, undef, undef, undef, undef, undef, undef, undef, undef, undef, undef, undef, undef, undef, undef, undef]) Try.func119 rfl (by simp only [Try.ntmps119, List.size_toArray, List.length_cons, List.length_nil, Nat.reduceAdd, Nat.reduceSub, Array.replicate_succ, Array.replicate_zero, List.push_toArray, List.append_toArray, List.nil_append, List.cons_append]) ?_
 refine x_seq fun K1 hK1 => ?_
 refine x_region ?_
 refine s_go (s_assign) ?_
 try simp only [opv, n1, n2, n3, n4, Value.cells]
 refine x_nil ?_
 refine hK1 _ _ ?_
 refine x_seq fun K2 hK2 => ?_
 refine x_block ?_
 refine x_seq fun K3 hK3 => ?_
 refine x_region ?_
 refine s_go (s_move) ?_
 try simp only [opv, n1, n2, n3, n4, Value.cells]
 refine s_go (s_leq) ?_
 try simp only [opv, n1, n2, n3, n4, Value.cells]
 refine s_go (s_assign) ?_
 try simp only [opv, n1, n2, n3, n4, Value.cells]
 refine x_nil ?_
 refine hK3 _ _ ?_
 refine x_cond (ht := fun hc1 => ?_) (hf := fun hc1 => ?_)
 ·
  try simp only [decide_eq_true_eq, decide_eq_false_iff_not, Bool.not_eq_true', Bool.not_eq_false', Int.not_lt, Int.not_le, ne_eq, Decidable.not_not, bne_iff_ne, beq_iff_eq, not_true_eq_false, not_false_eq_true] at hc1
  refine x_seq fun K4 hK4 => ?_
  refine x_region ?_
  refine s_go (s_assign) ?_
  try simp only [opv, n1, n2, n3, n4, Value.cells]
  refine x_nil ?_
  refine hK4 _ _ ?_
  refine x_ret ?_
  refine r_tmp rfl ?_
  exact ⟨NU (show 0 = lowN x z by simp [lowN, show z ≤ 0 by omega]), hS.ext_of⟩
 ·
  try simp only [decide_eq_true_eq, decide_eq_false_iff_not, Bool.not_eq_true', Bool.not_eq_false', Int.not_lt, Int.not_le, ne_eq, Decidable.not_not, bne_iff_ne, beq_iff_eq, not_true_eq_false, not_false_eq_true] at hc1
  refine x_seq fun K5 hK5 => ?_
  refine x_region ?_
  refine s_go (s_move) ?_
  try simp only [opv, n1, n2, n3, n4, Value.cells]
  refine s_go (s_geq) ?_
  try simp only [opv, n1, n2, n3, n4, Value.cells]
  refine s_go (s_assign) ?_
  try simp only [opv, n1, n2, n3, n4, Value.cells]
  refine x_nil ?_
  refine hK5 _ _ ?_
  refine x_cond (ht := fun hc2 => ?_) (hf := fun hc2 => ?_)
  ·
   try simp only [decide_eq_true_eq, decide_eq_false_iff_not, Bool.not_eq_true', Bool.not_eq_false', Int.not_lt, Int.not_le, ne_eq, Decidable.not_not, bne_iff_ne, beq_iff_eq, not_true_eq_false, not_false_eq_true] at hc2
   refine x_seq fun K6 hK6 => ?_
   refine x_region ?_
   refine s_go (s_move) ?_
   try simp only [opv, n1, n2, n3, n4, Value.cells]
   refine s_go (s_assign) ?_
   try simp only [opv, n1, n2, n3, n4, Value.cells]
   refine x_nil ?_
   refine hK6 _ _ ?_
   refine x_ret ?_
   refine r_tmp rfl ?_
   exact ⟨NU (show x = lowN x z by simp [lowN, show ¬ z ≤ 0 by omega, show 64 ≤ z by omega]), hS.ext_of⟩
  ·
   try simp only [decide_eq_true_eq, decide_eq_false_iff_not, Bool.not_eq_true', Bool.not_eq_false', Int.not_lt, Int.not_le, ne_eq, Decidable.not_not, bne_iff_ne, beq_iff_eq, not_true_eq_false, not_false_eq_true] at hc2
   obtain ⟨i, rfl⟩ := Int.eq_ofNat_of_zero_le (show 0 ≤ z by omega)
   have hpp := Nat.two_pow_pos i
   have hpl : 2 ^ i ≤ 2 ^ 63 := Nat.pow_le_pow_right (by omega) (by omega)
   refine x_skip ?_
   refine hK2 _ _ ?_
   refine x_seq fun K7 hK7 => ?_
   refine x_region ?_
   refine s_go (s_move) ?_
   try simp only [opv, n1, n2, n3, n4, Value.cells]
   refine s_go (s_move) ?_
   try simp only [opv, n1, n2, n3, n4, Value.cells]
   refine s_go (s_conv Try.underlying3 Try.underlying173 (hc := by exact wr_u64 (by omega) (by omega))) ?_
   try simp only [opv, n1, n2, n3, n4, Value.cells]
   refine s_go (s_shl (hc := shl_lt64 (r := 1) (n := i) rfl (by omega))) ?_
   try simp only [opv, n1, n2, n3, n4, Value.cells]
   refine s_go (s_sub (hc := (wr_u64 (by omega) (by omega)).trans (show (((2 ^ i * 1 : Nat) : Int) - 1) = ((2 ^ i - 1 : Nat) : Int) by omega))) ?_
   try simp only [opv, n1, n2, n3, n4, Value.cells]
   refine s_go (s_bits (by simp) (hc := and_mask hx rfl (by omega))) ?_
   try simp only [opv, n1, n2, n3, n4, Value.cells]
   refine s_go (s_assign) ?_
   try simp only [opv, n1, n2, n3, n4, Value.cells]
   refine x_nil ?_
   refine hK7 _ _ ?_
   refine x_ret ?_
   refine r_tmp rfl ?_
   exact ⟨NU (show x % 2 ^ i = lowN x i by simp only [lowN, Int.toNat_natCast, if_neg (show ¬ (i : Int) ≤ 0 by omega), if_neg (show ¬ 64 ≤ (i : Int) by omega)]), hS.ext_of⟩
theorem c_bitPart (x : Nat) (hx : x < 18446744073709551616) (j : Nat) (hj : j ≤ 63) (z : Int) (hz : -9223372036854775808 ≤ z ∧ z ≤ 9223372036854775807)  (w0 : World) :
    CallR Try.prog 105 #[.int .u64 (x : Int), .int .i64 (j : Int), .int .i64 z] w0 fun v w' => v = .int .u64 (lowN (x / 2 ^ j) z : Int) ∧ Ext w0 w' := by
 have hS : St NoB w0 w0 [] := St.start w0
 refine c_enter (l := [.int .u64 (x : Int), .int .i64 (j : Int), .int .i64 z, undef, undef, undef, undef, undef, undef, undef, undef, undef, undef, undef, undef, undef]) Try.func105 rfl (by simp only [Try.ntmps105, List.size_toArray, List.length_cons, List.length_nil, Nat.reduceAdd, Nat.reduceSub, Array.replicate_succ, Array.replicate_zero, List.push_toArray, List.append_toArray, List.nil_append, List.cons_append]) ?_
 refine x_seq fun K1 hK1 => ?_
 refine x_region ?_
 refine s_go (s_assign) ?_
 try simp only [opv, n1, n2, n3, n4, Value.cells]
 refine x_nil ?_
 refine hK1 _ _ ?_
 refine x_seq fun K2 hK2 => ?_
 refine x_region ?_
 refine s_call en118 ?_
 try simp only [opv, n1, n2, n3, n4, Value.cells, List.map_toArray, List.map_cons, List.map_nil, List.append_toArray, List.cons_append, List.nil_append, Array.append_empty]
 refine CallR.mono (c_bitDown _) ?_
 rintro _ w1 ⟨rfl, hE1⟩
 replace hS := hS.ext hE1
 try simp only [opv, n1, n2, n3, n4, Value.cells]
 refine s_go (s_assign) ?_
 try simp only [opv, n1, n2, n3, n4, Value.cells]
 refine x_nil ?_
 refine hK2 _ _ ?_
 refine x_seq fun K3 hK3 => ?_
 refine x_region ?_
 refine s_go (s_move) ?_
 try simp only [opv, n1, n2, n3, n4, Value.cells]
 refine s_go (s_move) ?_
 try simp only [opv, n1, n2, n3, n4, Value.cells]
 refine s_go (s_move) ?_
 try simp only [opv, n1, n2, n3, n4, Value.cells]
 refine s_go (s_max) ?_
 try simp only [opv, n1, n2, n3, n4, Value.cells]
 rw [Int.max_eq_left (by omega)]
 refine s_callv (hv := rfl) en130 ?_
 try simp only [opv, n1, n2, n3, n4, Value.cells, List.map_toArray, List.map_cons, List.map_nil, List.append_toArray, List.cons_append, List.nil_append, Array.append_empty]
 refine CallR.mono (c_bitDown2 x hx j hj _) ?_
 rintro _ w2 ⟨rfl, hE2⟩
 replace hS := hS.ext hE2
 try simp only [opv, n1, n2, n3, n4, Value.cells]
 refine s_go (s_move) ?_
 try simp only [opv, n1, n2, n3, n4, Value.cells]
 have hdv := Nat.div_le_self x (2 ^ j)
 refine s_call en119 ?_
 try simp only [opv, n1, n2, n3, n4, Value.cells, List.map_toArray, List.map_cons, List.map_nil, List.append_toArray, List.cons_append, List.nil_append, Array.append_empty]
 refine CallR.mono (c_bitLow _ (by omega) _ (by omega) _) ?_
 rintro _ w3 ⟨rfl, hE3⟩
 replace hS := hS.ext hE3
 try simp only [opv, n1, n2, n3, n4, Value.cells]
 refine s_go (s_assign) ?_
 try simp only [opv, n1, n2, n3, n4, Value.cells]
 refine x_nil ?_
 refine hK3 _ _ ?_
 refine x_ret ?_
 refine r_tmp rfl ?_
 exact ⟨rfl, hS.ext_of⟩
theorem c_keyUndot (x : Nat) (hx : x < 18446744073709551616)  (w0 : World) :
    CallR Try.prog 83 #[.int .u64 (x : Int)] w0 fun v w' => v = .tuple #[.int .u8 ((x / 4294967296 % 256 : Nat) : Int), .int .u32 ((x % 4294967296 : Nat) : Int)] ∧ Ext w0 w' := by
 have hS : St NoB w0 w0 [] := St.start w0
 refine c_enter (l := [.int .u64 (x : Int), undef, undef, undef, undef, undef, undef, undef, undef]) Try.func83 rfl (by simp only [Try.ntmps83, List.size_toArray, List.length_cons, List.length_nil, Nat.reduceAdd, Nat.reduceSub, Array.replicate_succ, Array.replicate_zero, List.push_toArray, List.append_toArray, List.nil_append, List.cons_append]) ?_
 refine x_seq fun K1 hK1 => ?_
 refine x_region ?_
 refine s_go (s_assign) ?_
 try simp only [opv, n1, n2, n3, n4, Value.cells]
 refine s_go (s_assign) ?_
 try simp only [opv, n1, n2, n3, n4, Value.cells]
 refine x_nil ?_
 refine hK1 _ _ ?_
 refine x_seq fun K2 hK2 => ?_
 refine x_region ?_
 refine s_go (s_move) ?_
 try simp only [opv, n1, n2, n3, n4, Value.cells]
 refine s_call en105 ?_
 try simp only [opv, n1, n2, n3, n4, Value.cells, List.map_toArray, List.map_cons, List.map_nil, List.append_toArray, List.cons_append, List.nil_append, Array.append_empty]
 refine CallR.mono (c_bitPart x hx 32 (by omega) 8 (by omega) _) ?_
 rintro _ w1 ⟨rfl, hE1⟩
 replace hS := hS.ext hE1
 try simp only [opv, n1, n2, n3, n4, Value.cells]
 rw [show lowN (x / 2 ^ 32) 8 = x / 4294967296 % 256 from rfl]
 refine s_go (s_conv Try.underlying48 Try.underlying5 (hc := by exact wr_u8 (by omega) (by omega))) ?_
 try simp only [opv, n1, n2, n3, n4, Value.cells]
 refine s_go (s_move) ?_
 try simp only [opv, n1, n2, n3, n4, Value.cells]
 refine s_go (s_conv Try.underlying48 Try.underlying29 (hc := cv_u32 rfl)) ?_
 try simp only [opv, n1, n2, n3, n4, Value.cells]
 refine s_go (s_assign) ?_
 try simp only [opv, n1, n2, n3, n4, Value.cells]
 refine s_go (s_assign) ?_
 try simp only [opv, n1, n2, n3, n4, Value.cells]
 refine x_nil ?_
 refine hK2 _ _ ?_
 refine x_ret ?_
 refine r_tmp2 rfl ?_
 exact ⟨rfl, hS.ext_of⟩
end Go.Proofs.Ytffmanidnlbjjaa
namespace Go.Proofs.Ytffmanidnlbjjaa
abbrev atomKs : List IntKind := [.u8, .u16, .u8, .u8, .u8, .u8, .u8, .u8, .u8, .u8, .u8, .u32, .u64, .u8, .u8, .u8, .u8, .u8, .u8, .u8, .u8]
def akey (a : List Int) : List Int := a.take 12
def aval (a : List Int) : List Int := a.drop 12
def vtext (v : List Int) : List Int := v.drop 1
structure ValOk (v : List Int) : Prop where
  len : v.length = 9
  e0 : v.getD 0 0 = (kn v 0 : Int)
  b0 : kn v 0 < 18446744073709551616
  text : Byt (vtext v)
structure AtomOk (a : List Int) : Prop where
  len : a.length = 21
  key : KeyOk (akey a)
  val : ValOk (aval a)
def stampE (n : Nat) : Int := if 16 ≤ n % 256 ∨ 1099511627775 < n then 2 else if n / 256 % 4294967296 = 0 then 3 else 0
def bareV (v : List Int) : Bool := decide (vtext v = nm0)
def valR (s : Nat) (v : List Int) : Bool :=
  if s = 1 then bareV v && decide (kn v 0 = 1 ∨ kn v 0 = 2) else
  if s = 2 ∨ s = 3 then bareV v && decide (1 ≤ kn v 0 ∧ kn v 0 ≤ 4294967295) else
  if s = 4 then decide (stampE (kn v 0) = 0) && (bareV v || nright (vtext v)) else false
def atomR (a : List Int) : Bool := keyR (akey a) && valR (kn a 0) (aval a)
def overV (x y : List Int) : Bool := decide (kn y 0 < kn x 0) || (decide (kn x 0 = kn y 0) && !decide (numN (vtext x) < numN (vtext y)))
def moreV (x y : List Int) : List Int := if overV x y then x else y
end Go.Proofs.Ytffmanidnlbjjaa
namespace Go.Proofs.Ytffmanidnlbjjaa
open Go.RowKit
section
variable {P : Program} {ops : Array Oper} {Q : Exit → Act → World → Prop} {rest : List Oper} {l : List Value} {w : World} {d : Nat} {ty : TypeId} {pos : String} {aft : Array Edge}
variable {S : Nat → Prop} {w0 : World} {L L' : List Res}
end
section
variable {P : Program} {n r : Act → World → Prop} {ex : List (Nat × (Act → World → Prop))} {w : World} {l : List Value} {S : Nat → Prop} {w0 : World} {L : List Res} {A : Option Addr}
/-- a region that draws its order, whose quiet operations lean on some of what is owned alone -/
theorem x_mixed_c {id : Nat} {ops : List Oper} {Lc : List Res} (lt : List Nat) (m : Nat) (V : List Nat) (R : (Nat → Value) → World → Prop) (hm : P.follows .mixedOrders = true) (hs : Region.noSelect ops.toArray = true) (hB : preB .any ops.toArray lt m 0 (Array.replicate ops.length false) = true) (hml : m ≤ ops.length)
    (hS : St S w0 w L) (h : ∀ w', St S w0 w' L → wpPre P ops.toArray (fun w => St S w0 w Lc) (fun a' => AnyE P .any ops.toArray (fun w => St S w0 w Lc) lt (Qx (MixM l V R) r ex) (ops.length - m) (setAll m 0 (Array.replicate ops.length false)) a' w') (ops.take m) (fr l))
    (hM : ∀ f w', R f w' → n (fr (clob l V f)) w') : (Code.region id ops.toArray true).wp P (Qx n r ex) (fr l) w := by
  refine wp_mono ?_ (fun e a w q => ?_) (Q := Qx (MixM l V R) r ex)
  · refine wp_region_any hm (AnyE.any (C := fun w => St S w0 w Lc) (lt := lt) _ ?_)
    have hlen : (ops.take m).length = m := by simp; omega
    have := AnyE.pre (P := P) (md := .any) (ops := ops.toArray) (C := fun w => St S w0 w Lc) (lt := lt) (Q := Qx (MixM l V R) r ex) hs (fun _ _ _ => Qx_panic) (ops.length - m) w.drew (ops.take m) 0 (Array.replicate ops.length false) (fr l) (fun k _ => by simp [Array.getD_eq_getD_getElem?, Array.getElem?_replicate]; split <;> rfl) (fun j hj => by
      rw [List.getElem?_take, if_pos (by omega)]; simp) (by rw [hlen]; exact hB) (by rw [hlen]; exact h _ (hS.ext (Ext.drew w)))
    rw [hlen, show ops.length - m + m = ops.length by omega] at this
    simpa using this
  · cases e with
    | normal => obtain ⟨f, e, hR⟩ := q; subst e; exact hM f _ hR
    | _ => exact q
end
end Go.Proofs.Ytffmanidnlbjjaa
set_option linter.unusedSimpArgs false
set_option linter.unusedVariables false
namespace Go.Proofs.Ytffmanidnlbjjaa
open Go.RowKit
def Fw (r : Option Nat) : Fence := { Fence.wide with round := r }
section
variable {P : Program} {ops : Array Oper} {Q Q2 : Exit → Act → World → Prop} {ds : List Deferred} {r : Option Nat}
end
section
variable {P : Program} {n rr : Act → World → Prop} {ex : List (Nat × (Act → World → Prop))} {a : Act} {w w' : World} {l : List Value} {ds : List Deferred} {r : Option Nat}
end
section
variable {P : Program}
end
end Go.Proofs.Ytffmanidnlbjjaa
set_option linter.unusedSimpArgs false
set_option linter.unusedVariables false
namespace Go.Proofs.Ytffmanidnlbjjaa
open Go.RowKit
theorem upd_mid (A B : List Res) (x y : Res) : Upd (A ++ x :: B) x y (A ++ y :: B) := by
  induction A with
  | nil => exact Upd.head
  | cons z A ih => exact Upd.tail ih
theorem Sel.skip {L L' : List Res} {r : Res} (h : Sel L' L) : Sel L' (r :: L) := by
  induction h generalizing r with
  | nil => exact .nil
  | cons hd _ ih => exact .cons (.tail hd) ih
/-- what may be read behind a call -/
def FrOK (w : World) (M M' : List Res) : Prop := ∀ r ∈ M', ∀ g, r.reads = some g → w.heap.size ≤ g ∨ ∃ s ∈ M, s.own = some g ∨ s.reads = some g
structure ClI (I : World → List Res → Prop) : Prop where
  st : ∀ {W L}, I W L → St (OwnB L) W W L
  on : ∀ {W L W' L'}, I W L → St (OwnB L) W W' L' → FrOK W L L' → I W' L'
section
variable {S : Nat → Prop} {w0 w w' : World}
theorem St.eq {L L' : List Res} (h : St S w0 w L) (e : L = L') : St S w0 w L' := e ▸ h
def StX (S : Nat → Prop) (w0 : World) (X : List Res → Prop) (T : List Res) (W : World) : Prop := ∃ R, X R ∧ St S w0 W (R ++ T)
theorem ClI.ex {α : Sort _} {I : α → World → List Res → Prop} (h : ∀ a, ClI (I a)) : ClI fun W L => ∃ a, I a W L where
  st := fun ⟨a, h1⟩ => (h a).st h1
  on := fun ⟨a, h1⟩ k hr => ⟨a, (h a).on h1 k hr⟩
theorem ClI.or {I J : World → List Res → Prop} (h : ClI I) (h' : ClI J) : ClI fun W L => I W L ∨ J W L where
  st := fun h1 => h1.elim h.st h'.st
  on := fun h1 k hr => h1.imp (fun q => h.on q k hr) (fun q => h'.on q k hr)
theorem StX.put {X : List Res → Prop} {T : List Res} {g : Nat} {o : Obj} (o' : Obj) (h : StX S w0 X (.obj g o :: T) w) : StX S w0 X (.obj g o' :: T) (w.putObj g o') ∧ w.heap[g]? = some o := by
  obtain ⟨R, hX, h⟩ := h
  have hg : w.heap[g]? = some o := h.holds (.obj g o) (by simp)
  have hlt : g < w.heap.size := (Array.getElem?_eq_some_iff.1 hg).1
  refine ⟨⟨R, hX, h.turn (upd_mid R T _ (.obj g o')) ⟨rfl, rfl, rfl, by simp, fun k _ hk => ?_, Nat.le_refl _⟩ ?_ (fun k hk => .inl hk) (fun k hk => by simp [Res.reads] at hk)⟩, hg⟩
  · exact World.putObj_heap_other (fun e => hk (by rw [e]; rfl))
  · exact World.putObj_heap_same hlt
end
def YC (P : Program) (lp : Nat) (args : Array Value) (w : World) (R : Value → World → Prop) : Prop :=
  ∃ f tmps assign body, (Instr.yield lp args).run P w = .ok (.round lp f tmps assign body) w ∧ RoundIn (Fw none) 0 P lp f tmps assign body w (fun e w' => ∃ v, e = .returned v ∧ R v w')
theorem YC.mono {P : Program} {lp : Nat} {args : Array Value} {w : World} {R R' : Value → World → Prop} (h : YC P lp args w R) (hr : ∀ v w', R v w' → R' v w') : YC P lp args w R' := by
  obtain ⟨f, tmps, asg, bd, h1, h2⟩ := h
  exact ⟨f, tmps, asg, bd, h1, h2.mono fun e w' ⟨v, he, q⟩ => ⟨v, he, hr _ _ q⟩⟩
section
variable {P : Program} {ops : Array Oper} {n rr : Act → World → Prop} {ex : List (Nat × (Act → World → Prop))} {ds : List Deferred} {r : Option Nat} {l : List Value} {w : World} {rest : List Oper} {d : Nat} {ty : TypeId} {pos : String} {aft : Array Edge}
end
section
variable {P : Program} {n rr : Act → World → Prop} {ex : List (Nat × (Act → World → Prop))} {ds : List Deferred} {l : List Value} {w w0 : World} {S : Nat → Prop} {L : List Res}
end
end Go.Proofs.Ytffmanidnlbjjaa
set_option linter.unusedSimpArgs false
set_option linter.unusedVariables false
namespace Go.Proofs.Ytffmanidnlbjjaa
open Go.RowKit
section
variable {P : Program} {n rr : Act → World → Prop} {ex : List (Nat × (Act → World → Prop))} {ds : List Deferred} {l : List Value} {w w0 : World} {S : Nat → Prop} {L : List Res} {r : Option Nat}
/-- the head of a list whose tail is T -/
inductive App : List Res → List Res → List Res → Prop
  | nil {T : List Res} : App [] T T
  | cons {x : Res} {R T L : List Res} : App R T L → App (x :: R) T (x :: L)
theorem App.eq {R T L : List Res} (h : App R T L) : L = R ++ T := by
  induction h with
  | nil => rfl
  | cons _ ih => rw [ih]; rfl
end
section
variable {P : Program} {n rr : Act → World → Prop} {ex : List (Nat × (Act → World → Prop))} {ds : List Deferred} {l : List Value} {w w0 : World} {S : Nat → Prop} {L : List Res} {r : Option Nat} {ops : Array Oper} {listed : Array Bool}
end
section
variable {P : Program} {l : List Value} {w : World} {d : Nat} {ty : TypeId} {pos : String} {aft : Array Edge}
end
section
variable {P : Program} {l : List Value} {w : World} {d : Nat} {ty : TypeId} {pos : String} {aft : Array Edge}
end
end Go.Proofs.Ytffmanidnlbjjaa
namespace Go.Proofs.Ytffmanidnlbjjaa
open Go.ChangeShapes Go.WideShapes Go.ChangeAt Go.RowKit
section
variable {H : Type} {enc : TypeId × Value → H} {P : Program}
theorem trodAll_stays {W W' : World} {sp : Nat → Bool} (hl : laidOutB P = true) (hsame : ∀ p : MemPlace, p.block < W.heap.size → W.sameAt W' p) :
    ∀ (ts : List TypeId) (vs : List Value) (ds : List (DataW H)) (ps : List MemPlace), (ts.all fun t => P.readableRec t && decide (t < P.types.size)) = true → (∀ p ∈ ps, p.block < W.heap.size) → (∀ p ∈ ps, sp p.block = true) →
      DataW.TrodAll enc P W 0 (fun _ => true) true ts vs ds ps → DataW.TrodAll enc P W' 0 sp true ts vs ds ps
  | [], [], [], _, _, _, _, h => h
  | t :: ts, v :: vs, d :: ds, ps, hr, hlt, hsp, h => by
    obtain ⟨p, q, h1, h2, rfl⟩ := h
    simp only [List.all_cons, Bool.and_eq_true, decide_eq_true_eq] at hr
    exact ⟨p, q, WideElems.Trod_stays hl hr.1.1 hr.1.2 h1 (fun x hx => hsame x (hlt x (by simp [hx]))) (fun x hx => hsp x (by simp [hx])), trodAll_stays hl hsame ts vs ds q hr.2 (fun x hx => hlt x (by simp [hx])) (fun x hx => hsp x (by simp [hx])) h2, rfl⟩
  | [], _ :: _, _, _, _, _, _, h => by simp [DataW.TrodAll] at h
  | [], [], _ :: _, _, _, _, _, h => by simp [DataW.TrodAll] at h
  | _ :: _, [], _, _, _, _, _, h => by simp [DataW.TrodAll] at h
  | _ :: _, _ :: _, [], _, _, _, _, h => by simp [DataW.TrodAll] at h
theorem trodAll_len {W : World} {b : Nat} {sp : Nat → Bool} {hd : Bool} : ∀ (ts : List TypeId) (vs : List Value) (ds : List (DataW H)) (ps : List MemPlace), DataW.TrodAll enc P W b sp hd ts vs ds ps → ds.length = ts.length
  | [], [], [], _, _ => rfl
  | t :: ts, v :: vs, d :: ds, ps, h => by
    obtain ⟨p, q, h1, h2, rfl⟩ := h
    simp [trodAll_len ts vs ds q h2]
  | [], _ :: _, _, _, h => by simp [DataW.TrodAll] at h
  | [], [], _ :: _, _, h => by simp [DataW.TrodAll] at h
  | _ :: _, [], _, _, h => by simp [DataW.TrodAll] at h
  | _ :: _, _ :: _, [], _, h => by simp [DataW.TrodAll] at h
theorem post_of_below {f : Func} {s : ChangeSpec} {apart fresh handsOn again : Bool} {W W' : World} {args : Array Value} {v : Value} {ds gs : List (DataW H)} {before pa pv : List MemPlace}
    (hW : DataW.Whole enc P f.params.toList s.vars apart W args.toList ds gs before)
    (hres : ∀ (b : Nat) (sp : Nat → Bool) (hd : Bool), DataW.TrodAll enc P W' b sp hd f.resultTypes.toList (v.resultList f.resultTypes.size) (s.fn H (ds ++ gs)).results [])
    (hargs : ∀ sp : Nat → Bool, (∀ p ∈ before, sp p.block = true) → DataW.TrodAll enc P W' 0 sp true f.params.toList args.toList (s.fn H (ds ++ gs)).args pa)
    (hvars : ∀ sp : Nat → Bool, (∀ p ∈ before, sp p.block = true) → DataW.TrodVars enc P W' sp s.vars (s.fn H (ds ++ gs)).vars pv)
    (hps : before = pa ++ pv) (hb : Below W.heap.size W W')
    (hok : ∀ (j : Nat) (t : TypeId) (r : Value), f.resultTypes[j]? = some t → (v.resultList f.resultTypes.size)[j]? = some r → Value.okWide P W' .any 0 t r) :
    s.post enc P f apart fresh handsOn again W args v W' := by
  have hlt : ∀ p ∈ before, p.block < W.heap.size := fun p hp => hW.lt p hp
  have hold : ∀ p ∈ before, (fun b => decide (b < W.heap.size)) p.block = true := fun p hp => by simpa using hlt p hp
  refine ⟨ds, gs, before, [], pa, pv, hW, hres _ _ _, hargs _ hold, hvars _ hold, World.keptBut_mono (fun p hp => ⟨hp, ?_⟩) (hb.frame (· ∈ before)), fun _ => ?_⟩
  · rw [hps, List.mem_append] at hp
    exact Or.inr hp
  · obtain ⟨_, _, _, _, _, hz, hn⟩ := hW
    refine ⟨hok, _, _, ([] ++ pa) ++ pv, ⟨[] ++ pa, pv, trodAll_append (hargs _ (fun _ _ => rfl)) (hres _ _ _), hvars _ (fun _ _ => rfl), rfl, ?_, ?_⟩, ?_⟩
    · intro b off hp
      have hin : MemPlace.cell b off ∈ before := by rw [hps]; simpa using hp
      rw [hb.frozen (hlt _ hin)]
      exact hz b off hin
    · intro ha
      have := hn ha
      rw [hps] at this
      simpa using this
    · intro p hp _
      rw [hps]
      simpa using hp
end
theorem law_lifted {H : Type} {enc : TypeId × Value → H} {C : Checked} {os : Os} {k : FuncId} {fn : Func} {s : ChangeSpec} {conds : List PathCond} {tb : TypeId}
    (own : ownKnob C.prog.godebug = none) (started : os.Started) (noInit : C.prog.inits.idxOf? k = none) (hfn : C.prog.funcs[k]? = some fn)
    (i : Input) (fuel : Nat)
    (hv : (World.plainHolding C.prog os i).variablesB C.prog = true)
    (hr : ((World.plainHolding C.prog os i).heap.toList.drop C.prog.globals.size).take ((begin C.prog (fun _ _ => 0) default).world.heap.size - C.prog.globals.size) =
      (begin C.prog (fun _ _ => 0) default).world.heap.toList.drop C.prog.globals.size)
    (hok : Input.okWideB C.prog (World.plainHolding C.prog os i) k ⟨#[], i.args, []⟩ = true)
    (hpre : s.preB enc C.prog fn conds false (World.plainHolding C.prog os i).memory i.args fuel = true)
    (hsz : s.sizedB enc C.prog fn false (World.plainHolding C.prog os i).memory i.args fuel = true)
    (hl : laidOutB C.prog = true) (hvars : s.vars = []) (hpar : (fn.params.toList.all fun t => C.prog.readableRec t && decide (t < C.prog.types.size)) = true)
    (hspec : ∀ ds : List (DataW H), ds.length = fn.params.size → s.fn H ds = { results := [.lit (.bool true)], args := ds })
    (hres : fn.resultTypes = #[tb]) (hb : C.prog.underlying tb = some .bool)
    (walk : ∀ (W : World) (base : Nat) (args : Array Value) (ds : List (DataW H)) (ps : List MemPlace),
      (∀ (j : Nat) t v, fn.params[j]? = some t → args[j]? = some v → Value.okWide C.prog W .any base t v) →
      DataW.TrodAll enc C.prog W 0 (fun _ => true) true fn.params.toList args.toList ds ps →
      (∀ x ∈ DataW.weightsEach C.prog fn.params.toList ds, x ≤ reachBytes) →
      CallR C.prog k args W fun v W' => v = .bool true ∧ Ext W W') :
    ReturnsInHanded {} C os k .any (s.pre6 enc C.prog fn conds false) (s.post enc C.prog fn false true false false) := by
  refine returnsInHanded_of_change_sized (C := C) own started noInit hfn (ChangeSpec.witness6 (enc := enc) (C := C) false i fuel hv hr hok hpre hsz) ?_
  intro W base args ds gs before hval hW _ hwt _
  have hW' := hW
  obtain ⟨p, q, hA, hV, hpq, hfz, hnd⟩ := hW
  rw [hvars] at hV
  obtain ⟨rfl, rfl⟩ := trodVars_none hV
  have hlen := trodAll_len _ _ _ _ hA
  have hwt' : ∀ x ∈ DataW.weightsEach C.prog fn.params.toList ds, x ≤ reachBytes := by
    have e : s.plain.varTypes C.prog = [] := by simp [ChangeSpec.plain, DataSpec.varTypes, hvars]
    rw [e, List.append_nil, List.append_nil] at hwt
    simpa using hwt
  refine Calls.mono (walk W base args ds p hval hA hwt') fun e W' ⟨v, he, hv, hE⟩ => ⟨v, he, ?_⟩
  subst hv
  have hB := hE.below
  have hs := hspec ds (by simpa using hlen)
  have hlt : ∀ x ∈ before, x.block < W.heap.size := fun x hx => hW'.lt x hx
  have hpb : before = p := by rw [hpq]; simp
  refine post_of_below (pa := p) (pv := []) hW' ?_ ?_ ?_ ?_ hB ?_
  · intro b sp hd
    rw [hres, List.append_nil, hs]
    exact trodAll_mk1 (shut_bool hb true)
  · intro sp hsp
    rw [List.append_nil, hs]
    exact trodAll_stays hl (fun x hx => hB.same hx) _ _ _ _ hpar (fun x hx => hlt x (hpb ▸ hx)) (fun x hx => hsp x (hpb ▸ hx)) hA
  · intro sp _
    rw [List.append_nil, hs, hvars]
    rfl
  · rw [hpb]; simp
  · exact ok_one hres rfl (okWide_bool_mk hb true)
end Go.Proofs.Ytffmanidnlbjjaa
namespace Go.Proofs.Ytffmanidnlbjjaa
open Go.ChangeShapes Go.WideShapes Go.ChangeAt Go.RowKit
theorem add_at0 (g o k : Nat) : (⟨g, o, none⟩ : Addr).add k = ⟨g, o + k, none⟩ := by unfold Addr.add; split <;> simp_all
/-- what a cell may hold, in a world -/
def LK := World → Value → Prop
def LK.int (k : IntKind) : LK := fun _ v => ∃ n, v = .int k n ∧ (Lit.int k n).wf = true
def LK.bool : LK := fun _ v => ∃ b, v = .bool b
def AllOk (w : World) : List LK → List Value → Prop
  | [], [] => True
  | k :: ks, v :: vs => k w v ∧ AllOk w ks vs
  | _, _ => False
theorem AllOk.len {w : World} : ∀ {ks : List LK} {vs : List Value}, AllOk w ks vs → vs.length = ks.length
  | [], [], _ => rfl
  | _ :: _, _ :: _, h => by simp [AllOk.len h.2]
  | [], _ :: _, h => h.elim
  | _ :: _, [], h => h.elim
theorem AllOk.app {w : World} : ∀ {ks js : List LK} {vs us : List Value}, AllOk w ks vs → AllOk w js us → AllOk w (ks ++ js) (vs ++ us)
  | [], _, [], _, _, h => h
  | _ :: _, _, _ :: _, _, h, h' => ⟨h.1, AllOk.app h.2 h'⟩
  | [], _, _ :: _, _, h, _ => h.elim
  | _ :: _, _, [], _, h, _ => h.elim
/-- the cells of a type that holds no pointer -/
def Flat (P : Program) (t : TypeId) (ks : List LK) : Prop := ∀ {H : Type} (enc : TypeId × Value → H) (w : World) (base : Nat) (sp : Nat → Bool) (held : Bool) (fuel : Nat) (cs : List Value) (x : DataW H × List MemPlace),
  DataW.trod enc P w base sp held fuel t cs = some x → AllOk w ks cs
section
variable {P : Program} {t e : TypeId} {ks : List LK}
theorem flat_int {k : IntKind} (h : P.underlying t = some (.int k)) : Flat P t [.int k] := fun _ _ _ _ _ _ _ _ hx => by
  obtain ⟨n, rfl, _, hw⟩ := DataW.trod_int h hx
  exact ⟨⟨n, rfl, hw⟩, trivial⟩
end
section
variable {H : Type} {enc : TypeId × Value → H} {P : Program} {w : World} {base : Nat} {sp : Nat → Bool} {held : Bool} {t e : TypeId} {r : Reach} {b0 : Nat} {v : Value} {d : DataW H} {ps : List MemPlace} {ks : List LK}
/-- a slice's elements, out of the look at its cells -/
theorem slice_trod {sz : Nat} (hu : P.underlying t = some (.slice e)) (hf : Flat P e ks) (hk : ks.length = sz) (hce : P.cellsOf e = sz) (h0 : 0 < sz) {m : Nat} {cs : List Value} (hm : DataW.trod enc P w base sp held m t cs = some (d, ps)) :
    ∃ A n c xs, cs = [.slice A n c] ∧ n ≤ c ∧ c ≤ maxLen ∧ Rd w A sz n xs ∧ (∀ i, i < n → AllOk w ks ((xs.drop (i * sz)).take sz)) ∧ (n = 0 ∨ ∃ es rs, d = .slice es rs ∧ es.length = n) := by
  rcases DataW.trod_slice hu hm with ⟨e1, _⟩ | ⟨a, len, cap, elems, rest, n, _, e1, hx, hb, hlc, hcm, hel, hcells, _, _⟩
  · exact ⟨none, 0, 0, [], e1, Nat.le_refl _, Nat.zero_le _, ⟨by simp, fun h => absurd h (by omega)⟩, fun i hi => absurd hi (by omega), .inl rfl⟩
  · subst e1
    simp only [Prod.mk.injEq] at hx
    -- the elements' cells, one by one
    have hone : ∀ i, i < len → ∃ cs : List Value, cs.length = sz ∧ AllOk w ks cs ∧ ∀ j, j < sz → w.cell? ((a.add (i * sz)).add j) = cs[j]? := fun i hi => by
      have h1 := hcells i hi
      rw [hce] at h1
      have hlt : i < elems.length := by omega
      rw [List.getElem?_eq_getElem hlt] at h1
      cases hc : w.cells? base (a.add (i * sz)) sz with
      | none => rw [hc] at h1; cases h1
      | some cs =>
        rw [hc] at h1
        obtain ⟨_, hl, hj⟩ := World.cells?_some hc
        exact ⟨cs, hl, hf _ _ _ _ _ _ _ _ h1, hj⟩
    have hrow : ∀ n, n ≤ len → ∃ xs : List Value, xs.length = n * sz ∧ (∀ i, i < n → AllOk w ks ((xs.drop (i * sz)).take sz)) ∧ ∀ i j, i < n → j < sz → w.cell? ((a.add (i * sz)).add j) = xs[i * sz + j]? := by
      intro n
      induction n with
      | zero => exact fun _ => ⟨[], by simp, fun i hi => absurd hi (by omega), fun i j hi => absurd hi (by omega)⟩
      | succ n ih =>
        intro hn
        obtain ⟨xs, hl, hok, hc⟩ := ih (by omega)
        obtain ⟨cs, hcl, hcok, hcc⟩ := hone n (by omega)
        refine ⟨xs ++ cs, by simp [hl, hcl, Nat.succ_mul], fun i hi => ?_, fun i j hi hj => ?_⟩
        · rcases Nat.lt_or_ge i n with h | h
          · have h2 : i * sz + sz ≤ n * sz := by rw [← Nat.succ_mul]; exact Nat.mul_le_mul_right _ h
            rw [List.drop_append_of_le_length (by omega), List.take_append_of_le_length (by simp; omega)]
            exact hok i h
          · obtain rfl : i = n := by omega
            rw [List.drop_append, hl, List.drop_eq_nil_of_le (by omega)]
            simp only [Nat.sub_self, List.drop_zero, List.nil_append]
            rwa [List.take_of_length_le (by omega)]
        · rcases Nat.lt_or_ge i n with h | h
          · have h2 : i * sz + sz ≤ n * sz := by rw [← Nat.succ_mul]; exact Nat.mul_le_mul_right _ h
            rw [List.getElem?_append_left (by omega)]
            exact hc i j h hj
          · obtain rfl : i = n := by omega
            rw [List.getElem?_append_right (by omega), hl, Nat.add_sub_cancel_left]
            exact hcc j hj
    obtain ⟨xs, hl, hok, hc⟩ := hrow len (Nat.le_refl _)
    refine ⟨some a, len, cap, xs, rfl, hlc, hcm, ⟨hl, fun hn => ?_⟩, hok, .inr ⟨_, _, hx.1, by simpa using hel⟩⟩
    -- the address is a plain one
    have h0' := hc 0 0 hn h0
    have hlt : 0 < xs.length := by rw [hl]; exact Nat.mul_pos hn h0
    obtain ⟨b, o, spot⟩ := a
    simp only [Nat.zero_mul, Nat.add_zero, Addr.add, if_true] at h0'
    rw [List.getElem?_eq_getElem hlt] at h0'
    have hsp : spot = none := by
      unfold World.cell? at h0'
      split at h0'
      · split at h0'
        · cases h0'
        · rename_i hs; simpa using hs
      · cases h0'
    subst hsp
    refine ⟨b, o, rfl, World.block_lt_of_cell? _ _ h0', fun j u hu => ?_⟩
    have hj := (List.getElem?_eq_some_iff.1 hu).1
    have hdm := Nat.div_add_mod j sz
    have h3 := hc (j / sz) (j % sz) (by rw [hl] at hj; exact Nat.div_lt_of_lt_mul (by rw [Nat.mul_comm]; exact hj)) (Nat.mod_lt _ h0)
    have hdm' : j / sz * sz + j % sz = j := by rw [Nat.mul_comm]; exact hdm
    rw [add_at0, add_at0, Nat.add_assoc, hdm'] at h3
    rw [← hu, ← h3]
theorem open_slice {sz : Nat} (hu : P.underlying t = some (.slice e)) (hf : Flat P e ks) (hk : ks.length = sz) (hce : P.cellsOf e = sz) (h0 : 0 < sz) (hval : Value.okWide P w r b0 t v) (h : DataW.Trod enc P w base sp held t v d ps) :
    ∃ A n c xs, v = .slice A n c ∧ n ≤ c ∧ c ≤ maxLen ∧ Rd w A sz n xs ∧ (∀ i, i < n → AllOk w ks ((xs.drop (i * sz)).take sz)) ∧ (n = 0 ∨ ∃ es rs, d = .slice es rs ∧ es.length = n) := by
  obtain ⟨A, len, cap, rfl⟩ := okWide_slice hu hval
  obtain ⟨m, hm⟩ := h
  obtain ⟨A', n, c, xs, e1, h⟩ := slice_trod hu hf hk hce h0 hm
  simp [Value.cells] at e1
  obtain ⟨rfl, rfl, rfl⟩ := e1
  exact ⟨_, _, _, xs, rfl, h⟩
/-- a slice of integers -/
theorem allOk_int1 {w : World} {k : IntKind} : ∀ {vs : List Value}, (∀ i, i < vs.length → AllOk w [LK.int k] ((vs.drop (i * 1)).take 1)) → ∃ l : List Int, vs = l.map (Value.int k) ∧ l.length = vs.length ∧ ∀ x ∈ l, (Lit.int k x).wf = true
  | [], _ => ⟨[], rfl, rfl, by simp⟩
  | v :: vs, h => by
    have h0 := h 0 (by simp)
    simp only [Nat.zero_mul, List.drop_zero, List.take_succ_cons, List.take_zero] at h0
    obtain ⟨⟨x, rfl, hx⟩, _⟩ := h0
    obtain ⟨l, rfl, hl, hw⟩ := allOk_int1 (vs := vs) (fun i hi => by have := h (i + 1) (by simpa using hi); simpa using this)
    exact ⟨x :: l, rfl, by simp, by intro y hy; rcases List.mem_cons.1 hy with rfl | hy; exact hx; exact hw y hy⟩
theorem open_ints {k : IntKind} (hu : P.underlying t = some (.slice e)) (he : P.underlying e = some (.int k)) (hce : P.cellsOf e = 1) (hval : Value.okWide P w r b0 t v) (h : DataW.Trod enc P w base sp held t v d ps) :
    ∃ (A : Option Addr) (n c : Nat) (l : List Int), v = .slice A n c ∧ n ≤ c ∧ Rd w A 1 n (l.map (Value.int k)) ∧ l.length = n ∧ (∀ x ∈ l, (Lit.int k x).wf = true) ∧ (n = 0 ∨ ∃ es rs, d = .slice es rs ∧ es.length = n) := by
  obtain ⟨A, n, c, xs, rfl, hnc, _, hr, hok, hd⟩ := open_slice hu (flat_int he) rfl hce Nat.one_pos hval h
  have hl : xs.length = n := by simpa using hr.1
  obtain ⟨l, rfl, hll, hw⟩ := allOk_int1 (vs := xs) (fun i hi => hok i (by omega))
  exact ⟨A, n, c, l, rfl, hnc, hr, by omega, hw, hd⟩
/-- the weight of a slice -/
theorem slice_weight {t e : TypeId} {ts : List TypeId} {d : DataW H} {ds : List (DataW H)} {n by' : Nat} (hu : P.underlying t = some (.slice e)) (hby : P.bytesOf e = by') (h : ∀ x ∈ DataW.weightsEach P (t :: ts) (d :: ds), x ≤ reachBytes) (hd : n = 0 ∨ ∃ es rs, d = .slice es rs ∧ es.length = n) : n * by' ≤ reachBytes := by
  rcases hd with rfl | ⟨es, rs, rfl, rfl⟩
  · simp
  · have := h ((es.length + rs.length) * P.bytesOf e) (by simp [DataW.weightsEach, DataW.weights, hu])
    rw [hby] at this
    exact Nat.le_trans (Nat.mul_le_mul_right _ (by omega)) this
theorem rest_weight {t : TypeId} {ts : List TypeId} {d : DataW H} {ds : List (DataW H)} (h : ∀ x ∈ DataW.weightsEach P (t :: ts) (d :: ds), x ≤ reachBytes) : ∀ x ∈ DataW.weightsEach P ts ds, x ≤ reachBytes := fun x hx => h x (by simp [DataW.weightsEach, hx])
end
end Go.Proofs.Ytffmanidnlbjjaa
namespace Go.Proofs.Ytffmanidnlbjjaa
/-- the cells of a row of things -/
def rowsOf {α : Type} (cells : α → List Value) (l : List α) : List Value := (l.map cells).flatten
section
variable {α : Type} {cells : α → List Value} {sz : Nat}
end
end Go.Proofs.Ytffmanidnlbjjaa
set_option linter.unusedSimpArgs false
set_option linter.unusedVariables false
namespace Go.Proofs.Ytffmanidnlbjjaa
open Go.RowKit
structure KeyT (P : Program) (t : TypeId) {κ : Type} [DecidableEq κ] (kv : κ → Value) (ok : κ → Prop) : Prop where
  chk : ∀ (em : Bool) (w : World) (a : κ), ok a → (Instr.checkKey em 10000 t (kv a)).run P w = .ok () w
  eq : ∀ (w : World) (a b : κ), ok a → ok b → (Op.equal t (kv a) (kv b)).run P w = .ok (decide (a = b)) w
  now : ∃ kd, P.underlying t = some kd ∧ ((∀ a b, ok a → ok b → Instr.sameNow kd (kv a) (kv b) = none) ∨ ∀ a b, ok a → ok b → Instr.sameNow kd (kv a) (kv b) = some (decide (a = b)))
  same : ∀ a, Instr.sameBits 10000 (kv a) (kv a) = true
theorem keyT_int {P : Program} {t : TypeId} {k : IntKind} (hu : P.underlying t = some (.int k)) : KeyT P t (fun x : Int => .int k x) (fun _ => True) := by
  have hck : ∀ (d : Nat) (em : Bool) (w : World) (a : Int), (Instr.checkKey em (d + 1) t (.int k a)).run P w = .ok () w := fun d em w a => by simp [Instr.checkKey, run_underlying hu]
  have hsb : ∀ (d : Nat) (a : Int), Instr.sameBits d (.int k a) (.int k a) = true := fun d a => by cases d <;> simp [Instr.sameBits]
  refine ⟨fun em w a _ => hck 9999 em w a, fun w a b _ _ => ?_, ⟨_, hu, .inr fun a b _ _ => ?_⟩, fun a => hsb 10000 a⟩
  · have h := run_equalIn_int (P := P) w 9999 t k k a b hu
    have h2 : (Op.equal t (.int k a) (.int k b)).run P w = _ := h
    rw [h2]
    by_cases e : a = b <;> simp [e]
  · simp [Instr.sameNow]; rfl
section
variable {P : Program} {κ : Type}
def mEs (kv : κ → Value) (s : Nat) : List (κ × Value) → List MapEntry
  | [] => []
  | (a, v) :: D => ⟨kv a, v, s⟩ :: mEs kv (s + 1) D
def mObj (kv : κ → Value) (D : List (κ × Value)) : Obj := .map (mEs kv 0 D).toArray D.length
def MOk (ok : κ → Prop) (D : List (κ × Value)) : Prop := ∀ p ∈ D, ok p.1
theorem mEs_len (kv : κ → Value) : ∀ (s : Nat) (D : List (κ × Value)), (mEs kv s D).length = D.length
  | _, [] => rfl
  | s, (a, v) :: D => by simp [mEs, mEs_len kv (s + 1) D]
theorem mEs_get (kv : κ → Value) : ∀ (s : Nat) (D : List (κ × Value)) (i : Nat), (mEs kv s D)[i]? = D[i]?.map fun p => ⟨kv p.1, p.2, s + i⟩
  | _, [], _ => by simp [mEs]
  | s, (a, v) :: D, 0 => by simp [mEs]
  | s, (a, v) :: D, i + 1 => by simp only [mEs, List.getElem?_cons_succ, mEs_get kv (s + 1) D i]; congr 1; funext p; congr 1; omega
theorem mEs_app (kv : κ → Value) : ∀ (s : Nat) (D E : List (κ × Value)), mEs kv s (D ++ E) = mEs kv s D ++ mEs kv (s + D.length) E
  | s, [], E => by simp [mEs]
  | s, (a, v) :: D, E => by simp only [List.cons_append, mEs, mEs_app kv (s + 1) D E, List.length_cons]; rw [show s + 1 + D.length = s + (D.length + 1) by omega]
theorem run_getObj_mp {kv : κ → Value} {w : World} {g : Nat} {D : List (κ × Value)} (h : w.heap[g]? = some (mObj kv D)) : (getObj g).run P w = .ok (mObj kv D) w := MapKept.run_getObj_map h
end
section
variable {κ : Type} [DecidableEq κ]
def mfind (a : κ) : List (κ × Value) → Nat → Option (Nat × Value)
  | [], _ => none
  | (b, v) :: D, i => if a = b then some (i, v) else mfind a D (i + 1)
def mget (a : κ) : List (κ × Value) → Option Value
  | [] => none
  | (b, v) :: D => if a = b then some v else mget a D
def mput (a : κ) (v : Value) : List (κ × Value) → List (κ × Value)
  | [] => [(a, v)]
  | (b, u) :: D => if a = b then (a, v) :: D else (b, u) :: mput a v D
theorem mfind_get (a : κ) : ∀ (D : List (κ × Value)) (i : Nat), (mfind a D i).map (·.2) = mget a D
  | [], _ => rfl
  | (b, v) :: D, i => by simp only [mfind, mget]; split; rfl; exact mfind_get a D (i + 1)
theorem mput_none {a : κ} {v : Value} : ∀ {D : List (κ × Value)} {i : Nat}, mfind a D i = none → mput a v D = D ++ [(a, v)]
  | [], _, _ => rfl
  | (b, u) :: D, i, h => by
    simp only [mfind] at h
    split at h
    · cases h
    · rename_i hne
      simp only [mput, if_neg hne, List.cons_append, mput_none h]
theorem mput_some {kv : κ → Value} {a : κ} {v : Value} : ∀ {D : List (κ × Value)} {s i j : Nat} {u : Value}, mfind a D s = some (i, u) → i = s + j → j < D.length ∧ (mEs kv 0 D)[j]?.map (·.key) = some (kv a) ∧ ∀ q, mEs kv q (mput a v D) = (mEs kv q D).modify j fun e => { e with key := kv a, val := v }
  | [], _, _, _, _, h, _ => by cases h
  | (b, x) :: D, s, i, j, u, h, hj => by
    simp only [mfind] at h
    split at h
    · rename_i he
      subst he
      simp only [Option.some.injEq, Prod.mk.injEq] at h
      obtain rfl : j = 0 := by omega
      exact ⟨by simp, by simp [mEs], fun q => by simp [mput, mEs]⟩
    · rename_i hne
      have hs : s + 1 ≤ i := by
        have : ∀ (D : List (κ × Value)) (s i : Nat) (u : Value), mfind a D s = some (i, u) → s ≤ i := by
          intro D
          induction D with
          | nil => intro s i u h; cases h
          | cons p D ih =>
            intro s i u h
            simp only [mfind] at h
            split at h
            · simp at h; omega
            · have := ih _ _ _ h; omega
        exact this _ _ _ _ h
      obtain ⟨j, rfl⟩ : ∃ k, j = k + 1 := ⟨j - 1, by omega⟩
      obtain ⟨h1, h2, h3⟩ := mput_some (kv := kv) (v := v) h (show i = (s + 1) + j by omega)
      refine ⟨by simp; omega, ?_, fun q => ?_⟩
      · rw [mEs_get] at h2 ⊢
        simpa using h2
      · simp only [mput, if_neg hne, mEs, h3, List.modify_succ_cons]
theorem mput_ok {ok : κ → Prop} {a : κ} {v : Value} (ha : ok a) : ∀ {D : List (κ × Value)}, MOk ok D → MOk ok (mput a v D)
  | [], _ => by intro p hp; simp [mput] at hp; subst hp; exact ha
  | (b, u) :: D, h => by
    have hD : MOk ok D := fun p hp => h p (by simp [hp])
    intro p hp
    simp only [mput] at hp
    split at hp
    · rcases List.mem_cons.1 hp with rfl | hp
      · exact ha
      · exact hD p hp
    · rcases List.mem_cons.1 hp with rfl | hp
      · exact h _ (by simp)
      · exact mput_ok ha hD p hp
theorem mget_put (a b : κ) (v : Value) : ∀ (D : List (κ × Value)), mget b (mput a v D) = if b = a then some v else mget b D
  | [] => by simp [mput, mget]
  | (c, u) :: D => by
    simp only [mput]
    by_cases hac : a = c
    · subst hac; simp only [if_true, mget]; split <;> rfl
    · simp only [if_neg hac, mget, mget_put a b v D]
      by_cases hbc : b = c
      · subst hbc; simp [Ne.symm hac]
      · simp [hbc]
end
section
variable {P : Program} {κ : Type} [DecidableEq κ] {t : TypeId} {kv : κ → Value} {ok : κ → Prop}
theorem run_findKey (K : KeyT P t kv ok) (w : World) {a : κ} (ha : ok a) {D : List (κ × Value)} (hD : MOk ok D) : (Instr.findKey t (kv a) (mEs kv 0 D)).run P w = .ok (mfind a D 0) w := by
  have ask : ∀ (D : List (κ × Value)) (s q : Nat), MOk ok D → (Instr.findAsking t (kv a) (mEs kv q D) s).run P w = .ok (mfind a D s) w := by
    intro D
    induction D with
    | nil => intro s q _; simp [mEs, Instr.findAsking, mfind]
    | cons p D ih =>
      intro s q hD
      obtain ⟨b, v⟩ := p
      have hb : ok b := hD (b, v) (by simp)
      simp only [mEs, Instr.findAsking, Sem.run_bind, K.eq w a b ha hb, Result.andThen_ok, mfind]
      by_cases e : a = b
      · simp [e]
      · simp only [e, decide_false, Bool.false_eq_true, if_false]
        exact ih (s + 1) (q + 1) (fun p hp => hD p (by simp [hp]))
  obtain ⟨kd, hu, hk⟩ := K.now
  simp only [Instr.findKey, Sem.run_bind, run_underlying hu, Result.andThen_ok]
  rcases hk with hk | hk
  · rcases D with _ | ⟨⟨b, v⟩, D⟩
    · simp [mEs, Instr.findNow, mfind]
    · have hb : ok b := hD (b, v) (by simp)
      simp only [mEs, Instr.findNow, hk a b ha hb]
      exact ask ((b, v) :: D) 0 0 hD
  · have now : ∀ (D : List (κ × Value)) (s q : Nat), MOk ok D → Instr.findNow kd (kv a) (mEs kv q D) s = some (mfind a D s) := by
      intro D
      induction D with
      | nil => intro s q _; rfl
      | cons p D ih =>
        intro s q hD
        obtain ⟨b, v⟩ := p
        simp only [mEs, Instr.findNow, hk a b ha (hD (b, v) (by simp)), mfind]
        by_cases e : a = b
        · simp [e]
        · simp only [e, decide_false, if_false]
          exact ih (s + 1) (q + 1) (fun p hp => hD p (by simp [hp]))
    rw [now D 0 0 hD]
    simp
end
section
variable {P : Program} {κ : Type} {kt et T : TypeId} {kv : κ → Value}
variable {ops : Array Oper} {Q : Exit → Act → World → Prop} {rest : List Oper} {l : List Value} {w : World} {d : Nat} {ty : TypeId} {pos : String} {aft : Array Edge}
variable {S : Nat → Prop} {w0 : World} {L L' : List Res}
theorem setObj_keep (w : World) (g : Nat) (o : Obj) : Keep (fun k => some g = some k) w { w with heap := w.heap.setIfInBounds g o } :=
  ⟨rfl, rfl, rfl, by simp, fun k _ hk => by
    show (w.heap.setIfInBounds g o)[k]? = _
    rw [Array.getElem?_setIfInBounds_ne]
    exact fun e => hk (by rw [e]), Nat.le_refl _⟩
theorem m_makeMap {T : TypeId} (kv : κ → Value) (hS : St S w0 w L) (h : ∀ w' g, St S w0 w' (.obj g (mObj kv []) :: L) → WL P ops Q rest (fr (l.set d (.map (some g)))) w') : WL P ops Q (⟨some d, .makeMap T none, ty, pos, aft, none⟩ :: rest) (fr l) w :=
  s_val (w' := w.alloc (.map #[] 0)) (v := .map (some w.heap.size)) (by simp [execOp, run_makeMap]) (h _ _ (hS.alloc _))
end
section
variable {P : Program} {κ : Type} [DecidableEq κ] {kt et T : TypeId} {kv : κ → Value} {ok : κ → Prop}
variable {ops : Array Oper} {Q : Exit → Act → World → Prop} {rest : List Oper} {l : List Value} {w : World} {d : Nat} {ty : TypeId} {pos : String} {aft : Array Edge}
variable {S : Nat → Prop} {w0 : World} {L L' : List Res}
theorem run_lookup (K : KeyT P kt kv ok) (hT : P.underlying T = some (.map kt et)) {sz by' : Nat} {z : Value} (hi : TI P et sz by' z) {g : Nat} {D : List (κ × Value)} (hg : w.heap[g]? = some (mObj kv D)) {a : κ} (ha : ok a) (hD : MOk ok D) (c : Bool) :
    (Instr.lookup T (.map (some g)) (kv a) c).run P w = .ok (if c then .tuple #[(mget a D).getD z, .bool (mget a D).isSome] else (mget a D).getD z) w := by
  obtain ⟨i, hi, _, _, hz⟩ := hi
  have hf := run_findKey K w ha hD
  have hgo := run_getObj_mp (P := P) hg
  simp only [mObj] at hgo
  simp only [Instr.lookup, Sem.run_bind, run_underlying hT, Result.andThen_ok, hgo, Sem.run_pure, K.chk _ w a ha, hf]
  rw [← mfind_get a D 0]
  cases mfind a D 0 with
  | none => cases c <;> simp [zeroValue, typeInfo, hi, hz]
  | some p => cases c <;> simp
theorem m_lookup {x y : Operand} {sz by' : Nat} {z : Value} {g : Nat} {D : List (κ × Value)} {a : κ} (K : KeyT P kt kv ok) (hT : P.underlying T = some (.map kt et)) (hi : TI P et sz by' z) (hx : opv l x = .map (some g) := by rfl) (hy : opv l y = kv a) (ha : ok a) (hS : St S w0 w L) (hm : Has L (.obj g (mObj kv D)) := by repeat (first | exact Has.head | apply Has.tail)) (hD : MOk ok D) : Go1 P l w ⟨some d, .lookup T x y false, ty, pos, aft, none⟩ ((mget a D).getD z) := by
  unfold Go1
  have h := run_lookup K hT hi (w := w) (hS.has hm) ha hD false
  simp [execOp, hx, hy, h]
theorem run_mapUpdate (K : KeyT P kt kv ok) (hT : P.underlying T = some (.map kt et)) {g : Nat} {D : List (κ × Value)} (hg : w.heap[g]? = some (mObj kv D)) {a : κ} {v : Value} (ha : ok a) (hD : MOk ok D) :
    (Instr.mapUpdate T (.map (some g)) (kv a) v).run P w = .ok () { w with heap := w.heap.setIfInBounds g (mObj kv (mput a v D)) } := by
  have hf := run_findKey K w ha hD
  have hgo := run_getObj_mp (P := P) hg
  have hlt : g < w.heap.size := (Array.getElem?_eq_some_iff.1 hg).1
  simp only [mObj] at hgo
  simp only [Instr.mapUpdate, Sem.run_bind, run_underlying hT, Result.andThen_ok, hgo, K.chk _ w a ha, hf]
  cases hfd : mfind a D 0 with
  | none =>
    simp only [mObj, mput_none hfd, mEs_app, List.length_append, List.length_cons, List.length_nil, Nat.zero_add]
    have hso := MapKept.run_setObj_map (P := P) (Obj.map (mEs kv 0 D ++ [({ key := kv a, val := v, born := D.length } : MapEntry)]).toArray (D.length + 1)) hg
    simpa [mEs] using hso
  | some p =>
    obtain ⟨i, u⟩ := p
    obtain ⟨h1, h2, h3⟩ := mput_some (kv := kv) (v := v) hfd (show i = 0 + i by omega)
    have hl : (mput a v D).length = D.length := by
      have := congrArg List.length (h3 0)
      simpa [mEs_len] using this
    have h2' : Option.map (fun e => e.key) (mEs kv 0 D)[i]? = some (kv a) := h2
    simp only [mObj, List.getElem?_toArray, h2', Option.getD_some, Instr.keyThatStays, K.same, if_true, Sem.run_pure, Result.andThen_ok, h3, hl]
    have hso := MapKept.run_setObj_map (P := P) (.map ((mEs kv 0 D).modify i fun e => { e with key := kv a, val := v }).toArray D.length) hg
    simpa [List.modify_toArray] using hso
theorem m_mapUpdate {x y z : Operand} {g : Nat} {D : List (κ × Value)} {a : κ} {v : Value} (K : KeyT P kt kv ok) (hT : P.underlying T = some (.map kt et)) (hx : opv l x = .map (some g) := by rfl) (hy : opv l y = kv a) (hz : opv l z = v := by rfl) (ha : ok a) (hS : St S w0 w L) (hd : Upd L (.obj g (mObj kv D)) (.obj g (mObj kv (mput a v D))) L' := by repeat (first | exact Upd.head | apply Upd.tail)) (hD : MOk ok D)
    (h : ∀ w', St S w0 w' L' → WL P ops Q rest (fr l) w') : WL P ops Q (⟨none, .mapUpdate T x y z, ty, pos, aft, none⟩ :: rest) (fr l) w := by
  have hg := hS.holds _ hd.mem
  have hlt : g < w.heap.size := (Array.getElem?_eq_some_iff.1 (show w.heap[g]? = some _ from hg)).1
  have hr := run_mapUpdate K hT (w := w) (v := v) hg ha hD
  refine s_unit (w' := { w with heap := w.heap.setIfInBounds g (mObj kv (mput a v D)) }) (by simp [execOp, hx, hy, hz, hr]) (h _ (hS.turn hd (setObj_keep w g _) ?_ ?_ ?_))
  · show (w.heap.setIfInBounds g _)[g]? = _
    simp [hlt]
  · intro k hk; simp [Res.own] at hk ⊢; exact .inl hk
  · intro k hk; simp [Res.reads] at hk
end
section
variable {κ : Type} [DecidableEq κ]
end
section
variable {P : Program} {κ : Type} [DecidableEq κ] {kt et T : TypeId} {kv : κ → Value} {ok : κ → Prop}
variable {ops : Array Oper} {Q : Exit → Act → World → Prop} {rest : List Oper} {l : List Value} {w : World} {d : Nat} {ty : TypeId} {pos : String} {aft : Array Edge}
variable {S : Nat → Prop} {w0 : World} {L L' : List Res}
end
theorem KeyT.to {P : Program} {t : TypeId} {κ : Type} [DecidableEq κ] {kv kv' : κ → Value} {ok : κ → Prop} (K : KeyT P t kv ok) (h : ∀ a, ok a → kv a = kv' a) (hs : ∀ a, Instr.sameBits 10000 (kv' a) (kv' a) = true) : KeyT P t kv' ok := by
  refine ⟨fun em w a ha => by rw [← h a ha]; exact K.chk em w a ha, fun w a b ha hb => by rw [← h a ha, ← h b hb]; exact K.eq w a b ha hb, ?_, hs⟩
  obtain ⟨kd, hu, hk⟩ := K.now
  refine ⟨kd, hu, ?_⟩
  rcases hk with hk | hk
  · exact .inl fun a b ha hb => by rw [← h a ha, ← h b hb]; exact hk a b ha hb
  · exact .inr fun a b ha hb => by rw [← h a ha, ← h b hb]; exact hk a b ha hb
theorem mok_nil {κ : Type} {ok : κ → Prop} : MOk ok ([] : List (κ × Value)) := fun p hp => by cases hp
theorem mok_all {κ : Type} {D : List (κ × Value)} : MOk (fun _ => True) D := fun _ _ => trivial
end Go.Proofs.Ytffmanidnlbjjaa
set_option linter.unusedSimpArgs false
set_option linter.unusedVariables false
namespace Go.Proofs.Ytffmanidnlbjjaa
/-- cells of several kinds, as many as there are kinds -/
def padL (ks : List IntKind) (xs : List Int) : List Value := ks.mapIdx fun i k => .int k (xs.getD i 0)
/-- rows whose cells are numbers -/
def rowsZ (ks : List IntKind) (l : List (List Int)) : List Value := rowsOf (padL ks) l
theorem getD_mem' {α : Type} {l : List α} {k : Nat} {d : α} (h : k < l.length) : l.getD k d ∈ l := by
  rw [List.getD_eq_getElem?_getD, List.getElem?_eq_getElem h]; simp
end Go.Proofs.Ytffmanidnlbjjaa
set_option linter.unusedSimpArgs false
set_option linter.unusedVariables false
namespace Go.Proofs.Ytffmanidnlbjjaa
def rankK (x : List Int) : Nat := (headN x * 18446744073709551616 + numN (kitem x)) * 1099511627776 + dotN x
def AOks (l : List (List Int)) : Prop := ∀ a ∈ l, AtomOk a
theorem AOks.app {l m : List (List Int)} (h : AOks l) (h2 : AOks m) : AOks (l ++ m) := fun a ha => (List.mem_append.1 ha).elim (h a) (h2 a)
theorem AOks.nil : AOks [] := fun a h => by cases h
theorem AOks.take {l : List (List Int)} (h : AOks l) (k : Nat) : AOks (l.take k) := fun a ha => h a (List.mem_of_mem_take ha)
theorem AOks.get {l : List (List Int)} (h : AOks l) {k : Nat} (hk : k < l.length) : AtomOk (l.getD k []) := h _ (getD_mem' hk)
/-- a state -/
structure StaR (s : List (List Int)) : Prop where
  ok : AOks s
  right : ∀ a ∈ s, atomR a = true
  sorted : s.Pairwise fun a b => rankK (akey a) < rankK (akey b)
theorem StaR.nil : StaR [] := ⟨AOks.nil, (fun a h => by cases h), .nil⟩
theorem StaR.tail {a : List Int} {s : List (List Int)} (h : StaR (a :: s)) : StaR s := ⟨fun b hb => h.ok b (by simp [hb]), fun b hb => h.right b (by simp [hb]), (List.pairwise_cons.1 h.sorted).2⟩
theorem StaR.head {a : List Int} {s : List (List Int)} (h : StaR (a :: s)) : ∀ b ∈ s, rankK (akey a) < rankK (akey b) := (List.pairwise_cons.1 h.sorted).1
theorem StaR.sub {s t : List (List Int)} (h : StaR s) (ht : t.Sublist s) : StaR t := ⟨fun a ha => h.ok a (ht.subset ha), fun a ha => h.right a (ht.subset ha), h.sorted.sublist ht⟩
def fnd (k : List Int) : List (List Int) → Option (List Int)
  | [] => none
  | a :: s => if akey a = k then some (aval a) else fnd k s
def KND (s : List (List Int)) : Prop := s.Pairwise fun a b => ¬ akey a = akey b
theorem StaR.knd {s : List (List Int)} (h : StaR s) : KND s := h.sorted.imp fun {a b} hab e => by rw [e] at hab; omega
def insA (a : List Int) : List (List Int) → List (List Int)
  | [] => [a]
  | b :: s => if akey b = akey a then (akey a ++ moreV (aval b) (aval a)) :: s else if keyLt (akey a) (akey b) then a :: b :: s else b :: insA a s
/-- a row's state -/
def normF (s : List (List Int)) (a : List Int) : List (List Int) := if atomR a = true then insA a s else s
def normP (l : List (List Int)) : List (List Int) := l.foldl normF []
def eput (a : List Int) : List (List Int) → List (List Int)
  | [] => [a]
  | b :: E => if akey a = akey b then a :: E else b :: eput a E
theorem eput_mem {a : List Int} : ∀ {E : List (List Int)}, ∀ b ∈ eput a E, b = a ∨ b ∈ E
  | [], b, h => by simp [eput] at h; exact .inl h
  | c :: E, b, h => by
    rw [eput] at h
    split at h
    · rcases List.mem_cons.1 h with h | h
      · exact .inl h
      · right; simp [h]
    · rcases List.mem_cons.1 h with h | h
      · right; simp [h]
      · rcases eput_mem b h with h | h
        · exact .inl h
        · right; simp [h]
theorem eput_knd {a : List Int} : ∀ {E : List (List Int)}, KND E → KND (eput a E)
  | [], _ => by simp [eput, KND]
  | b :: E, h => by
    obtain ⟨h1, h2⟩ := List.pairwise_cons.1 h
    rw [eput]
    split
    · next e => exact List.pairwise_cons.2 ⟨fun c hc e2 => h1 c hc (e ▸ e2), h2⟩
    · next e =>
      refine List.pairwise_cons.2 ⟨fun c hc e2 => ?_, eput_knd h2⟩
      rcases eput_mem c hc with rfl | hc
      · exact e e2.symm
      · exact h1 c hc e2
structure EOk (E : List (List Int)) : Prop where
  ok : AOks E
  right : ∀ a ∈ E, atomR a = true
  knd : KND E
theorem EOk.nil : EOk [] := ⟨AOks.nil, (fun a h => by cases h), .nil⟩
theorem EOk.put {E : List (List Int)} {a : List Int} (h : EOk E) (ha : AtomOk a) (hr : atomR a = true) : EOk (eput a E) :=
  ⟨fun b hb => (eput_mem b hb).elim (fun e => e ▸ ha) (h.ok b), fun b hb => (eput_mem b hb).elim (fun e => e ▸ hr) (h.right b), eput_knd h.knd⟩
theorem EOk.perm {E d : List (List Int)} (h : EOk E) (hp : d.Perm E) : EOk d :=
  ⟨fun a ha => h.ok a (hp.mem_iff.1 ha), fun a ha => h.right a (hp.mem_iff.1 ha), (hp.pairwise_iff (fun hab e => hab e.symm)).2 h.knd⟩
section
variable {a b c : List (List Int)} (ha : AOks a) (hb : AOks b) (hc : AOks c)
include ha hb
end
end Go.Proofs.Ytffmanidnlbjjaa
set_option maxRecDepth 100000
namespace Go.Proofs.Ytffmanidnlbjjaa
open Go.RowKit
def kv48 (x : Int) : Value := .int .u64 x
theorem ky48 : KeyT Try.prog 48 kv48 (fun _ => True) := keyT_int Try.underlying48
end Go.Proofs.Ytffmanidnlbjjaa
set_option linter.unusedSimpArgs false
set_option linter.unusedVariables false
set_option maxHeartbeats 2000000
set_option maxRecDepth 100000
namespace Go.Proofs.Ytffmanidnlbjjaa
open Go.RowKit

abbrev arows (l : List (List Int)) : List Value := rowsZ atomKs l
def v9 : List Int := List.replicate 9 0
end Go.Proofs.Ytffmanidnlbjjaa
set_option linter.unusedSimpArgs false
set_option linter.unusedVariables false
set_option maxHeartbeats 600000
set_option maxRecDepth 100000
namespace Go.Proofs.Ytffmanidnlbjjaa
open Go.RowKit

/-- what a call hands back to be read: new, or what it was handed -/
structure RBack (w0 w' : World) (A : Option Addr) (l : List (List Int)) (B : Option Addr) (s : List (List Int)) : Prop where
  ext : Ext w0 w'
  rd : Rd w' B 21 s.length (arows s)
  wh : ∀ b, (Res.rd B 21 s.length (arows s)).reads = some b → w0.heap.size ≤ b ∨ (Res.rd A 21 l.length (arows l)).reads = some b
theorem pair_apart {g : Nat} {r s : Res} (ho : r.own = some g) (hs : s.own = none) (hrd : s.reads = some g) : ∀ {M : List Res}, M.Pairwise Res.compat → r ∈ M → s ∈ M → False
  | [], _, h, _ => by cases h
  | x :: M, hp, h1, h2 => by
    obtain ⟨hh, ht⟩ := List.pairwise_cons.1 hp
    rcases List.mem_cons.1 h1 with e1 | h1
    · rcases List.mem_cons.1 h2 with e2 | h2
      · rw [e1, ← e2, hs] at ho; cases ho
      · rw [← e1] at hh; exact ((hh s h2 g).1 ho).2 hrd
    · rcases List.mem_cons.1 h2 with e2 | h2
      · rw [← e2] at hh; exact ((hh r h1 g).2 ho).2 hrd
      · exact pair_apart ho hs hrd ht h1 h2
theorem St.back {S : Nat → Prop} {w0 w w' : World} {L : List Res} {A B : Option Addr} {l s : List (List Int)} (h : St S w0 w L) (k : RBack w w' A l B s) (hm : Has L (.rd A 21 l.length (arows l)) := by repeat (first | exact Has.head | apply Has.tail)) : St S w0 w' (.rd B 21 s.length (arows s) :: L) := by
  refine (h.ext k.ext).add_rd k.rd fun r hr g hg e => ?_
  rcases k.wh g e with h1 | h1
  · have := own_lt (h.holds r hr) hg; omega
  · exact pair_apart hg rfl h1 h.apart hr hm.mem
end Go.Proofs.Ytffmanidnlbjjaa
set_option linter.unusedSimpArgs false
set_option linter.unusedVariables false
set_option maxHeartbeats 1000000
set_option maxRecDepth 100000
namespace Go.Proofs.Ytffmanidnlbjjaa
open Go.RowKit

def k10 : List Int := [1, 1, 97, 0, 0, 0, 0, 0, 0, 0, 2, 3]
def b10 : List Int := k10 ++ [2, 0, 0, 0, 0, 0, 0, 0, 0]
end Go.Proofs.Ytffmanidnlbjjaa
set_option linter.unusedSimpArgs false
set_option linter.unusedVariables false
set_option maxHeartbeats 1000000
set_option maxRecDepth 100000
namespace Go.Proofs.Ytffmanidnlbjjaa
open Go.RowKit

def noteK (c : Nat) : List Int := mkKey 4 c nm0 0 0
def noteV (l : List (List Int)) (c : Nat) : List Int := (fnd (noteK c) (normP l)).getD v9
def noteN (l : List (List Int)) (c : Nat) : Nat := kn (noteV l c) 0 / 256 % 4294967296
def noteE (l : List (List Int)) (r : Nat) (tx : List Int) (c : Nat) : Int := if 16 ≤ r ∨ (¬ tx = nm0 ∧ nright tx = false) then 1 else if noteN l c = 4294967295 then 8 else 0
end Go.Proofs.Ytffmanidnlbjjaa
set_option linter.unusedSimpArgs false
set_option linter.unusedVariables false
set_option maxHeartbeats 1000000
set_option maxRecDepth 100000
namespace Go.Proofs.Ytffmanidnlbjjaa
open Go.RowKit

structure VOk (v : List Int) : Prop where
  len : v.length = 16
  nat : ∀ i, 0 ≤ v.getD i 0 ∧ v.getD i 0 ≤ 4294967295
theorem VOk.zero : VOk (List.replicate 16 0) := ⟨rfl, fun i => by
  rw [List.getD_eq_getElem?_getD, List.getElem?_replicate]
  split <;> simp⟩
theorem VOk.set {v : List Int} (h : VOk v) {r : Nat} {n : Int} (h0 : 0 ≤ n) (h1 : n ≤ 4294967295) : VOk (v.set r n) := ⟨by rw [List.length_set]; exact h.len, fun i => by
  by_cases e : r = i
  · subst e
    by_cases hr : r < v.length
    · rw [List.getD_eq_getElem?_getD, List.getElem?_set_self hr]; exact ⟨h0, h1⟩
    · rw [List.set_eq_of_length_le (by omega)]; exact h.nat r
  · rw [List.getD_eq_getElem?_getD, List.getElem?_set_ne e, ← List.getD_eq_getElem?_getD]; exact h.nat i⟩
end Go.Proofs.Ytffmanidnlbjjaa
set_option linter.unusedSimpArgs false
set_option linter.unusedVariables false
namespace Go.Proofs.Ytffmanidnlbjjaa
def swp (l : List Int) (i j : Nat) : List Int := (l.set i (l.getD j 0)).set j (l.getD i 0)
theorem swp_len (l : List Int) (i j : Nat) : (swp l i j).length = l.length := by simp [swp]
theorem getD_set_z {l : List Int} {i : Nat} (h : i < l.length) (v : Int) (j : Nat) : (l.set i v).getD j 0 = if i = j then v else l.getD j 0 := by
  rw [List.getD_eq_getElem?_getD, List.getElem?_set]
  by_cases e : i = j
  · subst e; simp [h]
  · rw [if_neg e, if_neg e, List.getD_eq_getElem?_getD]
theorem swp_get {l : List Int} {i j : Nat} (hi : i < l.length) (hj : j < l.length) (k : Nat) : (swp l i j).getD k 0 = if j = k then l.getD i 0 else if i = k then l.getD j 0 else l.getD k 0 := by
  rw [swp, getD_set_z (by simpa using hj), getD_set_z hi]
theorem getD_ltz {l : List Int} {i : Nat} (h : i < l.length) : l.getD i 0 = l[i] := by
  rw [List.getD_eq_getElem?_getD, List.getElem?_eq_getElem h]; rfl
theorem swp_perm {l : List Int} {i j : Nat} (hi : i < l.length) (hj : j < l.length) : (swp l i j).Perm l := by
  rw [swp, getD_ltz hi, getD_ltz hj]; exact List.set_set_perm hi hj
def HeapN (l : List Int) (n : Nat) : Prop := ∀ k, 0 < k → k < n → l.getD ((k - 1) / 2) 0 ≤ l.getD k 0
theorem heap_min {l : List Int} {n : Nat} (h : HeapN l n) : ∀ k, k < n → l.getD 0 0 ≤ l.getD k 0 := by
  intro k
  induction k using Nat.strongRecOn with
  | _ k ih =>
    intro hk
    by_cases e : k = 0
    · subst e; exact Int.le_refl _
    · exact Int.le_trans (ih ((k - 1) / 2) (by omega) (by omega)) (h k (by omega) hk)
def UpI (l : List Int) (j : Nat) : Prop := (∀ k, 0 < k → k < l.length → k ≠ j → l.getD ((k - 1) / 2) 0 ≤ l.getD k 0) ∧ (∀ k, 0 < k → k < l.length → (k - 1) / 2 = j → 0 < j → l.getD ((j - 1) / 2) 0 ≤ l.getD k 0)
theorem getD_app_l {l m : List Int} {i : Nat} (h : i < l.length) : (l ++ m).getD i 0 = l.getD i 0 := by
  rw [List.getD_eq_getElem?_getD, List.getElem?_append_left h, ← List.getD_eq_getElem?_getD]
theorem up_init {l : List Int} {x : Int} (h : HeapN l l.length) : UpI (l ++ [x]) l.length := by
  refine ⟨fun k h0 h1 h2 => ?_, fun k h0 h1 h2 h3 => ?_⟩
  · simp only [List.length_append, List.length_cons, List.length_nil] at h1
    rw [getD_app_l (by omega), getD_app_l (by omega)]; exact h k h0 (by omega)
  · simp only [List.length_append, List.length_cons, List.length_nil] at h1
    omega
theorem up_step {l : List Int} {j i : Nat} (h : UpI l j) (hi : i = (j - 1) / 2) (hj : 0 < j) (hl : j < l.length) (hlt : l.getD j 0 < l.getD i 0) : UpI (swp l i j) i := by
  have hil : i < l.length := by omega
  refine ⟨fun k h0 h1 h2 => ?_, fun k h0 h1 h2 h3 => ?_⟩
  · rw [swp_len] at h1
    rw [swp_get hil hl, swp_get hil hl]
    by_cases e : j = k
    · subst e
      rw [← hi, if_neg (by omega), if_pos rfl, if_pos rfl]; omega
    · rw [if_neg e, if_neg (Ne.symm h2)]
      have h4 := h.1 k h0 h1 (Ne.symm e)
      by_cases e2 : j = (k - 1) / 2
      · rw [if_pos e2, hi]; exact h.2 k h0 h1 e2.symm hj
      · rw [if_neg e2]
        by_cases e3 : i = (k - 1) / 2
        · rw [if_pos e3]; rw [← e3] at h4; omega
        · rw [if_neg e3]; exact h4
  · rw [swp_len] at h1
    rw [swp_get hil hl, swp_get hil hl, if_neg (by omega), if_neg (by omega)]
    have h4 := h.1 i h3 hil (by omega)
    by_cases e : j = k
    · rw [if_pos e]; exact h4
    · rw [if_neg e, if_neg (by omega)]
      have h5 := h.1 k h0 h1 (Ne.symm e)
      rw [h2] at h5; omega
theorem up_done {l : List Int} {j : Nat} (h : UpI l j) (hd : j = 0 ∨ ¬ l.getD j 0 < l.getD ((j - 1) / 2) 0) : HeapN l l.length := by
  intro k h0 h1
  by_cases e : k = j
  · subst e
    rcases hd with h2 | h2
    · omega
    · omega
  · exact h.1 k h0 h1 e
def DnI (l : List Int) (n i : Nat) : Prop := (∀ k, 0 < k → k < n → (k - 1) / 2 ≠ i → l.getD ((k - 1) / 2) 0 ≤ l.getD k 0) ∧ (∀ k, 0 < k → k < n → (k - 1) / 2 = i → 0 < i → l.getD ((i - 1) / 2) 0 ≤ l.getD k 0)
theorem dn_init {l : List Int} (h : HeapN l l.length) (hl : 0 < l.length) : DnI (swp l 0 (l.length - 1)) (l.length - 1) 0 := by
  refine ⟨fun k h0 h1 h2 => ?_, fun k h0 h1 h2 h3 => by omega⟩
  rw [swp_get hl (by omega), swp_get hl (by omega), if_neg (by omega), if_neg (by omega), if_neg (by omega), if_neg (by omega)]
  exact h k h0 (by omega)
theorem dn_step {l : List Int} {n i j : Nat} (h : DnI l n i) (hn : n ≤ l.length) (hj : j = 2 * i + 1 ∨ j = 2 * i + 2) (hjn : j < n) (hmin : ∀ k, 0 < k → k < n → (k - 1) / 2 = i → l.getD j 0 ≤ l.getD k 0) (hlt : l.getD j 0 < l.getD i 0) : DnI (swp l i j) n j := by
  have hil : i < l.length := by omega
  have hjl : j < l.length := by omega
  refine ⟨fun k h0 h1 h2 => ?_, fun k h0 h1 h2 h3 => ?_⟩
  · rw [swp_get hil hjl, swp_get hil hjl]
    by_cases e : j = k
    · subst e
      rw [if_neg (Ne.symm h2), if_pos (by omega), if_pos rfl]; omega
    · rw [if_neg (Ne.symm h2), if_neg e]
      by_cases e2 : i = k
      · subst e2
        rw [if_neg (by omega), if_pos rfl]; exact h.2 j (by omega) hjn (by omega) h0
      · rw [if_neg e2]
        by_cases e3 : i = (k - 1) / 2
        · rw [if_pos e3]; exact hmin k h0 h1 e3.symm
        · rw [if_neg e3]; exact h.1 k h0 h1 (Ne.symm e3)
  · rw [swp_get hil hjl, swp_get hil hjl, if_neg (by omega), if_pos (by omega), if_neg (by omega), if_neg (by omega)]
    have := h.1 k h0 h1 (by omega)
    rw [h2] at this; exact this
theorem dn_done {l : List Int} {n i : Nat} (h : DnI l n i) (hd : ∀ k, 0 < k → k < n → (k - 1) / 2 = i → l.getD i 0 ≤ l.getD k 0) : HeapN l n := by
  intro k h0 h1
  by_cases e : (k - 1) / 2 = i
  · rw [e]; exact hd k h0 h1 e
  · exact h.1 k h0 h1 e
/-- what is popped, and what is left -/
theorem pop_end {l l2 : List Int} (hl : 0 < l.length) (h : HeapN l l.length) (hp : l2.Perm (swp l 0 (l.length - 1))) (hlast : l2.getD (l.length - 1) 0 = l.getD 0 0) (hh : HeapN l2 (l.length - 1)) :
    HeapN (l2.take (l.length - 1)) (l2.take (l.length - 1)).length ∧ l.Perm (l.getD 0 0 :: l2.take (l.length - 1)) ∧ ∀ y ∈ l2.take (l.length - 1), l.getD 0 0 ≤ y := by
  have h2l : l2.length = l.length := by rw [hp.length_eq, swp_len]
  have hp2 : l2.Perm l := hp.trans (swp_perm hl (by omega))
  have htl : (l2.take (l.length - 1)).length = l.length - 1 := by rw [List.length_take]; omega
  have hg : ∀ k, k < l.length - 1 → (l2.take (l.length - 1)).getD k 0 = l2.getD k 0 := fun k hk => by
    rw [List.getD_eq_getElem?_getD, List.getElem?_take_of_lt hk, ← List.getD_eq_getElem?_getD]
  have hc : l2 = l2.take (l.length - 1) ++ [l.getD 0 0] := by
    conv => lhs; rw [← List.take_append_drop (l.length - 1) l2, List.drop_eq_getElem_cons (show l.length - 1 < l2.length by omega)]
    rw [← getD_ltz (show l.length - 1 < l2.length by omega), hlast, List.drop_of_length_le (by omega)]
  have hpp : l.Perm (l.getD 0 0 :: l2.take (l.length - 1)) := by
    refine hp2.symm.trans ?_
    conv => lhs; rw [hc]
    exact List.perm_append_comm
  refine ⟨fun k h0 h1 => ?_, hpp, fun y hy => ?_⟩
  · rw [htl] at h1
    rw [hg _ (by omega), hg _ h1]; exact hh k h0 h1
  · have hy2 : y ∈ l := hpp.mem_iff.2 (List.mem_cons_of_mem _ hy)
    obtain ⟨k, hk, rfl⟩ := List.getElem_of_mem hy2
    rw [← getD_ltz hk]; exact heap_min h k hk
theorem swp_last {l : List Int} (hl : 0 < l.length) : (swp l 0 (l.length - 1)).getD (l.length - 1) 0 = l.getD 0 0 := by
  rw [swp_get hl (by omega), if_pos rfl]
end Go.Proofs.Ytffmanidnlbjjaa
set_option linter.unusedSimpArgs false
set_option linter.unusedVariables false
set_option maxHeartbeats 1000000
set_option maxRecDepth 100000
namespace Go.Proofs.Ytffmanidnlbjjaa
open Go.RowKit

def dR (d : Int) : Nat := (d / 4294967296).toNat
def MayD (d : Int) : Prop := 0 ≤ d ∧ d / 4294967296 < 16 ∧ 0 < d % 4294967296
instance (d : Int) : Decidable (MayD d) := inferInstanceAs (Decidable (_ ∧ _ ∧ _))
def flo (v : List Int) (d : Int) : Int := v.getD (dR d) 0
def HasD (v cl : List Int) (d : Int) : Prop := MayD d ∧ (d % 4294967296 ≤ flo v d ∨ d ∈ cl)
instance (v cl : List Int) (d : Int) : Decidable (HasD v cl d) := inferInstanceAs (Decidable (_ ∧ (_ ∨ _)))
/-- a right set -/
structure NS (v cl : List Int) : Prop where
  vok : VOk v
  srt : cl.Pairwise (· < ·)
  may : ∀ d ∈ cl, MayD d
  ov : ∀ d ∈ cl, flo v d + 1 < d % 4294967296
theorem flo_set {v : List Int} (hv : VOk v) {d x n : Int} (hd : MayD d) : flo (v.set (dR d) n) x = if dR d = dR x then n else flo v x := by
  have h1 := hv.len
  have h2 : dR d < v.length := by obtain ⟨a, b, c⟩ := hd; unfold dR; omega
  rw [flo, getD_set_z h2]; rfl
theorem dot_eq {d x : Int} (hd : MayD d) (hx : MayD x) (h : dR d = dR x) (h2 : d % 4294967296 = x % 4294967296) : d = x := by
  obtain ⟨a, b, c⟩ := hd; obtain ⟨a2, b2, c2⟩ := hx
  unfold dR at h; omega
theorem dot_le {d x : Int} (hd : MayD d) (hx : MayD x) (h : dR d = dR x) (h2 : d ≤ x) : d % 4294967296 ≤ x % 4294967296 := by
  obtain ⟨a, b, c⟩ := hd; obtain ⟨a2, b2, c2⟩ := hx
  unfold dR at h; omega
theorem srt_ext : ∀ {a b : List Int}, a.Pairwise (· < ·) → b.Pairwise (· < ·) → (∀ x, x ∈ a ↔ x ∈ b) → a = b
  | [], [], _, _, _ => rfl
  | [], y :: b, _, _, h => by have := (h y).2 (by simp); cases this
  | x :: a, [], _, _, h => by have := (h x).1 (by simp); cases this
  | x :: a, y :: b, ha, hb, h => by
    obtain ⟨ha1, ha2⟩ := List.pairwise_cons.1 ha
    obtain ⟨hb1, hb2⟩ := List.pairwise_cons.1 hb
    have e : x = y := by
      rcases List.mem_cons.1 ((h x).1 (by simp)) with h1 | h1
      · exact h1
      · rcases List.mem_cons.1 ((h y).2 (by simp)) with h2 | h2
        · exact h2.symm
        · have := ha1 y h2; have := hb1 x h1; omega
    subst e
    have na : x ∉ a := fun hm => by have := ha1 x hm; omega
    have nb : x ∉ b := fun hm => by have := hb1 x hm; omega
    rw [srt_ext ha2 hb2 fun c => by
      have := h c
      simp only [List.mem_cons] at this
      constructor
      · intro hc
        rcases this.1 (.inr hc) with rfl | h2
        · exact absurd hc na
        · exact h2
      · intro hc
        rcases this.2 (.inr hc) with rfl | h2
        · exact absurd hc nb
        · exact h2]
/-- right sets that have the same are the same -/
theorem ns_uniq {v cl v' cl' : List Int} (h : NS v cl) (h' : NS v' cl') (hh : ∀ d, HasD v cl d ↔ HasD v' cl' d) : v = v' ∧ cl = cl' := by
  have key : ∀ {v cl v' cl' : List Int}, NS v cl → NS v' cl' → (∀ d, HasD v' cl' d → HasD v cl d) → ∀ r : Nat, r < 16 → v'.getD r 0 ≤ v.getD r 0 := by
    intro v cl v' cl' h h' hh r hr
    have b1 := h.vok.nat r; have b2 := h'.vok.nat r
    by_cases hc : v'.getD r 0 ≤ v.getD r 0
    · exact hc
    · exfalso
      obtain ⟨d, hd⟩ : ∃ d : Int, d = (r : Int) * 4294967296 + (v.getD r 0 + 1) := ⟨_, rfl⟩
      have hdr : dR d = r := by unfold dR; omega
      have hds : d % 4294967296 = v.getD r 0 + 1 := by omega
      have hm : MayD d := ⟨by omega, by omega, by omega⟩
      have h1 : HasD v' cl' d := ⟨hm, .inl (by rw [flo, hdr]; omega)⟩
      rcases (hh d h1).2 with h2 | h2
      · rw [flo, hdr] at h2; omega
      · have := h.ov d h2; rw [flo, hdr] at this; omega
  have hv : v = v' := by
    refine List.ext_getElem (by rw [h.vok.len, h'.vok.len]) fun i h1 h2 => ?_
    have hi : i < 16 := by have := h.vok.len; omega
    have a := key h h' (fun d hd => (hh d).2 hd) i hi
    have b := key h' h (fun d hd => (hh d).1 hd) i hi
    rw [getD_ltz h1, getD_ltz h2] at a b; omega
  subst hv
  refine ⟨rfl, srt_ext h.srt h'.srt fun x => ⟨fun hx => ?_, fun hx => ?_⟩⟩
  · rcases ((hh x).1 ⟨h.may x hx, .inr hx⟩).2 with h2 | h2
    · have := h.ov x hx; omega
    · exact h2
  · rcases ((hh x).2 ⟨h'.may x hx, .inr hx⟩).2 with h2 | h2
    · have := h'.ov x hx; omega
    · exact h2
/-- one dot more, not below those before -/
def stepD (p : List Int × List Int) (d : Int) : List Int × List Int :=
  if d % 4294967296 ≤ flo p.1 d ∨ d ∈ p.2 then p else if d % 4294967296 = flo p.1 d + 1 then (p.1.set (dR d) (d % 4294967296), p.2) else (p.1, p.2 ++ [d])
theorem step_ns {v cl : List Int} {d : Int} (h : NS v cl) (hd : MayD d) (hle : ∀ c ∈ cl, c ≤ d) :
    NS (stepD (v, cl) d).1 (stepD (v, cl) d).2 ∧ (∀ c ∈ (stepD (v, cl) d).2, c ≤ d) ∧ ∀ x, HasD (stepD (v, cl) d).1 (stepD (v, cl) d).2 x ↔ (HasD v cl x ∨ x = d) := by
  unfold stepD
  split
  · next hs =>
    refine ⟨h, hle, fun x => ⟨fun hx => .inl hx, fun hx => ?_⟩⟩
    rcases hx with hx | rfl
    · exact hx
    · exact ⟨hd, hs⟩
  · next hs =>
    split
    · next he =>
      dsimp only at hs he ⊢
      have hr : dR d < 16 := by obtain ⟨a, b, c⟩ := hd; unfold dR; omega
      have hne : ∀ c ∈ cl, ¬ dR d = dR c := fun c hc e => by
        have h1 := h.ov c hc
        have h2 := dot_le (h.may c hc) hd e.symm (hle c hc)
        have h3 : flo v c = flo v d := by rw [flo, flo, e]
        omega
      have hb : d % 4294967296 ≤ 4294967295 := by omega
      refine ⟨⟨h.vok.set (by omega) hb, h.srt, h.may, fun c hc => by rw [flo_set h.vok hd, if_neg (hne c hc)]; exact h.ov c hc⟩, hle, fun x => ?_⟩
      unfold HasD
      rw [flo_set h.vok hd]
      constructor
      · rintro ⟨hm, hx⟩
        by_cases e : dR d = dR x
        · rw [if_pos e] at hx
          have h3 : flo v x = flo v d := by rw [flo, flo, e]
          rcases hx with hx | hx
          · by_cases e2 : d % 4294967296 = x % 4294967296
            · exact .inr (dot_eq hd hm e e2).symm
            · exact .inl ⟨hm, .inl (by omega)⟩
          · exact .inl ⟨hm, .inr hx⟩
        · rw [if_neg e] at hx; exact .inl ⟨hm, hx⟩
      · rintro (⟨hm, hx⟩ | rfl)
        · refine ⟨hm, ?_⟩
          by_cases e : dR d = dR x
          · have h3 : flo v x = flo v d := by rw [flo, flo, e]
            rw [if_pos e]
            rcases hx with hx | hx
            · exact .inl (by omega)
            · exact .inr hx
          · rw [if_neg e]; exact hx
        · exact ⟨hd, .inl (by rw [if_pos rfl]; omega)⟩
    · next he =>
      dsimp only at hs he ⊢
      have hlt : ∀ c ∈ cl, c < d := fun c hc => by
        have h1 := hle c hc
        have h2 : ¬ c = d := fun e => hs (.inr (e ▸ hc))
        omega
      refine ⟨⟨h.vok, ?_, fun c hc => ?_, fun c hc => ?_⟩, fun c hc => ?_, fun x => ?_⟩
      · refine List.pairwise_append.2 ⟨h.srt, by simp, fun a ha b hb => ?_⟩
        rw [List.mem_singleton] at hb; rw [hb]; exact hlt a ha
      · rcases List.mem_append.1 hc with hc | hc
        · exact h.may c hc
        · rw [List.mem_singleton] at hc; rw [hc]; exact hd
      · rcases List.mem_append.1 hc with hc | hc
        · exact h.ov c hc
        · rw [List.mem_singleton] at hc; rw [hc]
          have : ¬ d % 4294967296 ≤ flo v d := fun e => hs (.inl e)
          omega
      · rcases List.mem_append.1 hc with hc | hc
        · exact hle c hc
        · rw [List.mem_singleton] at hc; omega
      · unfold HasD
        rw [List.mem_append, List.mem_singleton]
        constructor
        · rintro ⟨hm, hx | hx | hx⟩
          · exact .inl ⟨hm, .inl hx⟩
          · exact .inl ⟨hm, .inr hx⟩
          · exact .inr hx
        · rintro (⟨hm, hx⟩ | rfl)
          · exact ⟨hm, hx.imp id .inl⟩
          · exact ⟨hd, .inr (.inr rfl)⟩
theorem fold_ns : ∀ {ds v cl : List Int}, NS v cl → (∀ d ∈ ds, MayD d) → ds.Pairwise (· ≤ ·) → (∀ c ∈ cl, ∀ d ∈ ds, c ≤ d) →
    NS (ds.foldl stepD (v, cl)).1 (ds.foldl stepD (v, cl)).2 ∧ ∀ x, HasD (ds.foldl stepD (v, cl)).1 (ds.foldl stepD (v, cl)).2 x ↔ (HasD v cl x ∨ x ∈ ds)
  | [], _, _, h, _, _, _ => ⟨h, fun x => by simp⟩
  | d :: ds, v, cl, h, hm, hs, hle => by
    obtain ⟨hs1, hs2⟩ := List.pairwise_cons.1 hs
    obtain ⟨h1, h2, h3⟩ := step_ns h (hm d (by simp)) (fun c hc => hle c hc d (by simp))
    obtain ⟨h4, h5⟩ := fold_ns (ds := ds) (v := (stepD (v, cl) d).1) (cl := (stepD (v, cl) d).2) h1 (fun x hx => hm x (by simp [hx])) hs2 (fun c hc x hx => by have := h2 c hc; have := hs1 x hx; omega)
    refine ⟨h4, fun x => ?_⟩
    rw [List.foldl_cons, show stepD (v, cl) d = ((stepD (v, cl) d).1, (stepD (v, cl) d).2) from rfl, h5, h3, List.mem_cons, or_assoc]
def insI (d : Int) : List Int → List Int
  | [] => [d]
  | x :: l => if d ≤ x then d :: x :: l else x :: insI d l
def sortI : List Int → List Int
  | [] => []
  | d :: l => insI d (sortI l)
theorem insI_perm (d : Int) : ∀ l : List Int, (insI d l).Perm (d :: l)
  | [] => .refl _
  | x :: l => by
    rw [insI]; split
    · exact .refl _
    · exact ((insI_perm d l).cons x).trans (.swap _ _ _)
theorem sortI_perm : ∀ l : List Int, (sortI l).Perm l
  | [] => .refl _
  | d :: l => (insI_perm d _).trans ((sortI_perm l).cons d)
theorem insI_srt (d : Int) : ∀ {l : List Int}, l.Pairwise (· ≤ ·) → (insI d l).Pairwise (· ≤ ·)
  | [], _ => by simp [insI]
  | x :: l, h => by
    obtain ⟨h1, h2⟩ := List.pairwise_cons.1 h
    rw [insI]; split
    · next e => exact List.pairwise_cons.2 ⟨fun y hy => by rcases List.mem_cons.1 hy with rfl | hy; exact e; have := h1 y hy; omega, h⟩
    · next e => exact List.pairwise_cons.2 ⟨fun y hy => by rcases List.mem_cons.1 ((insI_perm d l).mem_iff.1 hy) with rfl | hy; omega; exact h1 y hy, insI_srt d h2⟩
theorem sortI_srt : ∀ l : List Int, (sortI l).Pairwise (· ≤ ·)
  | [] => .nil
  | d :: l => insI_srt d (sortI_srt l)
def mayF (l : List Int) : List Int := l.filter fun d => decide (MayD d)
theorem mem_mayF {l : List Int} {d : Int} : d ∈ mayF l ↔ d ∈ l ∧ MayD d := by simp [mayF]
/-- the right set of a floor and dots -/
def addS (v : List Int) (l : List Int) : List Int × List Int := (sortI (mayF l)).foldl stepD (v, [])
/-- what a set has -/
structure Nrm (H : Int → Prop) (p : List Int × List Int) : Prop where
  ns : NS p.1 p.2
  has : ∀ d, HasD p.1 p.2 d ↔ H d
theorem Nrm.uniq {H H' : Int → Prop} {p q : List Int × List Int} (h : Nrm H p) (h' : Nrm H' q) (hh : ∀ d, H d ↔ H' d) : p = q := by
  obtain ⟨a, b⟩ := ns_uniq h.ns h'.ns fun d => (h.has d).trans ((hh d).trans (h'.has d).symm)
  exact Prod.ext a b
theorem ns_nil {v : List Int} (hv : VOk v) : NS v [] := ⟨hv, .nil, (fun d h => by cases h), (fun d h => by cases h)⟩
theorem fold_nrm {v l ds : List Int} (hv : VOk v) (hp : ds.Perm (mayF l)) (hs : ds.Pairwise (· ≤ ·)) : Nrm (HasD v l) (ds.foldl stepD (v, [])) := by
  have hm : ∀ d ∈ ds, MayD d := fun d hd => (mem_mayF.1 (hp.mem_iff.1 hd)).2
  obtain ⟨h1, h2⟩ := fold_ns (ds := ds) (ns_nil hv) hm hs (fun c hc => by cases hc)
  refine ⟨h1, fun d => (h2 d).trans ?_⟩
  rw [hp.mem_iff, mem_mayF]
  unfold HasD
  constructor
  · rintro (⟨a, b | b⟩ | ⟨a, b⟩)
    · exact ⟨a, .inl b⟩
    · cases b
    · exact ⟨b, .inr a⟩
  · rintro ⟨a, b | b⟩
    · exact .inl ⟨a, .inl b⟩
    · exact .inr ⟨b, a⟩
theorem add_nrm {v : List Int} (hv : VOk v) (l : List Int) : Nrm (HasD v l) (addS v l) := fold_nrm hv (sortI_perm _) (sortI_srt _)
theorem fold_add {v l ds : List Int} (hv : VOk v) (hp : ds.Perm (mayF l)) (hs : ds.Pairwise (· ≤ ·)) : ds.foldl stepD (v, []) = addS v l := (fold_nrm hv hp hs).uniq (add_nrm hv l) fun _ => Iff.rfl
def cntS (p : List Int × List Int) : Int := (p.2.length : Int) + p.1.sum
theorem sum_set : ∀ {v : List Int} {r : Nat} {n : Int}, r < v.length → (v.set r n).sum = v.sum + (n - v.getD r 0)
  | x :: v, 0, n, _ => by simp only [List.set_cons_zero, List.sum_cons, List.getD_cons_zero]; omega
  | x :: v, r + 1, n, h => by
    have := sum_set (v := v) (r := r) (n := n) (by simpa using h)
    simp only [List.set_cons_succ, List.sum_cons, List.getD_cons_succ]; omega
theorem cnt_step1 {p : List Int × List Int} {d : Int} (h : VOk p.1) (hd : MayD d) : cntS (stepD p d) ≤ cntS p + 1 ∧ VOk (stepD p d).1 := by
  have hr : dR d < p.1.length := by have := h.len; obtain ⟨a, b, c⟩ := hd; unfold dR; omega
  unfold stepD
  split
  · exact ⟨by omega, h⟩
  · split
    · next q =>
      refine ⟨?_, h.set (by have := hd.2.2; omega) (by omega)⟩
      unfold cntS; dsimp only
      rw [sum_set hr]; unfold flo at q; omega
    · refine ⟨?_, h⟩
      unfold cntS; simp only [List.length_append, List.length_cons, List.length_nil]; omega
theorem cnt_fold : ∀ {ds : List Int} {p : List Int × List Int}, VOk p.1 → (∀ d ∈ ds, MayD d) → cntS (ds.foldl stepD p) ≤ cntS p + ds.length
  | [], p, _, _ => by simp
  | d :: ds, p, h, hm => by
    obtain ⟨h1, h2⟩ := cnt_step1 h (hm d (by simp))
    have := cnt_fold (ds := ds) h2 (fun x hx => hm x (by simp [hx]))
    rw [List.foldl_cons, List.length_cons]; omega
theorem cnt_add {v : List Int} (hv : VOk v) (l : List Int) : cntS (addS v l) ≤ v.sum + l.length := by
  have h1 := cnt_fold (ds := sortI (mayF l)) (p := (v, [])) hv (fun d hd => (mem_mayF.1 ((sortI_perm _).mem_iff.1 hd)).2)
  have h2 : (sortI (mayF l)).length ≤ l.length := by rw [(sortI_perm _).length_eq]; exact List.length_filter_le _ _
  unfold addS
  unfold cntS at h1 ⊢
  simp only [List.length_nil] at h1; omega
theorem vsum_pos : ∀ {v : List Int}, (∀ i : Nat, 0 ≤ v.getD i 0) → 0 ≤ v.sum
  | [], _ => by simp
  | x :: v, h => by
    have h1 := h 0
    have h2 := vsum_pos (v := v) fun i => h (i + 1)
    rw [List.sum_cons]; simp only [List.getD_cons_zero] at h1; omega
end Go.Proofs.Ytffmanidnlbjjaa
set_option linter.unusedSimpArgs false
set_option linter.unusedVariables false
namespace Go.Proofs.Ytffmanidnlbjjaa
open Go.RowKit
/-- what a type's method is: its function, and whether it takes the pointer -/
def MT (P : Program) (T : TypeId) (name : String) (f : FuncId) (pr : Bool) : Prop := (P.info? T).bind (fun i => (i.methods.find? (·.name == name)).map fun m => (m.path.toList, m.func)) = some ([], some (f, pr))
theorem MT.get {P : Program} {T : TypeId} {name : String} {f : FuncId} {pr : Bool} (h : MT P T name f pr) : ∃ i m, P.info? T = some i ∧ i.methods.find? (·.name == name) = some m ∧ m.path.toList = [] ∧ m.func = some (f, pr) := by
  unfold MT at h
  cases hi : P.info? T with
  | none => rw [hi] at h; cases h
  | some i =>
    rw [hi] at h
    simp only [Option.bind_some] at h
    cases hm : i.methods.find? (·.name == name) with
    | none => rw [hm] at h; cases h
    | some m =>
      rw [hm] at h
      simp only [Option.map_some, Option.some.injEq, Prod.mk.injEq] at h
      exact ⟨i, m, rfl, hm, h.1, h.2⟩
theorem run_method_ptr {P : Program} {T E : TypeId} {name : String} {f : FuncId} {v : Value} {n : Nat} {w : World} (h : MT P T name f true) (hu : P.underlying T = some (.pointer E)) : (method (n + 1) T v name).run P w = .ok (f, v) w := by
  obtain ⟨i, m, h1, h2, h3, h4⟩ := h.get
  simp [method, typeInfo, h1, h2, h3, h4, follow, receiverAt, run_underlying hu, Place.get]
theorem run_method_val {P : Program} {T E : TypeId} {name : String} {f : FuncId} {p : Addr} {u : Value} {n : Nat} {w : World} (h : MT P T name f false) (hu : P.underlying T = some (.pointer E)) (hl : (loadVar E p).run P w = .ok u w) : (method (n + 1) T (.pointer (some p)) name).run P w = .ok (f, u) w := by
  obtain ⟨i, m, h1, h2, h3, h4⟩ := h.get
  have hp : m.path = #[] := Array.toList_eq_nil_iff.1 h3
  have hw : ∀ s : String, (Builtin.ssaWrapNilChk_ #[T] T #[.pointer (some p), strVal "", strVal s]).run P w = .ok (.pointer (some p)) w := fun s => rfl
  simp [method, typeInfo, h1, h2, h4, follow, receiverAt, run_underlying hu, Place.get, hp, hw, asAddr, hl]
section
variable {P : Program} {ops : Array Oper} {Q : Exit → Act → World → Prop} {rest : List Oper} {l : List Value} {w w0 : World} {d : Nat} {ty : TypeId} {pos : String} {aft : Array Edge} {S : Nat → Prop} {L L' : List Res}
theorem s_invoke {x : Operand} {name : String} {args : Array Operand} {tys : Array TypeId} {T : TypeId} {f : FuncId} {v recv : Value} (hv : opv l x = .iface T v) (hm : ∀ n, (method (n + 1) T v name).run P w = .ok (f, recv) w) (he : Enters P f) (h : CallR P f (#[recv] ++ args.map (opv l)) w fun v w'' => WL P ops Q rest (fr (l.set d v)) w'') :
    WL P ops Q (⟨some d, .call { callee := .invoke x name, args := args, argTypes := tys }, ty, pos, aft, none⟩ :: rest) (fr l) w :=
  wl_plain rfl fun K hK => by
    have he' := he (#[recv] ++ args.map (opv l)) w
    have hm' : (method (P.types.size + Made.depth) T v name).run P w = .ok (f, recv) w := by
      obtain ⟨n, hn⟩ : ∃ n, P.types.size + Made.depth = n + 1 := ⟨P.types.size + (Made.depth - 1), by first | rfl | (simp only [Made.depth]; done) | (simp only [Made.depth]; omega)⟩
      rw [hn]; exact hm n
    have h0 : (#[Value.iface T v] ++ args.map (opv l))[0]? = some (Value.iface T v) := by rw [Array.getElem?_append_left (by simp)]; rfl
    have h1 : (#[Value.iface T v] ++ args.map (opv l)).extract 1 (#[Value.iface T v] ++ args.map (opv l)).size = args.map (opv l) := by
      apply Array.ext'
      simp [Nat.add_comm 1]
      try exact List.take_of_length_le (by simp)
    have h2 : (args.map (opv l)).extract 0 args.size = args.map (opv l) := by
      apply Array.ext'
      simp
      try exact List.take_of_length_le (by simp)
    refine s_call_any (f := f) (args := #[recv] ++ args.map (opv l)) ?_ (h.mono fun v w1 q => ?_)
    · simp [execOp, resolve, hv, h0, h1, h2, hm', he', invoke, callMethod]
    · show K ((fr l).put (some d) v) w1
      rw [put_fr]; exact hK _ _ q
/-- the receiver is the pointer -/
theorem s_inv_ptr {x : Operand} {name : String} {args : Array Operand} {tys : Array TypeId} {T E : TypeId} {f : FuncId} {v : Value} (hmt : MT P T name f true) (hu : P.underlying T = some (.pointer E)) (he : Enters P f) (hv : opv l x = .iface T v := by rfl) (h : CallR P f (#[v] ++ args.map (opv l)) w fun v w'' => WL P ops Q rest (fr (l.set d v)) w'') :
    WL P ops Q (⟨some d, .call { callee := .invoke x name, args := args, argTypes := tys }, ty, pos, aft, none⟩ :: rest) (fr l) w :=
  s_invoke hv (fun n => run_method_ptr hmt hu) he h
/-- the receiver is what lies at the pointer -/
theorem s_inv_val {x : Operand} {name : String} {args : Array Operand} {tys : Array TypeId} {T E : TypeId} {dsc : TypeDesc} {f : FuncId} {g : Nat} {u : Value} {t : TypeId} {fz : Nat × Nat} (hmt : MT P T name f false) (hu : P.underlying T = some (.pointer E)) (hE : P.underlying E = some dsc) (he : Enters P f) (hd : isAggD dsc = false := by rfl) (hv : opv l x = .iface T (.pointer (some ⟨g, 0, none⟩)) := by rfl)
    (hS : St S w0 w L) (hg : Has L (.obj g (.cells #[u] t fz)) := by repeat (first | exact Has.head | apply Has.tail)) (h : CallR P f (#[u] ++ args.map (opv l)) w fun v w'' => WL P ops Q rest (fr (l.set d v)) w'') :
    WL P ops Q (⟨some d, .call { callee := .invoke x name, args := args, argTypes := tys }, ty, pos, aft, none⟩ :: rest) (fr l) w :=
  s_invoke hv (fun n => run_method_val hmt hu (obj_loads_one hE hd hS hg rfl)) he h
theorem s_iface {x : Operand} {T : TypeId} {dsc : TypeDesc} (hu : P.underlying T = some dsc) (hd : (match dsc with | .interface _ => false | _ => true) = true := by rfl) : Go1 P l w ⟨some d, .makeInterface T x, ty, pos, aft, none⟩ (.iface T (opv l x)) := by
  unfold Go1
  cases dsc <;> simp_all [execOp, Instr.makeInterface, run_underlying hu]
theorem s_assert {x : Operand} {xT T : TypeId} {dsc : TypeDesc} {v : Value} (hu : P.underlying T = some dsc) (hd : (match dsc with | .interface _ => false | _ => true) = true := by rfl) (hx : opv l x = .iface T v := by rfl) : Go1 P l w ⟨some d, .typeAssert x xT T false, ty, pos, aft, none⟩ v := by
  unfold Go1
  cases dsc <;> simp_all [execOp, Instr.typeAssert, run_underlying hu]
theorem s_cap {x : Operand} {T e : TypeId} {A : Option Addr} {n c : Nat} (hT : P.underlying T = some (.slice e)) (hx : opv l x = .slice A n c := by rfl) : Go1 P l w ⟨some d, .call { callee := .builtin .cap, args := #[x], argTypes := #[T] }, ty, pos, aft, none⟩ (.int .i64 c) :=
  (by unfold Go1; simp [execOp, resolve, invoke, builtin, hx, Builtin.cap_, run_underlying hT, goInt])
/-- an append of zeros to nothing: a new row -/
theorem run_append_zs {t u ty e : TypeId} {sz by' : Nat} {z : Value} (ht : P.underlying t = some (.slice e)) (hu : P.underlying u = some (.int .i64)) (hi : TI P e sz by' z) (hsz : 0 < sz) (hzs : z.cells.size = sz) {n : Nat} (hn : 0 < n) (h63 : n ≤ maxLen) (hby : n * by' ≤ 140737488355328) :
    ∃ g c' w', (Builtin.append_ #[t, u] ty #[.slice none 0 0, .int .i64 (n : Int)]).run P w = .ok (.slice (some ⟨g, 0, none⟩) n c') w' ∧ n ≤ c' ∧ w'.ownsRow 0 e sz (.slice (some ⟨g, 0, none⟩) 0 c') 0 [] ∧ Ext w w' ∧ w.heap.size ≤ g := by
  obtain ⟨i, hi, rfl, rfl, hz⟩ := hi
  have hwr : IntKind.i64.wrap (n : Int) = (n : Int) := wr_i64 (by omega) (by simp only [maxLen] at h63; omega)
  have hge := grownCap_ge w n 0 e
  have hcm : grownCap w n 0 e ≤ maxLen := grownCap_le_maxLen w n 0 e h63
  have h48' : ¬ (281474976710656 < Builtin.nextslicecap n 0 * i.bytes) := by have := growslice_fits (show 0 < n by omega) hby; omega
  have hb : ¬ ((281474976710656 : Int) < (n : Int) * (i.bytes : Int)) := by
    have : ((n * i.bytes : Nat) : Int) ≤ 140737488355328 := by omega
    rw [Int.natCast_mul] at this; omega
  have h64 : ¬ ((9223372036854775807 : Int) < (n : Int)) := by simp only [maxLen] at h63; omega
  have h0 : ¬ ((n : Int) < 0) := by omega
  have hn0 : ¬ n = 0 := by omega
  have hs' : ¬ i.size = 0 := by omega
  refine ⟨w.heap.size, grownCap w n 0 e, w.drew.alloc (.cells (Builtin.zeroCells z.cells n ++ Builtin.zeroCells z.cells (grownCap w n 0 e - n)) e), ?_, hge, ⟨by simp, .inr ⟨w.heap.size, _, _, rfl, Nat.zero_le _, heap_alloc_new w.drew _, Nat.zero_le _, hcm, ?_, by simp⟩⟩, (Ext.drew w).trans (Ext.alloc _ _), Nat.le_refl _⟩
  · simp [Builtin.append_, run_underlying ht, run_underlying hu, sizeOf, typeInfo, zeroValue, hi, hz, Builtin.lenOf, hn0, h64, h48', hb, h0, hs', asInt, asIntOf, hwr, Question.forced, Builtin.firstCells, newRow, grownCap]
    intro hh; exact absurd hh (Nat.mul_ne_zero hn0 hs')
  · rw [Array.size_append, size_zeroCells, size_zeroCells, hzs, ← Nat.add_mul]; congr 1; omega
theorem m_append_zero {T U e : TypeId} {x y : Operand} {sz by' n : Nat} {z : Value} (hT : P.underlying T = some (.slice e)) (hU : P.underlying U = some (.int .i64)) (hi : TI P e sz by' z) (hsz : 0 < sz := by decide) (hzs : z.cells.size = sz := by decide) (hx : opv l x = .slice none 0 0 := by rfl) (hy : opv l y = .int .i64 (n : Int) := by rfl) (hn : 0 < n := by omega) (h63 : n ≤ maxLen := by first | omega | (simp only [maxLen]; omega)) (hby : n * by' ≤ 140737488355328 := by omega) (hS : St S w0 w L)
    (h : ∀ w' A' c', n ≤ c' → St S w0 w' (.vec A' c' e sz 0 [] :: L) → WL P ops Q rest (fr (l.set d (.slice A' n c'))) w') : WL P ops Q (⟨some d, .call { callee := .builtin .append, args := #[x, y], argTypes := #[T, U] }, ty, pos, aft, none⟩ :: rest) (fr l) w := by
  obtain ⟨g, c', w', hrun, hc, hown, hE, hg⟩ := run_append_zs (w := w) (t := T) (u := U) (ty := ty) hT hU hi hsz hzs hn h63 hby
  refine s_val (v := .slice (some ⟨g, 0, none⟩) n c') (w' := w') (by simp [execOp, resolve, invoke, builtin, hx, hy, hrun]) (h w' _ c' hc ?_)
  exact hS.add (r := .vec (some ⟨g, 0, none⟩) c' e sz 0 []) hE hown (by
    intro k hk
    rcases hk with hk | hk
    · simp [Res.own] at hk; omega
    · simp [Res.reads] at hk)
/-- the first part of a slice, by its value alone -/
theorem m_slice_lo0 {T e : TypeId} {x : Operand} {A : Option Addr} {n c sz by' hi : Nat} {z : Value} {hi' : Option Operand} (hT : P.underlying T = some (.slice e)) (hi0 : TI P e sz by' z) (hx : opv l x = .slice A n c := by rfl)
    (hhi : (match hi' with | none => hi = n ∧ (none : Option Operand) = none | some q => ∃ k, opv l q = .int k (hi : Int))) (h2 : hi ≤ c := by omega) : Go1 P l w ⟨some d, .slice T x none hi' none, ty, pos, aft, none⟩ (.slice A hi c) := by
  have h := m_slice (w := w) (d := d) (ty := ty) (pos := pos) (aft := aft) (lo := 0) (lo' := none) (mx' := none) (m := c) hT hi0 hx rfl hhi rfl (by omega) h2 (Nat.le_refl _)
  have e : (if c = 0 then A else A.map (·.add (0 * sz))) = A := by
    split
    · rfl
    · cases A with
      | none => rfl
      | some a => simp [Addr.add]
  rw [e] at h
  exact h
/-- the first part of what is owned -/
theorem St.vec_cut {A : Option Addr} {c : Nat} {e : TypeId} {sz n : Nat} {xs : List Value} (k : Nat) (h : St S w0 w L) (hk : k ≤ n) (hu : Upd L (.vec A c e sz n xs) (.vec A c e sz k (xs.take (k * sz))) L') : St S w0 w L' := by
  refine h.weaken hu ?_ (fun g hg => hg) (fun g hg => by simp [Res.reads] at hg)
  have hv := h.holds _ hu.mem
  obtain ⟨h1, h2⟩ := hv
  refine ⟨by rw [List.length_take, h1]; exact Nat.min_eq_left (Nat.mul_le_mul_right _ hk), ?_⟩
  rcases h2 with ⟨h3, h4⟩ | ⟨g, cap, cur, h3, h4, h5, h6, h7, h8, h9⟩
  · refine .inl ⟨?_, by omega⟩
    simp only [Value.slice.injEq] at h3 ⊢
    exact ⟨h3.1, by omega, h3.2.2⟩
  · refine .inr ⟨g, cap, cur, ?_, h4, h5, by omega, h7, h8, ?_⟩
    · simp only [Value.slice.injEq] at h3 ⊢
      first | exact ⟨h3.1, rfl, h3.2.2⟩ | exact ⟨h3.1, trivial, h3.2.2⟩
    · rw [← h9, List.take_take, Nat.min_eq_left (Nat.mul_le_mul_right _ hk)]
end
end Go.Proofs.Ytffmanidnlbjjaa
