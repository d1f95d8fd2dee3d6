/- Rules, plain words and walks that the claim leans on: Va, Vb, Vc, Vd, Ve, Vf, Vq, Vm, Vg, Vh, Vi, Vn, Vk, Vw, Ta, Cv, Vp, Tk, Vz, Vo, Popen, Ppack, Prows, Pcnt. -/
import Derived.WalkKit
import Derived.WalkSpells
import Derived.WalkLawsBesides
import Derived.Shelf.Abstract
import Derived.Maps.AppendAt
import Derived.Deep.Quiet
import Derived.Lib.ConvBytes
import Derived.Lib.BitFns
import Derived.WideShapes
import Derived.Lib.ItoaNum
import Derived.WalkMore
import Derived.Scope
import Derived.Test.YtpjpaipkkcengaaRows
import Derived.Laws.IdiomRangeMap
import Derived.ProofKit
import Derived.Carry
import Derived.SizedLaws
import Derived.OpenShut
import Derived.JoinedOf
set_option linter.unusedSimpArgs false
set_option linter.unusedVariables false
namespace Go.Proofs.Ytpjpaipkkcengaa
open Go.RowKit
/-- The blocks outside S are as they were. -/
structure Keep (S : Nat → Prop) (w w' : World) : Prop where
  os : w'.os = w.os
  tape : w'.tape = w.tape
  output : w'.output = w.output
  size : w.heap.size ≤ w'.heap.size
  block : ∀ k, k < w.heap.size → ¬ S k → w'.heap[k]? = w.heap[k]?
def NoB : Nat → Prop := fun _ => False
abbrev Ext (w w' : World) : Prop := Keep NoB w w'
theorem Keep.refl (S : Nat → Prop) (w : World) : Keep S w w := ⟨rfl, rfl, rfl, Nat.le_refl _, fun _ _ _ => rfl⟩
theorem Ext.rfl' {w : World} : Ext w w := Keep.refl _ w
theorem Keep.trans {S : Nat → Prop} {a b c : World} (h : Keep S a b) (k : Keep S b c) : Keep S a c :=
  ⟨k.os.trans h.os, k.tape.trans h.tape, k.output.trans h.output, Nat.le_trans h.size k.size, fun i hi hs => (k.block i (Nat.lt_of_lt_of_le hi h.size) hs).trans (h.block i hi hs)⟩
theorem Keep.mono {S T : Nat → Prop} {a b : World} (h : Keep S a b) (hs : ∀ k, k < a.heap.size → S k → T k) : Keep T a b :=
  ⟨h.os, h.tape, h.output, h.size, fun i hi ht => h.block i hi fun hx => ht (hs i hi hx)⟩
theorem Keep.comp {S T : Nat → Prop} {a b c : World} (h : Keep S a b) (k : Keep T b c) (hs : ∀ k, k < a.heap.size → T k → S k) : Keep S a c :=
  ⟨k.os.trans h.os, k.tape.trans h.tape, k.output.trans h.output, Nat.le_trans h.size k.size, fun i hi hS => (k.block i (Nat.lt_of_lt_of_le hi h.size) (fun ht => hS (hs i hi ht))).trans (h.block i hi hS)⟩
theorem Ext.keep {S : Nat → Prop} {a b : World} (h : Ext a b) : Keep S a b := h.mono fun _ _ f => f.elim
theorem Ext.below {a b : World} (h : Ext a b) : Below a.heap.size a b := ⟨h.os, h.tape, h.output, h.size, fun k hk => h.block k hk (fun f => f)⟩
theorem Ext.cell {a b : World} (h : Ext a b) {p : Addr} {v : Value} (hc : a.cell? p = some v) : b.cell? p = some v :=
  (World.cell?_of_block (h.block _ (World.block_lt_of_cell? a p hc) (fun f => f))).trans hc
theorem Ext.drew (w : World) : Ext w w.drew := ⟨rfl, rfl, rfl, Nat.le_refl _, fun _ _ _ => rfl⟩
theorem Ext.alloc (w : World) (o : Obj) : Ext w (w.alloc o) := ⟨rfl, rfl, rfl, by simp, fun k hk _ => Below.heap_alloc w o k hk⟩
inductive Res where
  | obj (g : Nat) (o : Obj)
  | vec (A : Option Addr) (c : Nat) (e : TypeId) (sz n : Nat) (xs : List Value)
  | rd (A : Option Addr) (sz n : Nat) (xs : List Value)
/-- Cells that may be read at a slice's address. -/
def Rd (w : World) (A : Option Addr) (sz n : Nat) (xs : List Value) : Prop :=
  xs.length = n * sz ∧ (0 < n → ∃ g o, A = some ⟨g, o, none⟩ ∧ g < w.heap.size ∧ ∀ j u, xs[j]? = some u → w.cell? ⟨g, o + j, none⟩ = some u)
def Res.holds (w : World) : Res → Prop
  | .obj g o => w.heap[g]? = some o
  | .vec A c e sz n xs => w.ownsRow 0 e sz (.slice A n c) n xs
  | .rd A sz n xs => Rd w A sz n xs
def Res.own : Res → Option Nat
  | .obj g _ => some g
  | .vec A _ _ _ _ _ => A.map (·.block)
  | .rd _ _ _ _ => none
def Res.reads : Res → Option Nat
  | .rd A _ n _ => if n = 0 then none else A.map (·.block)
  | _ => none
def Res.compat (r s : Res) : Prop := ∀ g, (r.own = some g → s.own ≠ some g ∧ s.reads ≠ some g) ∧ (s.own = some g → r.own ≠ some g ∧ r.reads ≠ some g)
theorem Res.compat.symm {r s : Res} (h : r.compat s) : s.compat r := fun g => ⟨(h g).2, (h g).1⟩
structure St (S : Nat → Prop) (w0 w : World) (L : List Res) : Prop where
  keep : Keep S w0 w
  holds : ∀ r ∈ L, r.holds w
  own : ∀ r ∈ L, ∀ g, r.own = some g → S g ∨ w0.heap.size ≤ g
  apart : L.Pairwise Res.compat
theorem own_lt {r : Res} {w : World} (h : r.holds w) {g : Nat} (hg : r.own = some g) : g < w.heap.size := by
  cases r with
  | obj b o =>
    simp only [Res.own, Option.some.injEq] at hg
    subst hg
    exact (Array.getElem?_eq_some_iff.1 h).1
  | vec A c e sz n xs =>
    refine (World.ownsRow.lt h g ?_).2
    cases A <;> simp_all [Res.own, Value.ownBlock]
  | rd A sz n xs => simp [Res.own] at hg
theorem reads_lt {r : Res} {w : World} (h : r.holds w) {g : Nat} (hg : r.reads = some g) : g < w.heap.size := by
  cases r with
  | obj b o => simp [Res.reads] at hg
  | vec A c e sz n xs => simp [Res.reads] at hg
  | rd A sz n xs =>
    simp only [Res.reads] at hg
    split at hg
    · cases hg
    · obtain ⟨_, h2⟩ := h
      obtain ⟨b, o, rfl, hlt, _⟩ := h2 (by omega)
      simp at hg
      omega
theorem Rd.of_blocks {w w' : World} {A : Option Addr} {sz n : Nat} {xs : List Value} (h : Rd w A sz n xs) (hsz : w.heap.size ≤ w'.heap.size) (hb : ∀ g, (Res.rd A sz n xs).reads = some g → w'.heap[g]? = w.heap[g]?) : Rd w' A sz n xs := by
  refine ⟨h.1, fun hn => ?_⟩
  obtain ⟨g, o, rfl, hlt, hc⟩ := h.2 hn
  refine ⟨g, o, rfl, by omega, fun j u hu => ?_⟩
  have he := hb g (by simp [Res.reads, Nat.ne_of_gt hn])
  exact (World.cell?_of_block (a := ⟨g, o + j, none⟩) he).trans (hc j u hu)
theorem vec_of_blocks {w w' : World} {A : Option Addr} {c : Nat} {e : TypeId} {sz n : Nat} {xs : List Value} (h : w.ownsRow 0 e sz (.slice A n c) n xs) (hb : ∀ g, (Res.vec A c e sz n xs).own = some g → w'.heap[g]? = w.heap[g]?) : w'.ownsRow 0 e sz (.slice A n c) n xs := by
  refine ⟨h.1, ?_⟩
  rcases h.2 with h2 | ⟨g, cap, cur, hv, h0, hg, h3⟩
  · exact .inl h2
  · refine .inr ⟨g, cap, cur, hv, h0, ?_, h3⟩
    simp only [Value.slice.injEq] at hv
    rw [hb g (by simp [Res.own, hv.1])]
    exact hg
/-- A resource holds in whatever world has its blocks unturned. -/
theorem Res.holds_of {r : Res} {w w' : World} (h : r.holds w) (hsz : w.heap.size ≤ w'.heap.size) (ho : ∀ g, r.own = some g → w'.heap[g]? = w.heap[g]?) (hr : ∀ g, r.reads = some g → w'.heap[g]? = w.heap[g]?) : r.holds w' := by
  cases r with
  | obj g o => exact (ho g rfl).trans h
  | vec A c e sz n xs => exact vec_of_blocks h ho
  | rd A sz n xs => exact Rd.of_blocks h hsz hr
theorem Res.holds_ext {r : Res} {w w' : World} (h : r.holds w) (hE : Ext w w') : r.holds w' :=
  r.holds_of h hE.size (fun g hg => hE.block g (own_lt h hg) (fun f => f)) (fun g hg => hE.block g (reads_lt h hg) (fun f => f))
section
variable {S : Nat → Prop} {w0 w w' : World} {L L' : List Res} {r r' : Res}
theorem St.start {S : Nat → Prop} (w : World) : St S w w [] := ⟨Keep.refl _ _, by simp, by simp, .nil⟩
theorem St.ext (h : St S w0 w L) (hE : Ext w w') : St S w0 w' L :=
  ⟨h.keep.trans hE.keep, fun r hr => Res.holds_ext (h.holds r hr) hE, h.own, h.apart⟩
/-- Something that may be read is laid beside. It lies in no owned block. -/
theorem St.add_rd {A : Option Addr} {sz n : Nat} {xs : List Value} (h : St S w0 w L) (hr : Rd w A sz n xs) (hf : ∀ r ∈ L, ∀ g, r.own = some g → (Res.rd A sz n xs).reads ≠ some g) : St S w0 w (.rd A sz n xs :: L) := by
  refine ⟨h.keep, ?_, ?_, ?_⟩
  · intro r hr'
    rcases List.mem_cons.1 hr' with rfl | hr'
    · exact hr
    · exact h.holds r hr'
  · intro r hr' g hg
    rcases List.mem_cons.1 hr' with rfl | hr'
    · simp [Res.own] at hg
    · exact h.own r hr' g hg
  · refine List.pairwise_cons.2 ⟨fun s hs g => ⟨fun hg => by simp [Res.own] at hg, fun hg => ⟨by simp [Res.own], hf s hs g hg⟩⟩, h.apart⟩
/-- Something new, owned or to be read, whose blocks lie beyond all that was. -/
theorem St.add (h : St S w0 w L) (hE : Ext w w') (hr : r.holds w') (hf : ∀ g, r.own = some g ∨ r.reads = some g → w.heap.size ≤ g) : St S w0 w' (r :: L) := by
  have h' := h.ext hE
  refine ⟨h'.keep, ?_, ?_, ?_⟩
  · intro s hs
    rcases List.mem_cons.1 hs with rfl | hs
    · exact hr
    · exact h'.holds s hs
  · intro s hs g hg
    rcases List.mem_cons.1 hs with rfl | hs
    · exact .inr (Nat.le_trans h.keep.size (hf g (.inl hg)))
    · exact h'.own s hs g hg
  · refine List.pairwise_cons.2 ⟨fun s hs g => ⟨fun hg => ?_, fun hg => ?_⟩, h'.apart⟩
    · have h1 := hf g (.inl hg)
      exact ⟨fun e => by have := own_lt (h.holds s hs) e; omega, fun e => by have := reads_lt (h.holds s hs) e; omega⟩
    · have h1 := own_lt (h.holds s hs) hg
      exact ⟨fun e => by have := hf g (.inl e); omega, fun e => by have := hf g (.inr e); omega⟩
theorem St.alloc (h : St S w0 w L) (o : Obj) : St S w0 (w.alloc o) (.obj w.heap.size o :: L) :=
  h.add (Ext.alloc w o) (heap_alloc_new w o) (by
    intro g hg
    rcases hg with hg | hg
    · simp [Res.own] at hg; omega
    · simp [Res.reads] at hg)
/-- r stands in L; with r' in its place the list is L'. -/
inductive Upd : List Res → Res → Res → List Res → Prop
  | head {r r' : Res} {L : List Res} : Upd (r :: L) r r' (r' :: L)
  | tail {s r r' : Res} {L L' : List Res} : Upd L r r' L' → Upd (s :: L) r r' (s :: L')
theorem Upd.mem (h : Upd L r r' L') : r ∈ L := by
  induction h with
  | head => simp
  | tail _ ih => simp [ih]
theorem Upd.mem' (h : Upd L r r' L') : ∀ s ∈ L', s = r' ∨ s ∈ L := by
  induction h with
  | head => intro s hs; rcases List.mem_cons.1 hs with rfl | hs <;> simp_all
  | tail _ ih => intro s hs; rcases List.mem_cons.1 hs with rfl | hs
                 · simp
                 · rcases ih s hs with h | h <;> simp [h]
theorem Upd.pairwise (h : Upd L r r' L') (hp : L.Pairwise Res.compat) (hc : ∀ s ∈ L, r.compat s → r'.compat s) : L'.Pairwise Res.compat := by
  induction h with
  | head =>
    obtain ⟨h1, h2⟩ := List.pairwise_cons.1 hp
    exact List.pairwise_cons.2 ⟨fun s hs => hc s (by simp [hs]) (h1 s hs), h2⟩
  | tail hu ih =>
    obtain ⟨h1, h2⟩ := List.pairwise_cons.1 hp
    refine List.pairwise_cons.2 ⟨fun s hs => ?_, ih h2 (fun s hs => hc s (by simp [hs]))⟩
    rcases hu.mem' s hs with rfl | hs
    · exact (hc _ (by simp) (h1 _ hu.mem).symm).symm
    · exact h1 s hs
/-- of a resource that stands in a pairwise list: what is not it is compatible with it, or it is at its very place -/
theorem Upd.others (h : Upd L r r' L') (hp : L.Pairwise Res.compat) : ∀ s ∈ L', s = r' ∨ r.compat s := by
  induction h with
  | head =>
    obtain ⟨h1, _⟩ := List.pairwise_cons.1 hp
    intro s hs
    rcases List.mem_cons.1 hs with rfl | hs
    · exact .inl rfl
    · exact .inr (h1 s hs)
  | tail hu ih =>
    obtain ⟨h1, h2⟩ := List.pairwise_cons.1 hp
    intro s hs
    rcases List.mem_cons.1 hs with rfl | hs
    · exact .inr (h1 _ hu.mem).symm
    · exact ih h2 s hs
/-- One resource turns: the world changes in its own block alone (or new blocks are laid). -/
theorem St.turn (h : St S w0 w L) (hu : Upd L r r' L') (hk : Keep (fun k => r.own = some k) w w') (hr : r'.holds w')
    (ho : ∀ g, r'.own = some g → r.own = some g ∨ w.heap.size ≤ g) (hn : ∀ g, r'.reads = some g → r.own = some g ∨ r.reads = some g ∨ w.heap.size ≤ g) : St S w0 w' L' := by
  have hmem := hu.mem
  have hS : ∀ k, r.own = some k → S k ∨ w0.heap.size ≤ k := h.own r hmem
  refine ⟨?_, ?_, ?_, ?_⟩
  · exact h.keep.comp hk (fun k hk0 hk1 => by rcases hS k hk1 with h1 | h1; exact h1; omega)
  · intro s hs
    rcases hu.others h.apart s hs with rfl | hc
    · exact hr
    · have hs' : s ∈ L ∨ s = r' := (hu.mem' s hs).symm
      rcases hs' with hs' | rfl
      · refine s.holds_of (h.holds s hs') hk.size (fun g hg => hk.block g (own_lt (h.holds s hs') hg) (fun e => ((hc g).1 e).1 hg)) (fun g hg => hk.block g (reads_lt (h.holds s hs') hg) (fun e => ((hc g).1 e).2 hg))
      · exact hr
  · intro s hs g hg
    rcases hu.mem' s hs with rfl | hs
    · rcases ho g hg with h1 | h1
      · exact hS g h1
      · exact .inr (Nat.le_trans h.keep.size h1)
    · exact h.own s hs g hg
  · refine hu.pairwise h.apart fun s hs hc g => ?_
    have hs := h.holds s hs
    refine ⟨fun hg => ?_, fun hg => ?_⟩
    · rcases ho g hg with h1 | h1
      · exact (hc g).1 h1
      · exact ⟨fun e => by have := own_lt hs e; omega, fun e => by have := reads_lt hs e; omega⟩
    · refine ⟨fun e => ?_, fun e => ?_⟩
      · rcases ho g e with h1 | h1
        · exact ((hc g).1 h1).1 hg
        · have := own_lt hs hg; omega
      · rcases hn g e with h1 | h1 | h1
        · exact ((hc g).1 h1).1 hg
        · exact ((hc g).2 hg).2 h1
        · have := own_lt hs hg; omega
/-- A resource is taken for another one that says less of the same blocks. -/
theorem St.weaken (h : St S w0 w L) (hu : Upd L r r' L') (hr : r'.holds w) (ho : ∀ g, r'.own = some g → r.own = some g) (hn : ∀ g, r'.reads = some g → r.own = some g ∨ r.reads = some g) : St S w0 w L' :=
  h.turn hu (Keep.refl _ _) hr (fun g hg => .inl (ho g hg)) (fun g hg => by rcases hn g hg with h1 | h1; exact .inl h1; exact .inr (.inl h1))
/-- r stands in L; behind it L' is left. -/
inductive Del : List Res → Res → List Res → Prop
  | head {r : Res} {L : List Res} : Del (r :: L) r L
  | tail {s r : Res} {L L' : List Res} : Del L r L' → Del (s :: L) r (s :: L')
theorem Del.perm {L L' : List Res} {r : Res} (h : Del L r L') : L.Perm (r :: L') := by
  induction h with
  | head => exact .refl _
  | tail _ ih => exact (ih.cons _).trans (.swap _ _ _)
theorem St.perm (h : St S w0 w L) (hp : L.Perm L') : St S w0 w L' :=
  ⟨h.keep, fun r hr => h.holds r (hp.mem_iff.2 hr), fun r hr => h.own r (hp.mem_iff.2 hr), (hp.pairwise_iff (fun h => h.symm)).1 h.apart⟩
theorem St.drop (h : St S w0 w (r :: L)) : St S w0 w L :=
  ⟨h.keep, fun s hs => h.holds s (by simp [hs]), fun s hs => h.own s (by simp [hs]), (List.pairwise_cons.1 h.apart).2⟩
/-- L' is chosen out of L, in any order. -/
inductive Sel : List Res → List Res → Prop
  | nil {L : List Res} : Sel [] L
  | cons {r : Res} {L L1 L' : List Res} : Del L r L1 → Sel L' L1 → Sel (r :: L') L
theorem Sel.sub {L L' : List Res} (h : Sel L' L) : ∃ M, L.Perm (L' ++ M) := by
  induction h with
  | nil => exact ⟨_, .refl _⟩
  | cons hd _ ih =>
    obtain ⟨M, hM⟩ := ih
    exact ⟨M, hd.perm.trans (hM.cons _)⟩
theorem St.left {L M : List Res} (h : St S w0 w (L ++ M)) : St S w0 w L :=
  ⟨h.keep, fun s hs => h.holds s (by simp [hs]), fun s hs => h.own s (by simp [hs]), (List.pairwise_append.1 h.apart).1⟩
theorem St.sel (h : St S w0 w L) (hs : Sel L' L) : St S w0 w L' := by
  obtain ⟨M, hM⟩ := hs.sub
  exact (h.perm hM).left
/-- A resource that stands there. -/
inductive Has : List Res → Res → Prop
  | head {r : Res} {L : List Res} : Has (r :: L) r
  | tail {s r : Res} {L : List Res} : Has L r → Has (s :: L) r
theorem Has.mem {L : List Res} {r : Res} (h : Has L r) : r ∈ L := by
  induction h with
  | head => simp
  | tail _ ih => simp [ih]
theorem St.has (h : St S w0 w L) (hr : Has L r) : r.holds w := h.holds r hr.mem
theorem St.ext_of (h : St NoB w0 w L) : Ext w0 w := h.keep
end
end Go.Proofs.Ytpjpaipkkcengaa
namespace Go.Proofs.Ytpjpaipkkcengaa
open Go.RowKit
def fr (l : List Value) : Act := { tmps := l.toArray, defers := [] }
def opv (l : List Value) : Operand → Value
  | .tmp t => l.getD t undef
  | .const v => v
  | .global g => .pointer (some ⟨g, 0, none⟩)
  | .func f => .func (.func f) #[] #[]
theorem eval_fr (l : List Value) : (fr l).eval = opv l := by
  funext x
  cases x <;> simp [fr, opv, Act.eval, Array.getD_eq_getD_getElem?, List.getD]
theorem put_fr (l : List Value) (d : Nat) (v : Value) : (fr l).put (some d) v = fr (l.set d v) := by simp [fr, Act.put]
theorem put_fr_none (l : List Value) (v : Value) : (fr l).put none v = fr l := rfl
theorem n1 {v : Value} {l : List Value} {n : Nat} {d : Value} : (v :: l).getD (n + 1) d = l.getD n d := List.getD_cons_succ
theorem n2 {v : Value} {l : List Value} {d : Value} : (v :: l).getD 0 d = v := List.getD_cons_zero
theorem n3 {v u : Value} {l : List Value} {n : Nat} : (v :: l).set (n + 1) u = v :: l.set n u := List.set_cons_succ
theorem n4 {v u : Value} {l : List Value} : (v :: l).set 0 u = u :: l := List.set_cons_zero
def ic (k : IntKind) (l : List Int) : Array Value := (l.map (Value.int k)).toArray
@[simp] theorem ic_size (k : IntKind) (l : List Int) : (ic k l).size = l.length := by simp [ic]
theorem ic_get {k : IntKind} {l : List Int} {i : Nat} (h : i < l.length) : (ic k l)[i]? = some (.int k (l.getD i 0)) := by
  simp [ic, List.getElem?_eq_getElem h, List.getD]
theorem il_get {k : IntKind} {l : List Int} {i : Nat} (h : i < l.length) : (l.map (Value.int k))[i]? = some (.int k (l.getD i 0)) := by
  simp [List.getElem?_eq_getElem h, List.getD]
theorem ic_one (k : IntKind) (l : List Int) : ∀ u ∈ (ic k l).toList, u.oneCell' = true := by
  intro u hu; simp [ic] at hu; obtain ⟨a, _, rfl⟩ := hu; rfl
theorem il_one (k : IntKind) (l : List Int) : ∀ u ∈ l.map (Value.int k), u.oneCell' = true := by
  intro u hu; simp at hu; obtain ⟨a, _, rfl⟩ := hu; rfl

/-- written slots hold whatever they hold -/
def clob (l : List Value) (V : List Nat) (f : Nat → Value) : List Value := V.foldl (fun l d => l.set d (f d)) l
theorem set_getD (l : List Value) (d : Nat) : l.set d (l.getD d undef) = l := by
  by_cases h : d < l.length
  · rw [List.getD_eq_getElem?_getD, List.getElem?_eq_getElem h]; simp
  · rw [List.set_eq_of_length_le (by omega)]
theorem clob_self (l : List Value) (V : List Nat) : clob l V (fun d => l.getD d undef) = l := by
  suffices h : ∀ m : List Value, m = l → V.foldl (fun m d => m.set d (l.getD d undef)) m = l from h l rfl
  induction V with
  | nil => exact fun m hm => hm
  | cons d V ih =>
    intro m hm
    subst hm
    exact ih _ (set_getD m d)
def look (i : Nat) : List (Nat × (Act → World → Prop)) → Act → World → Prop
  | [], _, _ => False
  | (j, k) :: ex, a, w => if i = j then k a w else look i ex a w
/-- What stands behind a piece of code: on, out by a return, out of a block. -/
def Qx (n r : Act → World → Prop) (ex : List (Nat × (Act → World → Prop))) : Exit → Act → World → Prop
  | .normal, a, w => n a w
  | .ret, a, w => r a w
  | .exit i, a, w => look i ex a w
  | _, _, _ => False
/-- the walk over a list of operations, shut -/
structure WL (P : Program) (ops : Array Oper) (Q : Exit → Act → World → Prop) (os : List Oper) (a : Act) (w : World) : Prop where
  run : wpList P ops Q os a w
section
variable {P : Program} {n r : Act → World → Prop} {ex : List (Nat × (Act → World → Prop))} {a : Act} {w w' : World} {l : List Value}
theorem x_seq {x y : Code} (h : ∀ K : Act → World → Prop, (∀ a w, y.wp P (Qx n r ex) a w → K a w) → x.wp P (Qx K r ex) a w) : (Code.seq x y).wp P (Qx n r ex) a w :=
  wp_seq (wp_mono (h _ fun _ _ h => h) fun e a w q => by cases e <;> first | exact q | exact q.elim)
theorem x_block {id : Nat} {c : Code} (h : c.wp P (Qx n r ((id, n) :: ex)) a w) : (Code.block id c).wp P (Qx n r ex) a w :=
  wp_block (wp_mono h fun e a w q => by
    cases e with
    | exit i =>
      simp only [Exit.inBlock, Qx, look] at q ⊢
      split
      · rename_i hi; rw [if_pos hi] at q; exact q
      · rename_i hi; rw [if_neg hi] at q; exact q
    | _ => first | exact q | exact q.elim)
theorem x_exit {id : Nat} (h : look id ex a w) : (Code.exit id).wp P (Qx n r ex) a w := wp_exit h
theorem look_here {id : Nat} {k : Act → World → Prop} (h : k a w) : look id ((id, k) :: ex) a w := by simp only [look]; exact h
theorem x_ret (h : r a w) : Code.ret.wp P (Qx n r ex) a w := wp_ret h
theorem x_skip (h : n a w) : Code.skip.wp P (Qx n r ex) a w := wp_skip h
theorem x_cond_t {c : Operand} {x y : Code} (hc : opv l c = .bool true := by rfl) (h : x.wp P (Qx n r ex) (fr l) w) : (Code.cond c x y).wp P (Qx n r ex) (fr l) w := wp_cond_true (by rw [eval_fr]; exact hc) h
theorem x_cond_f {c : Operand} {x y : Code} (hc : opv l c = .bool false := by rfl) (h : y.wp P (Qx n r ex) (fr l) w) : (Code.cond c x y).wp P (Qx n r ex) (fr l) w := wp_cond_false (by rw [eval_fr]; exact hc) h
theorem x_cond {c : Operand} {x y : Code} {b : Bool} (hc : opv l c = .bool b := by rfl) (ht : b = true → x.wp P (Qx n r ex) (fr l) w) (hf : b = false → y.wp P (Qx n r ex) (fr l) w) : (Code.cond c x y).wp P (Qx n r ex) (fr l) w :=
  wp_cond_split (by rw [eval_fr]; exact hc) ht hf
theorem wl_plain {o : Oper} {ops : Array Oper} {rest : List Oper} {Q : Exit → Act → World → Prop} (hg : o.guard = none) (h : ∀ K : Act → World → Prop, (∀ a w, WL P ops Q rest a w → K a w) → o.wp P a w K Q) : WL P ops Q (o :: rest) a w := ⟨wpList_plain hg fun K hK => h K fun a w hh => hK a w hh.run⟩
theorem x_region {id : Nat} {ops : List Oper} (h : WL P ops.toArray (Qx n r ex) ops a w) : (Code.region id ops.toArray false).wp P (Qx n r ex) a w := wp_region_lit h.run
theorem x_nil {ops : Array Oper} (h : n a w) : WL P ops (Qx n r ex) [] a w := ⟨h⟩
def LoopJ (I : Nat → (Nat → Value) → World → Prop) (l : List Value) (V : List Nat) (m : Nat) (a' : Act) (w' : World) : Prop := ∃ m' f', a' = fr (clob l V f') ∧ I m' f' w' ∧ m' < m
theorem loop_back {I : Nat → (Nat → Value) → World → Prop} {l lnow : List Value} {V : List Nat} {m m' : Nat} {w : World} (he : lnow = clob l V (fun d => lnow.getD d undef)) (hI : I m' (fun d => lnow.getD d undef) w) (hm : m' < m) : LoopJ I l V m (fr lnow) w :=
  ⟨m', _, congrArg fr he, hI, hm⟩
theorem x_loop {c : Code} (V : List Nat) (I : Nat → (Nat → Value) → World → Prop) (m0 : Nat) (h0 : I m0 (fun d => l.getD d undef) w)
    (hr : ∀ m f w, I m f w → c.wp P (Qx (LoopJ I l V m) r ex) (fr (clob l V f)) w) : (Code.loop c).wp P (Qx n r ex) (fr l) w := by
  let J : Nat → Act → World → Prop := fun m a w => ∃ f, a = fr (clob l V f) ∧ I m f w
  have key : ∀ m a w, J m a w → (Code.loop c).wp P (Qx n r ex) a w := by
    intro m
    induction m using Nat.strongRecOn with
    | _ m ih =>
      rintro a w ⟨f, rfl, hI⟩
      -- one round of the loop, then the loop again
      refine wp_loop (fun a' w' => ∃ m' ≤ m, J m' a' w') (fun a' w' => Classical.epsilon fun k => (∃ f, a' = fr (clob l V f) ∧ I k f w') ∧ ∀ j, (∃ f, a' = fr (clob l V f) ∧ I j f w') → k ≤ j) ⟨m, Nat.le_refl _, f, rfl, hI⟩ ?_
      rintro a1 w1 ⟨m1, hm1, hJ1⟩
      -- the least number that fits
      have hex : ∃ k, J k a1 w1 := ⟨m1, hJ1⟩
      have hleast : ∃ k, J k a1 w1 ∧ ∀ j, J j a1 w1 → k ≤ j := by
        refine Nat.strongRecOn (motive := fun q => J q a1 w1 → ∃ k, J k a1 w1 ∧ ∀ j, J j a1 w1 → k ≤ j) m1 (fun q ihq hq => ?_) hJ1
        by_cases hx : ∃ j, j < q ∧ J j a1 w1
        · obtain ⟨j, hj, hjj⟩ := hx
          exact ihq j hj hjj
        · exact ⟨q, hq, fun j hj => by
            rcases Nat.lt_or_ge j q with h | h
            · exact absurd ⟨j, h, hj⟩ hx
            · exact h⟩
      have hk := Classical.epsilon_spec hleast
      generalize hke : (Classical.epsilon fun k => (∃ f, a1 = fr (clob l V f) ∧ I k f w1) ∧ ∀ j, (∃ f, a1 = fr (clob l V f) ∧ I j f w1) → k ≤ j) = k at hk ⊢
      obtain ⟨⟨f1, rfl, hI1⟩, hmin⟩ := hk
      have hkm : k ≤ m := Nat.le_trans (hmin m1 hJ1) hm1
      refine wp_mono (hr k f1 w1 hI1) fun e a2 w2 q => ?_
      cases e with
      | normal =>
        obtain ⟨m2, f2, rfl, hI2, hlt⟩ := q
        refine ⟨⟨m2, by omega, f2, rfl, hI2⟩, ?_⟩
        have h2 : ∃ k', J k' (fr (clob l V f2)) w2 ∧ ∀ j, J j (fr (clob l V f2)) w2 → k' ≤ j := by
          refine Nat.strongRecOn (motive := fun q => J q (fr (clob l V f2)) w2 → ∃ k, J k (fr (clob l V f2)) w2 ∧ ∀ j, J j (fr (clob l V f2)) w2 → k ≤ j) m2 (fun q ihq hq => ?_) ⟨f2, rfl, hI2⟩
          by_cases hx : ∃ j, j < q ∧ J j (fr (clob l V f2)) w2
          · obtain ⟨j, hj, hjj⟩ := hx
            exact ihq j hj hjj
          · exact ⟨q, hq, fun j hj => by
              rcases Nat.lt_or_ge j q with h | h
              · exact absurd ⟨j, h, hj⟩ hx
              · exact h⟩
        have hs := Classical.epsilon_spec h2
        exact Nat.lt_of_le_of_lt (hs.2 m2 ⟨f2, rfl, hI2⟩) hlt
      | ret => exact q
      | exit i => exact q
      | goto i => exact q.elim
      | panic ch => exact q.elim
      | outgrown => exact q.elim
  have := key m0 (fr l) w ⟨fun d => l.getD d undef, by rw [clob_self], h0⟩
  exact this
end
end Go.Proofs.Ytpjpaipkkcengaa
namespace Go.Proofs.Ytpjpaipkkcengaa
open Go.RowKit
/-- a type's size in cells and in bytes, and its zero value -/
def TI (P : Program) (t : TypeId) (sz by' : Nat) (z : Value) : Prop := ∃ i, P.info? t = some i ∧ i.size = sz ∧ i.bytes = by' ∧ i.zero = some z
theorem TI.of {P : Program} {t : TypeId} {sz by' : Nat} {z : Value} (h : (P.info? t).map (fun i => (i.size, i.bytes, i.zero)) = some (sz, by', some z)) : TI P t sz by' z := by
  cases hi : P.info? t with
  | none => rw [hi] at h; cases h
  | some i => rw [hi] at h; simp at h; exact ⟨i, hi, h.1, h.2.1, h.2.2⟩
section
variable {P : Program} {ops : Array Oper} {Q : Exit → Act → World → Prop} {rest : List Oper} {l : List Value} {w w' : World} {d : Nat} {ty : TypeId} {pos : String} {aft : Array Edge}
/-- an operation that yields a value and turns nothing -/
def Go1 (P : Program) (l : List Value) (w : World) (o : Oper) (v : Value) : Prop := (execOp (opv l) o).run P w = .ok (.value v) w
theorem s_val {op : Op} {v : Value} (hr : (execOp (opv l) ⟨some d, op, ty, pos, aft, none⟩).run P w = .ok (.value v) w') (h : WL P ops Q rest (fr (l.set d v)) w') : WL P ops Q (⟨some d, op, ty, pos, aft, none⟩ :: rest) (fr l) w :=
  wl_plain rfl fun K hK => by
    unfold Oper.wp
    rw [eval_fr, hr]
    simp only [Oper.upon_value, put_fr]
    exact hK _ _ h
theorem s_unit {op : Op} (hr : (execOp (opv l) ⟨none, op, ty, pos, aft, none⟩).run P w = .ok .skip w') (h : WL P ops Q rest (fr l) w') : WL P ops Q (⟨none, op, ty, pos, aft, none⟩ :: rest) (fr l) w :=
  wl_plain rfl fun K hK => by
    unfold Oper.wp
    rw [eval_fr, hr]
    simp only [Oper.upon_skip, put_fr_none]
    exact hK _ _ h
theorem s_go {op : Op} {v : Value} (hr : Go1 P l w ⟨some d, op, ty, pos, aft, none⟩ v) (h : WL P ops Q rest (fr (l.set d v)) w) : WL P ops Q (⟨some d, op, ty, pos, aft, none⟩ :: rest) (fr l) w := s_val hr h
theorem yi {os : List Oper} {l : List Value} {j t : Nat} {b : Bool} (ho : ((os[j]?).bind (·.dst)) = some t) (hl : l[t]? = some (.bool b)) : yielded os.toArray l.toArray j = some b := by
  simp [yielded, ho, hl]
/-- a guard that says yes -/
theorem g_on {dst : Option Nat} {op : Op} {g : Nat × Bool} (hg : yielded ops (l.toArray) g.1 = some g.2) (h : WL P ops Q (⟨dst, op, ty, pos, aft, none⟩ :: rest) (fr l) w) : WL P ops Q (⟨dst, op, ty, pos, aft, some g⟩ :: rest) (fr l) w := by
  obtain ⟨h⟩ := h
  refine ⟨?_⟩
  unfold wpList at h ⊢
  have h1 : Region.wanted ⟨dst, op, ty, pos, aft, some g⟩ (yielded ops (fr l).tmps) = true := by simp [Region.wanted, fr, hg]
  have h2 : Region.wanted ⟨dst, op, ty, pos, aft, none⟩ (yielded ops (fr l).tmps) = true := by simp [Region.wanted]
  rw [if_pos h1]
  rw [if_pos h2] at h
  exact h
theorem s_move {x : Operand} : Go1 P l w ⟨some d, .move x, ty, pos, aft, none⟩ (opv l x) := (by unfold Go1; simp [execOp])
theorem s_assign {x : Operand} : Go1 P l w ⟨some d, .assign x, ty, pos, aft, none⟩ (opv l x) := (by unfold Go1; simp [execOp])
theorem s_pick_t {c x y : Operand} (hc : opv l c = .bool true := by rfl) : Go1 P l w ⟨some d, .pick c x y, ty, pos, aft, none⟩ (opv l x) := (by unfold Go1; simp [execOp, hc, asBool])
theorem s_pick_f {c x y : Operand} (hc : opv l c = .bool false := by rfl) : Go1 P l w ⟨some d, .pick c x y, ty, pos, aft, none⟩ (opv l y) := (by unfold Go1; simp [execOp, hc, asBool])
theorem s_extract {x : Operand} {i : Nat} {vs : Array Value} {v : Value} (hx : opv l x = .tuple vs := by rfl) (hv : vs[i]? = some v := by rfl) : Go1 P l w ⟨some d, .extract x i, ty, pos, aft, none⟩ v := (by unfold Go1; simp [execOp, hx, Instr.extract, hv])
section
variable {x y : Operand} {T yT : TypeId} {k : IntKind} {a b c : Int}
theorem s_add (hx : opv l x = .int k a := by rfl) (hy : opv l y = .int k b := by rfl) (hc : k.wrap (a + b) = c) : Go1 P l w ⟨some d, .binOp .add T x y yT, ty, pos, aft, none⟩ (.int k c) :=
  (by subst hc; unfold Go1; simp [execOp, hx, hy, eqGuard, binOp, Op.intArith])
theorem s_lss (hx : opv l x = .int k a := by rfl) (hy : opv l y = .int k b := by rfl) : Go1 P l w ⟨some d, .binOp .lss T x y yT, ty, pos, aft, none⟩ (.bool (decide (a < b))) :=
  (by unfold Go1; simp [execOp, hx, hy, eqGuard, binOp, Op.intCmp])
theorem s_gtr (hx : opv l x = .int k a := by rfl) (hy : opv l y = .int k b := by rfl) : Go1 P l w ⟨some d, .binOp .gtr T x y yT, ty, pos, aft, none⟩ (.bool (decide (b < a))) :=
  (by unfold Go1; simp [execOp, hx, hy, eqGuard, binOp, Op.intCmp])
theorem s_eql (hx : opv l x = .int k a := by rfl) (hy : opv l y = .int k b := by rfl) : Go1 P l w ⟨some d, .binOp .eql T x y yT, ty, pos, aft, none⟩ (.bool (decide (a = b))) := by
  have e : (a == b) = decide (a = b) := by by_cases e : a = b <;> simp [e]
  unfold Go1
  simp [execOp, hx, hy, eqGuard, binOp, Op.intCmp, e]
theorem s_neq (hx : opv l x = .int k a := by rfl) (hy : opv l y = .int k b := by rfl) : Go1 P l w ⟨some d, .binOp .neq T x y yT, ty, pos, aft, none⟩ (.bool (decide (a ≠ b))) := by
  have e : (a != b) = decide (a ≠ b) := by by_cases e : a = b <;> simp [e, bne]
  unfold Go1
  rw [← e]
  simp [execOp, hx, hy, eqGuard, binOp, Op.intCmp]
theorem s_max {tys : Array TypeId} (hx : opv l x = .int k a := by rfl) (hy : opv l y = .int k b := by rfl) : Go1 P l w ⟨some d, .call { callee := .builtin .max, args := #[x, y], argTypes := tys }, ty, pos, aft, none⟩ (.int k (max a b)) := by
  have e : (if b > a then b else a) = max a b := by simp only [Int.max_def]; split <;> split <;> omega
  unfold Go1
  rw [← e]
  simp [execOp, resolve, invoke, builtin, hx, hy, Builtin.max_, Builtin.max2]
theorem s_min {tys : Array TypeId} (hx : opv l x = .int k a := by rfl) (hy : opv l y = .int k b := by rfl) : Go1 P l w ⟨some d, .call { callee := .builtin .min, args := #[x, y], argTypes := tys }, ty, pos, aft, none⟩ (.int k (min a b)) := by
  have e : (if b < a then b else a) = min a b := by simp only [Int.min_def]; split <;> split <;> omega
  unfold Go1
  rw [← e]
  simp [execOp, resolve, invoke, builtin, hx, hy, Builtin.min_, Builtin.min2]
end
theorem s_len_sl {x : Operand} {T e : TypeId} {A : Option Addr} {n c : Nat} (hT : P.underlying T = some (.slice e)) (hx : opv l x = .slice A n c := by rfl) : Go1 P l w ⟨some d, .call { callee := .builtin .len, args := #[x], argTypes := #[T] }, ty, pos, aft, none⟩ (.int .i64 n) :=
  (by unfold Go1; simp [execOp, resolve, invoke, builtin, hx, Builtin.len_, run_underlying hT, goInt])
theorem s_makeFunc {fn : Fn} {f c : Array Operand} : Go1 P l w ⟨some d, .makeFunc fn f c, ty, pos, aft, none⟩ (.func fn (f.map (opv l)) (c.map (opv l))) :=
  (by unfold Go1; simp [execOp, Instr.makeFunc])
def isAggD : TypeDesc → Bool
  | .struct _ | .array _ _ => true
  | _ => false
theorem run_isAgg_yes {P : Program} {t : TypeId} {dsc : TypeDesc} (hu : P.underlying t = some dsc) (hd : isAggD dsc = true) (w : World) : (isAgg t).run P w = .ok true w := by
  cases dsc <;> simp_all [isAgg, run_underlying hu, isAggD]
theorem run_isAgg_no {P : Program} {t : TypeId} {dsc : TypeDesc} (hu : P.underlying t = some dsc) (hd : isAggD dsc = false) (w : World) : (isAgg t).run P w = .ok false w := by
  cases dsc <;> simp_all [isAgg, run_underlying hu, isAggD]
theorem part_one {P : Program} {w : World} {t : TypeId} {cs : Array Value} {off : Nat} {v : Value} {dsc : TypeDesc} (hu : P.underlying t = some dsc) (hd : isAggD dsc = false) (hv : cs[off]? = some v := by first | rfl | exact ic_get (by first | omega | (simp [*]; done) | (simp [*]; omega))) :
    (part t cs off).run P w = .ok v w := by
  simp [part, run_isAgg_no hu hd, hv]
theorem s_index_one {x y : Operand} {T e : TypeId} {n sz by' : Nat} {z : Value} {k : IntKind} {i : Int} {cs : Array Value} {v : Value} {dsc : TypeDesc} (hT : P.underlying T = some (.array n e)) (hi : TI P e sz by' z) (hu : P.underlying e = some dsc) (hd : isAggD dsc = false := by rfl)
    (hx : opv l x = .agg cs := by rfl) (hy : opv l y = .int k i := by rfl) (h0 : 0 ≤ i := by omega) (h1 : i < n := by omega) (hv : cs[i.toNat * sz]? = some v := by first | rfl | exact ic_get (by first | omega | (simp [*]; done) | (simp [*]; omega))) : Go1 P l w ⟨some d, .index T x y, ty, pos, aft, none⟩ v := by
  obtain ⟨i', hi', rfl, _, _⟩ := hi
  exact (by unfold Go1; simp [execOp, Instr.index, run_underlying hT, hx, hy, asIntOf, h0, h1, sizeOf, typeInfo, hi', part_one hu hd hv])
/-- A call comes back with a value. -/
def CallR (P : Program) (f : FuncId) (args : Array Value) (w : World) (R : Value → World → Prop) : Prop := Calls P f args w fun e w' => ∃ v, e = .returned v ∧ R v w'
theorem CallR.mono {f : FuncId} {args : Array Value} {w : World} {R R' : Value → World → Prop} (h : CallR P f args w R) (hr : ∀ v w', R v w' → R' v w') : CallR P f args w R' :=
  Calls.mono h fun _ _ ⟨v, he, q⟩ => ⟨v, he, hr _ _ q⟩
theorem s_call_any {o : Oper} {f : Nat} {args : Array Value} {K : Act → World → Prop} {Q : Exit → Act → World → Prop} (hr : (execOp (opv l) o).run P w = .ok (.enter f args) w) (h : CallR P f args w fun v w'' => K ((fr l).put o.dst v) w'') : o.wp P (fr l) w K Q := by
  unfold Oper.wp
  rw [eval_fr, hr, Oper.upon_enter]
  refine Calls.mono h ?_
  rintro e w1 ⟨v, rfl, q⟩
  exact q
theorem s_call {f : Nat} {args : Array Operand} {tys : Array TypeId} (he : Enters P f) (h : CallR P f (args.map (opv l)) w fun v w'' => WL P ops Q rest (fr (l.set d v)) w'') : WL P ops Q (⟨some d, .call { callee := .value (.func f), args := args, argTypes := tys }, ty, pos, aft, none⟩ :: rest) (fr l) w :=
  wl_plain rfl fun K hK => by
    have := he (args.map (opv l) ++ #[]) w
    simp only [Array.append_empty] at this
    refine s_call_any (f := f) (args := args.map (opv l)) (by simp [execOp, resolve, opv, Deferred.ofValue, invoke, this]) (h.mono fun v w1 q => ?_)
    show K ((fr l).put (some d) v) w1
    rw [put_fr]; exact hK _ _ q
/-- a call of a function value -/
theorem s_callv {t f : Nat} {args : Array Operand} {tys : Array TypeId} {cap : Array Value} (hv : l.getD t undef = .func (.func f) #[] cap) (he : Enters P f) (h : CallR P f (args.map (opv l) ++ cap) w fun v w'' => WL P ops Q rest (fr (l.set d v)) w'') : WL P ops Q (⟨some d, .call { callee := .value (.tmp t), args := args, argTypes := tys }, ty, pos, aft, none⟩ :: rest) (fr l) w :=
  wl_plain rfl fun K hK => by
    have := he (args.map (opv l) ++ cap) w
    have hv' : opv l (.tmp t) = .func (.func f) #[] cap := hv
    refine s_call_any (f := f) (args := args.map (opv l) ++ cap) (by simp [execOp, resolve, hv', Deferred.ofValue, invoke, this]) (h.mono fun v w1 q => ?_)
    show K ((fr l).put (some d) v) w1
    rw [put_fr]; exact hK _ _ q
end
section
variable {P : Program}
/-- a function's end -/
def Rt (P : Program) (fn : Func) (R : Value → World → Prop) (a : Act) (w : World) : Prop := a.defers = [] ∧ ∃ v, (results fn a.tmps).run P w = .ok v w ∧ R v w
theorem c_enter {f : FuncId} {fn : Func} {c : Code} {args : Array Value} {w : World} {R : Value → World → Prop} {l : List Value} (hf : P.funcs[f]? = some fn) (hb : fn.body = some c)
    (hl : (args ++ Array.replicate (fn.ntmps - args.size) undef) = l.toArray)
    (h : c.wp P (Qx (Rt P fn R) (Rt P fn R) []) (fr l) w) : CallR P f args w R := by
  refine calls_of_wp hf hb ?_
  rw [hl]
  refine wp_mono h fun e a w' q => ?_
  cases e with
  | normal => obtain ⟨h1, v, h2, h3⟩ := q; exact ⟨h1, v, h2, v, rfl, h3⟩
  | ret => obtain ⟨h1, v, h2, h3⟩ := q; exact ⟨h1, v, h2, v, rfl, h3⟩
  | exit i => exact q.elim
  | goto i => exact q.elim
  | panic ch => exact q.elim
  | outgrown => exact q.elim
theorem r_tmp {fn : Func} {t : Nat} {l : List Value} {w : World} {R : Value → World → Prop} (h : fn.results = #[.tmp t]) (hR : R (l.getD t undef) w) :
    Rt P fn R (fr l) w :=
  ⟨rfl, _, results_tmp h _ _ _, by simpa [fr, Array.getD_eq_getD_getElem?, List.getD] using hR⟩
/-- one result that lies in a box -/
theorem r_cell {fn : Func} {t : Nat} {T : TypeId} {l : List Value} {w : World} {R : Value → World → Prop} {p : Addr} {v : Value} (h : fn.results = #[.cell t T]) (hp : l.getD t undef = .pointer (some p)) (hv : (loadVar T p).run P w = .ok v w) (hR : R v w) :
    Rt P fn R (fr l) w := by
  have hp' : ((fr l).tmps[t]?.getD undef) = .pointer (some p) := by rw [← hp]; simp [fr, List.getD]
  exact ⟨rfl, v, by simp [results, h, hp', asAddr, hv], hR⟩
end
end Go.Proofs.Ytpjpaipkkcengaa
namespace Go.Proofs.Ytpjpaipkkcengaa
open Go.RowKit
theorem add_at (g o k : Nat) : (⟨g, o, none⟩ : Addr).add k = ⟨g, o + k, none⟩ := by unfold Addr.add; split <;> simp_all
theorem Upd.has {L L' : List Res} {r r' : Res} (h : Upd L r r' L') : Has L' r' := by
  induction h with
  | head => exact .head
  | tail _ ih => exact .tail ih
/-- cells that lie at a place -/
def At (w : World) (g o : Nat) (cs : List Value) : Prop := ∀ j u, cs[j]? = some u → w.cell? ⟨g, o + j, none⟩ = some u
theorem At.of_obj {w : World} {g : Nat} {cs : Array Value} {t : TypeId} {f : Nat × Nat} (h : w.heap[g]? = some (.cells cs t f)) : At w g 0 cs.toList := fun j u hu => by
  rw [cell_of_row w g (0 + j) cs t f h]; simpa using hu
theorem At.drop {w : World} {g o : Nat} {cs : List Value} (h : At w g o cs) (k : Nat) : At w g (o + k) (cs.drop k) := fun j u hu => by
  rw [Nat.add_assoc]; exact h (k + j) u (by simpa [List.getElem?_drop] using hu)
theorem At.take {w : World} {g o : Nat} {cs : List Value} (h : At w g o cs) (k : Nat) : At w g o (cs.take k) := fun j u hu => by
  refine h j u ?_
  rw [List.getElem?_take] at hu
  split at hu
  · exact hu
  · cases hu
theorem loads_one {P : Program} {w : World} {T : TypeId} {dsc : TypeDesc} {p : Addr} {v : Value} (hu : P.underlying T = some dsc) (hd : isAggD dsc = false) (hv : w.cell? p = some v) : (loadVar T p).run P w = .ok v w := by
  simp [loadVar, run_isAgg_no hu hd, load, Sem.run, hv]
theorem loads_agg {P : Program} {w : World} {T : TypeId} {dsc : TypeDesc} {g o sz by' : Nat} {z : Value} {cs : List Value} (hu : P.underlying T = some dsc) (hd : isAggD dsc = true) (hi : TI P T sz by' z) (hl : cs.length = sz) (hc : At w g o cs) : (loadVar T ⟨g, o, none⟩).run P w = .ok (.agg cs.toArray) w := by
  obtain ⟨i, hi, rfl, _, _⟩ := hi
  have h := run_loadCells_list (P := P) w ⟨g, o, none⟩ cs (fun j v hv => by rw [add_at]; exact hc j v hv)
  rw [hl] at h
  simp [loadVar, run_isAgg_yes hu hd, sizeOf, typeInfo, hi, h]
def splice (cur : List Value) (o : Nat) (vs : List Value) : List Value := cur.take o ++ vs ++ cur.drop (o + vs.length)
theorem splice_one {cur : List Value} {o : Nat} {v : Value} (h : o < cur.length) : splice cur o [v] = cur.set o v := by
  unfold splice
  rw [List.set_eq_take_append_cons_drop, if_pos h]
  simp
theorem splice_all {cur vs : List Value} (h : vs.length = cur.length) : splice cur 0 vs = vs := by
  simp [splice, h]
theorem splice_il {k : IntKind} {l : List Int} {i : Nat} {v : Int} (h : i < l.length) : splice (l.map (Value.int k)) i [.int k v] = (l.set i v).map (Value.int k) := by
  rw [splice_one (by simpa using h), List.map_set]
theorem splice_ic {k : IntKind} {l : List Int} {i : Nat} {v : Int} (h : i < l.length) : splice (ic k l).toList i [.int k v] = (l.set i v).map (Value.int k) := splice_il h
theorem splice_whole {cur : Array Value} {vs : List Value} (h : vs.length = cur.size) : splice cur.toList 0 vs = vs := splice_all (by simpa using h)
theorem stores {P : Program} {w : World} {T : TypeId} {g o sz by' : Nat} {z : Value} {cur : Array Value} {t : TypeId} {v : Value} (hi : TI P T sz by' z) (hv : v.cells.size = sz) (h1 : ∀ u ∈ v.cells.toList, u.oneCell' = true) (hg : w.heap[g]? = some (.cells cur t (0, 0))) (hfit : o + sz ≤ cur.size) :
    (storeVar T ⟨g, o, none⟩ v).run P w = .ok () (w.setRow g (splice cur.toList o v.cells.toList).toArray) := by
  obtain ⟨i, hi, rfl, _, _⟩ := hi
  have h := run_storeCells_at P g o t v.cells.toList 0 cur w hg (by simpa [hv] using hfit) h1
  simp only [Nat.add_zero] at h
  simp [storeVar, sizeOf, typeInfo, hi, hv, splice, h]
theorem setRow_keep (w : World) (g : Nat) (cs : Array Value) : Keep (fun k => some g = some k) w (w.setRow g cs) :=
  ⟨rfl, rfl, rfl, by simp, fun k _ hk => setRow_other w g k cs (fun e => hk (by rw [e]))⟩
section
variable {S : Nat → Prop} {w0 w w' : World} {L L' : List Res}
theorem St.obj_at {g : Nat} {cs : Array Value} {t : TypeId} {f : Nat × Nat} (h : St S w0 w L) (hm : Has L (.obj g (.cells cs t f))) : At w g 0 cs.toList := At.of_obj (h.has hm)
theorem St.rd_at {A : Option Addr} {sz n : Nat} {xs : List Value} (h : St S w0 w L) (hm : Has L (.rd A sz n xs)) (hn : 0 < n) : ∃ g o, A = some ⟨g, o, none⟩ ∧ At w g o xs := by
  obtain ⟨_, h2⟩ := h.has hm
  obtain ⟨g, o, e, _, h3⟩ := h2 hn
  exact ⟨g, o, e, h3⟩
theorem vec_at {A : Option Addr} {c : Nat} {e : TypeId} {sz n : Nat} {xs : List Value} (h : w.ownsRow 0 e sz (.slice A n c) n xs) (hn : 0 < n) : ∃ g, A = some ⟨g, 0, none⟩ ∧ At w g 0 xs := by
  obtain ⟨hl, h2⟩ := h
  rcases h2 with ⟨hv, h0⟩ | ⟨g, cap, cur, hv, _, hg, hnc, hcm, hcs, ht⟩
  · omega
  · simp only [Value.slice.injEq] at hv
    refine ⟨g, hv.1, fun j u hu => ?_⟩
    rw [cell_of_row w g (0 + j) cur e (0, 0) hg]
    rw [← ht, List.getElem?_take] at hu
    split at hu
    · simpa using hu
    · cases hu
theorem St.vec_at {A : Option Addr} {c : Nat} {e : TypeId} {sz n : Nat} {xs : List Value} (h : St S w0 w L) (hm : Has L (.vec A c e sz n xs)) (hn : 0 < n) : ∃ g o, A = some ⟨g, o, none⟩ ∧ At w g o xs := by
  obtain ⟨g, e, hc⟩ := Go.Proofs.Ytpjpaipkkcengaa.vec_at (h.has hm) hn
  exact ⟨g, 0, e, hc⟩
/-- what is owned may be given up and only read from then on -/
theorem St.vec_rd {A : Option Addr} {c : Nat} {e : TypeId} {sz n : Nat} {xs : List Value} (h : St S w0 w L) (hu : Upd L (.vec A c e sz n xs) (.rd A sz n xs) L') : St S w0 w L' := by
  have hv := h.holds _ hu.mem
  refine h.weaken hu ⟨hv.1, fun hn => ?_⟩ (by intro g hg; simp [Res.own] at hg) ?_
  · obtain ⟨g, e', hc⟩ := Go.Proofs.Ytpjpaipkkcengaa.vec_at hv hn
    exact ⟨g, 0, e', own_lt hv (by simp [Res.own, e']), hc⟩
  · intro g hg
    simp only [Res.reads] at hg
    split at hg
    · cases hg
    · exact .inl hg
theorem St.obj_rd {g : Nat} {cs : Array Value} {t : TypeId} {f : Nat × Nat} {sz n : Nat} (h : St S w0 w L) (hn : cs.size = n * sz) (hu : Upd L (.obj g (.cells cs t f)) (.rd (some ⟨g, 0, none⟩) sz n cs.toList) L') : St S w0 w L' := by
  have hv := h.holds _ hu.mem
  refine h.weaken hu ⟨by simpa using hn, fun _ => ⟨g, 0, rfl, own_lt hv rfl, At.of_obj hv⟩⟩ (by intro k hk; simp [Res.own] at hk) ?_
  intro k hk
  simp only [Res.reads] at hk
  split at hk
  · cases hk
  · exact .inl (by simpa [Res.own] using hk)
theorem St.obj_vec {g : Nat} {cs : Array Value} {t : TypeId} {sz n : Nat} (h : St S w0 w L) (hn : cs.size = n * sz) (hm : n ≤ maxLen) (hu : Upd L (.obj g (.cells cs t (0, 0))) (.vec (some ⟨g, 0, none⟩) n t sz n cs.toList) L') : St S w0 w L' := by
  have hv := h.holds _ hu.mem
  refine h.weaken hu ⟨by simpa using hn, .inr ⟨g, n, cs, rfl, Nat.zero_le _, hv, Nat.le_refl _, hm, hn, by rw [← hn]; exact List.take_of_length_le (by simp)⟩⟩ (by intro k hk; simpa [Res.own] using hk) (by intro k hk; simp [Res.reads] at hk)
/-- the nil slice is owned by whoever wants it -/
theorem St.nil_vec (h : St S w0 w L) (e : TypeId) (sz : Nat) : St S w0 w (.vec none 0 e sz 0 [] :: L) :=
  h.add Ext.rfl' (World.ownsRow_nil w 0 e sz) (by intro g hg; rcases hg with hg | hg <;> simp [Res.own, Res.reads] at hg)
/-- a piece of what may be read may be read -/
theorem St.rd_sub {A : Option Addr} {sz n : Nat} {xs : List Value} (h : St S w0 w L) (hm : Has L (.rd A sz n xs)) (lo hi : Nat) (h1 : lo ≤ hi) (h2 : hi ≤ n) (A' : Option Addr) (hA : lo < hi → A' = A.map (·.add (lo * sz))) :
    St S w0 w (.rd A' sz (hi - lo) ((xs.drop (lo * sz)).take ((hi - lo) * sz)) :: L) := by
  have hr := h.has hm
  obtain ⟨hl, hc⟩ := hr
  refine h.add_rd ⟨?_, fun hn => ?_⟩ ?_
  · rw [List.length_take, List.length_drop, hl, ← Nat.sub_mul]
    exact Nat.min_eq_left (Nat.mul_le_mul_right _ (by omega))
  · obtain ⟨g, o, rfl, hlt, hcc⟩ := hc (by omega)
    have hcc' : At w g o xs := hcc
    refine ⟨g, o + lo * sz, by rw [hA (by omega)]; simp [add_at], hlt, ?_⟩
    exact (hcc'.drop (lo * sz)).take _
  · intro r hr g hg e
    simp only [Res.reads] at e
    split at e
    · cases e
    · have hn : 0 < n := by omega
      obtain ⟨g', o, rfl, hlt, hcc⟩ := hc hn
      rw [hA (by omega)] at e
      simp [add_at] at e
      subst e
      -- r owns what is read in L: they are apart
      have hmem := hm.mem
      have hap : ∀ {M : List Res}, M.Pairwise Res.compat → r ∈ M → Res.rd (some ⟨g', o, none⟩) sz n xs ∈ M → r.own = some g' → False := by
        intro M hp
        induction hp with
        | nil => intro h1; cases h1
        | cons hhd _ ih =>
          intro hr1 hr2 hg'
          have hread : (Res.rd (some ⟨g', o, none⟩) sz n xs).reads = some g' := by simp [Res.reads, Nat.ne_of_gt hn]
          rcases List.mem_cons.1 hr1 with rfl | hr1
          · rcases List.mem_cons.1 hr2 with e | hr2
            · rw [← e] at hg'; simp [Res.own] at hg'
            · exact ((hhd _ hr2 g').1 hg').2 hread
          · rcases List.mem_cons.1 hr2 with e | hr2
            · rw [← e] at hhd; exact ((hhd _ hr1 g').2 hg').2 hread
            · exact ih hr1 hr2 hg'
      exact hap h.apart hr hmem hg
end
section
variable {P : Program} {ops : Array Oper} {Q : Exit → Act → World → Prop} {rest : List Oper} {l : List Value} {w : World} {d : Nat} {ty : TypeId} {pos : String} {aft : Array Edge}
variable {S : Nat → Prop} {w0 : World} {L L' : List Res}
theorem m_box {elem : TypeId} {x : Operand} (hS : St S w0 w L) (h : ∀ w' g, St S w0 w' (.obj g (.cells (opv l x).cells elem (0, 0)) :: L) → WL P ops Q rest (fr (l.set d (.pointer (some ⟨g, 0, none⟩)))) w') : WL P ops Q (⟨some d, .box elem x, ty, pos, aft, none⟩ :: rest) (fr l) w :=
  s_val (w' := w.alloc (.cells (opv l x).cells elem)) (by simp [execOp, Instr.box, newVar, newRow]) (h _ _ (hS.alloc _))
theorem m_alloc {elem : TypeId} {sz by' : Nat} {z : Value} (hi : TI P elem sz by' z) (hS : St S w0 w L) (h : ∀ w' g, St S w0 w' (.obj g (.cells z.cells elem (0, 0)) :: L) → WL P ops Q rest (fr (l.set d (.pointer (some ⟨g, 0, none⟩)))) w') : WL P ops Q (⟨some d, .alloc elem, ty, pos, aft, none⟩ :: rest) (fr l) w := by
  obtain ⟨i, hi, _, _, hz⟩ := hi
  exact s_val (w' := w.alloc (.cells z.cells elem)) (by simp [execOp, Instr.alloc, newVar, newRow, zeroValue, typeInfo, hi, hz]) (h _ _ (hS.alloc _))
/-- a load of one cell -/
theorem m_load {T : TypeId} {x : Operand} {dsc : TypeDesc} {p : Addr} {v : Value} (hu : P.underlying T = some dsc) (hd : isAggD dsc = false := by rfl) (hx : opv l x = .pointer (some p) := by rfl) (hv : w.cell? p = some v) : Go1 P l w ⟨some d, .load T x, ty, pos, aft, none⟩ v :=
  (by unfold Go1; simp [execOp, Instr.loadAt, hx, Instr.sureAddr, loads_one hu hd hv])
theorem m_load_obj {T : TypeId} {x : Operand} {dsc : TypeDesc} {g o : Nat} {cs : Array Value} {t : TypeId} {f : Nat × Nat} {v : Value} (hu : P.underlying T = some dsc) (hd : isAggD dsc = false := by rfl) (hx : opv l x = .pointer (some ⟨g, o, none⟩) := by rfl) (hS : St S w0 w L) (hm : Has L (.obj g (.cells cs t f)) := by repeat (first | exact Has.head | apply Has.tail)) (hv : cs[o]? = some v := by first | rfl | exact ic_get (by first | omega | (simp [*]; done) | (simp [*]; omega)) | exact il_get (by first | omega | (simp [*]; done) | (simp [*]; omega))) : Go1 P l w ⟨some d, .load T x, ty, pos, aft, none⟩ v :=
  m_load hu hd hx (by have := hS.obj_at hm o v (by simpa using hv); simpa using this)
theorem m_load_rd {T : TypeId} {x : Operand} {dsc : TypeDesc} {k : Nat} {A : Option Addr} {sz n : Nat} {xs : List Value} {v : Value} (hu : P.underlying T = some dsc) (hd : isAggD dsc = false := by rfl) (hx : opv l x = .pointer (A.map (·.add k)) := by rfl) (hS : St S w0 w L) (hm : Has L (.rd A sz n xs) := by repeat (first | exact Has.head | apply Has.tail)) (hn : 0 < n := by omega) (hv : xs[k]? = some v := by first | rfl | exact ic_get (by first | omega | (simp [*]; done) | (simp [*]; omega)) | exact il_get (by first | omega | (simp [*]; done) | (simp [*]; omega))) : Go1 P l w ⟨some d, .load T x, ty, pos, aft, none⟩ v := by
  obtain ⟨g, o, rfl, hc⟩ := hS.rd_at hm hn
  exact m_load hu hd (p := ⟨g, o + k, none⟩) (by rw [hx]; simp [add_at]) (hc k v hv)
/-- a load of a struct or an array -/
theorem m_loada {T : TypeId} {x : Operand} {dsc : TypeDesc} {g o sz by' : Nat} {z : Value} {cs : List Value} (hu : P.underlying T = some dsc) (hd : isAggD dsc = true := by rfl) (hi : TI P T sz by' z) (hx : opv l x = .pointer (some ⟨g, o, none⟩) := by rfl) (hl : cs.length = sz) (hc : At w g o cs) : Go1 P l w ⟨some d, .load T x, ty, pos, aft, none⟩ (.agg cs.toArray) :=
  (by unfold Go1; simp [execOp, Instr.loadAt, hx, Instr.sureAddr, loads_agg hu hd hi hl hc])
/-- the whole row -/
theorem m_load_row {T : TypeId} {x : Operand} {dsc : TypeDesc} {g sz by' : Nat} {z : Value} {cs : Array Value} {t : TypeId} {f : Nat × Nat} (hu : P.underlying T = some dsc) (hd : isAggD dsc = true := by rfl) (hi : TI P T sz by' z) (hx : opv l x = .pointer (some ⟨g, 0, none⟩) := by rfl) (hS : St S w0 w L) (hm : Has L (.obj g (.cells cs t f)) := by repeat (first | exact Has.head | apply Has.tail)) (hfit : cs.size = sz := by first | omega | (simp only [ic_size, List.length_map, List.size_toArray]; omega) | (simp [*]; done) | rfl | (simp [*]; omega)) : Go1 P l w ⟨some d, .load T x, ty, pos, aft, none⟩ (.agg cs) :=
  by simpa using m_loada (d := d) (ty := ty) (pos := pos) (aft := aft) hu hd hi hx (cs := cs.toList) (by simpa using hfit) (hS.obj_at hm)
theorem m_loada_rd {T : TypeId} {x : Operand} {dsc : TypeDesc} {k sz by' : Nat} {z : Value} {A : Option Addr} {esz n : Nat} {xs : List Value} (hu : P.underlying T = some dsc) (hd : isAggD dsc = true := by rfl) (hi : TI P T sz by' z) (hx : opv l x = .pointer (A.map (·.add k)) := by rfl) (hS : St S w0 w L) (hm : Has L (.rd A esz n xs) := by repeat (first | exact Has.head | apply Has.tail)) (hn : 0 < n := by omega) (hfit : k + sz ≤ xs.length := by first | omega | (simp only [ic_size, List.length_map, List.size_toArray]; omega) | (simp [*]; done) | rfl | (simp [*]; omega)) : Go1 P l w ⟨some d, .load T x, ty, pos, aft, none⟩ (.agg ((xs.drop k).take sz).toArray) := by
  obtain ⟨g, o, rfl, hc⟩ := hS.rd_at hm hn
  exact m_loada hu hd hi (g := g) (o := o + k) (by rw [hx]; simp [add_at]) (by simp; omega) ((hc.drop k).take sz)
/-- a store into an owned row -/
theorem m_store_obj {T : TypeId} {x y : Operand} {g o sz by' : Nat} {z : Value} {cs : Array Value} {t : TypeId} {cs' : List Value} (hi : TI P T sz by' z) (hx : opv l x = .pointer (some ⟨g, o, none⟩) := by rfl) (hv : (opv l y).cells.size = sz := by first | (simp [opv, Value.cells, *]; done) | rfl) (h1 : ∀ u ∈ (opv l y).cells.toList, u.oneCell' = true := by first | exact ic_one _ _ | simp [opv, Value.cells, Value.oneCell']) (hS : St S w0 w L) (_hm : Has L (.obj g (.cells cs t (0, 0))) := by repeat (first | exact Has.head | apply Has.tail)) (hc : splice cs.toList o (opv l y).cells.toList = cs' := by first | exact splice_ic (by first | omega | (simp [*]; done) | (simp [*]; omega)) | exact splice_il (by first | omega | (simp [*]; done) | (simp [*]; omega)) | exact splice_whole (by first | (simp [opv, Value.cells, *]; done) | rfl) | (simp only [opv, n1, n2, Value.cells, splice, List.take_succ_cons, List.take_zero, List.drop_succ_cons, List.drop_zero, List.length_cons, List.length_nil, Nat.zero_add, Nat.reduceAdd, List.append_assoc, List.cons_append, List.nil_append]; rfl)) (hu : Upd L (.obj g (.cells cs t (0, 0))) (.obj g (.cells cs'.toArray t (0, 0))) L' := by repeat (first | exact Upd.head | apply Upd.tail)) (hfit : o + sz ≤ cs.size := by first | omega | (simp only [ic_size, List.length_map, List.size_toArray]; omega) | (simp [*]; done) | rfl | (simp [*]; omega))
    (h : ∀ w', St S w0 w' L' → WL P ops Q rest (fr l) w') : WL P ops Q (⟨none, .store T x y, ty, pos, aft, none⟩ :: rest) (fr l) w := by
  have hg := hS.holds _ hu.mem
  subst hc
  refine s_unit (w' := w.setRow g (splice cs.toList o (opv l y).cells.toList).toArray) (by simp [execOp, Instr.storeAt, hx, Instr.sureAddr, stores hi hv h1 hg hfit]) (h _ ?_)
  exact hS.turn hu (setRow_keep _ _ _) (setRow_heap w g cs _ t (0, 0) hg) (by intro k hk; exact .inl hk) (by intro k hk; simp [Res.reads] at hk)
theorem obj_loads_agg {T : TypeId} {dsc : TypeDesc} {g sz by' : Nat} {z : Value} {cs : Array Value} {t : TypeId} {f : Nat × Nat} (hu : P.underlying T = some dsc) (hd : isAggD dsc = true) (hi : TI P T sz by' z) (hS : St S w0 w L) (hm : Has L (.obj g (.cells cs t f))) (hfit : cs.size = sz) : (loadVar T ⟨g, 0, none⟩).run P w = .ok (.agg cs) w := by
  have := loads_agg (P := P) hu hd hi (g := g) (o := 0) (cs := cs.toList) (by simpa using hfit) (hS.obj_at hm)
  simpa using this
section
variable {fn : Func} {t u : Nat} {T U : TypeId} {dsc : TypeDesc} {g sz by' : Nat} {z : Value} {cs : Array Value} {ct : TypeId} {f : Nat × Nat} {R : Value → World → Prop} {v : Value}
theorem r_cell_agg (h : fn.results = #[.cell t T]) (hu : P.underlying T = some dsc) (hi : TI P T sz by' z) (hd : isAggD dsc = true := by rfl) (hp : l.getD t undef = .pointer (some ⟨g, 0, none⟩) := by rfl) (hS : St S w0 w L) (hm : Has L (.obj g (.cells cs ct f)) := by repeat (first | exact Has.head | apply Has.tail)) (hfit : cs.size = sz := by first | omega | (simp only [ic_size, List.length_map, List.size_toArray]; omega) | (simp [*]; done) | rfl) (hR : R (.agg cs) w) : Rt P fn R (fr l) w := r_cell h hp (obj_loads_agg hu hd hi hS hm hfit) hR
end
theorem m_indexAddr_arr {T e : TypeId} {x y : Operand} {n g o : Nat} {sz by' : Nat} {z : Value} {k : IntKind} {i : Int} (hT : P.underlying T = some (.array n e)) (hi : TI P e sz by' z) (hx : opv l x = .pointer (some ⟨g, o, none⟩) := by rfl) (hy : opv l y = .int k i := by rfl) (h0 : 0 ≤ i := by omega) (h1 : i < n := by omega) : Go1 P l w ⟨some d, .indexAddr T x y, ty, pos, aft, none⟩ (.pointer (some ⟨g, o + i.toNat * sz, none⟩)) := by
  obtain ⟨i', hi, rfl, _, _⟩ := hi
  exact (by unfold Go1; simp [execOp, Instr.indexAt, run_underlying hT, hx, hy, asIntOf, Instr.sureAddr, h0, h1, sizeOf, typeInfo, hi, add_at])
theorem m_indexAddr_sl {T e : TypeId} {x y : Operand} {n c g o : Nat} {A : Option Addr} {sz by' : Nat} {z : Value} {k : IntKind} {i : Int} (hT : P.underlying T = some (.slice e)) (hi : TI P e sz by' z) (hx : opv l x = .slice A n c := by rfl) (hy : opv l y = .int k i := by rfl) (h0 : 0 ≤ i := by omega) (h1 : i < n := by omega) (hA : A = some ⟨g, o, none⟩) : Go1 P l w ⟨some d, .indexAddr T x y, ty, pos, aft, none⟩ (.pointer (A.map (·.add (i.toNat * sz)))) := by
  obtain ⟨i', hi, rfl, _, _⟩ := hi
  subst hA
  exact (by unfold Go1; simp [execOp, Instr.indexAt, run_underlying hT, hx, hy, asIntOf, h0, h1, sizeOf, typeInfo, hi, add_at])
theorem m_indexAddr_rd {T e : TypeId} {x y : Operand} {n c : Nat} {A : Option Addr} {esz : Nat} {xs : List Value} {sz by' : Nat} {z : Value} {k : IntKind} {i : Int} (hT : P.underlying T = some (.slice e)) (hi : TI P e sz by' z) (hx : opv l x = .slice A n c := by rfl) (hy : opv l y = .int k i := by rfl) (hS : St S w0 w L) (hm : Has L (.rd A esz n xs) := by repeat (first | exact Has.head | apply Has.tail)) (h0 : 0 ≤ i := by omega) (h1 : i < n := by omega) : Go1 P l w ⟨some d, .indexAddr T x y, ty, pos, aft, none⟩ (.pointer (A.map (·.add (i.toNat * sz)))) := by
  obtain ⟨g, o, e, _⟩ := hS.rd_at hm (by omega)
  exact m_indexAddr_sl hT hi hx hy h0 h1 e
theorem m_buildSlice {T e : TypeId} {n : Nat} {parts : Array (Nat × Operand)} {sz by' : Nat} {z : Value} {cells : Array Value} (hT : P.underlying T = some (.slice e)) (hi : TI P e sz by' z) (hsm : n * sz ≤ 2 ^ 24 := by decide)
    (hc : Instr.fill (fun i => some (i * sz, sz)) ((Array.range (n * sz)).map (fun j => z.cells[j % z.cells.size]!)) (parts.map fun (i, x) => (i, opv l x)).toList = some cells) (hS : St S w0 w L)
    (h : ∀ w' g, St S w0 w' (.obj g (.cells cells e (0, 0)) :: L) → WL P ops Q rest (fr (l.set d (.slice (some ⟨g, 0, none⟩) n n))) w') : WL P ops Q (⟨some d, .buildSlice T n parts, ty, pos, aft, none⟩ :: rest) (fr l) w := by
  obtain ⟨i, hi, rfl, _, hz⟩ := hi
  refine s_val (w' := w.alloc (.cells cells e)) ?_ (h _ _ (hS.alloc _))
  have h24 : ¬ (2 ^ 24 < n * i.size) := by omega
  by_cases h0 : n * i.size = 0
  · have hc' : Instr.fill (fun j => some (j * i.size, i.size)) ((Array.range (n * i.size)).map (fun j => (#[] : Array Value)[j % (#[] : Array Value).size]!)) (parts.map fun (j, x) => (j, opv l x)).toList = some cells := by
      have e0 : ∀ f : Nat → Value, (Array.range 0).map f = #[] := fun f => by simp
      rw [← hc, h0, e0, e0]
    simp [execOp, Instr.buildSlice, run_underlying hT, sizeOf, typeInfo, hi, newRow, h0] at hc' ⊢
    rw [hc']
    rfl
  · simp [execOp, Instr.buildSlice, run_underlying hT, sizeOf, typeInfo, hi, newRow, h0, zeroValue, hz, h24] at hc ⊢
    rw [hc]
    rfl
theorem m_slice {T e : TypeId} {x : Operand} {A : Option Addr} {n c : Nat} {sz by' : Nat} {z : Value} {lo hi : Nat} {lo' hi' mx' : Option Operand} (hT : P.underlying T = some (.slice e)) (hi0 : TI P e sz by' z) (hx : opv l x = .slice A n c := by rfl)
    (hlo : (match lo' with | none => lo = 0 | some q => ∃ k, opv l q = .int k (lo : Int))) (hhi : (match hi' with | none => hi = n ∧ mx' = none | some q => ∃ k, opv l q = .int k (hi : Int)))
    {m : Nat} (hmx : (match mx' with | none => m = c | some q => ∃ k, opv l q = .int k (m : Int))) (h1 : lo ≤ hi := by omega) (h2 : hi ≤ m := by omega) (h3 : m ≤ c := by omega) : Go1 P l w ⟨some d, .slice T x lo' hi' mx', ty, pos, aft, none⟩ (.slice (if m = lo then A else A.map (·.add (lo * sz))) (hi - lo) (m - lo)) := by
  obtain ⟨i, hi0, rfl, _, _⟩ := hi0
  have hb : ∀ (k : IntKind) (a b : Nat) (code : BoundsCode), a ≤ b → (Instr.sliceBound (.int k (a : Int)) b code).run P w = .ok a w := fun k a b code hab => by
    simp [Instr.sliceBound, asIntOf, hab]
  unfold Go1
  have hU : ∀ q : Value, (Instr.sliceAt T (.slice A n c) q none none).run P w = (Instr.slice T (.slice A n c) q none none).run P w := fun q => by simp [Instr.sliceAt, run_underlying hT]
  have hU' : ∀ (q r s : Option Value), (Instr.sliceAt T (.slice A n c) q r s).run P w = (Instr.slice T (.slice A n c) q r s).run P w := fun q r s => by simp [Instr.sliceAt, run_underlying hT]
  have hm' : m = c → hi ≤ c := fun e => by omega
  cases lo' with
  | none =>
    subst hlo
    cases hi' with
    | none =>
      obtain ⟨rfl, rfl⟩ := hhi
      simp only at hmx
      subst hmx
      simp [execOp, hx, hU', Instr.slice, run_underlying hT, Instr.sliceBounds, sizeOf, typeInfo, hi0]
    | some q =>
      obtain ⟨k, hk⟩ := hhi
      cases mx' with
      | none =>
        simp only at hmx
        subst hmx
        simp [execOp, hx, hk, hU', Instr.slice, run_underlying hT, Instr.sliceBounds, hb k hi m _ h2, sizeOf, typeInfo, hi0]
      | some q2 =>
        obtain ⟨k2, hk2⟩ := hmx
        simp [execOp, hx, hk, hk2, hU', Instr.slice, run_underlying hT, Instr.sliceBounds, hb k hi m _ h2, hb k2 m c _ h3, sizeOf, typeInfo, hi0]
  | some p =>
    obtain ⟨kl, hkl⟩ := hlo
    cases hi' with
    | none =>
      obtain ⟨rfl, rfl⟩ := hhi
      simp only at hmx
      subst hmx
      simp [execOp, hx, hkl, hU', Instr.slice, run_underlying hT, Instr.sliceBounds, hb kl lo hi _ h1, sizeOf, typeInfo, hi0]
    | some q =>
      obtain ⟨k, hk⟩ := hhi
      cases mx' with
      | none =>
        simp only at hmx
        subst hmx
        simp [execOp, hx, hkl, hk, hU', Instr.slice, run_underlying hT, Instr.sliceBounds, hb k hi m _ h2, hb kl lo hi _ h1, sizeOf, typeInfo, hi0]
      | some q2 =>
        obtain ⟨k2, hk2⟩ := hmx
        simp [execOp, hx, hkl, hk, hk2, hU', Instr.slice, run_underlying hT, Instr.sliceBounds, hb k hi m _ h2, hb kl lo hi _ h1, hb k2 m c _ h3, sizeOf, typeInfo, hi0]
/-- a piece of what may be read: the piece may be read -/
theorem m_slice_rd {T e : TypeId} {x : Operand} {A : Option Addr} {n c : Nat} {sz by' : Nat} {z : Value} {lo hi : Nat} {lo' hi' mx' : Option Operand} {xs : List Value} (hT : P.underlying T = some (.slice e)) (hi0 : TI P e sz by' z) (hx : opv l x = .slice A n c := by rfl)
    (hlo : (match lo' with | none => lo = 0 | some q => ∃ k, opv l q = .int k (lo : Int))) (hhi : (match hi' with | none => hi = n ∧ mx' = none | some q => ∃ k, opv l q = .int k (hi : Int)))
    {m : Nat} (hmx : (match mx' with | none => m = c | some q => ∃ k, opv l q = .int k (m : Int))) (h1 : lo ≤ hi := by omega) (h2 : hi ≤ m := by omega) (h3 : m ≤ c := by omega) (hS : St S w0 w L) (hm : Has L (.rd A sz n xs) := by repeat (first | exact Has.head | apply Has.tail)) (hn : hi ≤ n := by omega)
    (h : ∀ A', (lo < hi → A' = A.map (·.add (lo * sz))) → St S w0 w (.rd A' sz (hi - lo) ((xs.drop (lo * sz)).take ((hi - lo) * sz)) :: L) → WL P ops Q rest (fr (l.set d (.slice A' (hi - lo) (m - lo)))) w) : WL P ops Q (⟨some d, .slice T x lo' hi' mx', ty, pos, aft, none⟩ :: rest) (fr l) w :=
  s_go (m_slice hT hi0 hx hlo hhi hmx h1 h2 h3) (h _ (fun hlt => by rw [if_neg (by omega)]) (hS.rd_sub hm lo hi h1 hn _ (fun hlt => by rw [if_neg (by omega)])))
end
end Go.Proofs.Ytpjpaipkkcengaa
namespace Go.Proofs.Ytpjpaipkkcengaa
open Go.RowKit
theorem wr_i64 {a : Int} (h0 : -9223372036854775808 ≤ a) (h1 : a ≤ 9223372036854775807) : IntKind.i64.wrap a = a := IntWalk.i64_in a ⟨h0, h1⟩
def CAt (cs : Array Value) (off : Nat) (vs : List Value) : Prop := ∀ j u, vs[j]? = some u → cs[off + j]? = some u
theorem CAt.app {cs : Array Value} {off : Nat} {a b : List Value} (h : CAt cs off (a ++ b)) : CAt cs off a ∧ CAt cs (off + a.length) b := by
  refine ⟨fun j u hu => h j u ?_, fun j u hu => ?_⟩
  · rw [List.getElem?_append_left (List.getElem?_eq_some_iff.1 hu).1]; exact hu
  · rw [Nat.add_assoc]; refine h _ u ?_
    rw [List.getElem?_append_right (by omega)]; simpa using hu
theorem CAt.extract {cs : Array Value} {off : Nat} {vs : List Value} (h : CAt cs off vs) : CAt (cs.extract off (off + vs.length)) 0 vs := fun j u hu => by
  have hj := (List.getElem?_eq_some_iff.1 hu).1
  have := h j u hu
  have hlt := (Array.getElem?_eq_some_iff.1 this).1
  rw [Nat.zero_add, Array.getElem?_extract, if_pos (by omega)]
  exact this
theorem CAt.of_list (vs : List Value) : CAt vs.toArray 0 vs := fun j u hu => by simpa using hu
def zi (ks : List IntKind) (xs : List Int) : List Value := List.zipWith Value.int ks xs
theorem zi_app {k1 k2 : List IntKind} {x1 x2 : List Int} (h : x1.length = k1.length) : zi (k1 ++ k2) (x1 ++ x2) = zi k1 x1 ++ zi k2 x2 := List.zipWith_append h.symm
theorem zi_len {ks : List IntKind} {xs : List Int} (h : xs.length = ks.length) : (zi ks xs).length = ks.length := by simp [zi, h]
theorem zi_rep (k : IntKind) : ∀ (l : List Int), zi (List.replicate l.length k) l = l.map (Value.int k)
  | [] => rfl
  | x :: l => by
    have := zi_rep k l
    simp only [zi] at this
    simp [zi, List.replicate_succ, this]
/-- what '==' answers at two parts -/
def EqP (P : Program) (D : Nat) (t : TypeId) (ks : List IntKind) : Prop := ∀ d, D ≤ d → ∀ (w : World) (c1 c2 : Array Value) (o1 o2 : Nat) (xs ys : List Int), xs.length = ks.length → ys.length = ks.length → CAt c1 o1 (zi ks xs) → CAt c2 o2 (zi ks ys) →
  ∃ a b, (part t c1 o1).run P w = .ok a w ∧ (part t c2 o2).run P w = .ok b w ∧ (Op.equalIn d t a b).run P w = .ok (decide (xs = ys)) w
def EqV (P : Program) (D : Nat) (t : TypeId) (ks : List IntKind) : Prop := ∀ d, D ≤ d → ∀ (w : World) (c1 c2 : Array Value) (xs ys : List Int), xs.length = ks.length → ys.length = ks.length → CAt c1 0 (zi ks xs) → CAt c2 0 (zi ks ys) →
  (Op.equalIn d t (.agg c1) (.agg c2)).run P w = .ok (decide (xs = ys)) w
theorem eq_int {P : Program} {t : TypeId} {k : IntKind} (h : P.underlying t = some (.int k)) : EqP P 1 t [k] := by
  intro d hd w c1 c2 o1 o2 xs ys hx hy h1 h2
  match xs, hx, ys, hy with
  | [x], _, [y], _ =>
    refine ⟨.int k x, .int k y, part_one h rfl ?_, part_one h rfl ?_, ?_⟩
    · simpa using h1 0 _ rfl
    · simpa using h2 0 _ rfl
    · obtain ⟨d, rfl⟩ : ∃ e, d = e + 1 := ⟨d - 1, by omega⟩
      rw [run_equalIn_int w d t k k x y h]
      congr 1
      by_cases e : x = y <;> simp [e]
theorem eq_arr {P : Program} {D : Nat} {t e : TypeId} {n : Nat} {ks : List IntKind} {sz by' : Nat} {z : Value} (h : P.underlying t = some (.array n e)) (hi : TI P e sz by' z) (hs : ks.length = sz) (hp : EqP P D e ks) : EqV P (D + 1) t (List.replicate n ks).flatten := by
  intro d hd w c1 c2 xs ys hx hy h1 h2
  obtain ⟨d, rfl⟩ : ∃ e, d = e + 1 := ⟨d - 1, by omega⟩
  obtain ⟨i, hi, rfl, _, _⟩ := hi
  simp only [Op.equalIn, Sem.run_bind, run_underlying h, Result.andThen_ok, sizeOf, typeInfo, Sem.run_pure]
  have hti : (program).run P w = .ok P w := rfl
  simp only [hti, Result.andThen_ok, hi, Sem.run_pure]
  rw [Std.Legacy.Range.forIn_eq_forIn_range']
  simp only [Std.Legacy.Range.size, Nat.sub_zero, Nat.add_sub_cancel, Nat.div_one]
  -- the rounds from number s on
  have key : ∀ (m s : Nat) (xs ys : List Int), xs.length = (List.replicate m ks).flatten.length → ys.length = (List.replicate m ks).flatten.length → CAt c1 (s * i.size) (zi (List.replicate m ks).flatten xs) → CAt c2 (s * i.size) (zi (List.replicate m ks).flatten ys) →
      (((forIn (List.range' s m) ((none, ()) : Option Bool × Unit) fun j _ => do
        let a ← part e c1 (j * i.size)
        let b ← part e c2 (j * i.size)
        let r ← Op.equalIn d e a b
        if (!r) = true then pure (ForInStep.done (some false, ())) else
          pure (ForInStep.yield (none, ()))) : Sem _).run P w) = .ok (if xs = ys then (none, ()) else (some false, ())) w := by
    intro m
    induction m with
    | zero =>
      intro s xs ys hx hy _ _
      have := List.eq_nil_of_length_eq_zero (by simpa using hx)
      have := List.eq_nil_of_length_eq_zero (by simpa using hy)
      subst_vars
      simp
    | succ m ih =>
      intro s xs ys hx hy h1 h2
      rw [List.replicate_succ, List.flatten_cons] at hx hy h1 h2
      obtain ⟨xa, xb, rfl, hxa⟩ : ∃ xa xb, xs = xa ++ xb ∧ xa.length = ks.length := ⟨xs.take ks.length, xs.drop ks.length, (List.take_append_drop _ _).symm, by simp at hx ⊢; omega⟩
      obtain ⟨ya, yb, rfl, hya⟩ : ∃ ya yb, ys = ya ++ yb ∧ ya.length = ks.length := ⟨ys.take ks.length, ys.drop ks.length, (List.take_append_drop _ _).symm, by simp at hy ⊢; omega⟩
      rw [zi_app hxa] at h1
      rw [zi_app hya] at h2
      obtain ⟨h1a, h1b⟩ := h1.app
      obtain ⟨h2a, h2b⟩ := h2.app
      rw [zi_len hxa, hs, ← Nat.succ_mul] at h1b
      rw [zi_len hya, hs, ← Nat.succ_mul] at h2b
      obtain ⟨a, b, ra, rb, re⟩ := hp d (by omega) w c1 c2 _ _ xa ya hxa hya h1a h2a
      have hI := ih (s + 1) xb yb (by simp at hx ⊢; omega) (by simp at hy ⊢; omega) h1b h2b
      simp only [List.range'_succ, List.forIn_cons, Sem.run_bind, ra, rb, re, Result.andThen_ok]
      by_cases e : xa = ya
      · subst e
        simp only [decide_true, Bool.not_true, Bool.false_eq_true, if_false, Sem.run_pure, Result.andThen_ok, List.append_cancel_left_eq]
        exact hI
      · have : ¬ (xa ++ xb = ya ++ yb) := fun h => e (List.append_inj h (by omega)).1
        simp [e, this]
  have hk := key n 0 xs ys hx hy (by simpa using h1) (by simpa using h2)
  rw [hk]
  by_cases e : xs = ys <;> simp [e]
end Go.Proofs.Ytpjpaipkkcengaa
namespace Go.Proofs.Ytpjpaipkkcengaa
open Go.RowKit
theorem Del.upd {L L1 : List Res} {r : Res} (h : Del L r L1) (r' : Res) : ∃ L', Upd L r r' L' ∧ L'.Perm (r' :: L1) := by
  induction h with
  | head => exact ⟨_, .head, .refl _⟩
  | @tail s r L L' _ ih =>
    obtain ⟨M, hu, hp⟩ := ih
    exact ⟨s :: M, .tail hu, (hp.cons s).trans (.swap _ _ _)⟩
theorem Del.mem {L L1 : List Res} {r : Res} (h : Del L r L1) : r ∈ L := by
  induction h with
  | head => simp
  | tail _ ih => simp [ih]
theorem Del.mem_of {L L1 : List Res} {r s : Res} (h : Del L r L1) (hs : s ∈ L1) : s ∈ L := by
  induction h with
  | head => simp [hs]
  | tail _ ih => rcases List.mem_cons.1 hs with rfl | hs
                 · simp
                 · simp [ih hs]
section
variable {S : Nat → Prop} {w0 w w' : World} {L L1 : List Res} {r r' : Res}
/-- one resource turns, and is put in front -/
theorem St.turn_front (h : St S w0 w L) (hd : Del L r L1) (hk : Keep (fun k => r.own = some k) w w') (hr : r'.holds w')
    (ho : ∀ g, r'.own = some g → r.own = some g ∨ w.heap.size ≤ g) (hn : ∀ g, r'.reads = some g → r.own = some g ∨ r.reads = some g ∨ w.heap.size ≤ g) : St S w0 w' (r' :: L1) := by
  obtain ⟨L', hu, hp⟩ := hd.upd r'
  exact (h.turn hu hk hr ho hn).perm hp
theorem St.front (h : St S w0 w L) (hd : Del L r L1) : St S w0 w (r :: L1) := h.perm hd.perm
end
theorem keep_of_grown {w w' : World} {v : Value} {A : Option Addr} {n c : Nat} (hv : v = .slice A n c) (h : w.grownBy w' v.ownBlock) : Keep (fun k => A.map (·.block) = some k) w w' := by
  subst hv
  refine ⟨h.os, h.tape, h.output, h.size, fun k hk hs => h.block k hk (fun e => hs ?_)⟩
  rw [e]
  cases A <;> rfl
section
variable {P : Program} {w : World}
/-- the append of nothing -/
theorem run_append_zero {t ty e : TypeId} {i : TypeInfo} (ht : P.underlying t = some (.slice e)) (hi : P.info? e = some i) {A B : Option Addr} {n c c2 : Nat} (hnc : n ≤ c) :
    (Builtin.append_ #[t, t] ty #[.slice A n c, .slice B 0 c2]).run P w = .ok (.slice A n c) w := by
  cases A <;> cases B <;> simp [Builtin.append_, run_underlying ht, sizeOf, typeInfo, hi, Builtin.lenOf, Builtin.firstCells, hnc, storeCells, loadCells, loadCellsFrom]
theorem run_append_all {t ty e : TypeId} {sz by' : Nat} {z : Value} (ht : P.underlying t = some (.slice e)) (hi : TI P e sz by' z) (hsz : 0 < sz) (hzs : z.cells.size = sz) {A : Option Addr} {n c : Nat} {xs : List Value} (hown : w.ownsRow 0 e sz (.slice A n c) n xs)
    {B : Option Addr} {m c2 : Nat} {news : List Value} (hr : Rd w B sz m news) (h1 : ∀ u ∈ news, u.oneCell' = true) (h63 : n + m ≤ maxLen) (hby : (n + m) * by' ≤ 140737488355328) :
    ∃ A' c' w', (Builtin.append_ #[t, t] ty #[.slice A n c, .slice B m c2]).run P w = .ok (.slice A' (n + m) c') w' ∧ w'.ownsRow 0 e sz (.slice A' (n + m) c') (n + m) (xs ++ news) ∧ Keep (fun k => A.map (·.block) = some k) w w' ∧ (∀ g, A'.map (·.block) = some g → A.map (·.block) = some g ∨ w.heap.size ≤ g) := by
  obtain ⟨i, hi, rfl, rfl, hz⟩ := hi
  rcases Nat.eq_zero_or_pos m with rfl | hm
  · have hnil : news = [] := List.eq_nil_of_length_eq_zero (by simpa using hr.1)
    subst hnil
    have hnc : n ≤ c := by
      rcases hown.2 with ⟨hv, h0⟩ | ⟨g, cap, cur, hv, _, _, hnc, _⟩
      · omega
      · simp only [Value.slice.injEq] at hv; omega
    exact ⟨A, c, w, run_append_zero ht hi hnc, by simpa using hown, Keep.refl _ _, fun g hg => .inl hg⟩
  · obtain ⟨hl, h2⟩ := hr
    obtain ⟨g, o, rfl, _, hc⟩ := h2 hm
    obtain ⟨v', w', hrun, hown', hgrow, _, hat⟩ := run_append_own_at (P := P) w 0 t ty e i z i.size i.bytes ht hi hz rfl rfl hzs hsz _ n xs hown ⟨g, o, none⟩ m c2 news hl (fun j u hu => by rw [add_at]; exact hc j u hu) h1 h63 hby (Nat.zero_le _)
    rcases hown'.2 with ⟨_, h0⟩ | ⟨g', cap, cur, hv, hrest⟩
    · omega
    · subst hv
      refine ⟨some ⟨g', 0, none⟩, cap, w', hrun, hown', keep_of_grown rfl hgrow, fun k hk => ?_⟩
      simp at hk
      subst hk
      rcases hat with h5 | h5
      · left
        have h6 : (Value.slice A n c).ownBlock = some g' := by rw [← h5]; rfl
        cases A with
        | none => simp [Value.ownBlock] at h6
        | some a => simpa [Value.ownBlock] using h6
      · right
        simp [Value.ownBlock] at h5
        omega
end
section
variable {P : Program} {ops : Array Oper} {Q : Exit → Act → World → Prop} {rest : List Oper} {l : List Value} {w : World} {d : Nat} {ty : TypeId} {pos : String} {aft : Array Edge}
variable {S : Nat → Prop} {w0 : World} {L L1 : List Res}
theorem m_append {T e : TypeId} {x y : Operand} {sz by' : Nat} {z : Value} {A B : Option Addr} {n c m c2 : Nat} {xs news : List Value} (hT : P.underlying T = some (.slice e)) (hi : TI P e sz by' z) (hsz : 0 < sz ∧ z.cells.size = sz := by decide) (hx : opv l x = .slice A n c := by rfl) (hy : opv l y = .slice B m c2 := by rfl) (hS : St S w0 w L)
    (hd : Del L (.vec A c e sz n xs) L1 := by repeat (first | exact Del.head | apply Del.tail)) (hm : Has L1 (.rd B sz m news) := by repeat (first | exact Has.head | apply Has.tail)) (h1 : ∀ u ∈ news, u.oneCell' = true := by first | exact ic_one _ _ | exact il_one _ _ | simp [Value.oneCell']) (h63 : n + m ≤ maxLen := by first | omega | (simp only [maxLen]; omega)) (hby : (n + m) * by' ≤ 140737488355328 := by omega)
    (h : ∀ w' A' c', St S w0 w' (.vec A' c' e sz (n + m) (xs ++ news) :: L1) → WL P ops Q rest (fr (l.set d (.slice A' (n + m) c'))) w') : WL P ops Q (⟨some d, .call { callee := .builtin .append, args := #[x, y], argTypes := #[T, T] }, ty, pos, aft, none⟩ :: rest) (fr l) w := by
  have hown := hS.holds _ hd.mem
  have hr : Rd w B sz m news := hS.holds _ (hd.mem_of hm.mem)
  obtain ⟨A', c', w', hrun, hown', hk, hat⟩ := run_append_all (t := T) (ty := ty) hT hi hsz.1 hsz.2 hown (c2 := c2) hr h1 h63 hby
  refine s_val (v := .slice A' (n + m) c') (w' := w') (by simp [execOp, resolve, invoke, builtin, hx, hy, hrun]) (h w' A' c' ?_)
  exact hS.turn_front hd hk hown' (fun g hg => hat g hg) (by intro g hg; simp [Res.reads] at hg)
theorem run_eql_agg {T : TypeId} {D : Nat} {ks : List IntKind} {X Y : Array Value} {xs ys : List Int} (he : EqV P D T ks) (hD : D ≤ 10000) (hX : X = (zi ks xs).toArray) (hY : Y = (zi ks ys).toArray) (h1 : xs.length = ks.length) (h2 : ys.length = ks.length) (w : World) : (Op.equal T (.agg X) (.agg Y)).run P w = .ok (decide (xs = ys)) w := by
  subst hX hY
  exact he 10000 hD w _ _ xs ys h1 h2 (CAt.of_list _) (CAt.of_list _)
theorem s_eql_agg {T yT : TypeId} {x y : Operand} {D : Nat} {ks : List IntKind} {X Y : Array Value} {xs ys : List Int} (he : EqV P D T ks) (hD : D ≤ 10000 := by decide) (hg : P.eqGuardType P.depth T = false) (hx : opv l x = .agg X := by rfl) (hy : opv l y = .agg Y := by rfl) (hX : X = (zi ks xs).toArray) (hY : Y = (zi ks ys).toArray) (h1 : xs.length = ks.length) (h2 : ys.length = ks.length) : Go1 P l w ⟨some d, .binOp .eql T x y yT, ty, pos, aft, none⟩ (.bool (decide (xs = ys))) := by
  have hr := run_eql_agg he hD hX hY h1 h2 w
  have hgu := run_eqGuard_agg (P := P) w .eql T x y X Y hg
  unfold Go1
  simp [execOp, hx, hy, hgu, binOp, hr]
theorem zi_ic {k : IntKind} {n : Nat} {l : List Int} (h : l.length = n) : ic k l = (zi (List.replicate n k) l).toArray := by subst h; rw [zi_rep]; rfl
end
end Go.Proofs.Ytpjpaipkkcengaa
namespace Go.Proofs.Ytpjpaipkkcengaa
open Go.RowKit
/-- the walk in the text's order, shut -/
structure WQ (P : Program) (ops : Array Oper) (C : World → Prop) (Q : Act → Prop) (os : List Oper) (a : Act) : Prop where
  run : wpQuiet P ops C Q os a
section
variable {P : Program} {ops : Array Oper} {C : World → Prop} {Q : Act → Prop} {rest : List Oper} {l : List Value} {d : Nat} {v : Value} {ty : TypeId} {pos : String} {aft : Array Edge}
theorem q_step {o : Oper} {x : Value} (hw : Region.wanted o (yielded ops (fr l).tmps) = true) (h1 : ∀ w, C w → o.quietAt P (fr l) C w x) (h : WQ P ops C Q rest ((fr l).put o.dst x)) : WQ P ops C Q (o :: rest) (fr l) := by
  refine ⟨?_⟩
  simp only [wpQuiet, hw, if_true]
  exact ⟨x, h1, h.run⟩
theorem wanted_none {dst : Option Nat} {op : Op} {f : Nat → Option Bool} : Region.wanted ⟨dst, op, ty, pos, aft, none⟩ f = true := by simp [Region.wanted]
theorem q_go {op : Op} (H : ∀ w, C w → Go1 P l w ⟨some d, op, ty, pos, aft, none⟩ v) (h : WQ P ops C Q rest (fr (l.set d v))) : WQ P ops C Q (⟨some d, op, ty, pos, aft, none⟩ :: rest) (fr l) :=
  q_step (x := v) wanted_none (fun w hC => by
    have := H w hC
    unfold Go1 at this
    unfold Oper.quietAt
    rw [eval_fr, this]
    exact ⟨rfl, rfl⟩) (by rw [put_fr]; exact h)
theorem q_call_any {dst : Option Nat} {op : Op} {f : Nat} {args : Array Value} (hr : ∀ w, C w → (execOp (opv l) ⟨dst, op, ty, pos, aft, none⟩).run P w = .ok (.enter f args) w) (H : ∀ w, C w → CallR P f args w fun v' w' => v' = v ∧ C w') (h : WQ P ops C Q rest ((fr l).put dst v)) : WQ P ops C Q (⟨dst, op, ty, pos, aft, none⟩ :: rest) (fr l) :=
  q_step (x := v) wanted_none (fun w hC => by
    unfold Oper.quietAt
    rw [eval_fr, hr w hC]
    refine ⟨rfl, Calls.mono (H w hC) ?_⟩
    rintro e w' ⟨v', rfl, rfl, hC'⟩
    exact ⟨rfl, hC'⟩) h
theorem q_call {f : Nat} {args : Array Operand} {tys : Array TypeId} (he : Enters P f) (H : ∀ w, C w → CallR P f (args.map (opv l)) w fun v' w' => v' = v ∧ C w') (h : WQ P ops C Q rest (fr (l.set d v))) : WQ P ops C Q (⟨some d, .call { callee := .value (.func f), args := args, argTypes := tys }, ty, pos, aft, none⟩ :: rest) (fr l) :=
  q_call_any (fun w _ => by
    have := he (args.map (opv l) ++ #[]) w
    simp only [Array.append_empty] at this
    simp [execOp, resolve, opv, Deferred.ofValue, invoke, this]) H (by rw [put_fr]; exact h)
theorem q_on {dst : Option Nat} {op : Op} {g : Nat × Bool} (hg : yielded ops (l.toArray) g.1 = some g.2) (h : WQ P ops C Q (⟨dst, op, ty, pos, aft, none⟩ :: rest) (fr l)) : WQ P ops C Q (⟨dst, op, ty, pos, aft, some g⟩ :: rest) (fr l) := by
  have h1 : Region.wanted ⟨dst, op, ty, pos, aft, some g⟩ (yielded ops (fr l).tmps) = true := by simp [Region.wanted, fr, hg]
  replace h := h.run
  refine ⟨?_⟩
  simp only [wpQuiet, h1, wanted_none, if_true] at h ⊢
  exact h
theorem q_off {op : Op} {g : Nat × Bool} (hg : yielded ops (l.toArray) g.1 = some (!g.2)) (h : WQ P ops C Q rest (fr (l.set d undef))) : WQ P ops C Q (⟨some d, op, ty, pos, aft, some g⟩ :: rest) (fr l) := by
  have h1 : Region.wanted ⟨some d, op, ty, pos, aft, some g⟩ (yielded ops (fr l).tmps) = false := by simp [Region.wanted, fr, hg]
  refine ⟨?_⟩
  simp only [wpQuiet, h1, Bool.false_eq_true, if_false, put_fr]
  exact h.run
theorem q_part {os : List Oper} (t : Nat) {b : Bool} (hb : l.getD t undef = .bool b) (ht : b = true → WQ P ops C Q os (fr (l.set t (.bool true)))) (hf : b = false → WQ P ops C Q os (fr (l.set t (.bool false)))) : WQ P ops C Q os (fr l) := by
  cases b
  · have := hf rfl; rw [← hb, set_getD] at this; exact this
  · have := ht rfl; rw [← hb, set_getD] at this; exact this
end
section
variable {P : Program} {n r : Act → World → Prop} {ex : List (Nat × (Act → World → Prop))} {w : World} {l : List Value} {S : Nat → Prop} {w0 : World} {L : List Res}
theorem x_quiet {id : Nat} {ops : List Oper} (hm : P.follows .mixedOrders = true) (hB : Region.lexB .any ops.toArray = true) (hS : St S w0 w L) (h : WQ P ops.toArray (fun w => St S w0 w L) (fun a' => ∀ w', St S w0 w' L → n a' w') ops (fr l)) : (Code.region id ops.toArray true).wp P (Qx n r ex) (fr l) w :=
  wp_region_quiet (C := fun w => St S w0 w L) hm hB (hS.ext (Ext.drew w)) (by simpa only [Qx, List.toList_toArray] using h.run)
theorem q_nil {ops : Array Oper} {C : World → Prop} {n : Act → World → Prop} {a : Act} (h : ∀ w', C w' → n a w') : WQ P ops C (fun a' => ∀ w', C w' → n a' w') [] a := ⟨h⟩
end
end Go.Proofs.Ytpjpaipkkcengaa
namespace Go.Proofs.Ytpjpaipkkcengaa
open Go.RowKit
section
variable {P : Program} {md : Region.Mode} {ops : Array Oper} {C : World → Prop} {lt : List Nat} {Q : Exit → Act → World → Prop}
/-- none of the late operations has come -/
def noLate (lt : List Nat) (listed : Array Bool) : Prop := ∀ k ∈ lt, listed.getD k false = false
/-- every order from here on, whatever is laid beside between two steps -/
def AnyE (P : Program) (md : Region.Mode) (ops : Array Oper) (C : World → Prop) (lt : List Nat) (Q : Exit → Act → World → Prop) : Nat → Array Bool → Act → World → Prop
  | 0, listed, a, w => ∀ w1, Ext w w1 → (noLate lt listed → C w1) ∧ Region.ready md ops listed = [] ∧ Q .normal a w1
  | n + 1, listed, a, w => ∀ w1, Ext w w1 → (noLate lt listed → C w1) ∧ (Region.ready md ops listed = [] → Q .normal a w1) ∧ ∀ i ∈ Region.ready md ops listed, wpOp P ops Q i (AnyE P md ops C lt Q n (listed.setIfInBounds i true)) a w1
theorem AnyE.any : ∀ (n : Nat) {listed : Array Bool} {a : Act} {w : World}, AnyE P md ops C lt Q n listed a w → wpAny P md ops Q n listed a w
  | 0, _, _, w, h => (h w Ext.rfl').2
  | n + 1, _, _, w, h => ⟨(h w Ext.rfl').2.1, fun i hi => wpOp_mono (fun _ _ h' => AnyE.any n h') ((h w Ext.rfl').2.2 i hi)⟩
theorem AnyE.ext {n : Nat} {listed : Array Bool} {a : Act} {w w' : World} (h : AnyE P md ops C lt Q n listed a w) (hE : Ext w w') : AnyE P md ops C lt Q n listed a w' := by
  cases n with
  | zero => exact fun w1 h1 => h w1 (hE.trans h1)
  | succ n => exact fun w1 h1 => h w1 (hE.trans h1)
theorem AnyE.cls {n : Nat} {listed : Array Bool} {a : Act} {w : World} (h : AnyE P md ops C lt Q n listed a w) : noLate lt listed → C w := by
  cases n with
  | zero => exact (h w Ext.rfl').1
  | succ n => exact (h w Ext.rfl').1
def QuietU (P : Program) (w : World) (v : Value) : Result Next → Prop
  | .ok (.value u) w' => w' = w ∧ u = v
  | .ok (.enter f args) w' => w' = w ∧ Calls P f args w (fun e w'' => e = .returned v ∧ Ext w w'')
  | _ => False
def YieldsE (P : Program) (ops : Array Oper) (C : World → Prop) (o : Oper) (v : Value) (a : Act) : Prop :=
  (Region.wanted o (yielded ops a.tmps) = true ∧ ∀ w, C w → QuietU P w v ((execOp a.eval o).run P w)) ∨
  (Region.wanted o (yielded ops a.tmps) = false ∧ v = undef)
theorem YieldsE.of_same {o : Oper} {v : Value} {a a' : Act} (hy : YieldsE P ops C o v a) (he : execOp a'.eval o = execOp a.eval o)
    (hw : Region.wanted o (yielded ops a'.tmps) = Region.wanted o (yielded ops a.tmps)) : YieldsE P ops C o v a' := by
  unfold YieldsE at *
  rw [he, hw]
  exact hy
theorem YieldsE.wpOp {i : Nat} {o : Oper} {v : Value} {a : Act} (hi : ops[i]? = some o) (hy : YieldsE P ops C o v a) {K : Act → World → Prop} {w : World} (hC : C w) (h : ∀ w', Ext w w' → K (a.put o.dst v) w') : wpOp P ops Q i K a w := by
  unfold Go.wpOp
  simp only [hi]
  rcases hy with ⟨hw, hv⟩ | ⟨hw, rfl⟩
  · simp only [hw, if_true]
    have := hv w hC
    refine .inl ?_
    unfold Oper.wp
    generalize (execOp a.eval o).run P w = r at this
    cases r with
    | ok n w' =>
      cases n <;> simp only [QuietU] at this <;> simp only [Oper.upon]
      case value u => obtain ⟨rfl, rfl⟩ := this; exact h _ Ext.rfl'
      case enter f args =>
        obtain ⟨rfl, hc⟩ := this
        exact hc.mono fun e w'' ⟨he, hE⟩ => by subst he; exact h _ hE
    | halt x w' => simp only [QuietU] at this
  · simp only [hw, Bool.false_eq_true, if_false]; exact h _ Ext.rfl'
theorem wpOp_putE {j : Nat} {oi oj : Oper} {v : Value} (hj : ops[j]? = some oj) (hap : oi.apart ops oj = true)
    (hsi : ∀ cs b, oi.op ≠ .select cs b) (hsj : ∀ cs b, oj.op ≠ .select cs b)
    (hQ : ∀ c a w, ¬ Q (.panic c) a w) {K : Act → World → Prop} {a : Act} {w : World}
    (hy : YieldsE P ops C oi v a) (h : wpOp P ops Q j K (a.put oi.dst v) w) :
    wpOp P ops Q j (fun a' w' => YieldsE P ops C oi v a' ∧ K (a'.put oi.dst v) w') a w := by
  obtain ⟨h1, h2, h3⟩ := Oper.apart_spec hap
  have keep : ∀ (a : Act), YieldsE P ops C oi v a → ∀ u, YieldsE P ops C oi v (a.put oj.dst u) := fun a hy u =>
    hy.of_same (execOp_put oi hsi a oj.dst u h3) (wanted_put oi a oj.dst u h3)
  have keepD : ∀ d, YieldsE P ops C oi v { a with defers := d :: a.defers } := fun d => hy.of_same rfl rfl
  unfold wpOp at *
  simp only [hj] at *
  rw [wanted_put oj a oi.dst v h1] at h
  split
  · rename_i hw
    simp only [hw, if_true] at h
    rcases h with h | ⟨hasks, hlets⟩
    case inr => exact .inr ⟨by unfold Oper.asks at *; rw [execOp_put oj hsj a oi.dst v h1] at hasks; exact hasks, hlets⟩
    refine .inl ?_
    unfold Oper.wp at *
    rw [execOp_put oj hsj a oi.dst v h1] at h
    generalize (execOp a.eval oj).run P w = r at *
    cases r with
    | ok n w' =>
      cases n <;> simp only [Oper.upon] at h ⊢
      case value u => exact ⟨keep a hy u, by rw [← Act.put_comm a v u h2]; exact h⟩
      case skip => exact ⟨keep a hy _, by rw [← Act.put_comm a v undef h2]; exact h⟩
      case defer d =>
        refine ⟨keep _ (keepD d) _, ?_⟩
        rw [← Act.put_comm _ v undef h2, ← Act.put_defers]
        exact h
      case enter f args =>
        refine Calls.mono h fun e w'' he => ?_
        cases e with
        | returned u => exact ⟨keep a hy u, by rw [← Act.put_comm a v u h2]; exact he⟩
        | panicked c => exact (hQ _ _ _ he).elim
        | outgrown => exact he
      case row row args => exact Rows.mono h fun u w'' he => ⟨keep a hy u, by rw [← Act.put_comm a v u h2]; exact he⟩
    | halt x w' =>
      cases x <;> simp only [Oper.upon] at h ⊢
      case panic u => exact (hQ _ _ _ h).elim
  · rename_i hw
    simp only [hw] at h
    exact ⟨keep a hy _, by rw [← Act.put_comm a v undef h2]; exact h⟩
theorem noLate_set {i : Nat} {listed : Array Bool} (hi : i ∉ lt) (h : noLate lt listed) : noLate lt (listed.setIfInBounds i true) := fun k hk => by
  have hne : i ≠ k := fun e => hi (e ▸ hk)
  rw [getD_set_ne false hne]; exact h k hk
theorem AnyE.first {i : Nat} {oi : Oper} {v : Value} (hil : i ∉ lt) (hlw : ∀ k ∈ lt, ∀ o, ops[k]? = some o → ∃ e ∈ o.after, Region.binds md e = true ∧ e.on = i) (hi : ops[i]? = some oi) (hsel : ∀ (j : Nat) (o : Oper) cs b, ops[j]? = some o → o.op ≠ .select cs b) (hQ : ∀ c a w, ¬ Q (.panic c) a w) :
    ∀ (fuel : Nat) (listed : Array Bool) (a : Act) (w : World), noLate lt listed →
      (∀ j oj, ops[j]? = some oj → j ≠ i → listed.getD j true = false → (∀ e ∈ oj.after, Region.binds md e = true → e.on ≠ i) → oi.apart ops oj = true) →
      i ∈ Region.ready md ops listed → YieldsE P ops C oi v a →
      AnyE P md ops C lt Q fuel (listed.setIfInBounds i true) (a.put oi.dst v) w → AnyE P md ops C lt Q (fuel + 1) listed a w := by
  intro fuel
  induction fuel with
  | zero =>
    intro listed a w hnl _ hr hy H w1 hE
    have H1 := H.ext hE
    have hcl := H1.cls (noLate_set hil hnl)
    refine ⟨fun _ => hcl, fun h => (by rw [h] at hr; cases hr), fun j hj => ?_⟩
    by_cases hji : j = i
    · subst hji; exact hy.wpOp hi hcl fun w' hE' => H1.ext hE'
    · have := ready_mono hj hji
      rw [(H1 w1 Ext.rfl').2.1] at this
      cases this
  | succ fuel ih =>
    intro listed a w hnl hfree hr hy H w1 hE
    have H1 := H.ext hE
    have hcl := H1.cls (noLate_set hil hnl)
    refine ⟨fun _ => hcl, fun h => (by rw [h] at hr; cases hr), fun j hj => ?_⟩
    by_cases hji : j = i
    · subst hji; exact hy.wpOp hi hcl fun w' hE' => H1.ext hE'
    · have h1 := (H1 w1 Ext.rfl').2.2 j (ready_mono hj hji)
      obtain ⟨hjun, oj, hoj, hall⟩ := mem_ready.1 hj
      have hnot : ∀ e ∈ oj.after, Region.binds md e = true → e.on ≠ i := fun e he hb heq => by
        have h1 := hall e he hb
        have h0 := (mem_ready.1 hr).1
        rw [heq] at h1
        rcases Nat.lt_or_ge i listed.size with h' | h'
        · simp [h'] at h0 h1; rw [h0] at h1; cases h1
        · simp [Array.getElem?_eq_none h'] at h1
      have h2 := wpOp_putE hoj (hfree j oj hoj hji hjun hnot) (fun cs b => hsel i oi cs b hi) (fun cs b => hsel j oj cs b hoj) hQ hy h1
      have hfree' : ∀ k ok, ops[k]? = some ok → k ≠ i → (listed.setIfInBounds j true).getD k true = false →
          (∀ e ∈ ok.after, Region.binds md e = true → e.on ≠ i) → oi.apart ops ok = true := fun k ok hk hki hun hno => by
        refine hfree k ok hk hki ?_ hno
        by_cases hjk : j = k
        · subst hjk; exact hjun
        · rw [getD_set_ne true hjk] at hun; exact hun
      have hjl : j ∉ lt := fun hjl => by
        obtain ⟨e, he, hb, hon⟩ := hlw j hjl oj hoj
        exact hnot e he hb hon
      refine wpOp_mono (fun a' w' h3 => ih (listed.setIfInBounds j true) a' w' (noLate_set hjl hnl) hfree' (ready_mono hr (Ne.symm hji)) h3.1 ?_) h2
      rw [Array.setIfInBounds_comm _ _ hji]
      exact h3.2
/-- the first operations, in the text's order; T: what stands behind them -/
def wpPre (P : Program) (ops : Array Oper) (C : World → Prop) (T : Act → Prop) : List Oper → Act → Prop
  | [], a => T a
  | o :: rest, a => ∃ v, YieldsE P ops C o v a ∧ wpPre P ops C T rest (a.put o.dst v)
def lateB (md : Region.Mode) (ops : Array Oper) (lt : List Nat) (i : Nat) : Bool := !lt.contains i && lt.all fun k => match ops[k]? with | some o => o.after.any fun e => Region.binds md e && e.on == i | none => true
def preB (md : Region.Mode) (ops : Array Oper) (lt : List Nat) : Nat → Nat → Array Bool → Bool
  | 0, _, _ => true
  | m + 1, k, listed => lateB md ops lt k && (Region.ready md ops listed).contains k && Region.free md ops listed k && preB md ops lt m (k + 1) (listed.setIfInBounds k true)
def setAll : Nat → Nat → Array Bool → Array Bool
  | 0, _, listed => listed
  | m + 1, k, listed => setAll m (k + 1) (listed.setIfInBounds k true)
theorem AnyE.pre (hs : Region.noSelect ops = true) (hQ : ∀ c a w, ¬ Q (.panic c) a w) (fuel : Nat) (w : World) : ∀ (l : List Oper) (k : Nat) (listed : Array Bool) (a : Act), noLate lt listed → (∀ j, j < l.length → l[j]? = ops[k + j]?) →
    preB md ops lt l.length k listed = true → wpPre P ops C (fun a' => AnyE P md ops C lt Q fuel (setAll l.length k listed) a' w) l a → AnyE P md ops C lt Q (fuel + l.length) listed a w
  | [], _, _, _, _, _, _, h => h
  | o :: l, k, listed, a, hnl, hl, hB, h => by
    have h0 : ops[k]? = some o := by simpa using (hl 0 (by simp)).symm
    simp only [List.length_cons, preB, Bool.and_eq_true] at hB
    obtain ⟨⟨⟨hlB, hr⟩, hf⟩, hB'⟩ := hB
    simp only [lateB, Bool.and_eq_true, Bool.not_eq_true', List.all_eq_true] at hlB
    have hil : k ∉ lt := fun hk => by have := hlB.1; simp [hk] at this
    have hlw : ∀ k' ∈ lt, ∀ o', ops[k']? = some o' → ∃ e ∈ o'.after, Region.binds md e = true ∧ e.on = k := fun k' hk' o' ho' => by
      have := hlB.2 k' hk'
      rw [ho'] at this
      obtain ⟨e, he, hb⟩ := Array.any_eq_true'.1 this
      simp only [Bool.and_eq_true, beq_iff_eq] at hb
      exact ⟨e, he, hb.1, hb.2⟩
    obtain ⟨v, hy, hK⟩ := h
    have := AnyE.pre hs hQ fuel w l (k + 1) _ _ (noLate_set hil hnl) (fun j hj => by have := hl (j + 1) (by simpa using hj); simpa [Nat.add_assoc, Nat.add_comm 1 j] using this) hB' hK
    exact AnyE.first hil hlw h0 (Region.noSelect_spec hs) hQ (fuel + l.length) listed a w hnl (Region.free_spec h0 hf) (by simpa using hr) hy this
end
section
variable {P : Program} {ops : Array Oper} {C : World → Prop} {T : Act → Prop} {rest : List Oper} {l : List Value} {d : Nat} {v : Value} {ty : TypeId} {pos : String} {aft : Array Edge}
theorem p_nil {a : Act} (h : T a) : wpPre P ops C T [] a := h
end
section
variable {P : Program} {n r : Act → World → Prop} {ex : List (Nat × (Act → World → Prop))} {w : World} {l : List Value} {S : Nat → Prop} {w0 : World} {L : List Res}
theorem Qx_panic {c : List PanicEntry} {a : Act} {w : World} : ¬ Qx n r ex (.panic c) a w := fun h => h
/-- M: what holds behind the region -/
theorem x_mixed {id : Nat} {ops : List Oper} (lt : List Nat) (m : Nat) (M : Act → World → Prop) (hm : P.follows .mixedOrders = true) (hs : Region.noSelect ops.toArray = true) (hB : preB .any ops.toArray lt m 0 (Array.replicate ops.length false) = true) (hml : m ≤ ops.length)
    (hS : St S w0 w L) (h : ∀ w', St S w0 w' L → wpPre P ops.toArray (fun w => St S w0 w L) (fun a' => AnyE P .any ops.toArray (fun w => St S w0 w L) lt (Qx M r ex) (ops.length - m) (setAll m 0 (Array.replicate ops.length false)) a' w') (ops.take m) (fr l))
    (hM : ∀ a' w', M a' w' → n a' w') : (Code.region id ops.toArray true).wp P (Qx n r ex) (fr l) w := by
  refine wp_mono ?_ (fun e a w q => ?_) (Q := Qx M r ex)
  · refine wp_region_any hm (AnyE.any (C := fun w => St S w0 w L) (lt := lt) _ ?_)
    have hlen : (ops.take m).length = m := by simp; omega
    have := AnyE.pre (P := P) (md := .any) (ops := ops.toArray) (C := fun w => St S w0 w L) (lt := lt) (Q := Qx M r ex) hs (fun _ _ _ => Qx_panic) (ops.length - m) w.drew (ops.take m) 0 (Array.replicate ops.length false) (fr l) (fun k _ => by simp [Array.getD_eq_getD_getElem?, Array.getElem?_replicate]; split <;> rfl) (fun j hj => by
      rw [List.getElem?_take, if_pos (by omega)]; simp) (by rw [hlen]; exact hB) (by rw [hlen]; exact h _ (hS.ext (Ext.drew w)))
    rw [hlen, show ops.length - m + m = ops.length by omega] at this
    simpa using this
  · cases e <;> first | exact hM _ _ q | exact q
def MixM (l : List Value) (V : List Nat) (R : (Nat → Value) → World → Prop) (a : Act) (w : World) : Prop := ∃ f, a = fr (clob l V f) ∧ R f w
theorem mix_leaf {lnow : List Value} {V : List Nat} {R : (Nat → Value) → World → Prop} (he : lnow = clob l V (fun d => lnow.getD d undef)) (hR : R (fun d => lnow.getD d undef) w) : MixM l V R (fr lnow) w := ⟨_, congrArg fr he, hR⟩
/-- the same, the written slots told by R alone -/
theorem x_mixed_f {id : Nat} {ops : List Oper} (lt : List Nat) (m : Nat) (V : List Nat) (R : (Nat → Value) → World → Prop) (hm : P.follows .mixedOrders = true) (hs : Region.noSelect ops.toArray = true) (hB : preB .any ops.toArray lt m 0 (Array.replicate ops.length false) = true) (hml : m ≤ ops.length)
    (hS : St S w0 w L) (h : ∀ w', St S w0 w' L → wpPre P ops.toArray (fun w => St S w0 w L) (fun a' => AnyE P .any ops.toArray (fun w => St S w0 w L) lt (Qx (MixM l V R) r ex) (ops.length - m) (setAll m 0 (Array.replicate ops.length false)) a' w') (ops.take m) (fr l))
    (hM : ∀ f w', R f w' → n (fr (clob l V f)) w') : (Code.region id ops.toArray true).wp P (Qx n r ex) (fr l) w :=
  x_mixed lt m (MixM l V R) hm hs hB hml hS h fun a' w' ⟨f, e, hR⟩ => by subst e; exact hM f w' hR
variable {ops : Array Oper} {C : World → Prop} {lt : List Nat} {M : Act → World → Prop} {a : Act}
theorem any_nil {listed : Array Bool} (hr : Region.ready .any ops listed = []) (h : ∀ w1, Ext w w1 → (noLate lt listed → C w1) ∧ M a w1) : AnyE P .any ops C lt (Qx M r ex) 0 listed a w := fun w1 hE => ⟨(h w1 hE).1, hr, (h w1 hE).2⟩
theorem any_step {k : Nat} {listed : Array Bool} (is : List Nat) (hr : Region.ready .any ops listed = is) (hne : is ≠ []) (h : ∀ w1, Ext w w1 → (noLate lt listed → C w1) ∧ ∀ i ∈ is, wpOp P ops (Qx M r ex) i (AnyE P .any ops C lt (Qx M r ex) k (listed.setIfInBounds i true)) a w1) : AnyE P .any ops C lt (Qx M r ex) (k + 1) listed a w := fun w1 hE => by
  refine ⟨(h w1 hE).1, fun h0 => absurd (hr.symm.trans h0) hne, fun i hi => (h w1 hE).2 i (hr ▸ hi)⟩
/-- one operation of those that may come now -/
theorem any_op {i : Nat} {o : Oper} {K : Act → World → Prop} (ho : ops[i]? = some o) (h : WL P ops (Qx K r ex) [o] a w) : wpOp P ops (Qx M r ex) i K a w := by
  replace h := h.run
  unfold wpList at h
  unfold Go.wpOp
  simp only [ho]
  split
  · rename_i hw
    rw [if_pos hw] at h
    rcases h with h | ⟨_, a', w', h⟩
    · refine .inl ?_
      unfold Oper.wp at *
      generalize (execOp a.eval o).run P w = q at *
      cases q with
      | ok n w' =>
        cases n <;> simp only [Oper.upon] at h ⊢
        case enter f args =>
          refine Calls.mono h fun e w'' he => ?_
          cases e with
          | returned u => exact he
          | panicked c => exact he.elim
          | outgrown => obtain ⟨_, _, h⟩ := he; exact h.elim
        all_goals exact h
      | halt x w' =>
        cases x <;> simp only [Oper.upon] at h ⊢
        case panic u => exact h.elim
    · exact h.elim
  · rename_i hw
    rw [if_neg hw] at h
    exact h
end
end Go.Proofs.Ytpjpaipkkcengaa
namespace Go.Proofs.Ytpjpaipkkcengaa
open Go.RowKit
theorem foldl_set_splice (vs : List Value) : ∀ (cells : Array Value) (off k : Nat), off + k + vs.length ≤ cells.size →
    (vs.zipIdx k).foldl (fun (cs : Array Value) (p : Value × Nat) => cs.setIfInBounds (off + p.2) p.1) cells = (splice cells.toList (off + k) vs).toArray := by
  induction vs with
  | nil => intro cells off k _; simp [splice]
  | cons v vs ih =>
    intro cells off k h
    rw [List.zipIdx_cons, List.foldl_cons, ih _ _ _ (by simp at h ⊢; omega)]
    simp only [List.length_cons] at h
    congr 1
    unfold splice
    simp only [Array.toList_setIfInBounds, List.length_cons]
    rw [List.set_eq_take_append_cons_drop, if_pos (by simp; omega)]
    have h1 : (cells.toList.take (off + k)).length = off + k := by simp; omega
    rw [← Nat.add_assoc, List.take_append, List.drop_append, h1]
    simp only [List.take_take, Nat.add_sub_cancel_left, List.take_succ_cons, List.take_zero, List.append_assoc]
    rw [Nat.min_eq_right (by omega), List.drop_eq_nil_of_le (by simp; omega)]
    simp only [List.cons_append, List.nil_append]
    rw [show off + k + 1 + vs.length - (off + k) = (vs.length) + 1 by omega, List.drop_succ_cons, List.drop_drop]
    congr 4
    omega
theorem fill_nil {pl : Nat → Option (Nat × Nat)} {cells : Array Value} : Instr.fill pl cells [] = some cells := rfl
theorem fill_cons {pl : Nat → Option (Nat × Nat)} {cells : Array Value} {i off size : Nat} {v : Value} {rest : List (Nat × Value)} {r : Array Value} (hp : pl i = some (off, size)) (hs : v.cells.size = size) (hf : off + size ≤ cells.size)
    (h : Instr.fill pl (splice cells.toList off v.cells.toList).toArray rest = some r) : Instr.fill pl cells ((i, v) :: rest) = some r := by
  subst hs
  simp only [Instr.fill, hp]
  rw [if_neg (by simp; omega)]
  have := foldl_set_splice v.cells.toList cells off 0 (by simpa using hf)
  rw [← h]
  congr 1
  rw [Nat.add_zero] at this
  rw [← this, ← Array.foldl_toList, Array.toList_zipIdx]
theorem zrow_eq (z : List Value) (hz : 0 < z.length) : ∀ n, (List.range (n * z.length)).map (fun j => z.toArray[j % z.length]!) = (List.replicate n z).flatten
  | 0 => by simp
  | n + 1 => by
    rw [List.replicate_succ', List.flatten_append, Nat.succ_mul, List.range_add, List.map_append, zrow_eq z hz n]
    congr 1
    simp only [List.map_map, List.flatten_cons, List.flatten_nil, List.append_nil]
    apply List.ext_getElem (by simp)
    intro i h1 h2
    simp only [List.getElem_map, List.getElem_range, Function.comp]
    rw [Nat.add_comm, Nat.add_mul_mod_self_right, Nat.mod_eq_of_lt h2]
    simp [h2]
section
variable {P : Program} {ops : Array Oper} {Q : Exit → Act → World → Prop} {rest : List Oper} {l : List Value} {w : World} {d : Nat} {ty : TypeId} {pos : String} {aft : Array Edge} {S : Nat → Prop} {w0 : World} {L L' : List Res}
theorem m_buildRow {T e : TypeId} {n : Nat} {parts : Array (Nat × Operand)} {sz by' : Nat} {z : Value} {cells : Array Value} (hT : P.underlying T = some (.slice e)) (hi : TI P e sz by' z) (hzs : 0 < sz ∧ z.cells.size = sz := by decide) (hsm : n * sz ≤ 2 ^ 24 := by decide)
    (hc : Instr.fill (fun i => some (i * sz, sz)) (List.replicate n z.cells.toList).flatten.toArray (parts.map fun (i, x) => (i, opv l x)).toList = some cells) (hS : St S w0 w L)
    (h : ∀ w' g, St S w0 w' (.obj g (.cells cells e (0, 0)) :: L) → WL P ops Q rest (fr (l.set d (.slice (some ⟨g, 0, none⟩) n n))) w') : WL P ops Q (⟨some d, .buildSlice T n parts, ty, pos, aft, none⟩ :: rest) (fr l) w := by
  refine m_buildSlice hT hi hsm ?_ hS h
  rw [← hc]
  congr 1
  have hz := zrow_eq z.cells.toList (by simpa [hzs.2] using hzs.1) n
  rw [← hz]
  apply Array.ext'
  simp [hzs.2]
end
section
variable {P : Program} {l : List Value} {w : World} {d : Nat} {ty : TypeId} {pos : String} {aft : Array Edge}
theorem s_build_arr {T e : TypeId} {n : Nat} {parts : Array (Nat × Operand)} {tz tb sz by' : Nat} {z ez : Value} {cells : Array Value} (hT : P.underlying T = some (.array n e)) (hi : TI P T tz tb z) (he : TI P e sz by' ez)
    (hc : Instr.fill (fun i => some (i * sz, sz)) z.cells (parts.map fun (i, x) => (i, opv l x)).toList = some cells) : Go1 P l w ⟨some d, .build T parts, ty, pos, aft, none⟩ (.agg cells) := by
  obtain ⟨i, hi, _, _, hz⟩ := hi
  obtain ⟨j, hj, rfl, _, _⟩ := he
  unfold Go1
  simp [execOp, Instr.build, zeroValue, typeInfo, hi, hz, run_underlying hT, sizeOf, hj] at hc ⊢
  rw [hc]; rfl
end
end Go.Proofs.Ytpjpaipkkcengaa
namespace Go.Proofs.Ytpjpaipkkcengaa
open Go.RowKit
section
variable {a b : Nat}
end
section
variable {r s n p : Nat} {b : Int}
end
theorem St.hasRd {S : Nat → Prop} {w0 w : World} {L : List Res} {A : Option Addr} {sz n : Nat} {xs : List Value} (h : St S w0 w L) (hm : Has L (.rd A sz n xs)) : Rd w A sz n xs := h.has hm
section
variable {w : World} {A B C : Option Addr} {sa sb sc na nb nc : Nat} {xa xb xc : List Value}
theorem St.rd1 {S : Nat → Prop} (h : Rd w A sa na xa) : St S w w [.rd A sa na xa] := (St.start w).add_rd h (by intro r h; cases h)
theorem St.rd2 {S : Nat → Prop} (h : Rd w A sa na xa) (k : Rd w B sb nb xb) : St S w w [.rd A sa na xa, .rd B sb nb xb] := (St.rd1 k).add_rd h (by intro r h g hg; simp at h; subst h; simp [Res.own] at hg)
end
/-- what a call hands back, beside what was -/
theorem St.call {S : Nat → Prop} {w0 w w' : World} {L M : List Res} (h : St S w0 w L) (k : St NoB w w' M) (hr : ∀ r ∈ M, ∀ g, r.reads = some g → w.heap.size ≤ g := by simp [Res.reads]) : St S w0 w' (M ++ L) := by
  have h' := h.ext k.keep
  refine ⟨h'.keep, ?_, ?_, ?_⟩
  · intro r hm
    rcases List.mem_append.1 hm with hm | hm
    · exact k.holds r hm
    · exact h'.holds r hm
  · intro r hm g hg
    rcases List.mem_append.1 hm with hm | hm
    · rcases k.own r hm g hg with hx | hx
      · exact hx.elim
      · exact .inr (Nat.le_trans h.keep.size hx)
    · exact h.own r hm g hg
  · refine List.pairwise_append.2 ⟨k.apart, h.apart, fun r hm s hs g => ⟨fun hg => ?_, fun hg => ?_⟩⟩
    · have h1 : w.heap.size ≤ g := by rcases k.own r hm g hg with hx | hx; exact hx.elim; exact hx
      exact ⟨fun e => by have := own_lt (h.holds s hs) e; omega, fun e => by have := reads_lt (h.holds s hs) e; omega⟩
    · have h1 := own_lt (h.holds s hs) hg
      refine ⟨fun e => ?_, fun e => by have := hr r hm g e; omega⟩
      rcases k.own r hm g e with hx | hx
      · exact hx.elim
      · omega
def Byt (l : List Int) : Prop := ∀ x ∈ l, 0 ≤ x ∧ x ≤ 255
theorem Byt.get {l : List Int} (h : Byt l) (i : Nat) : 0 ≤ l.getD i 0 ∧ l.getD i 0 ≤ 255 := by
  rcases Nat.lt_or_ge i l.length with hi | hi
  · rw [List.getD_eq_getElem?_getD, List.getElem?_eq_getElem hi]; exact h _ (List.getElem_mem hi)
  · rw [List.getD_eq_getElem?_getD, List.getElem?_eq_none hi]; simp
def bt (l : List Int) (i : Nat) : Nat := (l.getD i 0).toNat
theorem Byt.bt {l : List Int} (h : Byt l) (i : Nat) : l.getD i 0 = (bt l i : Int) ∧ bt l i < 256 := by
  have := h.get i
  unfold Go.Proofs.Ytpjpaipkkcengaa.bt
  omega
theorem Byt.app {l m : List Int} (h : Byt l) (k : Byt m) : Byt (l ++ m) := fun x hx => by rcases List.mem_append.1 hx with h' | h'; exact h x h'; exact k x h'
theorem Byt.take {l : List Int} (h : Byt l) (n : Nat) : Byt (l.take n) := fun x hx => h x (List.mem_of_mem_take hx)
theorem Byt.drop {l : List Int} (h : Byt l) (n : Nat) : Byt (l.drop n) := fun x hx => h x (List.mem_of_mem_drop hx)
theorem take_succ_getD {l : List Int} {k : Nat} (h : k < l.length) : l.take (k + 1) = l.take k ++ [l.getD k 0] := by
  rw [List.take_succ_eq_append_getElem h, List.getD_eq_getElem?_getD, List.getElem?_eq_getElem h]; rfl
end Go.Proofs.Ytpjpaipkkcengaa
namespace Go.Proofs.Ytpjpaipkkcengaa
open Go.RowKit
section
variable {P : Program} {ops : Array Oper} {Q : Exit → Act → World → Prop} {rest : List Oper} {l : List Value} {w : World} {d : Nat} {ty : TypeId} {pos : String} {aft : Array Edge}
variable {S : Nat → Prop} {w0 : World} {L L' : List Res}
theorem St.vecRd {A : Option Addr} {c : Nat} {e : TypeId} {sz n : Nat} {xs : List Value} (h : St S w0 w L) (hm : Has L (.vec A c e sz n xs)) : Rd w A sz n xs := by
  have hv := h.has hm
  refine ⟨hv.1, fun hn => ?_⟩
  obtain ⟨g, e', hc⟩ := Go.Proofs.Ytpjpaipkkcengaa.vec_at hv hn
  exact ⟨g, 0, e', own_lt hv (by simp [Res.own, e']), hc⟩
end
end Go.Proofs.Ytpjpaipkkcengaa
namespace Go.Proofs.Ytpjpaipkkcengaa
open Go.RowKit
/-- the blocks of a row of resources -/
def OwnB (M : List Res) : Nat → Prop := fun g => ∃ r ∈ M, r.own = some g
/-- M is chosen out of L; R is left. -/
inductive Spl : List Res → List Res → List Res → Prop
  | nil {L : List Res} : Spl [] L L
  | cons {r : Res} {L L1 M R : List Res} : Del L r L1 → Spl M L1 R → Spl (r :: M) L R
theorem Spl.perm {M L R : List Res} (h : Spl M L R) : L.Perm (M ++ R) := by
  induction h with
  | nil => exact List.Perm.refl _
  | cons hd _ ih => exact hd.perm.trans (List.Perm.cons _ ih)
section
variable {S : Nat → Prop} {w0 w w' : World} {L M M' R : List Res}
theorem St.owns (h : St S w0 w L) (hs : Spl M L R) : St (OwnB M) w w M := by
  have h := h.perm hs.perm
  refine ⟨Keep.refl _ _, fun r hr => h.holds r (List.mem_append_left _ hr), fun r hr g hg => .inl ⟨r, hr, hg⟩, (List.pairwise_append.1 h.apart).1⟩
theorem St.frame (h : St S w0 w L) (hs : Spl M L R) (k : St (OwnB M) w w' M') (hr : ∀ r ∈ M', ∀ g, r.reads = some g → w.heap.size ≤ g ∨ ∃ s ∈ M, s.own = some g ∨ s.reads = some g) : St S w0 w' (M' ++ R) := by
  have h := h.perm hs.perm
  obtain ⟨_, hR, hMR⟩ := List.pairwise_append.1 h.apart
  have out : ∀ s ∈ R, ∀ g, s.own = some g ∨ s.reads = some g → w'.heap[g]? = w.heap[g]? := fun s hs' g hg => by
    have hw := h.holds s (List.mem_append_right _ hs')
    have hlt : g < w.heap.size := by rcases hg with hg | hg; exact own_lt hw hg; exact reads_lt hw hg
    refine k.keep.block g hlt ?_
    rintro ⟨r, hr', ho⟩
    have := (hMR r hr' s hs' g).1 ho
    rcases hg with hg | hg
    · exact this.1 hg
    · exact this.2 hg
  refine ⟨h.keep.comp k.keep ?_, ?_, ?_, ?_⟩
  · rintro g hg ⟨r, hr', ho⟩
    rcases h.own r (List.mem_append_left _ hr') g ho with h1 | h1
    · exact h1
    · omega
  · intro r hr'
    rcases List.mem_append.1 hr' with hm | hm
    · exact k.holds r hm
    · exact Res.holds_of (h.holds r (List.mem_append_right _ hm)) k.keep.size (fun g hg => out r hm g (.inl hg)) (fun g hg => out r hm g (.inr hg))
  · intro r hr' g hg
    rcases List.mem_append.1 hr' with hm | hm
    · rcases k.own r hm g hg with ⟨s, hs', ho⟩ | h1
      · exact h.own s (List.mem_append_left _ hs') g ho
      · have := h.keep.size; exact .inr (by omega)
    · exact h.own r (List.mem_append_right _ hm) g hg
  · refine List.pairwise_append.2 ⟨k.apart, hR, fun r hr' s hs' g => ?_⟩
    have hsw := h.holds s (List.mem_append_right _ hs')
    refine ⟨fun ho => ?_, fun ho => ?_⟩
    · rcases k.own r hr' g ho with ⟨q, hq, hoq⟩ | h1
      · exact (hMR q hq s hs' g).1 hoq
      · exact ⟨fun e => by have := own_lt hsw e; omega, fun e => by have := reads_lt hsw e; omega⟩
    · have hlt := own_lt hsw ho
      refine ⟨fun e => ?_, fun e => ?_⟩
      · rcases k.own r hr' g e with ⟨q, hq, hoq⟩ | h1
        · exact ((hMR q hq s hs' g).2 ho).1 hoq
        · omega
      · rcases hr r hr' g e with h1 | ⟨q, hq, hoq | hoq⟩
        · omega
        · exact ((hMR q hq s hs' g).2 ho).1 hoq
        · exact ((hMR q hq s hs' g).2 ho).2 hoq
theorem Spl.mem {r : Res} {M : List Res} (h : Spl M L R) (hr : r ∈ M) : r ∈ L := (h.perm.mem_iff).2 (List.mem_append_left _ hr)
end
end Go.Proofs.Ytpjpaipkkcengaa
namespace Go.Proofs.Ytpjpaipkkcengaa
open Go.RowKit
section
variable {P : Program} {l : List Value} {w : World} {d : Nat} {ty : TypeId} {pos : String} {aft : Array Edge} {S : Nat → Prop} {w0 : World} {L : List Res}
end
section
variable {P : Program} {l : List Value} {w : World} {d : Nat} {ty : TypeId} {pos : String} {aft : Array Edge}
end
section
variable {P : Program} {ops : Array Oper} {Q : Exit → Act → World → Prop} {rest : List Oper} {l : List Value} {w : World} {d : Nat} {ty : TypeId} {pos : String} {aft : Array Edge}
variable {S : Nat → Prop} {w0 : World} {L L1 : List Res}
theorem m_append_vec {T e : TypeId} {x y : Operand} {sz by' : Nat} {z : Value} {A B : Option Addr} {n c m c2 cb : Nat} {eb : TypeId} {xs news : List Value} (hT : P.underlying T = some (.slice e)) (hi : TI P e sz by' z) (hsz : 0 < sz ∧ z.cells.size = sz := by decide) (hx : opv l x = .slice A n c := by rfl) (hy : opv l y = .slice B m c2 := by rfl) (hS : St S w0 w L)
    (hd : Del L (.vec A c e sz n xs) L1 := by repeat (first | exact Del.head | apply Del.tail)) (hm : Has L1 (.vec B cb eb sz m news) := by repeat (first | exact Has.head | apply Has.tail)) (h1 : ∀ u ∈ news, u.oneCell' = true := by first | exact ic_one _ _ | exact il_one _ _ | simp [Value.oneCell']) (h63 : n + m ≤ maxLen := by first | omega | (simp only [maxLen]; omega)) (hby : (n + m) * by' ≤ 140737488355328 := by omega)
    (h : ∀ w' A' c', St S w0 w' (.vec A' c' e sz (n + m) (xs ++ news) :: L1) → WL P ops Q rest (fr (l.set d (.slice A' (n + m) c'))) w') : WL P ops Q (⟨some d, .call { callee := .builtin .append, args := #[x, y], argTypes := #[T, T] }, ty, pos, aft, none⟩ :: rest) (fr l) w := by
  have hown := hS.holds _ hd.mem
  have hr : Rd w B sz m news := ((hS.perm hd.perm).drop).vecRd hm
  obtain ⟨A', c', w', hrun, hown', hk, hat⟩ := run_append_all (t := T) (ty := ty) hT hi hsz.1 hsz.2 hown (c2 := c2) hr h1 h63 hby
  refine s_val (v := .slice A' (n + m) c') (w' := w') (by simp [execOp, resolve, invoke, builtin, hx, hy, hrun]) (h w' A' c' ?_)
  exact hS.turn_front hd hk hown' (fun g hg => hat g hg) (by intro g hg; simp [Res.reads] at hg)
end
section
variable {P : Program} {ops : Array Oper} {Q : Exit → Act → World → Prop} {rest : List Oper} {l : List Value} {w : World} {d : Nat} {ty : TypeId} {pos : String} {aft : Array Edge}
end
end Go.Proofs.Ytpjpaipkkcengaa
namespace Go.Proofs.Ytpjpaipkkcengaa
open Go.RowKit
def takeB (ops : Array Oper) (lt : List Nat) (listed : Array Bool) (i : Nat) : Bool := lateB .any ops lt i && (Region.ready .any ops listed).contains i && Region.free .any ops listed i
section
variable {P : Program} {n r : Act → World → Prop} {ex : List (Nat × (Act → World → Prop))} {w : World} {l : List Value} {M : Act → World → Prop} {a : Act}
variable {ops : Array Oper} {C : World → Prop} {lt : List Nat} {listed : Array Bool} {k i d : Nat} {v : Value} {ty : TypeId} {pos : String} {aft : Array Edge}
theorem any_take {o : Oper} (ho : ops[i]? = some o) (hB : takeB ops lt listed i = true) (hs : Region.noSelect ops = true) (hnl : noLate lt listed) (hy : YieldsE P ops C o v a)
    (h : AnyE P .any ops C lt (Qx M r ex) k (listed.setIfInBounds i true) (a.put o.dst v) w) : AnyE P .any ops C lt (Qx M r ex) (k + 1) listed a w := by
  simp only [takeB, Bool.and_eq_true] at hB
  obtain ⟨⟨hlB, hr⟩, hf⟩ := hB
  simp only [lateB, Bool.and_eq_true, Bool.not_eq_true', List.all_eq_true] at hlB
  have hil : i ∉ lt := fun hk => by have := hlB.1; simp [hk] at this
  have hlw : ∀ k' ∈ lt, ∀ o', ops[k']? = some o' → ∃ e ∈ o'.after, Region.binds .any e = true ∧ e.on = i := fun k' hk' o' ho' => by
    have := hlB.2 k' hk'
    rw [ho'] at this
    obtain ⟨e, he, hb⟩ := Array.any_eq_true'.1 this
    simp only [Bool.and_eq_true, beq_iff_eq] at hb
    exact ⟨e, he, hb.1, hb.2⟩
  exact AnyE.first hil hlw ho (Region.noSelect_spec hs) (fun c a w => Qx_panic) k listed a w hnl (Region.free_spec ho hf) (by simpa using hr) hy h
theorem go_yields {op : Op} {g : Option (Nat × Bool)} (hw : Region.wanted ⟨some d, op, ty, pos, aft, g⟩ (yielded ops (fr l).tmps) = true) (H : ∀ w, C w → Go1 P l w ⟨some d, op, ty, pos, aft, none⟩ v) : YieldsE P ops C ⟨some d, op, ty, pos, aft, g⟩ v (fr l) :=
  .inl ⟨hw, fun w hC => by
    have := H w hC
    unfold Go1 at this
    show QuietU P w v ((execOp (fr l).eval ⟨some d, op, ty, pos, aft, none⟩).run P w)
    rw [eval_fr, this]
    exact ⟨rfl, rfl⟩⟩
theorem w_none {dst : Option Nat} {op : Op} {f : Nat → Option Bool} : Region.wanted ⟨dst, op, ty, pos, aft, none⟩ f = true := wanted_none
/-- one operation that yields a value is taken first -/
theorem any_go {op : Op} {g : Option (Nat × Bool)} (ho : ops[i]? = some ⟨some d, op, ty, pos, aft, g⟩) (hB : takeB ops lt listed i = true) (hs : Region.noSelect ops = true) (hnl : noLate lt listed) (hy : YieldsE P ops C ⟨some d, op, ty, pos, aft, g⟩ v (fr l))
    (h : AnyE P .any ops C lt (Qx M r ex) k (listed.setIfInBounds i true) (fr (l.set d v)) w) : AnyE P .any ops C lt (Qx M r ex) (k + 1) listed (fr l) w :=
  any_take ho hB hs hnl hy (by rw [put_fr]; exact h)
theorem noLate_nil {listed : Array Bool} : noLate [] listed := fun _ h => by cases h
end
end Go.Proofs.Ytpjpaipkkcengaa
set_option maxRecDepth 100000
namespace Go.Proofs.Ytpjpaipkkcengaa
open Go.RowKit
theorem ti3 : TI Try.prog 3 1 8 (.int .i64 0) := TI.of (by kernel_rfl)
theorem ti25 : TI Try.prog 25 1 4 (.int .u32 0) := TI.of (by kernel_rfl)
theorem ti26 : TI Try.prog 26 16 64 (.agg #[.int .u32 0, .int .u32 0, .int .u32 0, .int .u32 0, .int .u32 0, .int .u32 0, .int .u32 0, .int .u32 0, .int .u32 0, .int .u32 0, .int .u32 0, .int .u32 0, .int .u32 0, .int .u32 0, .int .u32 0, .int .u32 0]) := TI.of (by kernel_rfl)
theorem ti27 : TI Try.prog 27 16 64 (.agg #[.int .u32 0, .int .u32 0, .int .u32 0, .int .u32 0, .int .u32 0, .int .u32 0, .int .u32 0, .int .u32 0, .int .u32 0, .int .u32 0, .int .u32 0, .int .u32 0, .int .u32 0, .int .u32 0, .int .u32 0, .int .u32 0]) := TI.of (by kernel_rfl)
theorem ti28 : TI Try.prog 28 1 8 (.map none) := TI.of (by kernel_rfl)
theorem en20 : Enters Try.prog 20 := enters_of Try.func20 (by kernel_rfl) rfl
theorem en21 : Enters Try.prog 21 := enters_of Try.func21 (by kernel_rfl) rfl
theorem en22 : Enters Try.prog 22 := enters_of Try.func22 (by kernel_rfl) rfl
theorem en23 : Enters Try.prog 23 := enters_of Try.func23 (by kernel_rfl) rfl
theorem en24 : Enters Try.prog 24 := enters_of Try.func24 (by kernel_rfl) rfl
theorem en25 : Enters Try.prog 25 := enters_of Try.func25 (by kernel_rfl) rfl
theorem en111 : Enters Try.prog 111 := enters_of Try.func111 (by kernel_rfl) rfl
theorem en112 : Enters Try.prog 112 := enters_of Try.func112 (by kernel_rfl) rfl
theorem en113 : Enters Try.prog 113 := enters_of Try.func113 (by kernel_rfl) rfl
theorem en114 : Enters Try.prog 114 := enters_of Try.func114 (by kernel_rfl) rfl
theorem en173 : Enters Try.prog 173 := enters_of Try.func173 (by kernel_rfl) rfl
theorem en185 : Enters Try.prog 185 := enters_of Try.func185 (by kernel_rfl) rfl
theorem en186 : Enters Try.prog 186 := enters_of Try.func186 (by kernel_rfl) rfl
theorem en187 : Enters Try.prog 187 := enters_of Try.func187 (by kernel_rfl) rfl
theorem en188 : Enters Try.prog 188 := enters_of Try.func188 (by kernel_rfl) rfl
theorem en240 : Enters Try.prog 240 := enters_of Try.func240 (by kernel_rfl) rfl
theorem eqv26 : EqV Try.prog 2 26 (List.replicate 16 .u32) := eq_arr Try.underlying26 ti25 rfl (eq_int Try.underlying25)
theorem eg26 : Try.prog.eqGuardType Try.prog.depth 26 = false := by kernel_rfl
theorem eqv27 : EqV Try.prog 2 27 (List.replicate 16 .u32) := eq_arr Try.underlying27 ti25 rfl (eq_int Try.underlying25)
theorem eg27 : Try.prog.eqGuardType Try.prog.depth 27 = false := by kernel_rfl
end Go.Proofs.Ytpjpaipkkcengaa
set_option linter.unusedSimpArgs false
set_option linter.unusedVariables false
set_option maxHeartbeats 800000
set_option maxRecDepth 100000
namespace Go.Proofs.Ytpjpaipkkcengaa
open Go.RowKit
/-- a row that is turned, number by number, up to place k -/
def mixv (op : Int → Int → Int) (a b : List Int) (k : Nat) : List Int := List.zipWith op (a.take k) (b.take k) ++ a.drop k
section
variable {op : Int → Int → Int} {a b : List Int} {k : Nat}
theorem mixv_len (h : b.length = a.length) : (mixv op a b k).length = a.length := by simp [mixv, h]; omega
theorem set_getD0 (l : List Int) (d : Nat) : l.set d (l.getD d 0) = l := by
  by_cases h : d < l.length
  · rw [List.getD_eq_getElem?_getD, List.getElem?_eq_getElem h]; simp
  · rw [List.set_eq_of_length_le (by omega)]
theorem mixv_zero : mixv op a b 0 = a := by simp [mixv]
theorem mixv_all (h : b.length = a.length) : mixv op a b a.length = List.zipWith op a b := by
  have e : b.take a.length = b := by rw [← h, List.take_length]
  simp [mixv, e]
theorem mixv_get (h : b.length = a.length) (hk : k < a.length) : (mixv op a b k).getD k 0 = a.getD k 0 := by
  have hl : (List.zipWith op (a.take k) (b.take k)).length = k := by simp [h]; omega
  simp only [mixv, List.getD_eq_getElem?_getD]
  rw [List.getElem?_append_right (by omega), hl, Nat.sub_self, List.getElem?_drop]; simp
theorem mixv_set (h : b.length = a.length) (hk : k < a.length) : (mixv op a b k).set k (op (a.getD k 0) (b.getD k 0)) = mixv op a b (k + 1) := by
  have hl : (List.zipWith op (a.take k) (b.take k)).length = k := by simp [h]; omega
  simp only [mixv]
  rw [List.set_append_right _ _ (by omega), hl, Nat.sub_self, List.drop_eq_getElem_cons hk, List.set_cons_zero]
  have hk' : k < b.length := by omega
  rw [List.take_succ_eq_append_getElem hk, List.take_succ_eq_append_getElem hk', List.zipWith_append (by simp [h])]
  simp [List.getD_eq_getElem?_getD, List.getElem?_eq_getElem hk, List.getElem?_eq_getElem hk']
end

theorem c_vecJoin1 (x y : Int) (w0 : World) :
    CallR Try.prog 187 #[.int .u32 x, .int .u32 y] w0 fun v w' => v = .int .u32 (max x y) ∧ w0 = w' := by
 have hS : St NoB w0 w0 [] := St.start w0
 refine c_enter (l := [.int .u32 x, .int .u32 y, undef, undef, undef, undef, undef, undef]) Try.func187 rfl (by simp only [Try.ntmps187, List.size_toArray, List.length_cons, List.length_nil, Nat.reduceAdd, Nat.reduceSub, Array.replicate_succ, Array.replicate_zero, List.push_toArray, List.append_toArray, List.nil_append, List.cons_append]) ?_
 refine x_seq fun K1 hK1 => ?_
 refine x_region ?_
 refine s_go (s_assign) ?_
 try simp only [opv, n1, n2, n3, n4, Value.cells]
 refine x_nil ?_
 refine hK1 _ _ ?_
 refine x_seq fun K2 hK2 => ?_
 refine x_region ?_
 refine s_go (s_move) ?_
 try simp only [opv, n1, n2, n3, n4, Value.cells]
 refine s_go (s_move) ?_
 try simp only [opv, n1, n2, n3, n4, Value.cells]
 refine s_go (s_max) ?_
 try simp only [opv, n1, n2, n3, n4, Value.cells]
 refine s_go (s_assign) ?_
 try simp only [opv, n1, n2, n3, n4, Value.cells]
 refine x_nil ?_
 refine hK2 _ _ ?_
 refine x_ret ?_
 refine r_tmp rfl ?_
 exact ⟨rfl, rfl⟩
theorem c_vecBothJoin (a b : List Int) (ha : a.length = 16) (hb : b.length = 16) (w0 : World) :
    CallR Try.prog 186 #[.agg (ic .u32 a), .agg (ic .u32 b), .func (.func 187) #[] #[]] w0 fun v w' => v = .agg (ic .u32 (List.zipWith max a b)) ∧ Ext w0 w' := by
 have hS : St NoB w0 w0 [] := St.start w0
 refine c_enter (l := [.agg (ic .u32 a), .agg (ic .u32 b), .func (.func 187) #[] #[], undef, undef, undef, undef, undef, undef, undef, undef, undef, undef, undef, undef, undef, undef, undef, undef, undef, undef, undef, undef, undef]) Try.func186 rfl (by simp only [Try.ntmps186, List.size_toArray, List.length_cons, List.length_nil, Nat.reduceAdd, Nat.reduceSub, Array.replicate_succ, Array.replicate_zero, List.push_toArray, List.append_toArray, List.nil_append, List.cons_append]) ?_
 refine x_seq fun K1 hK1 => ?_
 refine x_region ?_
 refine m_box hS (fun w1 g1 hS => ?_)
 try simp only [opv, n1, n2, n3, n4, Value.cells, Array.toArray_toList] at hS ⊢
 refine m_box hS (fun w2 g2 hS => ?_)
 try simp only [opv, n1, n2, n3, n4, Value.cells, Array.toArray_toList] at hS ⊢
 refine m_alloc ti27 hS (fun w3 g3 hS => ?_)
 try simp only [opv, n1, n2, n3, n4, Value.cells, Array.toArray_toList] at hS ⊢
 refine x_nil ?_
 refine hK1 _ _ ?_
 refine x_seq fun K2 hK2 => ?_
 refine x_seq fun K3 hK3 => ?_
 refine x_region ?_
 refine s_go (m_load_row Try.underlying27 (hi := ti27) (hS := hS)) ?_
 try simp only [opv, n1, n2, n3, n4, Value.cells, List.getElem_toArray, List.getElem_cons_zero, List.getElem_cons_succ]
 refine s_go (s_move) ?_
 try simp only [opv, n1, n2, n3, n4, Value.cells]
 refine x_nil ?_
 refine hK3 _ _ ?_
 refine x_block ?_
 refine x_loop [7, 8, 10, 11, 12, 13, 14, 15, 16, 17, 18, 19, 20, 21, 22] (fun m f w => ∃ k : Nat, k ≤ 16 ∧ m = 16 - k ∧ f 10 = .int .i64 (k : Int) ∧ St NoB w0 w [.obj g3 (.cells (ic .u32 (List.replicate 16 0)) 27 (0, 0)), .obj g2 (.cells (ic .u32 b) 27 (0, 0)), .obj g1 (.cells (ic .u32 (mixv max a b k)) 27 (0, 0))]) (16) ?init1 (fun m1 f1 wl1 hI => ?_)
 case init1 =>
  try simp only [opv, n1, n2, n3, n4, Value.cells]
  exact ⟨0, by omega, rfl, rfl, by rw [mixv_zero]; exact hS⟩
 obtain ⟨k, hk, hm, h10, hS⟩ := hI
 simp only [clob, List.foldl, n3, n4, h10]
 have hml : (mixv max a b k).length = 16 := by rw [mixv_len (by omega), ha]
 refine x_seq fun K4 hK4 => ?_
 refine x_region ?_
 refine s_go (s_lss) ?_
 try simp only [opv, n1, n2, n3, n4, Value.cells]
 refine x_nil ?_
 refine hK4 _ _ ?_
 refine x_seq fun K5 hK5 => ?_
 refine x_cond (ht := fun hc1 => ?_) (hf := fun hc1 => ?_)
 ·
  try simp only [decide_eq_true_eq, decide_eq_false_iff_not, Bool.not_eq_true', Bool.not_eq_false', Int.not_lt, Int.not_le, ne_eq, Decidable.not_not, bne_iff_ne, beq_iff_eq, not_true_eq_false, not_false_eq_true] at hc1
  refine x_skip ?_
  refine hK5 _ _ ?_
  refine x_seq fun K6 hK6 => ?_
  refine x_block ?_
  refine x_seq fun K7 hK7 => ?_
  refine x_region ?_
  refine s_go (s_move) ?_
  try simp only [opv, n1, n2, n3, n4, Value.cells]
  refine s_go (s_index_one Try.underlying27 ti25 Try.underlying25) ?_
  try simp only [opv, n1, n2, n3, n4, Value.cells, Nat.mul_one, Nat.zero_add, Int.toNat_natCast, Int.reduceToNat]
  refine s_go (s_assign) ?_
  try simp only [opv, n1, n2, n3, n4, Value.cells]
  refine s_go (s_assign) ?_
  try simp only [opv, n1, n2, n3, n4, Value.cells]
  refine x_nil ?_
  refine hK7 _ _ ?_
  refine x_region ?_
  refine s_go (s_move) ?_
  try simp only [opv, n1, n2, n3, n4, Value.cells]
  refine s_go (s_move) ?_
  try simp only [opv, n1, n2, n3, n4, Value.cells]
  refine s_go (s_move) ?_
  try simp only [opv, n1, n2, n3, n4, Value.cells]
  refine s_go (m_indexAddr_arr Try.underlying27 ti25) ?_
  try simp only [opv, n1, n2, n3, n4, Value.cells, Nat.mul_one, Nat.zero_add, Int.toNat_natCast, Int.reduceToNat]
  refine s_go (m_load_obj Try.underlying25 (hS := hS)) ?_
  try simp only [opv, n1, n2, n3, n4, Value.cells, List.getElem_toArray, List.getElem_cons_zero, List.getElem_cons_succ]
  refine s_go (s_move) ?_
  try simp only [opv, n1, n2, n3, n4, Value.cells]
  refine s_callv (hv := rfl) en187 ?_
  try simp only [opv, n1, n2, n3, n4, Value.cells, List.map_toArray, List.map_cons, List.map_nil, List.append_toArray, List.cons_append, List.nil_append, Array.append_empty]
  refine CallR.mono (c_vecJoin1 _ _ _) ?_
  rintro _ _ ⟨rfl, rfl⟩
  try simp only [opv, n1, n2, n3, n4, Value.cells]
  refine s_go (m_indexAddr_arr Try.underlying27 ti25) ?_
  try simp only [opv, n1, n2, n3, n4, Value.cells, Nat.mul_one, Nat.zero_add, Int.toNat_natCast, Int.reduceToNat]
  refine m_store_obj ti25 (hS := hS) (h := fun w5 hS => ?_)
  try simp only [opv, n1, n2, n3, n4, Value.cells, Array.toArray_toList] at hS ⊢
  refine x_nil ?_
  refine hK6 _ _ ?_
  refine x_region ?_
  refine s_go (s_add (hc := by exact wr_i64 (by omega) (by omega))) ?_
  try simp only [opv, n1, n2, n3, n4, Value.cells]
  refine s_go (s_move) ?_
  try simp only [opv, n1, n2, n3, n4, Value.cells]
  refine x_nil ?_
  refine loop_back (m' := 16 - (k + 1)) (by simp only [clob, List.foldl, n1, n2, n3, n4]) ?_ ?_
  · try simp only [opv, n1, n2, n3, n4, Value.cells]
    exact ⟨k + 1, by omega, by omega, by rfl, by rw [← mixv_set (by omega) (by omega), ← mixv_get (op := max) (b := b) (k := k) (by omega) (by omega)]; exact hS⟩
  · omega
 ·
  try simp only [decide_eq_true_eq, decide_eq_false_iff_not, Bool.not_eq_true', Bool.not_eq_false', Int.not_lt, Int.not_le, ne_eq, Decidable.not_not, bne_iff_ne, beq_iff_eq, not_true_eq_false, not_false_eq_true] at hc1
  obtain rfl : k = 16 := by omega
  refine x_exit (look_here ?_)
  refine hK2 _ _ ?_
  refine x_seq fun K8 hK8 => ?_
  refine x_region ?_
  refine s_go (m_load_row Try.underlying27 (hi := ti27) (hS := hS)) ?_
  try simp only [opv, n1, n2, n3, n4, Value.cells, List.getElem_toArray, List.getElem_cons_zero, List.getElem_cons_succ]
  refine m_store_obj ti27 (hS := hS) (h := fun w6 hS => ?_)
  try simp only [opv, n1, n2, n3, n4, Value.cells, Array.toArray_toList] at hS ⊢
  refine x_nil ?_
  refine hK8 _ _ ?_
  refine x_ret ?_
  refine r_cell_agg rfl Try.underlying27 ti27 (hS := hS) (hR := ?_)
  exact ⟨by rw [← mixv_all (by omega), ha], hS.ext_of⟩
theorem c_vecMeet1 (x y : Int) (w0 : World) :
    CallR Try.prog 240 #[.int .u32 x, .int .u32 y] w0 fun v w' => v = .int .u32 (min x y) ∧ w0 = w' := by
 have hS : St NoB w0 w0 [] := St.start w0
 refine c_enter (l := [.int .u32 x, .int .u32 y, undef, undef, undef, undef, undef, undef]) Try.func240 rfl (by simp only [Try.ntmps240, List.size_toArray, List.length_cons, List.length_nil, Nat.reduceAdd, Nat.reduceSub, Array.replicate_succ, Array.replicate_zero, List.push_toArray, List.append_toArray, List.nil_append, List.cons_append]) ?_
 refine x_seq fun K1 hK1 => ?_
 refine x_region ?_
 refine s_go (s_assign) ?_
 try simp only [opv, n1, n2, n3, n4, Value.cells]
 refine x_nil ?_
 refine hK1 _ _ ?_
 refine x_seq fun K2 hK2 => ?_
 refine x_region ?_
 refine s_go (s_move) ?_
 try simp only [opv, n1, n2, n3, n4, Value.cells]
 refine s_go (s_move) ?_
 try simp only [opv, n1, n2, n3, n4, Value.cells]
 refine s_go (s_min) ?_
 try simp only [opv, n1, n2, n3, n4, Value.cells]
 refine s_go (s_assign) ?_
 try simp only [opv, n1, n2, n3, n4, Value.cells]
 refine x_nil ?_
 refine hK2 _ _ ?_
 refine x_ret ?_
 refine r_tmp rfl ?_
 exact ⟨rfl, rfl⟩
theorem c_vecBothMeet (a b : List Int) (ha : a.length = 16) (hb : b.length = 16) (w0 : World) :
    CallR Try.prog 186 #[.agg (ic .u32 a), .agg (ic .u32 b), .func (.func 240) #[] #[]] w0 fun v w' => v = .agg (ic .u32 (List.zipWith min a b)) ∧ Ext w0 w' := by
 have hS : St NoB w0 w0 [] := St.start w0
 refine c_enter (l := [.agg (ic .u32 a), .agg (ic .u32 b), .func (.func 240) #[] #[], undef, undef, undef, undef, undef, undef, undef, undef, undef, undef, undef, undef, undef, undef, undef, undef, undef, undef, undef, undef, undef]) Try.func186 rfl (by simp only [Try.ntmps186, List.size_toArray, List.length_cons, List.length_nil, Nat.reduceAdd, Nat.reduceSub, Array.replicate_succ, Array.replicate_zero, List.push_toArray, List.append_toArray, List.nil_append, List.cons_append]) ?_
 refine x_seq fun K1 hK1 => ?_
 refine x_region ?_
 refine m_box hS (fun w1 g1 hS => ?_)
 try simp only [opv, n1, n2, n3, n4, Value.cells, Array.toArray_toList] at hS ⊢
 refine m_box hS (fun w2 g2 hS => ?_)
 try simp only [opv, n1, n2, n3, n4, Value.cells, Array.toArray_toList] at hS ⊢
 refine m_alloc ti27 hS (fun w3 g3 hS => ?_)
 try simp only [opv, n1, n2, n3, n4, Value.cells, Array.toArray_toList] at hS ⊢
 refine x_nil ?_
 refine hK1 _ _ ?_
 refine x_seq fun K2 hK2 => ?_
 refine x_seq fun K3 hK3 => ?_
 refine x_region ?_
 refine s_go (m_load_row Try.underlying27 (hi := ti27) (hS := hS)) ?_
 try simp only [opv, n1, n2, n3, n4, Value.cells, List.getElem_toArray, List.getElem_cons_zero, List.getElem_cons_succ]
 refine s_go (s_move) ?_
 try simp only [opv, n1, n2, n3, n4, Value.cells]
 refine x_nil ?_
 refine hK3 _ _ ?_
 refine x_block ?_
 refine x_loop [7, 8, 10, 11, 12, 13, 14, 15, 16, 17, 18, 19, 20, 21, 22] (fun m f w => ∃ k : Nat, k ≤ 16 ∧ m = 16 - k ∧ f 10 = .int .i64 (k : Int) ∧ St NoB w0 w [.obj g3 (.cells (ic .u32 (List.replicate 16 0)) 27 (0, 0)), .obj g2 (.cells (ic .u32 b) 27 (0, 0)), .obj g1 (.cells (ic .u32 (mixv min a b k)) 27 (0, 0))]) (16) ?init1 (fun m1 f1 wl1 hI => ?_)
 case init1 =>
  try simp only [opv, n1, n2, n3, n4, Value.cells]
  exact ⟨0, by omega, rfl, rfl, by rw [mixv_zero]; exact hS⟩
 obtain ⟨k, hk, hm, h10, hS⟩ := hI
 simp only [clob, List.foldl, n3, n4, h10]
 have hml : (mixv min a b k).length = 16 := by rw [mixv_len (by omega), ha]
 refine x_seq fun K4 hK4 => ?_
 refine x_region ?_
 refine s_go (s_lss) ?_
 try simp only [opv, n1, n2, n3, n4, Value.cells]
 refine x_nil ?_
 refine hK4 _ _ ?_
 refine x_seq fun K5 hK5 => ?_
 refine x_cond (ht := fun hc1 => ?_) (hf := fun hc1 => ?_)
 ·
  try simp only [decide_eq_true_eq, decide_eq_false_iff_not, Bool.not_eq_true', Bool.not_eq_false', Int.not_lt, Int.not_le, ne_eq, Decidable.not_not, bne_iff_ne, beq_iff_eq, not_true_eq_false, not_false_eq_true] at hc1
  refine x_skip ?_
  refine hK5 _ _ ?_
  refine x_seq fun K6 hK6 => ?_
  refine x_block ?_
  refine x_seq fun K7 hK7 => ?_
  refine x_region ?_
  refine s_go (s_move) ?_
  try simp only [opv, n1, n2, n3, n4, Value.cells]
  refine s_go (s_index_one Try.underlying27 ti25 Try.underlying25) ?_
  try simp only [opv, n1, n2, n3, n4, Value.cells, Nat.mul_one, Nat.zero_add, Int.toNat_natCast, Int.reduceToNat]
  refine s_go (s_assign) ?_
  try simp only [opv, n1, n2, n3, n4, Value.cells]
  refine s_go (s_assign) ?_
  try simp only [opv, n1, n2, n3, n4, Value.cells]
  refine x_nil ?_
  refine hK7 _ _ ?_
  refine x_region ?_
  refine s_go (s_move) ?_
  try simp only [opv, n1, n2, n3, n4, Value.cells]
  refine s_go (s_move) ?_
  try simp only [opv, n1, n2, n3, n4, Value.cells]
  refine s_go (s_move) ?_
  try simp only [opv, n1, n2, n3, n4, Value.cells]
  refine s_go (m_indexAddr_arr Try.underlying27 ti25) ?_
  try simp only [opv, n1, n2, n3, n4, Value.cells, Nat.mul_one, Nat.zero_add, Int.toNat_natCast, Int.reduceToNat]
  refine s_go (m_load_obj Try.underlying25 (hS := hS)) ?_
  try simp only [opv, n1, n2, n3, n4, Value.cells, List.getElem_toArray, List.getElem_cons_zero, List.getElem_cons_succ]
  refine s_go (s_move) ?_
  try simp only [opv, n1, n2, n3, n4, Value.cells]
  refine s_callv (hv := rfl) en240 ?_
  try simp only [opv, n1, n2, n3, n4, Value.cells, List.map_toArray, List.map_cons, List.map_nil, List.append_toArray, List.cons_append, List.nil_append, Array.append_empty]
  refine CallR.mono (c_vecMeet1 _ _ _) ?_
  rintro _ _ ⟨rfl, rfl⟩
  try simp only [opv, n1, n2, n3, n4, Value.cells]
  refine s_go (m_indexAddr_arr Try.underlying27 ti25) ?_
  try simp only [opv, n1, n2, n3, n4, Value.cells, Nat.mul_one, Nat.zero_add, Int.toNat_natCast, Int.reduceToNat]
  refine m_store_obj ti25 (hS := hS) (h := fun w5 hS => ?_)
  try simp only [opv, n1, n2, n3, n4, Value.cells, Array.toArray_toList] at hS ⊢
  refine x_nil ?_
  refine hK6 _ _ ?_
  refine x_region ?_
  refine s_go (s_add (hc := by exact wr_i64 (by omega) (by omega))) ?_
  try simp only [opv, n1, n2, n3, n4, Value.cells]
  refine s_go (s_move) ?_
  try simp only [opv, n1, n2, n3, n4, Value.cells]
  refine x_nil ?_
  refine loop_back (m' := 16 - (k + 1)) (by simp only [clob, List.foldl, n1, n2, n3, n4]) ?_ ?_
  · try simp only [opv, n1, n2, n3, n4, Value.cells]
    exact ⟨k + 1, by omega, by omega, by rfl, by rw [← mixv_set (by omega) (by omega), ← mixv_get (op := min) (b := b) (k := k) (by omega) (by omega)]; exact hS⟩
  · omega
 ·
  try simp only [decide_eq_true_eq, decide_eq_false_iff_not, Bool.not_eq_true', Bool.not_eq_false', Int.not_lt, Int.not_le, ne_eq, Decidable.not_not, bne_iff_ne, beq_iff_eq, not_true_eq_false, not_false_eq_true] at hc1
  obtain rfl : k = 16 := by omega
  refine x_exit (look_here ?_)
  refine hK2 _ _ ?_
  refine x_seq fun K8 hK8 => ?_
  refine x_region ?_
  refine s_go (m_load_row Try.underlying27 (hi := ti27) (hS := hS)) ?_
  try simp only [opv, n1, n2, n3, n4, Value.cells, List.getElem_toArray, List.getElem_cons_zero, List.getElem_cons_succ]
  refine m_store_obj ti27 (hS := hS) (h := fun w6 hS => ?_)
  try simp only [opv, n1, n2, n3, n4, Value.cells, Array.toArray_toList] at hS ⊢
  refine x_nil ?_
  refine hK8 _ _ ?_
  refine x_ret ?_
  refine r_cell_agg rfl Try.underlying27 ti27 (hS := hS) (hR := ?_)
  exact ⟨by rw [← mixv_all (by omega), ha], hS.ext_of⟩

def vjoin (a b : List Int) : List Int := List.zipWith max a b
def vmeet (a b : List Int) : List Int := List.zipWith min a b
def vleq (a b : List Int) : Bool := decide (vmeet a b = a)
def vcmp (a b : List Int) : Int := if a = b then 0 else if vmeet a b = a then 1 else if vmeet a b = b then 2 else 3
@[simp] theorem vjoin_len (a b : List Int) : (vjoin a b).length = min a.length b.length := by simp [vjoin]
@[simp] theorem vmeet_len (a b : List Int) : (vmeet a b).length = min a.length b.length := by simp [vmeet]
theorem vmeet_comm (a b : List Int) : vmeet a b = vmeet b a := by
  unfold vmeet
  rw [List.zipWith_comm]
  congr 1
  funext x y
  exact Int.min_comm y x
theorem vjoin_iff : ∀ (a b : List Int), b.length = a.length → (vjoin a b = b ↔ vmeet a b = a)
  | [], [], _ => by simp [vjoin, vmeet]
  | x :: a, y :: b, h => by
    have := vjoin_iff a b (by simpa using h)
    simp only [vjoin, vmeet, List.zipWith_cons_cons, List.cons.injEq] at this ⊢
    rw [this]
    constructor <;> rintro ⟨h1, h2⟩ <;> exact ⟨by omega, h2⟩

theorem c_vecJoin (a b : List Int) (ha : a.length = 16) (hb : b.length = 16) (w0 : World) :
    CallR Try.prog 112 #[.agg (ic .u32 a), .agg (ic .u32 b)] w0 fun v w' => v = .agg (ic .u32 (vjoin a b)) ∧ Ext w0 w' := by
 have hS : St NoB w0 w0 [] := St.start w0
 refine c_enter (l := [.agg (ic .u32 a), .agg (ic .u32 b), undef, undef, undef, undef, undef, undef]) Try.func112 rfl (by simp only [Try.ntmps112, List.size_toArray, List.length_cons, List.length_nil, Nat.reduceAdd, Nat.reduceSub, Array.replicate_succ, Array.replicate_zero, List.push_toArray, List.append_toArray, List.nil_append, List.cons_append]) ?_
 refine x_seq fun K1 hK1 => ?_
 refine x_region ?_
 refine m_box hS (fun w1 g1 hS => ?_)
 try simp only [opv, n1, n2, n3, n4, Value.cells, Array.toArray_toList] at hS ⊢
 refine m_box hS (fun w2 g2 hS => ?_)
 try simp only [opv, n1, n2, n3, n4, Value.cells, Array.toArray_toList] at hS ⊢
 refine m_alloc ti27 hS (fun w3 g3 hS => ?_)
 try simp only [opv, n1, n2, n3, n4, Value.cells, Array.toArray_toList] at hS ⊢
 refine x_nil ?_
 refine hK1 _ _ ?_
 refine x_seq fun K2 hK2 => ?_
 refine x_region ?_
 refine s_go (m_load_row Try.underlying27 (hi := ti27) (hS := hS)) ?_
 try simp only [opv, n1, n2, n3, n4, Value.cells, List.getElem_toArray, List.getElem_cons_zero, List.getElem_cons_succ]
 refine s_go (m_load_row Try.underlying27 (hi := ti27) (hS := hS)) ?_
 try simp only [opv, n1, n2, n3, n4, Value.cells, List.getElem_toArray, List.getElem_cons_zero, List.getElem_cons_succ]
 refine s_call en186 ?_
 try simp only [opv, n1, n2, n3, n4, Value.cells, List.map_toArray, List.map_cons, List.map_nil, List.append_toArray, List.cons_append, List.nil_append, Array.append_empty]
 refine CallR.mono (c_vecBothJoin a b ha hb _) ?_
 rintro _ w4 ⟨rfl, hE4⟩
 replace hS := hS.ext hE4
 try simp only [opv, n1, n2, n3, n4, Value.cells]
 refine m_store_obj ti27 (hS := hS) (h := fun w5 hS => ?_)
 try simp only [opv, n1, n2, n3, n4, Value.cells, Array.toArray_toList] at hS ⊢
 refine x_nil ?_
 refine hK2 _ _ ?_
 refine x_ret ?_
 refine r_cell_agg rfl Try.underlying27 ti27 (hS := hS) (hR := ?_)
 exact ⟨rfl, hS.ext_of⟩
theorem c_ref12Join (a b : List Int) (ha : a.length = 16) (hb : b.length = 16) (w0 : World) :
    CallR Try.prog 173 #[.agg (ic .u32 a), .agg (ic .u32 b)] w0 fun v w' => v = .agg (ic .u32 (vjoin a b)) ∧ Ext w0 w' := by
 have hS : St NoB w0 w0 [] := St.start w0
 refine c_enter (l := [.agg (ic .u32 a), .agg (ic .u32 b), undef, undef, undef, undef, undef, undef, undef, undef, undef, undef, undef, undef, undef, undef, undef, undef, undef, undef, undef, undef, undef]) Try.func173 rfl (by simp only [Try.ntmps173, List.size_toArray, List.length_cons, List.length_nil, Nat.reduceAdd, Nat.reduceSub, Array.replicate_succ, Array.replicate_zero, List.push_toArray, List.append_toArray, List.nil_append, List.cons_append]) ?_
 refine x_seq fun K1 hK1 => ?_
 refine x_region ?_
 refine m_box hS (fun w1 g1 hS => ?_)
 try simp only [opv, n1, n2, n3, n4, Value.cells, Array.toArray_toList] at hS ⊢
 refine m_box hS (fun w2 g2 hS => ?_)
 try simp only [opv, n1, n2, n3, n4, Value.cells, Array.toArray_toList] at hS ⊢
 refine m_alloc ti26 hS (fun w3 g3 hS => ?_)
 try simp only [opv, n1, n2, n3, n4, Value.cells, Array.toArray_toList] at hS ⊢
 refine x_nil ?_
 refine hK1 _ _ ?_
 refine x_seq fun K2 hK2 => ?_
 refine x_seq fun K3 hK3 => ?_
 refine x_region ?_
 refine s_go (s_assign) ?_
 try simp only [opv, n1, n2, n3, n4, Value.cells]
 refine x_nil ?_
 refine hK3 _ _ ?_
 refine x_block ?_
 refine x_loop [5, 6, 7, 8, 9, 10, 11, 12, 13, 14, 15, 16, 17, 18, 19, 20, 21] (fun m f w => ∃ k : Nat, k ≤ 16 ∧ m = 16 - k ∧ f 5 = .int .i64 (k : Int) ∧ St NoB w0 w [.obj g3 (.cells (ic .u32 (List.replicate 16 0)) 26 (0, 0)), .obj g2 (.cells (ic .u32 b) 26 (0, 0)), .obj g1 (.cells (ic .u32 (mixv max a b k)) 26 (0, 0))]) (16) ?init1 (fun m1 f1 wl1 hI => ?_)
 case init1 =>
  try simp only [opv, n1, n2, n3, n4, Value.cells]
  exact ⟨0, by omega, rfl, rfl, by rw [mixv_zero]; exact hS⟩
 obtain ⟨k, hk, hm, h5, hS⟩ := hI
 simp only [clob, List.foldl, n3, n4, h5]
 have hml : (mixv max a b k).length = 16 := by rw [mixv_len (by omega), ha]
 refine x_seq fun K4 hK4 => ?_
 refine x_seq fun K5 hK5 => ?_
 refine x_region ?_
 refine s_go (s_move) ?_
 try simp only [opv, n1, n2, n3, n4, Value.cells]
 refine s_go (s_lss) ?_
 try simp only [opv, n1, n2, n3, n4, Value.cells]
 refine x_nil ?_
 refine hK5 _ _ ?_
 refine x_cond (ht := fun hc1 => ?_) (hf := fun hc1 => ?_)
 ·
  try simp only [decide_eq_true_eq, decide_eq_false_iff_not, Bool.not_eq_true', Bool.not_eq_false', Int.not_lt, Int.not_le, ne_eq, Decidable.not_not, bne_iff_ne, beq_iff_eq, not_true_eq_false, not_false_eq_true] at hc1
  refine x_skip ?_
  refine hK4 _ _ ?_
  refine x_seq fun K6 hK6 => ?_
  refine x_block ?_
  refine x_seq fun K7 hK7 => ?_
  refine x_quiet (by kernel_rfl) (by kernel_rfl) hS ?_
  refine q_go (fun w hS => s_move) ?_
  try simp only [opv, n1, n2, n3, n4, Value.cells]
  refine q_go (fun w hS => m_indexAddr_arr Try.underlying26 ti25) ?_
  try simp only [opv, n1, n2, n3, n4, Value.cells, Nat.mul_one, Nat.zero_add, Int.toNat_natCast, Int.reduceToNat]
  refine q_go (fun w hS => m_load_obj Try.underlying25 (hS := hS)) ?_
  try simp only [opv, n1, n2, n3, n4, Value.cells, List.getElem_toArray, List.getElem_cons_zero, List.getElem_cons_succ]
  refine q_go (fun w hS => s_move) ?_
  try simp only [opv, n1, n2, n3, n4, Value.cells]
  refine q_go (fun w hS => m_indexAddr_arr Try.underlying26 ti25) ?_
  try simp only [opv, n1, n2, n3, n4, Value.cells, Nat.mul_one, Nat.zero_add, Int.toNat_natCast, Int.reduceToNat]
  refine q_go (fun w hS => m_load_obj Try.underlying25 (hS := hS)) ?_
  try simp only [opv, n1, n2, n3, n4, Value.cells, List.getElem_toArray, List.getElem_cons_zero, List.getElem_cons_succ]
  refine q_go (fun w hS => s_gtr) ?_
  try simp only [opv, n1, n2, n3, n4, Value.cells]
  clear hS
  refine q_nil fun w4 hS => ?_
  refine hK7 _ _ ?_
  refine x_cond (ht := fun hc2 => ?_) (hf := fun hc2 => ?_)
  ·
   try simp only [decide_eq_true_eq, decide_eq_false_iff_not, Bool.not_eq_true', Bool.not_eq_false', Int.not_lt, Int.not_le, ne_eq, Decidable.not_not, bne_iff_ne, beq_iff_eq, not_true_eq_false, not_false_eq_true] at hc2
   refine x_region ?_
   refine s_go (s_move) ?_
   try simp only [opv, n1, n2, n3, n4, Value.cells]
   refine s_go (s_move) ?_
   try simp only [opv, n1, n2, n3, n4, Value.cells]
   refine s_go (m_indexAddr_arr Try.underlying26 ti25) ?_
   try simp only [opv, n1, n2, n3, n4, Value.cells, Nat.mul_one, Nat.zero_add, Int.toNat_natCast, Int.reduceToNat]
   refine s_go (m_load_obj Try.underlying25 (hS := hS)) ?_
   try simp only [opv, n1, n2, n3, n4, Value.cells, List.getElem_toArray, List.getElem_cons_zero, List.getElem_cons_succ]
   refine s_go (m_indexAddr_arr Try.underlying26 ti25) ?_
   try simp only [opv, n1, n2, n3, n4, Value.cells, Nat.mul_one, Nat.zero_add, Int.toNat_natCast, Int.reduceToNat]
   refine m_store_obj ti25 (hS := hS) (h := fun w5 hS => ?_)
   try simp only [opv, n1, n2, n3, n4, Value.cells, Array.toArray_toList] at hS ⊢
   refine x_nil ?_
   refine hK6 _ _ ?_
   refine x_region ?_
   refine s_go (s_move) ?_
   try simp only [opv, n1, n2, n3, n4, Value.cells]
   refine s_go (s_add (hc := by exact wr_i64 (by omega) (by omega))) ?_
   try simp only [opv, n1, n2, n3, n4, Value.cells]
   refine s_go (s_assign) ?_
   try simp only [opv, n1, n2, n3, n4, Value.cells]
   refine x_nil ?_
   refine loop_back (m' := 16 - (k + 1)) (by simp only [clob, List.foldl, n1, n2, n3, n4]) ?_ ?_
   · try simp only [opv, n1, n2, n3, n4, Value.cells]
     exact ⟨k + 1, by omega, by omega, by rfl, by rw [mixv_get (by omega) (by omega)] at hc2; (rw [← mixv_set (by omega) (by omega), show max (a.getD k 0) (b.getD k 0) = b.getD k 0 by omega]; exact hS)⟩
   · omega
  ·
   try simp only [decide_eq_true_eq, decide_eq_false_iff_not, Bool.not_eq_true', Bool.not_eq_false', Int.not_lt, Int.not_le, ne_eq, Decidable.not_not, bne_iff_ne, beq_iff_eq, not_true_eq_false, not_false_eq_true] at hc2
   refine x_skip ?_
   refine hK6 _ _ ?_
   refine x_region ?_
   refine s_go (s_move) ?_
   try simp only [opv, n1, n2, n3, n4, Value.cells]
   refine s_go (s_add (hc := by exact wr_i64 (by omega) (by omega))) ?_
   try simp only [opv, n1, n2, n3, n4, Value.cells]
   refine s_go (s_assign) ?_
   try simp only [opv, n1, n2, n3, n4, Value.cells]
   refine x_nil ?_
   refine loop_back (m' := 16 - (k + 1)) (by simp only [clob, List.foldl, n1, n2, n3, n4]) ?_ ?_
   · try simp only [opv, n1, n2, n3, n4, Value.cells]
     exact ⟨k + 1, by omega, by omega, by rfl, by rw [mixv_get (by omega) (by omega)] at hc2; (rw [← mixv_set (by omega) (by omega), show max (a.getD k 0) (b.getD k 0) = a.getD k 0 by omega, ← mixv_get (op := max) (b := b) (k := k) (by omega) (by omega), set_getD0]; exact hS)⟩
   · omega
 ·
  try simp only [decide_eq_true_eq, decide_eq_false_iff_not, Bool.not_eq_true', Bool.not_eq_false', Int.not_lt, Int.not_le, ne_eq, Decidable.not_not, bne_iff_ne, beq_iff_eq, not_true_eq_false, not_false_eq_true] at hc1
  obtain rfl : k = 16 := by omega
  refine x_exit (look_here ?_)
  refine hK2 _ _ ?_
  refine x_seq fun K8 hK8 => ?_
  refine x_region ?_
  refine s_go (m_load_row Try.underlying26 (hi := ti26) (hS := hS)) ?_
  try simp only [opv, n1, n2, n3, n4, Value.cells, List.getElem_toArray, List.getElem_cons_zero, List.getElem_cons_succ]
  refine m_store_obj ti26 (hS := hS) (h := fun w6 hS => ?_)
  try simp only [opv, n1, n2, n3, n4, Value.cells, Array.toArray_toList] at hS ⊢
  refine x_nil ?_
  refine hK8 _ _ ?_
  refine x_ret ?_
  refine r_cell_agg rfl Try.underlying26 ti26 (hS := hS) (hR := ?_)
  exact ⟨by rw [vjoin, ← mixv_all (by omega), ha], hS.ext_of⟩
theorem c_vecMeet (a b : List Int) (ha : a.length = 16) (hb : b.length = 16) (w0 : World) :
    CallR Try.prog 185 #[.agg (ic .u32 a), .agg (ic .u32 b)] w0 fun v w' => v = .agg (ic .u32 (vmeet a b)) ∧ Ext w0 w' := by
 have hS : St NoB w0 w0 [] := St.start w0
 refine c_enter (l := [.agg (ic .u32 a), .agg (ic .u32 b), undef, undef, undef, undef, undef, undef]) Try.func185 rfl (by simp only [Try.ntmps185, List.size_toArray, List.length_cons, List.length_nil, Nat.reduceAdd, Nat.reduceSub, Array.replicate_succ, Array.replicate_zero, List.push_toArray, List.append_toArray, List.nil_append, List.cons_append]) ?_
 refine x_seq fun K1 hK1 => ?_
 refine x_region ?_
 refine m_box hS (fun w1 g1 hS => ?_)
 try simp only [opv, n1, n2, n3, n4, Value.cells, Array.toArray_toList] at hS ⊢
 refine m_box hS (fun w2 g2 hS => ?_)
 try simp only [opv, n1, n2, n3, n4, Value.cells, Array.toArray_toList] at hS ⊢
 refine m_alloc ti27 hS (fun w3 g3 hS => ?_)
 try simp only [opv, n1, n2, n3, n4, Value.cells, Array.toArray_toList] at hS ⊢
 refine x_nil ?_
 refine hK1 _ _ ?_
 refine x_seq fun K2 hK2 => ?_
 refine x_region ?_
 refine s_go (m_load_row Try.underlying27 (hi := ti27) (hS := hS)) ?_
 try simp only [opv, n1, n2, n3, n4, Value.cells, List.getElem_toArray, List.getElem_cons_zero, List.getElem_cons_succ]
 refine s_go (m_load_row Try.underlying27 (hi := ti27) (hS := hS)) ?_
 try simp only [opv, n1, n2, n3, n4, Value.cells, List.getElem_toArray, List.getElem_cons_zero, List.getElem_cons_succ]
 refine s_call en186 ?_
 try simp only [opv, n1, n2, n3, n4, Value.cells, List.map_toArray, List.map_cons, List.map_nil, List.append_toArray, List.cons_append, List.nil_append, Array.append_empty]
 refine CallR.mono (c_vecBothMeet a b ha hb _) ?_
 rintro _ w4 ⟨rfl, hE4⟩
 replace hS := hS.ext hE4
 try simp only [opv, n1, n2, n3, n4, Value.cells]
 refine m_store_obj ti27 (hS := hS) (h := fun w5 hS => ?_)
 try simp only [opv, n1, n2, n3, n4, Value.cells, Array.toArray_toList] at hS ⊢
 refine x_nil ?_
 refine hK2 _ _ ?_
 refine x_ret ?_
 refine r_cell_agg rfl Try.underlying27 ti27 (hS := hS) (hR := ?_)
 exact ⟨rfl, hS.ext_of⟩
theorem c_ref12Leq (a b : List Int) (ha : a.length = 16) (hb : b.length = 16) (w0 : World) :
    CallR Try.prog 188 #[.agg (ic .u32 a), .agg (ic .u32 b)] w0 fun v w' => v = .bool (vleq a b) ∧ Ext w0 w' := by
 have hS : St NoB w0 w0 [] := St.start w0
 refine c_enter (l := [.agg (ic .u32 a), .agg (ic .u32 b), undef, undef, undef, undef, undef, undef, undef, undef]) Try.func188 rfl (by simp only [Try.ntmps188, List.size_toArray, List.length_cons, List.length_nil, Nat.reduceAdd, Nat.reduceSub, Array.replicate_succ, Array.replicate_zero, List.push_toArray, List.append_toArray, List.nil_append, List.cons_append]) ?_
 refine x_seq fun K1 hK1 => ?_
 refine x_region ?_
 refine m_box hS (fun w1 g1 hS => ?_)
 try simp only [opv, n1, n2, n3, n4, Value.cells, Array.toArray_toList] at hS ⊢
 refine m_box hS (fun w2 g2 hS => ?_)
 try simp only [opv, n1, n2, n3, n4, Value.cells, Array.toArray_toList] at hS ⊢
 refine s_go (s_assign) ?_
 try simp only [opv, n1, n2, n3, n4, Value.cells]
 refine x_nil ?_
 refine hK1 _ _ ?_
 refine x_seq fun K2 hK2 => ?_
 refine x_quiet (by kernel_rfl) (by kernel_rfl) hS ?_
 refine q_go (fun w hS => m_load_row Try.underlying26 (hi := ti26) (hS := hS)) ?_
 try simp only [opv, n1, n2, n3, n4, Value.cells, List.getElem_toArray, List.getElem_cons_zero, List.getElem_cons_succ]
 refine q_go (fun w hS => m_load_row Try.underlying26 (hi := ti26) (hS := hS)) ?_
 try simp only [opv, n1, n2, n3, n4, Value.cells, List.getElem_toArray, List.getElem_cons_zero, List.getElem_cons_succ]
 apply q_call en173
 case H =>
   intro w hS
   try simp only [opv, n1, n2, n3, n4, List.map_toArray, List.map_cons, List.map_nil, List.append_toArray, List.cons_append, List.nil_append, Array.append_empty]
   refine CallR.mono (c_ref12Join _ _ (by assumption) (by assumption) _) ?_
   rintro _ w1 ⟨rfl, hE⟩; exact ⟨rfl, hS.ext hE⟩
 try simp only [opv, n1, n2, n3, n4, Value.cells]
 refine q_go (fun w hS => m_load_row Try.underlying26 (hi := ti26) (hS := hS)) ?_
 try simp only [opv, n1, n2, n3, n4, Value.cells, List.getElem_toArray, List.getElem_cons_zero, List.getElem_cons_succ]
 refine q_go (fun w hS => s_eql_agg eqv26 (hg := eg26) (hX := zi_ic (by (simp [vmeet_len, vjoin_len, *]; done))) (hY := zi_ic (by assumption)) (h1 := by (simp [vmeet_len, vjoin_len, *]; done)) (h2 := by assumption)) ?_
 try simp only [opv, n1, n2, n3, n4, Value.cells]
 refine q_go (fun w hS => s_assign) ?_
 try simp only [opv, n1, n2, n3, n4, Value.cells]
 clear hS
 refine q_nil fun w3 hS => ?_
 refine hK2 _ _ ?_
 refine x_ret ?_
 refine r_tmp rfl ?_
 exact ⟨by simp only [n1, n2, vleq, vjoin_iff a b (by omega)], hS.ext_of⟩
theorem c_vecCompare (a b : List Int) (ha : a.length = 16) (hb : b.length = 16) (w0 : World) :
    CallR Try.prog 111 #[.agg (ic .u32 a), .agg (ic .u32 b)] w0 fun v w' => v = .int .i64 (vcmp a b) ∧ Ext w0 w' := by
 have hS : St NoB w0 w0 [] := St.start w0
 refine c_enter (l := [.agg (ic .u32 a), .agg (ic .u32 b), undef, undef, undef, undef, undef, undef, undef, undef, undef, undef, undef, undef, undef, undef, undef, undef, undef, undef, undef]) Try.func111 rfl (by simp only [Try.ntmps111, List.size_toArray, List.length_cons, List.length_nil, Nat.reduceAdd, Nat.reduceSub, Array.replicate_succ, Array.replicate_zero, List.push_toArray, List.append_toArray, List.nil_append, List.cons_append]) ?_
 refine x_seq fun K1 hK1 => ?_
 refine x_region ?_
 refine m_box hS (fun w1 g1 hS => ?_)
 try simp only [opv, n1, n2, n3, n4, Value.cells, Array.toArray_toList] at hS ⊢
 refine m_box hS (fun w2 g2 hS => ?_)
 try simp only [opv, n1, n2, n3, n4, Value.cells, Array.toArray_toList] at hS ⊢
 refine s_go (s_assign) ?_
 try simp only [opv, n1, n2, n3, n4, Value.cells]
 refine x_nil ?_
 refine hK1 _ _ ?_
 refine x_seq fun K2 hK2 => ?_
 refine x_seq fun K3 hK3 => ?_
 refine x_region ?_
 refine s_go (m_load_row Try.underlying27 (hi := ti27) (hS := hS)) ?_
 try simp only [opv, n1, n2, n3, n4, Value.cells, List.getElem_toArray, List.getElem_cons_zero, List.getElem_cons_succ]
 refine s_go (m_load_row Try.underlying27 (hi := ti27) (hS := hS)) ?_
 try simp only [opv, n1, n2, n3, n4, Value.cells, List.getElem_toArray, List.getElem_cons_zero, List.getElem_cons_succ]
 refine s_call en185 ?_
 try simp only [opv, n1, n2, n3, n4, Value.cells, List.map_toArray, List.map_cons, List.map_nil, List.append_toArray, List.cons_append, List.nil_append, Array.append_empty]
 refine CallR.mono (c_vecMeet _ _ (by assumption) (by assumption) _) ?_
 rintro _ w3 ⟨rfl, hE3⟩
 replace hS := hS.ext hE3
 try simp only [opv, n1, n2, n3, n4, Value.cells]
 refine m_alloc ti27 hS (fun w4 g4 hS => ?_)
 try simp only [opv, n1, n2, n3, n4, Value.cells, Array.toArray_toList] at hS ⊢
 refine m_store_obj ti27 (hS := hS) (h := fun w5 hS => ?_)
 try simp only [opv, n1, n2, n3, n4, Value.cells, Array.toArray_toList] at hS ⊢
 refine x_nil ?_
 refine hK3 _ _ ?_
 refine x_block ?_
 refine x_seq fun K4 hK4 => ?_
 refine x_region ?_
 refine s_go (m_load_row Try.underlying27 (hi := ti27) (hS := hS)) ?_
 try simp only [opv, n1, n2, n3, n4, Value.cells, List.getElem_toArray, List.getElem_cons_zero, List.getElem_cons_succ]
 refine s_go (m_load_row Try.underlying27 (hi := ti27) (hS := hS)) ?_
 try simp only [opv, n1, n2, n3, n4, Value.cells, List.getElem_toArray, List.getElem_cons_zero, List.getElem_cons_succ]
 refine s_go (s_eql_agg eqv27 (hg := eg27) (hX := zi_ic (by assumption)) (hY := zi_ic (by assumption)) (h1 := by assumption) (h2 := by assumption)) ?_
 try simp only [opv, n1, n2, n3, n4, Value.cells]
 refine s_go (s_assign) ?_
 try simp only [opv, n1, n2, n3, n4, Value.cells]
 refine x_nil ?_
 refine hK4 _ _ ?_
 refine x_cond (ht := fun hc1 => ?_) (hf := fun hc1 => ?_)
 ·
  try simp only [decide_eq_true_eq, decide_eq_false_iff_not, Bool.not_eq_true', Bool.not_eq_false', Int.not_lt, Int.not_le, ne_eq, Decidable.not_not, bne_iff_ne, beq_iff_eq, not_true_eq_false, not_false_eq_true] at hc1
  refine x_seq fun K5 hK5 => ?_
  refine x_region ?_
  refine s_go (s_assign) ?_
  try simp only [opv, n1, n2, n3, n4, Value.cells]
  refine x_nil ?_
  refine hK5 _ _ ?_
  refine x_ret ?_
  refine r_tmp rfl ?_
  exact ⟨by (simp [vcmp, *]; done), hS.ext_of⟩
 ·
  try simp only [decide_eq_true_eq, decide_eq_false_iff_not, Bool.not_eq_true', Bool.not_eq_false', Int.not_lt, Int.not_le, ne_eq, Decidable.not_not, bne_iff_ne, beq_iff_eq, not_true_eq_false, not_false_eq_true] at hc1
  refine x_seq fun K6 hK6 => ?_
  refine x_region ?_
  refine s_go (m_load_row Try.underlying27 (hi := ti27) (hS := hS)) ?_
  try simp only [opv, n1, n2, n3, n4, Value.cells, List.getElem_toArray, List.getElem_cons_zero, List.getElem_cons_succ]
  refine s_go (m_load_row Try.underlying27 (hi := ti27) (hS := hS)) ?_
  try simp only [opv, n1, n2, n3, n4, Value.cells, List.getElem_toArray, List.getElem_cons_zero, List.getElem_cons_succ]
  refine s_go (s_eql_agg eqv27 (hg := eg27) (hX := zi_ic (by (simp [vmeet_len, vjoin_len, *]; done))) (hY := zi_ic (by assumption)) (h1 := by (simp [vmeet_len, vjoin_len, *]; done)) (h2 := by assumption)) ?_
  try simp only [opv, n1, n2, n3, n4, Value.cells]
  refine s_go (s_assign) ?_
  try simp only [opv, n1, n2, n3, n4, Value.cells]
  refine x_nil ?_
  refine hK6 _ _ ?_
  refine x_cond (ht := fun hc2 => ?_) (hf := fun hc2 => ?_)
  ·
   try simp only [decide_eq_true_eq, decide_eq_false_iff_not, Bool.not_eq_true', Bool.not_eq_false', Int.not_lt, Int.not_le, ne_eq, Decidable.not_not, bne_iff_ne, beq_iff_eq, not_true_eq_false, not_false_eq_true] at hc2
   refine x_seq fun K7 hK7 => ?_
   refine x_region ?_
   refine s_go (s_assign) ?_
   try simp only [opv, n1, n2, n3, n4, Value.cells]
   refine x_nil ?_
   refine hK7 _ _ ?_
   refine x_ret ?_
   refine r_tmp rfl ?_
   exact ⟨by (simp [vcmp, *]; done), hS.ext_of⟩
  ·
   try simp only [decide_eq_true_eq, decide_eq_false_iff_not, Bool.not_eq_true', Bool.not_eq_false', Int.not_lt, Int.not_le, ne_eq, Decidable.not_not, bne_iff_ne, beq_iff_eq, not_true_eq_false, not_false_eq_true] at hc2
   refine x_seq fun K8 hK8 => ?_
   refine x_region ?_
   refine s_go (m_load_row Try.underlying27 (hi := ti27) (hS := hS)) ?_
   try simp only [opv, n1, n2, n3, n4, Value.cells, List.getElem_toArray, List.getElem_cons_zero, List.getElem_cons_succ]
   refine s_go (m_load_row Try.underlying27 (hi := ti27) (hS := hS)) ?_
   try simp only [opv, n1, n2, n3, n4, Value.cells, List.getElem_toArray, List.getElem_cons_zero, List.getElem_cons_succ]
   refine s_go (s_eql_agg eqv27 (hg := eg27) (hX := zi_ic (by (simp [vmeet_len, vjoin_len, *]; done))) (hY := zi_ic (by assumption)) (h1 := by (simp [vmeet_len, vjoin_len, *]; done)) (h2 := by assumption)) ?_
   try simp only [opv, n1, n2, n3, n4, Value.cells]
   refine s_go (s_assign) ?_
   try simp only [opv, n1, n2, n3, n4, Value.cells]
   refine x_nil ?_
   refine hK8 _ _ ?_
   refine x_cond (ht := fun hc3 => ?_) (hf := fun hc3 => ?_)
   ·
    try simp only [decide_eq_true_eq, decide_eq_false_iff_not, Bool.not_eq_true', Bool.not_eq_false', Int.not_lt, Int.not_le, ne_eq, Decidable.not_not, bne_iff_ne, beq_iff_eq, not_true_eq_false, not_false_eq_true] at hc3
    refine x_seq fun K9 hK9 => ?_
    refine x_region ?_
    refine s_go (s_assign) ?_
    try simp only [opv, n1, n2, n3, n4, Value.cells]
    refine x_nil ?_
    refine hK9 _ _ ?_
    refine x_ret ?_
    refine r_tmp rfl ?_
    exact ⟨by (simp [vcmp, *]; exact fun h => hc1 h.symm), hS.ext_of⟩
   ·
    try simp only [decide_eq_true_eq, decide_eq_false_iff_not, Bool.not_eq_true', Bool.not_eq_false', Int.not_lt, Int.not_le, ne_eq, Decidable.not_not, bne_iff_ne, beq_iff_eq, not_true_eq_false, not_false_eq_true] at hc3
    refine x_skip ?_
    refine hK2 _ _ ?_
    refine x_seq fun K10 hK10 => ?_
    refine x_region ?_
    refine s_go (s_assign) ?_
    try simp only [opv, n1, n2, n3, n4, Value.cells]
    refine x_nil ?_
    refine hK10 _ _ ?_
    refine x_ret ?_
    refine r_tmp rfl ?_
    exact ⟨by (simp [vcmp, *]; done), hS.ext_of⟩
theorem c_ref12Compare (a b : List Int) (ha : a.length = 16) (hb : b.length = 16) (w0 : World) :
    CallR Try.prog 114 #[.agg (ic .u32 a), .agg (ic .u32 b)] w0 fun v w' => v = .int .i64 (vcmp a b) ∧ Ext w0 w' := by
 have hS : St NoB w0 w0 [] := St.start w0
 refine c_enter (l := [.agg (ic .u32 a), .agg (ic .u32 b), undef, undef, undef, undef, undef, undef, undef, undef, undef, undef, undef, undef, undef, undef, undef]) Try.func114 rfl (by simp only [Try.ntmps114, List.size_toArray, List.length_cons, List.length_nil, Nat.reduceAdd, Nat.reduceSub, Array.replicate_succ, Array.replicate_zero, List.push_toArray, List.append_toArray, List.nil_append, List.cons_append]) ?_
 refine x_seq fun K1 hK1 => ?_
 refine x_region ?_
 refine m_box hS (fun w1 g1 hS => ?_)
 try simp only [opv, n1, n2, n3, n4, Value.cells, Array.toArray_toList] at hS ⊢
 refine m_box hS (fun w2 g2 hS => ?_)
 try simp only [opv, n1, n2, n3, n4, Value.cells, Array.toArray_toList] at hS ⊢
 refine s_go (s_assign) ?_
 try simp only [opv, n1, n2, n3, n4, Value.cells]
 refine x_nil ?_
 refine hK1 _ _ ?_
 refine x_seq fun K2 hK2 => ?_
 refine x_block ?_
 refine x_seq fun K3 hK3 => ?_
 refine x_region ?_
 refine s_go (m_load_row Try.underlying26 (hi := ti26) (hS := hS)) ?_
 try simp only [opv, n1, n2, n3, n4, Value.cells, List.getElem_toArray, List.getElem_cons_zero, List.getElem_cons_succ]
 refine s_go (m_load_row Try.underlying26 (hi := ti26) (hS := hS)) ?_
 try simp only [opv, n1, n2, n3, n4, Value.cells, List.getElem_toArray, List.getElem_cons_zero, List.getElem_cons_succ]
 refine s_go (s_eql_agg eqv26 (hg := eg26) (hX := zi_ic (by assumption)) (hY := zi_ic (by assumption)) (h1 := by assumption) (h2 := by assumption)) ?_
 try simp only [opv, n1, n2, n3, n4, Value.cells]
 refine s_go (s_assign) ?_
 try simp only [opv, n1, n2, n3, n4, Value.cells]
 refine x_nil ?_
 refine hK3 _ _ ?_
 refine x_cond (ht := fun hc1 => ?_) (hf := fun hc1 => ?_)
 ·
  try simp only [decide_eq_true_eq, decide_eq_false_iff_not, Bool.not_eq_true', Bool.not_eq_false', Int.not_lt, Int.not_le, ne_eq, Decidable.not_not, bne_iff_ne, beq_iff_eq, not_true_eq_false, not_false_eq_true] at hc1
  refine x_seq fun K4 hK4 => ?_
  refine x_region ?_
  refine s_go (s_assign) ?_
  try simp only [opv, n1, n2, n3, n4, Value.cells]
  refine x_nil ?_
  refine hK4 _ _ ?_
  refine x_ret ?_
  refine r_tmp rfl ?_
  exact ⟨by simp_all [vcmp, vleq, vmeet_comm b a], hS.ext_of⟩
 ·
  try simp only [decide_eq_true_eq, decide_eq_false_iff_not, Bool.not_eq_true', Bool.not_eq_false', Int.not_lt, Int.not_le, ne_eq, Decidable.not_not, bne_iff_ne, beq_iff_eq, not_true_eq_false, not_false_eq_true] at hc1
  refine x_seq fun K5 hK5 => ?_
  refine x_region ?_
  refine s_go (m_load_row Try.underlying26 (hi := ti26) (hS := hS)) ?_
  try simp only [opv, n1, n2, n3, n4, Value.cells, List.getElem_toArray, List.getElem_cons_zero, List.getElem_cons_succ]
  refine s_go (m_load_row Try.underlying26 (hi := ti26) (hS := hS)) ?_
  try simp only [opv, n1, n2, n3, n4, Value.cells, List.getElem_toArray, List.getElem_cons_zero, List.getElem_cons_succ]
  refine s_call en188 ?_
  try simp only [opv, n1, n2, n3, n4, Value.cells, List.map_toArray, List.map_cons, List.map_nil, List.append_toArray, List.cons_append, List.nil_append, Array.append_empty]
  refine CallR.mono (c_ref12Leq _ _ (by assumption) (by assumption) _) ?_
  rintro _ w3 ⟨rfl, hE3⟩
  replace hS := hS.ext hE3
  try simp only [opv, n1, n2, n3, n4, Value.cells]
  refine s_go (s_assign) ?_
  try simp only [opv, n1, n2, n3, n4, Value.cells]
  refine x_nil ?_
  refine hK5 _ _ ?_
  refine x_cond (ht := fun hc2 => ?_) (hf := fun hc2 => ?_)
  ·
   try simp only [decide_eq_true_eq, decide_eq_false_iff_not, Bool.not_eq_true', Bool.not_eq_false', Int.not_lt, Int.not_le, ne_eq, Decidable.not_not, bne_iff_ne, beq_iff_eq, not_true_eq_false, not_false_eq_true] at hc2
   refine x_seq fun K6 hK6 => ?_
   refine x_region ?_
   refine s_go (s_assign) ?_
   try simp only [opv, n1, n2, n3, n4, Value.cells]
   refine x_nil ?_
   refine hK6 _ _ ?_
   refine x_ret ?_
   refine r_tmp rfl ?_
   exact ⟨by simp_all [vcmp, vleq, vmeet_comm b a], hS.ext_of⟩
  ·
   try simp only [decide_eq_true_eq, decide_eq_false_iff_not, Bool.not_eq_true', Bool.not_eq_false', Int.not_lt, Int.not_le, ne_eq, Decidable.not_not, bne_iff_ne, beq_iff_eq, not_true_eq_false, not_false_eq_true] at hc2
   refine x_seq fun K7 hK7 => ?_
   refine x_region ?_
   refine s_go (m_load_row Try.underlying26 (hi := ti26) (hS := hS)) ?_
   try simp only [opv, n1, n2, n3, n4, Value.cells, List.getElem_toArray, List.getElem_cons_zero, List.getElem_cons_succ]
   refine s_go (m_load_row Try.underlying26 (hi := ti26) (hS := hS)) ?_
   try simp only [opv, n1, n2, n3, n4, Value.cells, List.getElem_toArray, List.getElem_cons_zero, List.getElem_cons_succ]
   refine s_call en188 ?_
   try simp only [opv, n1, n2, n3, n4, Value.cells, List.map_toArray, List.map_cons, List.map_nil, List.append_toArray, List.cons_append, List.nil_append, Array.append_empty]
   refine CallR.mono (c_ref12Leq _ _ (by assumption) (by assumption) _) ?_
   rintro _ w4 ⟨rfl, hE4⟩
   replace hS := hS.ext hE4
   try simp only [opv, n1, n2, n3, n4, Value.cells]
   refine s_go (s_assign) ?_
   try simp only [opv, n1, n2, n3, n4, Value.cells]
   refine x_nil ?_
   refine hK7 _ _ ?_
   refine x_cond (ht := fun hc3 => ?_) (hf := fun hc3 => ?_)
   ·
    try simp only [decide_eq_true_eq, decide_eq_false_iff_not, Bool.not_eq_true', Bool.not_eq_false', Int.not_lt, Int.not_le, ne_eq, Decidable.not_not, bne_iff_ne, beq_iff_eq, not_true_eq_false, not_false_eq_true] at hc3
    refine x_seq fun K8 hK8 => ?_
    refine x_region ?_
    refine s_go (s_assign) ?_
    try simp only [opv, n1, n2, n3, n4, Value.cells]
    refine x_nil ?_
    refine hK8 _ _ ?_
    refine x_ret ?_
    refine r_tmp rfl ?_
    exact ⟨by simp_all [vcmp, vleq, vmeet_comm b a], hS.ext_of⟩
   ·
    try simp only [decide_eq_true_eq, decide_eq_false_iff_not, Bool.not_eq_true', Bool.not_eq_false', Int.not_lt, Int.not_le, ne_eq, Decidable.not_not, bne_iff_ne, beq_iff_eq, not_true_eq_false, not_false_eq_true] at hc3
    refine x_skip ?_
    refine hK2 _ _ ?_
    refine x_seq fun K9 hK9 => ?_
    refine x_region ?_
    refine s_go (s_assign) ?_
    try simp only [opv, n1, n2, n3, n4, Value.cells]
    refine x_nil ?_
    refine hK9 _ _ ?_
    refine x_ret ?_
    refine r_tmp rfl ?_
    exact ⟨by simp_all [vcmp, vleq, vmeet_comm b a], hS.ext_of⟩

def va1 : List Int := [1, 0, 0, 0, 0, 0, 0, 0, 0, 0, 0, 0, 0, 0, 0, 0]
def va2 : List Int := [0, 1, 0, 0, 0, 0, 0, 0, 0, 0, 0, 0, 0, 0, 0, 0]
theorem c_law12alive  (w0 : World) :
    CallR Try.prog 20 #[] w0 fun v w' => v = .bool true ∧ Ext w0 w' := by
 have hS : St NoB w0 w0 [] := St.start w0
 refine c_enter (l := [undef, undef, undef, undef, undef, undef, undef, undef, undef, undef, undef, undef, undef, undef, undef, undef, undef, undef, undef, undef, undef, undef, undef]) Try.func20 rfl (by simp only [Try.ntmps20, List.size_toArray, List.length_cons, List.length_nil, Nat.reduceAdd, Nat.reduceSub, Array.replicate_succ, Array.replicate_zero, List.push_toArray, List.append_toArray, List.nil_append, List.cons_append]) ?_
 refine x_seq fun K1 hK1 => ?_
 refine x_region ?_
 refine s_go (s_assign) ?_
 try simp only [opv, n1, n2, n3, n4, Value.cells]
 refine x_nil ?_
 refine hK1 _ _ ?_
 refine x_seq fun K2 hK2 => ?_
 refine x_region ?_
 refine s_go (s_build_arr (cells := #[_, .int .u32 0, .int .u32 0, .int .u32 0, .int .u32 0, .int .u32 0, .int .u32 0, .int .u32 0, .int .u32 0, .int .u32 0, .int .u32 0, .int .u32 0, .int .u32 0, .int .u32 0, .int .u32 0, .int .u32 0]) Try.underlying27 ti27 ti25 (hc := by simp only [List.map_toArray, List.map_cons, List.map_nil, opv, n1, n2, n3, n4, Value.cells, List.toList_toArray]; (repeat (refine fill_cons rfl rfl (Nat.le_of_ble_eq_true rfl) ?_)); rfl)) ?_
 try simp only [opv, n1, n2, n3, n4, Value.cells]
 refine s_go (s_build_arr (cells := #[_, _, .int .u32 0, .int .u32 0, .int .u32 0, .int .u32 0, .int .u32 0, .int .u32 0, .int .u32 0, .int .u32 0, .int .u32 0, .int .u32 0, .int .u32 0, .int .u32 0, .int .u32 0, .int .u32 0]) Try.underlying27 ti27 ti25 (hc := by simp only [List.map_toArray, List.map_cons, List.map_nil, opv, n1, n2, n3, n4, Value.cells, List.toList_toArray]; (repeat (refine fill_cons rfl rfl (Nat.le_of_ble_eq_true rfl) ?_)); rfl)) ?_
 try simp only [opv, n1, n2, n3, n4, Value.cells]
 refine m_alloc ti27 hS (fun w1 g1 hS => ?_)
 try simp only [opv, n1, n2, n3, n4, Value.cells, Array.toArray_toList] at hS ⊢
 refine m_alloc ti27 hS (fun w2 g2 hS => ?_)
 try simp only [opv, n1, n2, n3, n4, Value.cells, Array.toArray_toList] at hS ⊢
 refine m_store_obj ti27 (hS := hS) (h := fun w3 hS => ?_)
 try simp only [opv, n1, n2, n3, n4, Value.cells, Array.toArray_toList] at hS ⊢
 refine m_store_obj ti27 (hS := hS) (h := fun w4 hS => ?_)
 try simp only [opv, n1, n2, n3, n4, Value.cells, Array.toArray_toList] at hS ⊢
 replace hS : St NoB w0 w4 [.obj g2 (.cells (ic .u32 va2) 27 (0, 0)), .obj g1 (.cells (ic .u32 va1) 27 (0, 0))] := hS
 refine x_nil ?_
 refine hK2 _ _ ?_
 refine x_seq fun K3 hK3 => ?_
 refine x_quiet (by kernel_rfl) (by kernel_rfl) hS ?_
 refine q_go (fun w hS => m_load_row Try.underlying27 (hi := ti27) (hS := hS)) ?_
 try simp only [opv, n1, n2, n3, n4, Value.cells, List.getElem_toArray, List.getElem_cons_zero, List.getElem_cons_succ]
 refine q_go (fun w hS => m_load_row Try.underlying27 (hi := ti27) (hS := hS)) ?_
 try simp only [opv, n1, n2, n3, n4, Value.cells, List.getElem_toArray, List.getElem_cons_zero, List.getElem_cons_succ]
 apply q_call en111
 case H =>
   intro w hS
   try simp only [opv, n1, n2, n3, n4, List.map_toArray, List.map_cons, List.map_nil, List.append_toArray, List.cons_append, List.nil_append, Array.append_empty]
   refine CallR.mono (c_vecCompare va1 va2 rfl rfl _) ?_
   rintro _ w1 ⟨rfl, hE⟩; exact ⟨rfl, hS.ext hE⟩
 try simp only [opv, n1, n2, n3, n4, Value.cells]
 refine q_go (fun w hS => s_eql) ?_
 try simp only [opv, n1, n2, n3, n4, Value.cells]
 rw [show decide (vcmp va1 va2 = 3) = true from by decide]
 refine q_go (fun w hS => s_move) ?_
 try simp only [opv, n1, n2, n3, n4, Value.cells]
 refine q_on (yi (t := 9) rfl rfl) ?_
 refine q_go (fun w hS => m_load_row Try.underlying27 (hi := ti27) (hS := hS)) ?_
 try simp only [opv, n1, n2, n3, n4, Value.cells, List.getElem_toArray, List.getElem_cons_zero, List.getElem_cons_succ]
 refine q_on (yi (t := 9) rfl rfl) ?_
 refine q_go (fun w hS => m_load_row Try.underlying27 (hi := ti27) (hS := hS)) ?_
 try simp only [opv, n1, n2, n3, n4, Value.cells, List.getElem_toArray, List.getElem_cons_zero, List.getElem_cons_succ]
 refine q_on (yi (t := 9) rfl rfl) ?_
 refine q_go (fun w hS => m_load_row Try.underlying27 (hi := ti27) (hS := hS)) ?_
 try simp only [opv, n1, n2, n3, n4, Value.cells, List.getElem_toArray, List.getElem_cons_zero, List.getElem_cons_succ]
 refine q_on (yi (t := 9) rfl rfl) ?_
 apply q_call en112
 case H =>
   intro w hS
   try simp only [opv, n1, n2, n3, n4, List.map_toArray, List.map_cons, List.map_nil, List.append_toArray, List.cons_append, List.nil_append, Array.append_empty]
   refine CallR.mono (c_vecJoin va1 va2 rfl rfl _) ?_
   rintro _ w1 ⟨rfl, hE⟩; exact ⟨rfl, hS.ext hE⟩
 try simp only [opv, n1, n2, n3, n4, Value.cells]
 refine q_on (yi (t := 9) rfl rfl) ?_
 apply q_call en111
 case H =>
   intro w hS
   try simp only [opv, n1, n2, n3, n4, List.map_toArray, List.map_cons, List.map_nil, List.append_toArray, List.cons_append, List.nil_append, Array.append_empty]
   refine CallR.mono (c_vecCompare va1 (vjoin va1 va2) rfl rfl _) ?_
   rintro _ w1 ⟨rfl, hE⟩; exact ⟨rfl, hS.ext hE⟩
 try simp only [opv, n1, n2, n3, n4, Value.cells]
 refine q_on (yi (t := 9) rfl rfl) ?_
 refine q_go (fun w hS => s_eql) ?_
 try simp only [opv, n1, n2, n3, n4, Value.cells]
 rw [show decide (vcmp va1 (vjoin va1 va2) = 1) = true from by decide]
 refine q_go (fun w hS => s_pick_t) ?_
 try simp only [opv, n1, n2, n3, n4, Value.cells]
 refine q_go (fun w hS => s_move) ?_
 try simp only [opv, n1, n2, n3, n4, Value.cells]
 refine q_on (yi (t := 17) rfl rfl) ?_
 refine q_go (fun w hS => m_load_row Try.underlying27 (hi := ti27) (hS := hS)) ?_
 try simp only [opv, n1, n2, n3, n4, Value.cells, List.getElem_toArray, List.getElem_cons_zero, List.getElem_cons_succ]
 refine q_on (yi (t := 17) rfl rfl) ?_
 refine q_go (fun w hS => m_load_row Try.underlying27 (hi := ti27) (hS := hS)) ?_
 try simp only [opv, n1, n2, n3, n4, Value.cells, List.getElem_toArray, List.getElem_cons_zero, List.getElem_cons_succ]
 refine q_on (yi (t := 17) rfl rfl) ?_
 apply q_call en111
 case H =>
   intro w hS
   try simp only [opv, n1, n2, n3, n4, List.map_toArray, List.map_cons, List.map_nil, List.append_toArray, List.cons_append, List.nil_append, Array.append_empty]
   refine CallR.mono (c_vecCompare va1 va1 rfl rfl _) ?_
   rintro _ w1 ⟨rfl, hE⟩; exact ⟨rfl, hS.ext hE⟩
 try simp only [opv, n1, n2, n3, n4, Value.cells]
 refine q_on (yi (t := 17) rfl rfl) ?_
 refine q_go (fun w hS => s_eql) ?_
 try simp only [opv, n1, n2, n3, n4, Value.cells]
 rw [show decide (vcmp va1 va1 = 0) = true from by decide]
 refine q_go (fun w hS => s_pick_t) ?_
 try simp only [opv, n1, n2, n3, n4, Value.cells]
 refine q_go (fun w hS => s_assign) ?_
 try simp only [opv, n1, n2, n3, n4, Value.cells]
 clear hS
 refine q_nil fun w5 hS => ?_
 refine hK3 _ _ ?_
 refine x_ret ?_
 refine r_tmp rfl ?_
 exact ⟨rfl, hS.ext_of⟩
end Go.Proofs.Ytpjpaipkkcengaa
set_option linter.unusedSimpArgs false
set_option linter.unusedVariables false
namespace Go.Proofs.Ytpjpaipkkcengaa
open Go.RowKit
def ChP (P : Program) (D : Nat) (t : TypeId) (ks : List IntKind) : Prop := ∀ d, D ≤ d → ∀ (em : Bool) (w : World) (c : Array Value) (o : Nat) (xs : List Int), xs.length = ks.length → CAt c o (zi ks xs) →
  ∃ a, (part t c o).run P w = .ok a w ∧ (Instr.checkKey em d t a).run P w = .ok () w
def ChV (P : Program) (D : Nat) (t : TypeId) (ks : List IntKind) : Prop := ∀ d, D ≤ d → ∀ (em : Bool) (w : World) (c : Array Value) (xs : List Int), xs.length = ks.length → CAt c 0 (zi ks xs) → (Instr.checkKey em d t (.agg c)).run P w = .ok () w
theorem ch_int {P : Program} {t : TypeId} {k : IntKind} (h : P.underlying t = some (.int k)) : ChP P 1 t [k] := by
  intro d hd em w c o xs hx h1
  match xs, hx with
  | [x], _ =>
    obtain ⟨d, rfl⟩ : ∃ e, d = e + 1 := ⟨d - 1, by omega⟩
    refine ⟨.int k x, part_one h rfl (by simpa using h1 0 _ rfl), ?_⟩
    simp [Instr.checkKey, run_underlying h]
theorem ch_arr {P : Program} {D : Nat} {t e : TypeId} {n : Nat} {ks : List IntKind} {sz by' : Nat} {z : Value} (h : P.underlying t = some (.array n e)) (hi : TI P e sz by' z) (hs : ks.length = sz) (hp : ChP P D e ks) : ChV P (D + 1) t (List.replicate n ks).flatten := by
  intro d hd em w c xs hx h1
  obtain ⟨d, rfl⟩ : ∃ e, d = e + 1 := ⟨d - 1, by omega⟩
  obtain ⟨i, hi, rfl, _, _⟩ := hi
  simp only [Instr.checkKey, Sem.run_bind, run_underlying h, Result.andThen_ok]
  have hsz : (sizeOf e).run P w = .ok i.size w := by simp [sizeOf, typeInfo, hi]
  rw [Std.Legacy.Range.forIn_eq_forIn_range']
  simp only [Std.Legacy.Range.size, Nat.sub_zero, Nat.add_sub_cancel, Nat.div_one]
  have key : ∀ (m s : Nat) (xs : List Int), xs.length = (List.replicate m ks).flatten.length → CAt c (s * i.size) (zi (List.replicate m ks).flatten xs) →
      ((forIn (List.range' s m) PUnit.unit fun j _ => do
        let z ← sizeOf e
        let a ← part e c (j * z)
        Instr.checkKey em d e a
        pure (ForInStep.yield PUnit.unit)) : Sem PUnit).run P w = .ok PUnit.unit w := by
    intro m
    induction m with
    | zero => intro s xs _ _; simp
    | succ m ih =>
      intro s xs hx h1
      rw [List.replicate_succ, List.flatten_cons] at hx h1
      obtain ⟨xa, xb, rfl, hxa⟩ : ∃ xa xb, xs = xa ++ xb ∧ xa.length = ks.length := ⟨xs.take ks.length, xs.drop ks.length, (List.take_append_drop _ _).symm, by simp at hx ⊢; omega⟩
      rw [zi_app hxa] at h1
      obtain ⟨h1a, h1b⟩ := h1.app
      rw [zi_len hxa, hs, ← Nat.succ_mul] at h1b
      obtain ⟨a, ra, rc⟩ := hp d (by omega) em w c _ xa hxa h1a
      have hI := ih (s + 1) xb (by simp at hx ⊢; omega) h1b
      simp only [List.range'_succ, List.forIn_cons, Sem.run_bind, hsz, Sem.run_pure, ra, rc, Result.andThen_ok]
      exact hI
  have hk := key n 0 xs hx (by simpa using h1)
  simp only [hk, Result.andThen_ok, Sem.run_pure]
structure KeyT (P : Program) (t : TypeId) {κ : Type} [DecidableEq κ] (kv : κ → Value) (ok : κ → Prop) : Prop where
  chk : ∀ (em : Bool) (w : World) (a : κ), ok a → (Instr.checkKey em 10000 t (kv a)).run P w = .ok () w
  eq : ∀ (w : World) (a b : κ), ok a → ok b → (Op.equal t (kv a) (kv b)).run P w = .ok (decide (a = b)) w
  now : ∃ kd, P.underlying t = some kd ∧ ((∀ a b, ok a → ok b → Instr.sameNow kd (kv a) (kv b) = none) ∨ ∀ a b, ok a → ok b → Instr.sameNow kd (kv a) (kv b) = some (decide (a = b)))
  same : ∀ a, Instr.sameBits 10000 (kv a) (kv a) = true
theorem sameBits_ints (n : Nat) (vs : List Value) (h : ∀ v ∈ vs, ∃ k x, v = .int k x) : Instr.sameBits (n + 1) (.agg vs.toArray) (.agg vs.toArray) = true := by
  simp only [Instr.sameBits, beq_self_eq_true, Bool.true_and, List.all_eq_true]
  rintro ⟨a, b⟩ hab
  simp only [List.zip_eq_zipWith] at hab
  obtain ⟨i, hi, e⟩ := List.getElem_of_mem hab
  simp only [List.getElem_zipWith, Prod.mk.injEq] at e
  obtain ⟨rfl, rfl⟩ := e
  obtain ⟨k, x, hx⟩ := h (vs.toArray.toList[i]'(by simp at hi; simpa using hi)) (by simp)
  simp only [List.toList_toArray] at hx ⊢
  rw [hx]
  cases n <;> simp [Instr.sameBits]
theorem keyT_agg {P : Program} {t : TypeId} {D D' : Nat} {ks : List IntKind} {dsc : TypeDesc} (hu : P.underlying t = some dsc) (hd : isAggD dsc = true) (hc : ChV P D t ks) (he : EqV P D' t ks) (h1 : D ≤ 10000) (h2 : D' ≤ 10000) : KeyT P t (fun xs : List Int => .agg (zi ks xs).toArray) (fun xs => xs.length = ks.length) := by
  refine ⟨fun em w a ha => hc 10000 h1 em w _ a ha (CAt.of_list _), fun w a b ha hb => run_eql_agg he h2 rfl rfl ha hb w, ⟨dsc, hu, .inl fun a b _ _ => ?_⟩, fun a => sameBits_ints 9999 _ ?_⟩
  · cases dsc <;> first | (cases hd; done) | rfl
  · intro v hv
    simp only [zi] at hv
    obtain ⟨i, hi, rfl⟩ := List.getElem_of_mem hv
    simp
section
variable {P : Program} {κ : Type}
def mEs (kv : κ → Value) (s : Nat) : List (κ × Value) → List MapEntry
  | [] => []
  | (a, v) :: D => ⟨kv a, v, s⟩ :: mEs kv (s + 1) D
def mObj (kv : κ → Value) (D : List (κ × Value)) : Obj := .map (mEs kv 0 D).toArray D.length
def MOk (ok : κ → Prop) (D : List (κ × Value)) : Prop := ∀ p ∈ D, ok p.1
theorem mEs_len (kv : κ → Value) : ∀ (s : Nat) (D : List (κ × Value)), (mEs kv s D).length = D.length
  | _, [] => rfl
  | s, (a, v) :: D => by simp [mEs, mEs_len kv (s + 1) D]
theorem mEs_get (kv : κ → Value) : ∀ (s : Nat) (D : List (κ × Value)) (i : Nat), (mEs kv s D)[i]? = D[i]?.map fun p => ⟨kv p.1, p.2, s + i⟩
  | _, [], _ => by simp [mEs]
  | s, (a, v) :: D, 0 => by simp [mEs]
  | s, (a, v) :: D, i + 1 => by simp only [mEs, List.getElem?_cons_succ, mEs_get kv (s + 1) D i]; congr 1; funext p; congr 1; omega
theorem mEs_app (kv : κ → Value) : ∀ (s : Nat) (D E : List (κ × Value)), mEs kv s (D ++ E) = mEs kv s D ++ mEs kv (s + D.length) E
  | s, [], E => by simp [mEs]
  | s, (a, v) :: D, E => by simp only [List.cons_append, mEs, mEs_app kv (s + 1) D E, List.length_cons]; rw [show s + 1 + D.length = s + (D.length + 1) by omega]
theorem mEs_find (kv : κ → Value) : ∀ (s : Nat) (D : List (κ × Value)) (i : Nat), (mEs kv s D).find? (fun e => e.born == s + i) = D[i]?.map fun p => ⟨kv p.1, p.2, s + i⟩
  | _, [], _ => by simp [mEs]
  | s, (a, v) :: D, 0 => by simp [mEs]
  | s, (a, v) :: D, i + 1 => by
    have h := mEs_find kv (s + 1) D i
    rw [show s + 1 + i = s + (i + 1) by omega] at h
    have hne : (s == s + (i + 1)) = false := by simp
    simp only [mEs, List.find?_cons, hne, List.getElem?_cons_succ]
    exact h
theorem mEs_findIdx (kv : κ → Value) : ∀ (s : Nat) (D : List (κ × Value)) (i : Nat), i < D.length → (mEs kv s D).findIdx? (fun e => (e.born : Int) == ((s + i : Nat) : Int)) = some i
  | _, [], _, h => absurd h (by simp)
  | s, (a, v) :: D, 0, _ => by simp [mEs, List.findIdx?_cons]
  | s, (a, v) :: D, i + 1, h => by
    have h2 := mEs_findIdx kv (s + 1) D i (by simpa using h)
    rw [show s + 1 + i = s + (i + 1) by omega] at h2
    have hne : ((s : Int) == ((s + (i + 1) : Nat) : Int)) = false := by simp; omega
    simp only [mEs, List.findIdx?_cons, hne, Bool.false_eq_true, if_false, h2, Option.map_some]
theorem run_getObj_mp {kv : κ → Value} {w : World} {g : Nat} {D : List (κ × Value)} (h : w.heap[g]? = some (mObj kv D)) : (getObj g).run P w = .ok (mObj kv D) w := MapKept.run_getObj_map h
theorem run_getObj_it {w : World} {r a b : Nat} {m : Option Nat} {s : Array Nat} (h : w.heap[r]? = some (.mapIter m a s b)) : (getObj r).run P w = .ok (.mapIter m a s b) w := by simp [getObj, Sem.run, h]
theorem run_setObj_it {w : World} {r a b : Nat} {m : Option Nat} {s : Array Nat} (o : Obj) (h : w.heap[r]? = some (.mapIter m a s b)) : (setObj r o).run P w = .ok () { w with heap := w.heap.setIfInBounds r o } := by simp [setObj, Sem.run, h]
end
section
variable {κ : Type} [DecidableEq κ]
def mfind (a : κ) : List (κ × Value) → Nat → Option (Nat × Value)
  | [], _ => none
  | (b, v) :: D, i => if a = b then some (i, v) else mfind a D (i + 1)
def mget (a : κ) : List (κ × Value) → Option Value
  | [] => none
  | (b, v) :: D => if a = b then some v else mget a D
def mput (a : κ) (v : Value) : List (κ × Value) → List (κ × Value)
  | [] => [(a, v)]
  | (b, u) :: D => if a = b then (a, v) :: D else (b, u) :: mput a v D
theorem mfind_get (a : κ) : ∀ (D : List (κ × Value)) (i : Nat), (mfind a D i).map (·.2) = mget a D
  | [], _ => rfl
  | (b, v) :: D, i => by simp only [mfind, mget]; split; rfl; exact mfind_get a D (i + 1)
theorem mput_none {a : κ} {v : Value} : ∀ {D : List (κ × Value)} {i : Nat}, mfind a D i = none → mput a v D = D ++ [(a, v)]
  | [], _, _ => rfl
  | (b, u) :: D, i, h => by
    simp only [mfind] at h
    split at h
    · cases h
    · rename_i hne
      simp only [mput, if_neg hne, List.cons_append, mput_none h]
theorem mput_some {kv : κ → Value} {a : κ} {v : Value} : ∀ {D : List (κ × Value)} {s i j : Nat} {u : Value}, mfind a D s = some (i, u) → i = s + j → j < D.length ∧ (mEs kv 0 D)[j]?.map (·.key) = some (kv a) ∧ ∀ q, mEs kv q (mput a v D) = (mEs kv q D).modify j fun e => { e with key := kv a, val := v }
  | [], _, _, _, _, h, _ => by cases h
  | (b, x) :: D, s, i, j, u, h, hj => by
    simp only [mfind] at h
    split at h
    · rename_i he
      subst he
      simp only [Option.some.injEq, Prod.mk.injEq] at h
      obtain rfl : j = 0 := by omega
      exact ⟨by simp, by simp [mEs], fun q => by simp [mput, mEs]⟩
    · rename_i hne
      have hs : s + 1 ≤ i := by
        have : ∀ (D : List (κ × Value)) (s i : Nat) (u : Value), mfind a D s = some (i, u) → s ≤ i := by
          intro D
          induction D with
          | nil => intro s i u h; cases h
          | cons p D ih =>
            intro s i u h
            simp only [mfind] at h
            split at h
            · simp at h; omega
            · have := ih _ _ _ h; omega
        exact this _ _ _ _ h
      obtain ⟨j, rfl⟩ : ∃ k, j = k + 1 := ⟨j - 1, by omega⟩
      obtain ⟨h1, h2, h3⟩ := mput_some (kv := kv) (v := v) h (show i = (s + 1) + j by omega)
      refine ⟨by simp; omega, ?_, fun q => ?_⟩
      · rw [mEs_get] at h2 ⊢
        simpa using h2
      · simp only [mput, if_neg hne, mEs, h3, List.modify_succ_cons]
theorem mput_len_le (a : κ) (v : Value) : ∀ (D : List (κ × Value)), (mput a v D).length ≤ D.length + 1
  | [] => by simp [mput]
  | (b, u) :: D => by
    have := mput_len_le a v D
    simp only [mput]; split <;> simp; omega
theorem mput_ok {ok : κ → Prop} {a : κ} {v : Value} (ha : ok a) : ∀ {D : List (κ × Value)}, MOk ok D → MOk ok (mput a v D)
  | [], _ => by intro p hp; simp [mput] at hp; subst hp; exact ha
  | (b, u) :: D, h => by
    have hD : MOk ok D := fun p hp => h p (by simp [hp])
    intro p hp
    simp only [mput] at hp
    split at hp
    · rcases List.mem_cons.1 hp with rfl | hp
      · exact ha
      · exact hD p hp
    · rcases List.mem_cons.1 hp with rfl | hp
      · exact h _ (by simp)
      · exact mput_ok ha hD p hp
theorem mget_put (a b : κ) (v : Value) : ∀ (D : List (κ × Value)), mget b (mput a v D) = if b = a then some v else mget b D
  | [] => by simp [mput, mget]
  | (c, u) :: D => by
    simp only [mput]
    by_cases hac : a = c
    · subst hac; simp only [if_true, mget]; split <;> rfl
    · simp only [if_neg hac, mget, mget_put a b v D]
      by_cases hbc : b = c
      · subst hbc; simp [Ne.symm hac]
      · simp [hbc]
end
section
variable {P : Program} {κ : Type} [DecidableEq κ] {t : TypeId} {kv : κ → Value} {ok : κ → Prop}
theorem run_findKey (K : KeyT P t kv ok) (w : World) {a : κ} (ha : ok a) {D : List (κ × Value)} (hD : MOk ok D) : (Instr.findKey t (kv a) (mEs kv 0 D)).run P w = .ok (mfind a D 0) w := by
  have ask : ∀ (D : List (κ × Value)) (s q : Nat), MOk ok D → (Instr.findAsking t (kv a) (mEs kv q D) s).run P w = .ok (mfind a D s) w := by
    intro D
    induction D with
    | nil => intro s q _; simp [mEs, Instr.findAsking, mfind]
    | cons p D ih =>
      intro s q hD
      obtain ⟨b, v⟩ := p
      have hb : ok b := hD (b, v) (by simp)
      simp only [mEs, Instr.findAsking, Sem.run_bind, K.eq w a b ha hb, Result.andThen_ok, mfind]
      by_cases e : a = b
      · simp [e]
      · simp only [e, decide_false, Bool.false_eq_true, if_false]
        exact ih (s + 1) (q + 1) (fun p hp => hD p (by simp [hp]))
  obtain ⟨kd, hu, hk⟩ := K.now
  simp only [Instr.findKey, Sem.run_bind, run_underlying hu, Result.andThen_ok]
  rcases hk with hk | hk
  · rcases D with _ | ⟨⟨b, v⟩, D⟩
    · simp [mEs, Instr.findNow, mfind]
    · have hb : ok b := hD (b, v) (by simp)
      simp only [mEs, Instr.findNow, hk a b ha hb]
      exact ask ((b, v) :: D) 0 0 hD
  · have now : ∀ (D : List (κ × Value)) (s q : Nat), MOk ok D → Instr.findNow kd (kv a) (mEs kv q D) s = some (mfind a D s) := by
      intro D
      induction D with
      | nil => intro s q _; rfl
      | cons p D ih =>
        intro s q hD
        obtain ⟨b, v⟩ := p
        simp only [mEs, Instr.findNow, hk a b ha (hD (b, v) (by simp)), mfind]
        by_cases e : a = b
        · simp [e]
        · simp only [e, decide_false, if_false]
          exact ih (s + 1) (q + 1) (fun p hp => hD p (by simp [hp]))
    rw [now D 0 0 hD]
    simp
end
section
variable {P : Program} {κ : Type} {kt et T : TypeId} {kv : κ → Value}
variable {ops : Array Oper} {Q : Exit → Act → World → Prop} {rest : List Oper} {l : List Value} {w : World} {d : Nat} {ty : TypeId} {pos : String} {aft : Array Edge}
variable {S : Nat → Prop} {w0 : World} {L L' : List Res}
theorem setObj_keep (w : World) (g : Nat) (o : Obj) : Keep (fun k => some g = some k) w { w with heap := w.heap.setIfInBounds g o } :=
  ⟨rfl, rfl, rfl, by simp, fun k _ hk => by
    show (w.heap.setIfInBounds g o)[k]? = _
    rw [Array.getElem?_setIfInBounds_ne]
    exact fun e => hk (by rw [e])⟩
theorem m_makeMap {T : TypeId} (kv : κ → Value) (hS : St S w0 w L) (h : ∀ w' g, St S w0 w' (.obj g (mObj kv []) :: L) → WL P ops Q rest (fr (l.set d (.map (some g)))) w') : WL P ops Q (⟨some d, .makeMap T none, ty, pos, aft, none⟩ :: rest) (fr l) w :=
  s_val (w' := w.alloc (.map #[] 0)) (v := .map (some w.heap.size)) (by simp [execOp, run_makeMap]) (h _ _ (hS.alloc _))
theorem s_len_map {x : Operand} {kt et : TypeId} {g : Nat} {D : List (κ × Value)} (hT : P.underlying T = some (.map kt et)) (hx : opv l x = .map (some g) := by rfl) (hS : St S w0 w L) (hm : Has L (.obj g (mObj kv D)) := by repeat (first | exact Has.head | apply Has.tail)) : Go1 P l w ⟨some d, .call { callee := .builtin .len, args := #[x], argTypes := #[T] }, ty, pos, aft, none⟩ (.int .i64 (D.length : Int)) := by
  unfold Go1
  have hgo := run_getObj_mp (P := P) (w := w) (hS.has hm)
  simp only [mObj] at hgo
  simp [execOp, resolve, invoke, builtin, Builtin.len_, hx, run_underlying hT, hgo, mEs_len, goInt]
/-- an iterator over a map: what it has seen -/
def itObj (g n : Nat) (seen : List Nat) : Obj := .mapIter (some g) n seen.toArray n
theorem m_range {x : Operand} {g : Nat} {D : List (κ × Value)} (hT : P.underlying T = some (.map kt et)) (hx : opv l x = .map (some g) := by rfl) (hS : St S w0 w L) (hm : Has L (.obj g (mObj kv D)) := by repeat (first | exact Has.head | apply Has.tail)) (h : ∀ w' r, St S w0 w' (.obj r (itObj g D.length []) :: L) → WL P ops Q rest (fr (l.set d (.pointer (some ⟨r, 0, none⟩)))) w') : WL P ops Q (⟨some d, .range T x, ty, pos, aft, none⟩ :: rest) (fr l) w := by
  have hr := run_range_map (P := P) w T kt et g _ _ hT (show w.heap[g]? = some (mObj kv D) from hS.has hm)
  exact s_val (w' := w.alloc (.mapIter (some g) D.length #[] D.length)) (v := .pointer (some ⟨w.heap.size, 0, none⟩)) (by simp [execOp, hx, hr]) (h _ _ (hS.alloc _))
theorem run_next_at {w : World} {g r : Nat} {D : List (κ × Value)} {seen : List Nat} {tt : TypeId} (hg : w.heap[g]? = some (mObj kv D)) (hr : w.heap[r]? = some (itObj g D.length seen)) :
    ((∀ i, i < D.length → i ∈ seen) ∧ (Instr.next (.pointer (some ⟨r, 0, none⟩)) false tt).run P w = .ok (.tuple #[.bool false]) w) ∨
    ∃ i p, D[i]? = some p ∧ i ∉ seen ∧ ∃ w1 : World, Ext w w1 ∧ (Instr.next (.pointer (some ⟨r, 0, none⟩)) false tt).run P w = .ok (.tuple #[.bool true, kv p.1, p.2]) { w1 with heap := w1.heap.setIfInBounds r (itObj g D.length (seen ++ [i])) } := by
  have hgo := run_getObj_mp (P := P) hg
  have hro := run_getObj_it (P := P) (show w.heap[r]? = some (.mapIter (some g) D.length seen.toArray D.length) from hr)
  have hborn : ∀ x ∈ (mEs kv 0 D), x.born < D.length := fun x hx => by
    obtain ⟨i, hi, rfl⟩ := List.getElem_of_mem hx
    have := mEs_get kv 0 D i
    rw [List.getElem?_eq_getElem hi] at this
    rw [mEs_len] at hi
    rw [List.getElem?_eq_getElem hi] at this
    simp at this
    rw [this]; simpa using hi
  have hf := next_test_false seen.toArray (mEs kv 0 D).toArray D.length D.length (fun x hx => hborn x (by simpa using hx)) (Nat.le_refl _)
  simp only [mObj] at hgo
  simp only [Instr.next, Sem.run_bind, hro, Result.andThen_ok, hgo, hf, Bool.false_eq_true, if_false]
  have hmem : ∀ x ∈ (Array.filter (fun e => !seen.toArray.contains e.born) (mEs kv 0 D).toArray).toList, x ∈ mEs kv 0 D ∧ x.born ∉ seen := fun x hx => by
    simp at hx; exact hx
  have hall : ∀ x ∈ mEs kv 0 D, x.born ∉ seen → x ∈ (Array.filter (fun e => !seen.toArray.contains e.born) (mEs kv 0 D).toArray).toList := fun x hx hn => by
    simp; exact ⟨hx, hn⟩
  generalize Array.filter (fun e => !seen.toArray.contains e.born) (mEs kv 0 D).toArray = M at hmem hall ⊢
  have e1 : M.filter (fun x => decide (x.born < D.length)) = M := Array.filter_eq_self.2 (fun x hx => by simpa using hborn x (hmem x (by simpa using hx)).1)
  have e2 : M.filter (fun x => decide (x.born ≥ D.length)) = #[] := by
    rw [Array.filter_eq_empty_iff]
    intro x hx
    have := hborn x (hmem x (by simpa using hx)).1
    simp
    omega
  simp only [e1, e2, Array.append_empty]
  by_cases h0 : M.size = 0
  · left
    have : M = #[] := Array.eq_empty_of_size_eq_zero h0
    subst this
    refine ⟨fun i hi => ?_, by simp [choose, Sem.run, Question.forced]⟩
    by_cases hs : i ∈ seen
    · exact hs
    · have hx := mEs_get kv 0 D i
      rw [List.getElem?_eq_getElem hi] at hx
      simp only [Option.map_some, Nat.zero_add] at hx
      have := hall _ (List.mem_of_getElem? hx) hs
      simp at this
  · right
    have hne : M.isEmpty = false := by simp [Array.isEmpty, h0]
    simp only [hne, Bool.false_eq_true, if_false, Array.empty_append, Array.size_map]
    have hch : ∃ (j : Nat) (w1 : World), j < M.size ∧ Ext w w1 ∧ w1.heap = w.heap ∧ (choose (Question.mapNext M.size)).run P w = .ok j w1 := by
      by_cases hf : M.size ≤ 1
      · exact ⟨0, w, by omega, Ext.rfl', rfl, by simp [choose, Sem.run, Question.forced, hf]⟩
      · exact ⟨w.tape w.drawn (Question.mapNext M.size) % M.size, w.drew, Nat.mod_lt _ (by omega), Ext.drew w, rfl, by
          simp only [choose, Sem.run, Question.forced, decide_eq_true_eq, hf, if_false, Question.cut]; rfl⟩
    obtain ⟨j, w1, hj, hE, hh, hrun⟩ := hch
    have hj' := hmem M[j] (by simp)
    obtain ⟨i, hi, hx⟩ := List.getElem_of_mem hj'.1
    have hx2 := mEs_get kv 0 D i
    rw [List.getElem?_eq_getElem hi, hx] at hx2
    have hiD : i < D.length := by rwa [mEs_len] at hi
    rw [List.getElem?_eq_getElem hiD] at hx2
    simp only [Option.map_some, Nat.zero_add, Option.some.injEq] at hx2
    refine ⟨i, D[i], by simp [hiD], by have := hj'.2; rw [hx2] at this; exact this, w1, hE, ?_⟩
    simp only [hrun, Array.getElem?_map, Array.getElem?_eq_getElem hj, Option.map_some, Sem.run_bind, Result.andThen_ok]
    rw [hx2]
    have hso := run_setObj_it (P := P) (w := w1) (itObj g D.length (seen ++ [i])) (by rw [hh]; exact hr)
    simp only [itObj] at hso ⊢
    simp [hso]
theorem m_next {LI : Nat → List Res} {x : Operand} {g r : Nat} {D : List (κ × Value)} {seen : List Nat} (hx : opv l x = .pointer (some ⟨r, 0, none⟩) := by rfl) (hS : St S w0 w L) (hm : Has L (.obj g (mObj kv D)) := by repeat (first | exact Has.head | apply Has.tail))
    (hu : ∀ i, Upd L (.obj r (itObj g D.length seen)) (.obj r (itObj g D.length (seen ++ [i]))) (LI i))
    (h1 : (∀ i, i < D.length → i ∈ seen) → WL P ops Q rest (fr (l.set d (.tuple #[.bool false]))) w)
    (h2 : ∀ w' i p, D[i]? = some p → i ∉ seen → St S w0 w' (LI i) → WL P ops Q rest (fr (l.set d (.tuple #[.bool true, kv p.1, p.2]))) w') : WL P ops Q (⟨some d, .next x false, ty, pos, aft, none⟩ :: rest) (fr l) w := by
  have hr := hS.holds _ (hu 0).mem
  have hlt : r < w.heap.size := (Array.getElem?_eq_some_iff.1 (show w.heap[r]? = some _ from hr)).1
  rcases run_next_at (P := P) (tt := ty) (show w.heap[g]? = some (mObj kv D) from hS.has hm) hr with ⟨hall, hrun⟩ | ⟨i, p, hp, hn, w1, hE, hrun⟩
  · exact s_val (v := .tuple #[.bool false]) (w' := w) (by simp [execOp, hx, hrun]) (h1 hall)
  · refine s_val (v := .tuple #[.bool true, kv p.1, p.2]) (w' := { w1 with heap := w1.heap.setIfInBounds r (itObj g D.length (seen ++ [i])) }) (by simp [execOp, hx, hrun]) (h2 _ i p hp hn (hS.turn (hu i) (hE.keep.trans (setObj_keep w1 r _)) ?_ ?_ ?_))
    · show (w1.heap.setIfInBounds r _)[r]? = _
      have := hE.size
      rw [Array.getElem?_setIfInBounds_self_of_lt (by omega)]
    · intro k hk; simp [Res.own] at hk ⊢; exact .inl hk
    · intro k hk; simp [Res.reads] at hk
theorem m_entry {x : Operand} {g r n i : Nat} {D : List (κ × Value)} {seen : List Nat} {p : κ × Value} (hx : opv l x = .pointer (some ⟨r, 0, none⟩) := by rfl) (hn : n = D.length) (hp : D[i]? = some p) (hS : St S w0 w L) (hm : Has L (.obj g (mObj kv D)) := by repeat (first | exact Has.head | apply Has.tail)) (hr : Has L (.obj r (itObj g n (seen ++ [i]))) := by repeat (first | exact Has.head | apply Has.tail)) : Go1 P l w ⟨some d, .entry x, ty, pos, aft, none⟩ (.tuple #[kv p.1, p.2]) := by
  subst hn
  unfold Go1
  have hgo := run_getObj_mp (P := P) (w := w) (hS.has hm)
  have hro := run_getObj_it (P := P) (show w.heap[r]? = some (.mapIter (some g) D.length (seen ++ [i]).toArray D.length) from hS.has hr)
  simp only [mObj] at hgo
  have hfi := mEs_find kv 0 D i
  rw [hp, Nat.zero_add] at hfi
  have hbk : (seen ++ [i]).toArray.back? = some i := by simp
  simp only [execOp, hx, Instr.entry, Sem.run_bind, hro, Result.andThen_ok, hbk, hgo]
  simp [hfi]
end
section
variable {P : Program} {κ : Type} [DecidableEq κ] {kt et T : TypeId} {kv : κ → Value} {ok : κ → Prop}
variable {ops : Array Oper} {Q : Exit → Act → World → Prop} {rest : List Oper} {l : List Value} {w : World} {d : Nat} {ty : TypeId} {pos : String} {aft : Array Edge}
variable {S : Nat → Prop} {w0 : World} {L L' : List Res}
theorem run_lookup (K : KeyT P kt kv ok) (hT : P.underlying T = some (.map kt et)) {sz by' : Nat} {z : Value} (hi : TI P et sz by' z) {g : Nat} {D : List (κ × Value)} (hg : w.heap[g]? = some (mObj kv D)) {a : κ} (ha : ok a) (hD : MOk ok D) (c : Bool) :
    (Instr.lookup T (.map (some g)) (kv a) c).run P w = .ok (if c then .tuple #[(mget a D).getD z, .bool (mget a D).isSome] else (mget a D).getD z) w := by
  obtain ⟨i, hi, _, _, hz⟩ := hi
  have hf := run_findKey K w ha hD
  have hgo := run_getObj_mp (P := P) hg
  simp only [mObj] at hgo
  simp only [Instr.lookup, Sem.run_bind, run_underlying hT, Result.andThen_ok, hgo, Sem.run_pure, K.chk _ w a ha, hf]
  rw [← mfind_get a D 0]
  cases mfind a D 0 with
  | none => cases c <;> simp [zeroValue, typeInfo, hi, hz]
  | some p => cases c <;> simp
theorem m_lookup {x y : Operand} {sz by' : Nat} {z : Value} {g : Nat} {D : List (κ × Value)} {a : κ} (K : KeyT P kt kv ok) (hT : P.underlying T = some (.map kt et)) (hi : TI P et sz by' z) (hx : opv l x = .map (some g) := by rfl) (hy : opv l y = kv a) (ha : ok a) (hS : St S w0 w L) (hm : Has L (.obj g (mObj kv D)) := by repeat (first | exact Has.head | apply Has.tail)) (hD : MOk ok D) : Go1 P l w ⟨some d, .lookup T x y false, ty, pos, aft, none⟩ ((mget a D).getD z) := by
  unfold Go1
  have h := run_lookup K hT hi (w := w) (hS.has hm) ha hD false
  simp [execOp, hx, hy, h]
end
section
variable {κ : Type} [DecidableEq κ]
def midx (a : κ) : List (κ × Value) → Nat
  | [] => 0
  | (b, _) :: D => if a = b then 0 else midx a D + 1
theorem mfind_idx {a : κ} : ∀ {D : List (κ × Value)} {s i : Nat} {u : Value}, mfind a D s = some (i, u) → i = s + midx a D
  | [], _, _, _, h => by cases h
  | (b, v) :: D, s, i, u, h => by
    simp only [mfind] at h
    simp only [midx]
    split at h
    · rename_i e; simp only [Option.some.injEq, Prod.mk.injEq] at h; rw [if_pos e]; omega
    · rename_i e; have := mfind_idx h; rw [if_neg e]; omega
theorem mfind_none_idx {a : κ} : ∀ {D : List (κ × Value)} {s : Nat}, mfind a D s = none → midx a D = D.length
  | [], _, _ => rfl
  | (b, v) :: D, s, h => by
    simp only [mfind] at h
    split at h
    · cases h
    · rename_i e; simp only [midx, if_neg e, List.length_cons, mfind_none_idx h]
theorem mput_put (a : κ) (u v : Value) : ∀ (D : List (κ × Value)), mput a v (mput a u D) = mput a v D
  | [] => by simp [mput]
  | (b, x) :: D => by
    by_cases e : a = b
    · simp [mput, e]
    · simp [mput, e, mput_put a u v D]
theorem mput_mid {a : κ} {u : Value} : ∀ (D : List (κ × Value)), mfind a (mput a u D) 0 = some (midx a D, u) := by
  have : ∀ (D : List (κ × Value)) (s : Nat), mfind a (mput a u D) s = some (s + midx a D, u) := by
    intro D
    induction D with
    | nil => intro s; simp [mput, mfind, midx]
    | cons p D ih =>
      intro s
      obtain ⟨b, x⟩ := p
      by_cases e : a = b
      · simp [mput, mfind, midx, e]
      · simp only [mput, if_neg e, mfind, midx, ih]; congr 2; omega
  intro D; simpa using this D 0
theorem modify_at {α : Type} {l : List α} {i : Nat} {x : α} {f g : α → α} (hx : l[i]? = some x) (h : f x = g x) : l.modify i f = l.modify i g := by
  refine List.ext_getElem? fun j => ?_
  simp only [List.getElem?_modify]
  by_cases e : i = j
  · subst e; simp [hx, h]
  · simp [e]
theorem modify_id {α : Type} {l : List α} {i : Nat} {x : α} {f : α → α} (hx : l[i]? = some x) (h : f x = x) : l.modify i f = l := by
  refine List.ext_getElem? fun j => ?_
  simp only [List.getElem?_modify]
  by_cases e : i = j
  · subst e; simp [hx, h]
  · simp [e]
theorem mput_same {a : κ} {u : Value} : ∀ {D : List (κ × Value)} {s i : Nat}, mfind a D s = some (i, u) → mput a u D = D
  | [], _, _, h => by cases h
  | (b, v) :: D, s, i, h => by
    simp only [mfind] at h
    split at h
    · rename_i e; simp only [Option.some.injEq, Prod.mk.injEq] at h; simp [mput, e, h.2]
    · rename_i e; simp [mput, e, mput_same h]
end
section
variable {P : Program} {κ : Type} [DecidableEq κ] {kt et T : TypeId} {kv : κ → Value} {ok : κ → Prop}
variable {ops : Array Oper} {Q : Exit → Act → World → Prop} {rest : List Oper} {l : List Value} {w : World} {d : Nat} {ty : TypeId} {pos : String} {aft : Array Edge}
variable {S : Nat → Prop} {w0 : World} {L L' : List Res}
theorem run_mapEntry (K : KeyT P kt kv ok) (hT : P.underlying T = some (.map kt et)) {sz by' : Nat} {z : Value} (hi : TI P et sz by' z) {g : Nat} {D : List (κ × Value)} (hg : w.heap[g]? = some (mObj kv D)) {a : κ} (ha : ok a) (hD : MOk ok D) :
    (Instr.mapEntry T (.map (some g)) (kv a)).run P w = .ok (.tuple #[(mget a D).getD z, .int .i64 (midx a D : Int)]) { w with heap := w.heap.setIfInBounds g (mObj kv (mput a ((mget a D).getD z) D)) } := by
  obtain ⟨i', hi, _, _, hz⟩ := hi
  have hf := run_findKey K w ha hD
  have hgo := run_getObj_mp (P := P) hg
  simp only [mObj] at hgo
  simp only [Instr.mapEntry, Sem.run_bind, run_underlying hT, Result.andThen_ok, hgo, K.chk _ w a ha, hf]
  have hget := mfind_get a D 0
  cases hfd : mfind a D 0 with
  | none =>
    rw [hfd] at hget
    simp only [Option.map_none] at hget
    simp only [← hget, Option.getD_none, mObj, mput_none hfd, mEs_app, List.length_append, List.length_cons, List.length_nil, Nat.zero_add, mfind_none_idx hfd]
    have hso := MapKept.run_setObj_map (P := P) (Obj.map (mEs kv 0 D ++ [({ key := kv a, val := z, born := D.length } : MapEntry)]).toArray (D.length + 1)) hg
    have hzv : (zeroValue et).run P w = .ok z w := by simp [zeroValue, typeInfo, hi, hz]
    simp only [Sem.run_bind, hzv, Result.andThen_ok, Sem.run_pure, List.push_toArray, hso, goInt, mEs]
  | some p =>
    obtain ⟨i, u⟩ := p
    rw [hfd] at hget
    simp only [Option.map_some] at hget
    obtain ⟨h1, h2, h3⟩ := mput_some (kv := kv) (v := u) hfd (show i = 0 + i by omega)
    have hidx : i = 0 + midx a D := mfind_idx hfd
    have h2' : Option.map (fun e => e.key) (mEs kv 0 D)[i]? = some (kv a) := h2
    have hx := mEs_get kv 0 D i
    have hlt : i < D.length := h1
    rw [List.getElem?_eq_getElem hlt] at hx
    simp only [Option.map_some, Nat.zero_add] at hx
    have hkey : kv D[i].1 = kv a := by rw [hx] at h2'; simpa using h2'
    have hmod : (mEs kv 0 D).modify i (fun e => { e with key := kv a }) = mEs kv 0 D := modify_id hx (by simp [hkey])
    have hso := MapKept.run_setObj_map (P := P) (.map (mEs kv 0 D).toArray D.length) hg
    rw [hkey] at hx
    obtain rfl : i = midx a D := by omega
    simp only [← hget, Option.getD_some, mput_same hfd, mObj, List.getElem?_toArray, Instr.keyThatStays, K.same, if_true, Sem.run_pure, Result.andThen_ok, Sem.run_bind, List.modify_toArray, hmod, hso, hx, Option.map_some, goInt]
theorem m_mapEntry {x y : Operand} {sz by' : Nat} {z : Value} {g : Nat} {D : List (κ × Value)} {a : κ} (K : KeyT P kt kv ok) (hT : P.underlying T = some (.map kt et)) (hi : TI P et sz by' z) (hx : opv l x = .map (some g) := by rfl) (hy : opv l y = kv a) (ha : ok a) (hS : St S w0 w L) (hd : Upd L (.obj g (mObj kv D)) (.obj g (mObj kv (mput a ((mget a D).getD z) D))) L' := by repeat (first | exact Upd.head | apply Upd.tail)) (hD : MOk ok D)
    (h : ∀ w', St S w0 w' L' → WL P ops Q rest (fr (l.set d (.tuple #[(mget a D).getD z, .int .i64 (midx a D : Int)]))) w') : WL P ops Q (⟨some d, .mapEntry T x y, ty, pos, aft, none⟩ :: rest) (fr l) w := by
  have hg := hS.holds _ hd.mem
  have hlt : g < w.heap.size := (Array.getElem?_eq_some_iff.1 (show w.heap[g]? = some _ from hg)).1
  have hr := run_mapEntry K hT hi (w := w) hg ha hD
  refine s_val (w' := { w with heap := w.heap.setIfInBounds g (mObj kv (mput a ((mget a D).getD z) D)) }) (by simp [execOp, hx, hy, hr]) (h _ (hS.turn hd (setObj_keep w g _) ?_ ?_ ?_))
  · show (w.heap.setIfInBounds g _)[g]? = _
    simp [hlt]
  · intro k hk; simp [Res.own] at hk ⊢; exact .inl hk
  · intro k hk; simp [Res.reads] at hk
theorem run_entryStore {g : Nat} {D : List (κ × Value)} {a : κ} {u v : Value} (hg : w.heap[g]? = some (mObj kv (mput a u D))) :
    (Instr.entryStore T (.map (some g)) (.int .i64 (midx a D : Int)) v).run P w = .ok () { w with heap := w.heap.setIfInBounds g (mObj kv (mput a v D)) } := by
  have hgo := run_getObj_mp (P := P) hg
  simp only [mObj] at hgo
  have hfd := mput_mid (a := a) (u := u) D
  obtain ⟨h1, h2, h3⟩ := mput_some (kv := kv) (v := v) hfd (show midx a D = 0 + midx a D by omega)
  rw [mput_put] at h3
  have hfi := mEs_findIdx kv 0 (mput a u D) (midx a D) h1
  rw [Nat.zero_add] at hfi
  have hx := mEs_get kv 0 (mput a u D) (midx a D)
  rw [List.getElem?_eq_getElem h1] at hx
  simp only [Option.map_some, Nat.zero_add] at hx
  have hkey : kv (mput a u D)[midx a D].1 = kv a := by rw [hx] at h2; simpa using h2
  have hmod : (mEs kv 0 (mput a u D)).modify (midx a D) (fun e => { e with val := v }) = mEs kv 0 (mput a v D) := by
    rw [h3 0]; exact modify_at hx (by simp [hkey])
  have hl : (mput a u D).length = (mput a v D).length := by
    have := congrArg List.length (h3 0)
    simpa [mEs_len] using this.symm
  have hso := MapKept.run_setObj_map (P := P) (.map (mEs kv 0 (mput a v D)).toArray (mput a v D).length) hg
  simp only [Instr.entryStore, Sem.run_bind, hgo, Result.andThen_ok, asInt, asIntOf, Sem.run_pure, List.findIdx?_toArray, hfi, List.modify_toArray, hmod, hl, hso, mObj]
theorem m_entryStore {x y z : Operand} {g : Nat} {D : List (κ × Value)} {a : κ} {u v : Value} (hx : opv l x = .map (some g) := by rfl) (hy : opv l y = .int .i64 (midx a D : Int) := by rfl) (hz : opv l z = v := by rfl) (hS : St S w0 w L) (hd : Upd L (.obj g (mObj kv (mput a u D))) (.obj g (mObj kv (mput a v D))) L' := by repeat (first | exact Upd.head | apply Upd.tail))
    (h : ∀ w', St S w0 w' L' → WL P ops Q rest (fr l) w') : WL P ops Q (⟨none, .entryStore T x y z, ty, pos, aft, none⟩ :: rest) (fr l) w := by
  have hg := hS.holds _ hd.mem
  have hlt : g < w.heap.size := (Array.getElem?_eq_some_iff.1 (show w.heap[g]? = some _ from hg)).1
  have hr := run_entryStore (P := P) (T := T) (v := v) (w := w) hg
  refine s_unit (w' := { w with heap := w.heap.setIfInBounds g (mObj kv (mput a v D)) }) (by simp [execOp, hx, hy, hz, hr]) (h _ (hS.turn hd (setObj_keep w g _) ?_ ?_ ?_))
  · show (w.heap.setIfInBounds g _)[g]? = _
    simp [hlt]
  · intro k hk; simp [Res.own] at hk ⊢; exact .inl hk
  · intro k hk; simp [Res.reads] at hk
end
theorem KeyT.to {P : Program} {t : TypeId} {κ : Type} [DecidableEq κ] {kv kv' : κ → Value} {ok : κ → Prop} (K : KeyT P t kv ok) (h : ∀ a, ok a → kv a = kv' a) (hs : ∀ a, Instr.sameBits 10000 (kv' a) (kv' a) = true) : KeyT P t kv' ok := by
  refine ⟨fun em w a ha => by rw [← h a ha]; exact K.chk em w a ha, fun w a b ha hb => by rw [← h a ha, ← h b hb]; exact K.eq w a b ha hb, ?_, hs⟩
  obtain ⟨kd, hu, hk⟩ := K.now
  refine ⟨kd, hu, ?_⟩
  rcases hk with hk | hk
  · exact .inl fun a b ha hb => by rw [← h a ha, ← h b hb]; exact hk a b ha hb
  · exact .inr fun a b ha hb => by rw [← h a ha, ← h b hb]; exact hk a b ha hb
theorem keyT_arr {P : Program} {t : TypeId} {D D' n : Nat} {k : IntKind} {dsc : TypeDesc} (hu : P.underlying t = some dsc) (hd : isAggD dsc = true) (hc : ChV P D t (List.replicate n k)) (he : EqV P D' t (List.replicate n k)) (h1 : D ≤ 10000) (h2 : D' ≤ 10000) : KeyT P t (fun xs : List Int => .agg (ic k xs)) (fun xs => xs.length = n) := by
  have K := keyT_agg hu hd hc he h1 h2
  simp only [List.length_replicate] at K
  refine K.to (fun a ha => by rw [zi_ic ha]) (fun a => sameBits_ints 9999 _ ?_)
  intro v hv
  obtain ⟨x, _, rfl⟩ := List.mem_map.1 hv
  exact ⟨k, x, rfl⟩
theorem mok_nil {κ : Type} {ok : κ → Prop} : MOk ok ([] : List (κ × Value)) := fun p hp => by cases hp
theorem nodup_len : ∀ {n : Nat} {l : List Nat}, l.Nodup → (∀ i ∈ l, i < n) → l.length ≤ n
  | 0, [], _, _ => Nat.le_refl _
  | 0, a :: _, _, h => absurd (h a (by simp)) (by omega)
  | n + 1, l, hn, h => by
    have h1 := nodup_len (n := n) (l := l.erase n) (hn.erase n) (fun i hi => by
      have h2 := (hn.mem_erase_iff).1 hi
      have := h i h2.2
      have := h2.1
      omega)
    have h2 : l.length - 1 ≤ (l.erase n).length := by rw [List.length_erase]; split <;> omega
    omega
end Go.Proofs.Ytpjpaipkkcengaa
set_option maxRecDepth 100000
namespace Go.Proofs.Ytpjpaipkkcengaa
open Go.RowKit
theorem chv27 : ChV Try.prog 2 27 (List.replicate 16 IntKind.u32) := (show ChV Try.prog 2 27 (List.replicate 16 [IntKind.u32]).flatten from ch_arr Try.underlying27 ti25 rfl (ch_int Try.underlying25))
def kv27 (xs : List Int) : Value := .agg (ic .u32 xs)
theorem ky27 : KeyT Try.prog 27 kv27 (fun xs => xs.length = 16) := keyT_arr Try.underlying27 rfl chv27 eqv27 (by decide) (by decide)
end Go.Proofs.Ytpjpaipkkcengaa
namespace Go.Proofs.Ytpjpaipkkcengaa
open Go.ChangeShapes Go.WideShapes Go.ChangeAt Go.RowKit
section
variable {H : Type} {enc : TypeId × Value → H} {P : Program}
theorem trodAll_stays {W W' : World} {sp : Nat → Bool} (hl : laidOutB P = true) (hsame : ∀ p : MemPlace, p.block < W.heap.size → W.sameAt W' p) :
    ∀ (ts : List TypeId) (vs : List Value) (ds : List (DataW H)) (ps : List MemPlace), (ts.all fun t => P.readableRec t && decide (t < P.types.size)) = true → (∀ p ∈ ps, p.block < W.heap.size) → (∀ p ∈ ps, sp p.block = true) →
      DataW.TrodAll enc P W 0 (fun _ => true) true ts vs ds ps → DataW.TrodAll enc P W' 0 sp true ts vs ds ps
  | [], [], [], _, _, _, _, h => h
  | t :: ts, v :: vs, d :: ds, ps, hr, hlt, hsp, h => by
    obtain ⟨p, q, h1, h2, rfl⟩ := h
    simp only [List.all_cons, Bool.and_eq_true, decide_eq_true_eq] at hr
    exact ⟨p, q, WideElems.Trod_stays hl hr.1.1 hr.1.2 h1 (fun x hx => hsame x (hlt x (by simp [hx]))) (fun x hx => hsp x (by simp [hx])), trodAll_stays hl hsame ts vs ds q hr.2 (fun x hx => hlt x (by simp [hx])) (fun x hx => hsp x (by simp [hx])) h2, rfl⟩
  | [], _ :: _, _, _, _, _, _, h => by simp [DataW.TrodAll] at h
  | [], [], _ :: _, _, _, _, _, h => by simp [DataW.TrodAll] at h
  | _ :: _, [], _, _, _, _, _, h => by simp [DataW.TrodAll] at h
  | _ :: _, _ :: _, [], _, _, _, _, h => by simp [DataW.TrodAll] at h
theorem trodAll_len {W : World} {b : Nat} {sp : Nat → Bool} {hd : Bool} : ∀ (ts : List TypeId) (vs : List Value) (ds : List (DataW H)) (ps : List MemPlace), DataW.TrodAll enc P W b sp hd ts vs ds ps → ds.length = ts.length
  | [], [], [], _, _ => rfl
  | t :: ts, v :: vs, d :: ds, ps, h => by
    obtain ⟨p, q, h1, h2, rfl⟩ := h
    simp [trodAll_len ts vs ds q h2]
  | [], _ :: _, _, _, h => by simp [DataW.TrodAll] at h
  | [], [], _ :: _, _, h => by simp [DataW.TrodAll] at h
  | _ :: _, [], _, _, h => by simp [DataW.TrodAll] at h
  | _ :: _, _ :: _, [], _, h => by simp [DataW.TrodAll] at h
theorem post_of_below {f : Func} {s : ChangeSpec} {apart fresh handsOn again : Bool} {W W' : World} {args : Array Value} {v : Value} {ds gs : List (DataW H)} {before pa pv : List MemPlace}
    (hW : DataW.Whole enc P f.params.toList s.vars apart W args.toList ds gs before)
    (hres : ∀ (b : Nat) (sp : Nat → Bool) (hd : Bool), DataW.TrodAll enc P W' b sp hd f.resultTypes.toList (v.resultList f.resultTypes.size) (s.fn H (ds ++ gs)).results [])
    (hargs : ∀ sp : Nat → Bool, (∀ p ∈ before, sp p.block = true) → DataW.TrodAll enc P W' 0 sp true f.params.toList args.toList (s.fn H (ds ++ gs)).args pa)
    (hvars : ∀ sp : Nat → Bool, (∀ p ∈ before, sp p.block = true) → DataW.TrodVars enc P W' sp s.vars (s.fn H (ds ++ gs)).vars pv)
    (hps : before = pa ++ pv) (hb : Below W.heap.size W W')
    (hok : ∀ (j : Nat) (t : TypeId) (r : Value), f.resultTypes[j]? = some t → (v.resultList f.resultTypes.size)[j]? = some r → Value.okWide P W' .any 0 t r) :
    s.post enc P f apart fresh handsOn again W args v W' := by
  have hlt : ∀ p ∈ before, p.block < W.heap.size := fun p hp => hW.lt p hp
  have hold : ∀ p ∈ before, (fun b => decide (b < W.heap.size)) p.block = true := fun p hp => by simpa using hlt p hp
  refine ⟨ds, gs, before, [], pa, pv, hW, hres _ _ _, hargs _ hold, hvars _ hold, World.keptBut_mono (fun p hp => ⟨hp, ?_⟩) (hb.frame (· ∈ before)), fun _ => ?_⟩
  · rw [hps, List.mem_append] at hp
    exact Or.inr hp
  · obtain ⟨_, _, _, _, _, hz, hn⟩ := hW
    refine ⟨hok, _, _, ([] ++ pa) ++ pv, ⟨[] ++ pa, pv, trodAll_append (hargs _ (fun _ _ => rfl)) (hres _ _ _), hvars _ (fun _ _ => rfl), rfl, ?_, ?_⟩, ?_⟩
    · intro b off hp
      have hin : MemPlace.cell b off ∈ before := by rw [hps]; simpa using hp
      rw [hb.frozen (hlt _ hin)]
      exact hz b off hin
    · intro ha
      have := hn ha
      rw [hps] at this
      simpa using this
    · intro p hp _
      rw [hps]
      simpa using hp
end
theorem law_lifted {H : Type} {enc : TypeId × Value → H} {C : Checked} {os : Os} {k : FuncId} {fn : Func} {s : ChangeSpec} {conds : List PathCond} {tb : TypeId}
    (own : ownKnob C.prog.godebug = none) (started : os.Started) (noInit : C.prog.inits.idxOf? k = none) (hfn : C.prog.funcs[k]? = some fn)
    (i : Input) (fuel : Nat)
    (hv : (World.plainHolding C.prog os i).variablesB C.prog = true)
    (hr : ((World.plainHolding C.prog os i).heap.toList.drop C.prog.globals.size).take ((begin C.prog (fun _ _ => 0) default).world.heap.size - C.prog.globals.size) =
      (begin C.prog (fun _ _ => 0) default).world.heap.toList.drop C.prog.globals.size)
    (hok : Input.okWideB C.prog (World.plainHolding C.prog os i) k ⟨#[], i.args, []⟩ = true)
    (hpre : s.preB enc C.prog fn conds false (World.plainHolding C.prog os i).memory i.args fuel = true)
    (hsz : s.sizedB enc C.prog fn false (World.plainHolding C.prog os i).memory i.args fuel = true)
    (hl : laidOutB C.prog = true) (hvars : s.vars = []) (hpar : (fn.params.toList.all fun t => C.prog.readableRec t && decide (t < C.prog.types.size)) = true)
    (hspec : ∀ ds : List (DataW H), ds.length = fn.params.size → s.fn H ds = { results := [.lit (.bool true)], args := ds })
    (hres : fn.resultTypes = #[tb]) (hb : C.prog.underlying tb = some .bool)
    (walk : ∀ (W : World) (base : Nat) (args : Array Value) (ds : List (DataW H)) (ps : List MemPlace),
      (∀ (j : Nat) t v, fn.params[j]? = some t → args[j]? = some v → Value.okWide C.prog W .any base t v) →
      DataW.TrodAll enc C.prog W 0 (fun _ => true) true fn.params.toList args.toList ds ps →
      (∀ x ∈ DataW.weightsEach C.prog fn.params.toList ds, x ≤ reachBytes) →
      CallR C.prog k args W fun v W' => v = .bool true ∧ Ext W W') :
    ReturnsInHanded {} C os k .any (s.pre6 enc C.prog fn conds false) (s.post enc C.prog fn false true false false) := by
  refine returnsInHanded_of_change_sized (C := C) own started noInit hfn (ChangeSpec.witness6 (enc := enc) (C := C) false i fuel hv hr hok hpre hsz) ?_
  intro W base args ds gs before hval hW _ hwt _
  have hW' := hW
  obtain ⟨p, q, hA, hV, hpq, hfz, hnd⟩ := hW
  rw [hvars] at hV
  obtain ⟨rfl, rfl⟩ := trodVars_none hV
  have hlen := trodAll_len _ _ _ _ hA
  have hwt' : ∀ x ∈ DataW.weightsEach C.prog fn.params.toList ds, x ≤ reachBytes := by
    have e : s.plain.varTypes C.prog = [] := by simp [ChangeSpec.plain, DataSpec.varTypes, hvars]
    rw [e, List.append_nil, List.append_nil] at hwt
    simpa using hwt
  refine Calls.mono (walk W base args ds p hval hA hwt') fun e W' ⟨v, he, hv, hE⟩ => ⟨v, he, ?_⟩
  subst hv
  have hB := hE.below
  have hs := hspec ds (by simpa using hlen)
  have hlt : ∀ x ∈ before, x.block < W.heap.size := fun x hx => hW'.lt x hx
  have hpb : before = p := by rw [hpq]; simp
  refine post_of_below (pa := p) (pv := []) hW' ?_ ?_ ?_ ?_ hB ?_
  · intro b sp hd
    rw [hres, List.append_nil, hs]
    exact trodAll_mk1 (shut_bool hb true)
  · intro sp hsp
    rw [List.append_nil, hs]
    exact trodAll_stays hl (fun x hx => hB.same hx) _ _ _ _ hpar (fun x hx => hlt x (hpb ▸ hx)) (fun x hx => hsp x (hpb ▸ hx)) hA
  · intro sp _
    rw [List.append_nil, hs, hvars]
    rfl
  · rw [hpb]; simp
  · exact ok_one hres rfl (okWide_bool_mk hb true)
end Go.Proofs.Ytpjpaipkkcengaa
namespace Go.Proofs.Ytpjpaipkkcengaa
open Go.ChangeShapes Go.WideShapes Go.ChangeAt Go.RowKit
theorem add_at0 (g o k : Nat) : (⟨g, o, none⟩ : Addr).add k = ⟨g, o + k, none⟩ := by unfold Addr.add; split <;> simp_all
/-- what a cell may hold, in a world -/
def LK := World → Value → Prop
def LK.int (k : IntKind) : LK := fun _ v => ∃ n, v = .int k n ∧ (Lit.int k n).wf = true
def LK.bool : LK := fun _ v => ∃ b, v = .bool b
def AllOk (w : World) : List LK → List Value → Prop
  | [], [] => True
  | k :: ks, v :: vs => k w v ∧ AllOk w ks vs
  | _, _ => False
theorem AllOk.len {w : World} : ∀ {ks : List LK} {vs : List Value}, AllOk w ks vs → vs.length = ks.length
  | [], [], _ => rfl
  | _ :: _, _ :: _, h => by simp [AllOk.len h.2]
  | [], _ :: _, h => h.elim
  | _ :: _, [], h => h.elim
theorem AllOk.app {w : World} : ∀ {ks js : List LK} {vs us : List Value}, AllOk w ks vs → AllOk w js us → AllOk w (ks ++ js) (vs ++ us)
  | [], _, [], _, _, h => h
  | _ :: _, _, _ :: _, _, h, h' => ⟨h.1, AllOk.app h.2 h'⟩
  | [], _, _ :: _, _, h, _ => h.elim
  | _ :: _, _, [], _, h, _ => h.elim
/-- the cells of a type that holds no pointer -/
def Flat (P : Program) (t : TypeId) (ks : List LK) : Prop := ∀ {H : Type} (enc : TypeId × Value → H) (w : World) (base : Nat) (sp : Nat → Bool) (held : Bool) (fuel : Nat) (cs : List Value) (x : DataW H × List MemPlace),
  DataW.trod enc P w base sp held fuel t cs = some x → AllOk w ks cs
section
variable {P : Program} {t e : TypeId} {ks : List LK}
theorem flat_int {k : IntKind} (h : P.underlying t = some (.int k)) : Flat P t [.int k] := fun _ _ _ _ _ _ _ _ hx => by
  obtain ⟨n, rfl, _, hw⟩ := DataW.trod_int h hx
  exact ⟨⟨n, rfl, hw⟩, trivial⟩
theorem allOk_rep {w : World} {c : Nat} (hc : ks.length = c) : ∀ (n : Nat) (cs : List Value), cs.length = n * c → (∀ i, i < n → AllOk w ks ((cs.drop (i * c)).take c)) → AllOk w (List.replicate n ks).flatten cs
  | 0, cs, hl, _ => by
    have : cs = [] := List.eq_nil_of_length_eq_zero (by simpa using hl)
    subst this; trivial
  | n + 1, cs, hl, h => by
    rw [List.replicate_succ, List.flatten_cons, ← List.take_append_drop c cs]
    refine AllOk.app (by simpa using h 0 (by omega)) (allOk_rep hc n _ (by simp [hl, Nat.succ_mul]) fun i hi => ?_)
    have := h (i + 1) (by omega)
    rwa [List.drop_drop, Nat.add_comm c, ← Nat.succ_mul]
theorem flat_arr {n c : Nat} (h : P.underlying t = some (.array n e)) (he : Flat P e ks) (hc : ks.length = c) (hce : P.cellsOf e = c) (hct : P.cellsOf t = n * c) : Flat P t (List.replicate n ks).flatten := fun enc w base sp held fuel cs x hx => by
  obtain ⟨xs, m, _, _, hl, hxl, hi⟩ := DataW.trod_array h hx
  refine allOk_rep hc n cs (hl.trans hct) fun i hin => ?_
  have := hi i hin
  rw [hce] at this
  have hlt : i < xs.length := by omega
  rw [List.getElem?_eq_getElem hlt] at this
  exact he enc w base sp held m _ _ this
end
section
variable {H : Type} {enc : TypeId × Value → H} {P : Program} {w : World} {base : Nat} {sp : Nat → Bool} {held : Bool} {t e : TypeId} {r : Reach} {b0 : Nat} {v : Value} {d : DataW H} {ps : List MemPlace} {ks : List LK}
/-- a slice's elements, out of the look at its cells -/
theorem slice_trod {sz : Nat} (hu : P.underlying t = some (.slice e)) (hf : Flat P e ks) (hk : ks.length = sz) (hce : P.cellsOf e = sz) (h0 : 0 < sz) {m : Nat} {cs : List Value} (hm : DataW.trod enc P w base sp held m t cs = some (d, ps)) :
    ∃ A n c xs, cs = [.slice A n c] ∧ n ≤ c ∧ c ≤ maxLen ∧ Rd w A sz n xs ∧ (∀ i, i < n → AllOk w ks ((xs.drop (i * sz)).take sz)) ∧ (n = 0 ∨ ∃ es rs, d = .slice es rs ∧ es.length = n) := by
  rcases DataW.trod_slice hu hm with ⟨e1, _⟩ | ⟨a, len, cap, elems, rest, n, _, e1, hx, hb, hlc, hcm, hel, hcells, _, _⟩
  · exact ⟨none, 0, 0, [], e1, Nat.le_refl _, Nat.zero_le _, ⟨by simp, fun h => absurd h (by omega)⟩, fun i hi => absurd hi (by omega), .inl rfl⟩
  · subst e1
    simp only [Prod.mk.injEq] at hx
    -- the elements' cells, one by one
    have hone : ∀ i, i < len → ∃ cs : List Value, cs.length = sz ∧ AllOk w ks cs ∧ ∀ j, j < sz → w.cell? ((a.add (i * sz)).add j) = cs[j]? := fun i hi => by
      have h1 := hcells i hi
      rw [hce] at h1
      have hlt : i < elems.length := by omega
      rw [List.getElem?_eq_getElem hlt] at h1
      cases hc : w.cells? base (a.add (i * sz)) sz with
      | none => rw [hc] at h1; cases h1
      | some cs =>
        rw [hc] at h1
        obtain ⟨_, hl, hj⟩ := World.cells?_some hc
        exact ⟨cs, hl, hf _ _ _ _ _ _ _ _ h1, hj⟩
    have hrow : ∀ n, n ≤ len → ∃ xs : List Value, xs.length = n * sz ∧ (∀ i, i < n → AllOk w ks ((xs.drop (i * sz)).take sz)) ∧ ∀ i j, i < n → j < sz → w.cell? ((a.add (i * sz)).add j) = xs[i * sz + j]? := by
      intro n
      induction n with
      | zero => exact fun _ => ⟨[], by simp, fun i hi => absurd hi (by omega), fun i j hi => absurd hi (by omega)⟩
      | succ n ih =>
        intro hn
        obtain ⟨xs, hl, hok, hc⟩ := ih (by omega)
        obtain ⟨cs, hcl, hcok, hcc⟩ := hone n (by omega)
        refine ⟨xs ++ cs, by simp [hl, hcl, Nat.succ_mul], fun i hi => ?_, fun i j hi hj => ?_⟩
        · rcases Nat.lt_or_ge i n with h | h
          · have h2 : i * sz + sz ≤ n * sz := by rw [← Nat.succ_mul]; exact Nat.mul_le_mul_right _ h
            rw [List.drop_append_of_le_length (by omega), List.take_append_of_le_length (by simp; omega)]
            exact hok i h
          · obtain rfl : i = n := by omega
            rw [List.drop_append, hl, List.drop_eq_nil_of_le (by omega)]
            simp only [Nat.sub_self, List.drop_zero, List.nil_append]
            rwa [List.take_of_length_le (by omega)]
        · rcases Nat.lt_or_ge i n with h | h
          · have h2 : i * sz + sz ≤ n * sz := by rw [← Nat.succ_mul]; exact Nat.mul_le_mul_right _ h
            rw [List.getElem?_append_left (by omega)]
            exact hc i j h hj
          · obtain rfl : i = n := by omega
            rw [List.getElem?_append_right (by omega), hl, Nat.add_sub_cancel_left]
            exact hcc j hj
    obtain ⟨xs, hl, hok, hc⟩ := hrow len (Nat.le_refl _)
    refine ⟨some a, len, cap, xs, rfl, hlc, hcm, ⟨hl, fun hn => ?_⟩, hok, .inr ⟨_, _, hx.1, by simpa using hel⟩⟩
    -- the address is a plain one
    have h0' := hc 0 0 hn h0
    have hlt : 0 < xs.length := by rw [hl]; exact Nat.mul_pos hn h0
    obtain ⟨b, o, spot⟩ := a
    simp only [Nat.zero_mul, Nat.add_zero, Addr.add, if_true] at h0'
    rw [List.getElem?_eq_getElem hlt] at h0'
    have hsp : spot = none := by
      unfold World.cell? at h0'
      split at h0'
      · split at h0'
        · cases h0'
        · rename_i hs; simpa using hs
      · cases h0'
    subst hsp
    refine ⟨b, o, rfl, World.block_lt_of_cell? _ _ h0', fun j u hu => ?_⟩
    have hj := (List.getElem?_eq_some_iff.1 hu).1
    have hdm := Nat.div_add_mod j sz
    have h3 := hc (j / sz) (j % sz) (by rw [hl] at hj; exact Nat.div_lt_of_lt_mul (by rw [Nat.mul_comm]; exact hj)) (Nat.mod_lt _ h0)
    have hdm' : j / sz * sz + j % sz = j := by rw [Nat.mul_comm]; exact hdm
    rw [add_at0, add_at0, Nat.add_assoc, hdm'] at h3
    rw [← hu, ← h3]
theorem open_slice {sz : Nat} (hu : P.underlying t = some (.slice e)) (hf : Flat P e ks) (hk : ks.length = sz) (hce : P.cellsOf e = sz) (h0 : 0 < sz) (hval : Value.okWide P w r b0 t v) (h : DataW.Trod enc P w base sp held t v d ps) :
    ∃ A n c xs, v = .slice A n c ∧ n ≤ c ∧ c ≤ maxLen ∧ Rd w A sz n xs ∧ (∀ i, i < n → AllOk w ks ((xs.drop (i * sz)).take sz)) ∧ (n = 0 ∨ ∃ es rs, d = .slice es rs ∧ es.length = n) := by
  obtain ⟨A, len, cap, rfl⟩ := okWide_slice hu hval
  obtain ⟨m, hm⟩ := h
  obtain ⟨A', n, c, xs, e1, h⟩ := slice_trod hu hf hk hce h0 hm
  simp [Value.cells] at e1
  obtain ⟨rfl, rfl, rfl⟩ := e1
  exact ⟨_, _, _, xs, rfl, h⟩
/-- the weight of a slice -/
theorem slice_weight {t e : TypeId} {ts : List TypeId} {d : DataW H} {ds : List (DataW H)} {n by' : Nat} (hu : P.underlying t = some (.slice e)) (hby : P.bytesOf e = by') (h : ∀ x ∈ DataW.weightsEach P (t :: ts) (d :: ds), x ≤ reachBytes) (hd : n = 0 ∨ ∃ es rs, d = .slice es rs ∧ es.length = n) : n * by' ≤ reachBytes := by
  rcases hd with rfl | ⟨es, rs, rfl, rfl⟩
  · simp
  · have := h ((es.length + rs.length) * P.bytesOf e) (by simp [DataW.weightsEach, DataW.weights, hu])
    rw [hby] at this
    exact Nat.le_trans (Nat.mul_le_mul_right _ (by omega)) this
theorem rest_weight {t : TypeId} {ts : List TypeId} {d : DataW H} {ds : List (DataW H)} (h : ∀ x ∈ DataW.weightsEach P (t :: ts) (d :: ds), x ≤ reachBytes) : ∀ x ∈ DataW.weightsEach P ts ds, x ≤ reachBytes := fun x hx => h x (by simp [DataW.weightsEach, hx])
end
end Go.Proofs.Ytpjpaipkkcengaa
namespace Go.Proofs.Ytpjpaipkkcengaa
theorem allOk_zi {w : World} : ∀ {ks : List IntKind} {cs : List Value}, AllOk w (ks.map LK.int) cs → ∃ xs : List Int, cs = zi ks xs ∧ xs.length = ks.length ∧ ∀ i k, ks[i]? = some k → (Lit.int k (xs.getD i 0)).wf = true
  | [], [], _ => ⟨[], rfl, rfl, fun i k h => by simp at h⟩
  | [], _ :: _, h => h.elim
  | k :: ks, [], h => h.elim
  | k :: ks, v :: vs, ⟨⟨n, hn, hw⟩, h⟩ => by
    obtain ⟨xs, rfl, hl, hx⟩ := allOk_zi h
    refine ⟨n :: xs, by rw [hn]; rfl, by simp [hl], fun i k' hi => ?_⟩
    rcases i with _ | i
    · simp at hi; subst hi; simpa using hw
    · simpa using hx i k' (by simpa using hi)
end Go.Proofs.Ytpjpaipkkcengaa
namespace Go.Proofs.Ytpjpaipkkcengaa
/-- what bytes begin with, read group by group -/
def unv (l : List Int) : Nat → Nat → Nat → Nat × Nat × Nat
  | 0, _, _ => (0, 0, 15)
  | k + 1, i, x =>
    if l.length ≤ i then (0, 0, 4) else
    if i = 9 ∧ 1 < bt l i then (0, 0, 15) else
    if bt l i = 0 ∧ 0 < i then (0, 0, 3) else
    if bt l i < 128 then (x + 128 ^ i * bt l i, i + 1, 0) else unv l k (i + 1) (x + 128 ^ i * (bt l i - 128))
section
variable {l : List Int} {k x : Nat} {r : Nat × Nat × Nat}
variable (hU : unv l (10 - k) k x = r) (h : k < 10)
include hU h
end
end Go.Proofs.Ytpjpaipkkcengaa
namespace Go.Proofs.Ytpjpaipkkcengaa
/-- the cells of a row of things -/
def rowsOf {α : Type} (cells : α → List Value) (l : List α) : List Value := (l.map cells).flatten
section
variable {α : Type} {cells : α → List Value} {sz : Nat}
theorem rowsOf_cons (a : α) (l : List α) : rowsOf cells (a :: l) = cells a ++ rowsOf cells l := rfl
theorem rowsOf_app (l m : List α) : rowsOf cells (l ++ m) = rowsOf cells l ++ rowsOf cells m := by simp [rowsOf]
theorem rows_len (h : ∀ a, (cells a).length = sz) : ∀ l : List α, (rowsOf cells l).length = l.length * sz
  | [] => by simp [rowsOf]
  | a :: l => by rw [rowsOf_cons, List.length_append, rows_len h l, h a, List.length_cons, Nat.succ_mul, Nat.add_comm]
theorem rows_drop (h : ∀ a, (cells a).length = sz) (l : List α) (k : Nat) : (rowsOf cells l).drop (k * sz) = rowsOf cells (l.drop k) := by
  rcases Nat.lt_or_ge l.length k with hk | hk
  · have h1 : l.length * sz ≤ k * sz := Nat.mul_le_mul_right _ (by omega)
    rw [List.drop_eq_nil_of_le (by rw [rows_len h]; exact h1), List.drop_eq_nil_of_le (by omega)]; rfl
  · conv => lhs; rw [← List.take_append_drop k l, rowsOf_app]
    exact List.drop_left' (by rw [rows_len h, List.length_take, Nat.min_eq_left hk])
theorem rows_take (h : ∀ a, (cells a).length = sz) (l : List α) (k : Nat) : (rowsOf cells l).take (k * sz) = rowsOf cells (l.take k) := by
  rcases Nat.lt_or_ge l.length k with hk | hk
  · have h1 : l.length * sz ≤ k * sz := Nat.mul_le_mul_right _ (by omega)
    rw [List.take_of_length_le (by rw [rows_len h]; exact h1), List.take_of_length_le (by omega)]
  · conv => lhs; rw [← List.take_append_drop k l, rowsOf_app]
    exact List.take_left' (by rw [rows_len h, List.length_take, Nat.min_eq_left hk])
theorem rows_get (h : ∀ a, (cells a).length = sz) (d : α) {l : List α} {k : Nat} (hk : k < l.length) : ((rowsOf cells l).drop (k * sz)).take sz = cells (l.getD k d) := by
  rw [rows_drop h, List.drop_eq_getElem_cons hk, rowsOf_cons, List.take_left' (h _)]
  simp [List.getD_eq_getElem?_getD, List.getElem?_eq_getElem hk]
theorem rows_open {w : World} {ks : List LK} {ok : α → Prop} (hsz : ∀ cs, AllOk w ks cs → ∃ a, cs = cells a ∧ ok a) : ∀ (n : Nat) (xs : List Value), xs.length = n * sz → (∀ i, i < n → AllOk w ks ((xs.drop (i * sz)).take sz)) → ∃ l : List α, l.length = n ∧ xs = rowsOf cells l ∧ ∀ a ∈ l, ok a
  | 0, xs, hl, _ => ⟨[], rfl, List.eq_nil_of_length_eq_zero (by simpa using hl), by simp⟩
  | n + 1, xs, hl, h => by
    obtain ⟨a, ha, hok⟩ := hsz _ (by simpa using h 0 (by omega))
    obtain ⟨l, hll, hx, hl2⟩ := rows_open hsz n (xs.drop sz) (by simp [hl, Nat.succ_mul]) fun i hi => by
      have := h (i + 1) (by omega)
      rwa [List.drop_drop, Nat.add_comm sz, ← Nat.succ_mul]
    refine ⟨a :: l, by simp [hll], ?_, by intro b hb; rcases List.mem_cons.1 hb with rfl | hb; exact hok; exact hl2 b hb⟩
    rw [rowsOf_cons, ← ha, ← hx, List.take_append_drop]
end
end Go.Proofs.Ytpjpaipkkcengaa
set_option linter.unusedSimpArgs false
set_option linter.unusedVariables false
namespace Go.Proofs.Ytpjpaipkkcengaa
/-- cells of several kinds, as many as there are kinds -/
def padL (ks : List IntKind) (xs : List Int) : List Value := ks.mapIdx fun i k => .int k (xs.getD i 0)
theorem padL_len (ks : List IntKind) (xs : List Int) : (padL ks xs).length = ks.length := by simp [padL]
theorem padL_zi {ks : List IntKind} {xs : List Int} (h : xs.length = ks.length) : padL ks xs = zi ks xs := by
  refine List.ext_getElem (by rw [padL_len, zi_len h]) fun i h1 h2 => ?_
  have h3 : i < xs.length := by rw [padL_len] at h1; omega
  simp [padL, zi, List.getD_eq_getElem?_getD, List.getElem?_eq_getElem h3]
theorem padL_ic {n : Nat} {k : IntKind} {xs : List Int} (h : xs.length = n) : (padL (List.replicate n k) xs).toArray = ic k xs := by
  rw [padL_zi (by simpa using h), zi_ic h]
/-- rows whose cells are numbers -/
def rowsZ (ks : List IntKind) (l : List (List Int)) : List Value := rowsOf (padL ks) l
theorem rowsZ_len (ks : List IntKind) (l : List (List Int)) : (rowsZ ks l).length = l.length * ks.length := rows_len (padL_len ks) l
theorem rowsZ_get {ks : List IntKind} {l : List (List Int)} {k : Nat} (hk : k < l.length) (h : (l.getD k []).length = ks.length) : ((rowsZ ks l).drop (k * ks.length)).take ks.length = zi ks (l.getD k []) := by
  rw [rowsZ, rows_get (padL_len ks) [] hk, padL_zi h]
theorem rowsZ_one (ks : List IntKind) (x : List Int) : rowsZ ks [x] = padL ks x := by simp [rowsZ, rowsOf]
theorem rowsZ_app (ks : List IntKind) (l m : List (List Int)) : rowsZ ks (l ++ m) = rowsZ ks l ++ rowsZ ks m := rowsOf_app l m
theorem rowsZ_cells (ks : List IntKind) (l : List (List Int)) : ∀ u ∈ rowsZ ks l, u.oneCell' = true := by
  intro u hu
  obtain ⟨a, ha, hu⟩ := List.mem_flatten.1 hu
  obtain ⟨x, _, rfl⟩ := List.mem_map.1 ha
  simp only [padL, List.mem_mapIdx] at hu
  obtain ⟨i, h, rfl⟩ := hu
  rfl
theorem getD_mem' {α : Type} {l : List α} {k : Nat} {d : α} (h : k < l.length) : l.getD k d ∈ l := by
  rw [List.getD_eq_getElem?_getD, List.getElem?_eq_getElem h]; simp
theorem rowsZ_open {w : World} {ks : List IntKind} {n : Nat} {xs : List Value} (hl : xs.length = n * ks.length) (h : ∀ i, i < n → AllOk w (ks.map LK.int) ((xs.drop (i * ks.length)).take ks.length)) : ∃ l : List (List Int), l.length = n ∧ xs = rowsZ ks l ∧ ∀ x ∈ l, x.length = ks.length ∧ ∀ i k, ks[i]? = some k → (Lit.int k (x.getD i 0)).wf = true :=
  rows_open (cells := padL ks) (ok := fun x => x.length = ks.length ∧ ∀ i k, ks[i]? = some k → (Lit.int k (x.getD i 0)).wf = true) (fun cs hcs => by
    obtain ⟨x, rfl, hx, hw⟩ := allOk_zi hcs
    exact ⟨x, (padL_zi hx).symm, hx, hw⟩) n xs hl h
/-- how often each stands in a list, the last one first -/
def cntR : List (List Int) → List (List Int × Value)
  | [] => []
  | x :: l => mput x (.int .i64 ((l.count x : Int) + 1)) (cntR l)
theorem cnt_get (x : List Int) : ∀ (l : List (List Int)), mget x (cntR l) = if l.count x = 0 then none else some (.int .i64 (l.count x : Int))
  | [] => rfl
  | y :: l => by
    rw [cntR, mget_put, List.count_cons]
    by_cases e : x = y
    · subst e; simp
    · have e' : ¬ (y == x) = true := by simpa using fun h => e h.symm
      rw [if_neg e, if_neg e', Nat.add_zero]; exact cnt_get x l
theorem cnt_getD (x : List Int) (l : List (List Int)) : (mget x (cntR l)).getD (.int .i64 0) = .int .i64 (l.count x : Int) := by
  rw [cnt_get]; split
  · next h => rw [h]; rfl
  · rfl
theorem cnt_step {l : List (List Int)} {k : Nat} (hk : k < l.length) : cntR (l.take (k + 1)).reverse = mput (l.getD k []) (.int .i64 (((l.take k).reverse.count (l.getD k []) : Int) + 1)) (cntR (l.take k).reverse) := by
  have e : (l.take (k + 1)).reverse = l.getD k [] :: (l.take k).reverse := by
    rw [List.take_succ_eq_append_getElem hk, List.reverse_append]
    simp [List.getD_eq_getElem?_getD, List.getElem?_eq_getElem hk]
  rw [e]; rfl
theorem cnt_ok {n : Nat} : ∀ {l : List (List Int)}, (∀ x ∈ l, x.length = n) → MOk (fun xs : List Int => xs.length = n) (cntR l)
  | [], _ => mok_nil
  | x :: _, h => mput_ok (ok := fun xs : List Int => xs.length = n) (h x (by simp)) (cnt_ok fun y hy => h y (by simp [hy]))
theorem mput_keys (a : List Int) (v : Value) : ∀ (D : List (List Int × Value)) (y : List Int), (∃ p ∈ mput a v D, p.1 = y) ↔ y = a ∨ ∃ p ∈ D, p.1 = y
  | [], y => by simp [mput]; exact ⟨fun h => h.symm, fun h => h.symm⟩
  | (b, u) :: D, y => by
    have ih := mput_keys a v D y
    simp only [mput]
    by_cases e : a = b
    · subst e
      simp only [if_true, List.mem_cons, exists_eq_or_imp]
      constructor
      · rintro (h | h)
        · exact .inl h.symm
        · exact .inr (.inr h)
      · rintro (h | h | h)
        · exact .inl h.symm
        · exact .inl h
        · exact .inr h
    · simp only [if_neg e, List.mem_cons, exists_eq_or_imp]
      rw [ih]
      constructor
      · rintro (h | h | h)
        · exact .inr (.inl h)
        · exact .inl h
        · exact .inr (.inr h)
      · rintro (h | h | h)
        · exact .inr (.inl h)
        · exact .inl h
        · exact .inr (.inr h)
theorem cnt_keys (y : List Int) : ∀ (l : List (List Int)), (∃ p ∈ cntR l, p.1 = y) ↔ y ∈ l
  | [] => by simp [cntR]
  | x :: l => by rw [cntR, mput_keys, cnt_keys y l, List.mem_cons]
theorem mput_len (a : List Int) (v : Value) : ∀ (D : List (List Int × Value)), (mput a v D).length = if mget a D = none then D.length + 1 else D.length
  | [] => rfl
  | (b, u) :: D => by
    simp only [mput, mget]
    by_cases e : a = b
    · simp [e]
    · simp only [if_neg e, List.length_cons, mput_len a v D]; split <;> rfl
theorem cnt_len {l : List (List Int)} {k : Nat} (hk : k < l.length) : (cntR (l.take (k + 1)).reverse).length = if (l.take k).count (l.getD k []) = 0 then (cntR (l.take k).reverse).length + 1 else (cntR (l.take k).reverse).length := by
  rw [cnt_step hk, mput_len, cnt_get, List.count_reverse]
  by_cases h : (l.take k).count (l.getD k []) = 0 <;> simp [h]
theorem cnt_le {x : List Int} {l : List (List Int)} {k : Nat} : (l.take k).reverse.count x ≤ l.length := by
  have := List.count_le_length (a := x) (l := (l.take k).reverse)
  simp at this ⊢; omega
theorem cntR_len : ∀ (r : List (List Int)), (cntR r).length ≤ r.length
  | [] => Nat.le_refl _
  | x :: r => by have := cntR_len r; have h2 := mput_len_le x (.int .i64 ((r.count x : Int) + 1)) (cntR r); rw [cntR, List.length_cons]; omega
theorem cnt_lle (l : List (List Int)) (j : Nat) : (cntR (l.take j).reverse).length ≤ l.length := by
  have := cntR_len (l.take j).reverse
  simp at this ⊢; omega
/-- no thing of a list is beyond x -/
def topL (cmp : List Int → List Int → Int) (x : List Int) (l : List (List Int)) : Bool := l.all fun y => !decide (cmp x y = 1)
theorem topL_keys {cmp : List Int → List Int → Int} {x : List Int} {l : List (List Int)} : topL cmp x ((cntR l.reverse).map (·.1)) = topL cmp x l := by
  have key : ∀ y, y ∈ (cntR l.reverse).map (·.1) ↔ y ∈ l := fun y => by
    rw [List.mem_map]
    have := cnt_keys y l.reverse
    simp only [List.mem_reverse] at this
    rw [← this]
  unfold topL
  rw [Bool.eq_iff_iff, List.all_eq_true, List.all_eq_true]
  exact ⟨fun h y hy => h y ((key y).2 hy), fun h y hy => h y ((key y).1 hy)⟩
/-- the places, up to k, of those that nothing is beyond -/
def pkL (cmp : List Int → List Int → Int) (l : List (List Int)) : Nat → List Int
  | 0 => []
  | k + 1 => if topL cmp (l.getD k []) l then pkL cmp l k ++ [(k : Int)] else pkL cmp l k
theorem pkL_len (cmp : List Int → List Int → Int) (l : List (List Int)) : ∀ k, (pkL cmp l k).length ≤ k
  | 0 => Nat.le_refl _
  | k + 1 => by have := pkL_len cmp l k; rw [pkL]; split <;> simp <;> omega
theorem topL_take {cmp : List Int → List Int → Int} {x : List Int} {l : List (List Int)} {j : Nat} (hj : j < l.length) : topL cmp x (l.take (j + 1)) = (topL cmp x (l.take j) && !decide (cmp x (l.getD j []) = 1)) := by
  have e : l.getD j [] = l[j] := by rw [List.getD_eq_getElem?_getD, List.getElem?_eq_getElem hj]; rfl
  unfold topL
  rw [e, List.take_succ_eq_append_getElem hj, List.all_append]
  simp only [List.all_cons, List.all_nil, Bool.and_true]
theorem nodup_snoc {l : List Nat} {i : Nat} (h : l.Nodup) (hi : i ∉ l) : (l ++ [i]).Nodup := by
  rw [List.nodup_append]
  exact ⟨h, by simp, fun a ha b hb e => by simp at hb; subst hb; subst e; exact hi ha⟩
theorem top_all {cmp : List Int → List Int → Int} {x : List Int} {D : List (List Int × Value)} (h : ∀ i, i < D.length → ∀ p, D[i]? = some p → ¬ cmp x p.1 = 1) : topL cmp x (D.map (·.1)) = true := by
  unfold topL
  rw [List.all_eq_true]
  intro y hy
  obtain ⟨p, hp, rfl⟩ := List.mem_map.1 hy
  obtain ⟨i, hi, rfl⟩ := List.getElem_of_mem hp
  have := h i hi _ (List.getElem?_eq_getElem hi)
  simp [this]
theorem top_not {cmp : List Int → List Int → Int} {x : List Int} {D : List (List Int × Value)} {i : Nat} {p : List Int × Value} (hp : D[i]? = some p) (h : cmp x p.1 = 1) : topL cmp x (D.map (·.1)) = false := by
  unfold topL
  rw [List.all_eq_false]
  exact ⟨p.1, List.mem_map.2 ⟨p, List.mem_of_getElem? hp, rfl⟩, by simp [h]⟩
theorem count_take {x : List Int} {l : List (List Int)} {k : Nat} (hk : k < l.length) : (l.take (k + 1)).count x = (l.take k).count x + if l.getD k [] = x then 1 else 0 := by
  have e : l.getD k [] = l[k] := by rw [List.getD_eq_getElem?_getD, List.getElem?_eq_getElem hk]; rfl
  rw [List.take_succ_eq_append_getElem hk, List.count_append, e]
  simp [List.count_cons]
theorem take_snoc {l : List (List Int)} {k : Nat} (hk : k < l.length) : l.take (k + 1) = l.take k ++ [l.getD k []] := by
  have e : l.getD k [] = l[k] := by rw [List.getD_eq_getElem?_getD, List.getElem?_eq_getElem hk]; rfl
  rw [e]; exact List.take_succ_eq_append_getElem hk
theorem fill_one {pl : Nat → Option (Nat × Nat)} {base cs : Array Value} {sz : Nat} (hp : pl 0 = some (0, sz)) (hs : cs.size = sz) (hb : base.size = sz) : Instr.fill pl base [(0, .agg cs)] = some cs := by
  refine fill_cons hp hs (by omega) ?_
  rw [splice_whole (by simp only [Value.cells, Array.length_toList]; omega)]
  simp only [Value.cells, fill_nil]
end Go.Proofs.Ytpjpaipkkcengaa
