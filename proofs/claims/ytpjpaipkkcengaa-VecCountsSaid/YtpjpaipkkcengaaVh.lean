/-
  Bits of numbers that are not below nought. No program here.
-/
import Derived.Test.YtpjpaipkkcengaaVg
namespace Go.Proofs.Ytpjpaipkkcengaa
open Go.RowKit

theorem wp_u8 (n : Int) : IntKind.u8.wrap n = n % 256 := by simp [IntKind.wrap, IntKind.bits, IntKind.signed]
theorem wp_u16 (n : Int) : IntKind.u16.wrap n = n % 65536 := by simp [IntKind.wrap, IntKind.bits, IntKind.signed]
theorem wp_u32 (n : Int) : IntKind.u32.wrap n = n % 4294967296 := by simp [IntKind.wrap, IntKind.bits, IntKind.signed]
theorem wp_u64 (n : Int) : IntKind.u64.wrap n = n % 18446744073709551616 := by simp [IntKind.wrap, IntKind.bits, IntKind.signed]

theorem and_pow (r i : Nat) : r &&& 2 ^ i = (if r / 2 ^ i % 2 = 1 then 2 ^ i else 0) := by
  apply Nat.eq_of_testBit_eq
  intro j
  rw [Nat.testBit_and, Nat.testBit_two_pow]
  by_cases h : i = j
  · subst h
    have := Nat.testBit_eq_decide_div_mod_eq (x := r) (i := i)
    split <;> simp_all
  · split <;> simp [h]
theorem bv_ofInt (w a : Nat) (h : a < 2 ^ w) : (BitVec.ofInt w (a : Int)).toNat = a := by
  rw [BitVec.ofInt_natCast, BitVec.toNat_ofNat]; exact Nat.mod_eq_of_lt h
section
variable {a b : Nat}
theorem xor_u8 (ha : a < 256) (hb : b < 256) : bits .xor .u8 (a : Int) (b : Int) = ((a ^^^ b : Nat) : Int) := by
  have hx : a ^^^ b < 2 ^ 8 := Nat.xor_lt_two_pow (by omega) (by omega)
  show IntKind.u8.wrap ((BitVec.ofInt 8 (a : Int) ^^^ BitVec.ofInt 8 (b : Int)).toNat : Int) = _
  rw [BitVec.toNat_xor, bv_ofInt 8 a (by omega), bv_ofInt 8 b (by omega), wp_u8]
  omega
theorem xor_u16 (ha : a < 65536) (hb : b < 65536) : bits .xor .u16 (a : Int) (b : Int) = ((a ^^^ b : Nat) : Int) := by
  have hx : a ^^^ b < 2 ^ 16 := Nat.xor_lt_two_pow (by omega) (by omega)
  show IntKind.u16.wrap ((BitVec.ofInt 16 (a : Int) ^^^ BitVec.ofInt 16 (b : Int)).toNat : Int) = _
  rw [BitVec.toNat_xor, bv_ofInt 16 a (by omega), bv_ofInt 16 b (by omega), wp_u16]
  omega
theorem and_u8 (ha : a < 256) (hb : b < 256) : bits .and .u8 (a : Int) (b : Int) = ((a &&& b : Nat) : Int) := by
  have hx : a &&& b < 2 ^ 8 := Nat.and_lt_two_pow _ (by omega)
  show IntKind.u8.wrap ((BitVec.ofInt 8 (a : Int) &&& BitVec.ofInt 8 (b : Int)).toNat : Int) = _
  rw [BitVec.toNat_and, bv_ofInt 8 a (by omega), bv_ofInt 8 b (by omega), wp_u8]
  omega
theorem and_u16 (ha : a < 65536) (hb : b < 65536) : bits .and .u16 (a : Int) (b : Int) = ((a &&& b : Nat) : Int) := by
  have hx : a &&& b < 2 ^ 16 := Nat.and_lt_two_pow _ (by omega)
  show IntKind.u16.wrap ((BitVec.ofInt 16 (a : Int) &&& BitVec.ofInt 16 (b : Int)).toNat : Int) = _
  rw [BitVec.toNat_and, bv_ofInt 16 a (by omega), bv_ofInt 16 b (by omega), wp_u16]
  omega
theorem or_u8 (ha : a < 256) (hb : b < 256) : bits .or .u8 (a : Int) (b : Int) = ((a ||| b : Nat) : Int) := by
  have hx : a ||| b < 2 ^ 8 := Nat.or_lt_two_pow (by omega) (by omega)
  show IntKind.u8.wrap ((BitVec.ofInt 8 (a : Int) ||| BitVec.ofInt 8 (b : Int)).toNat : Int) = _
  rw [BitVec.toNat_or, bv_ofInt 8 a (by omega), bv_ofInt 8 b (by omega), wp_u8]
  omega
theorem or_u16 (ha : a < 65536) (hb : b < 65536) : bits .or .u16 (a : Int) (b : Int) = ((a ||| b : Nat) : Int) := by
  have hx : a ||| b < 2 ^ 16 := Nat.or_lt_two_pow (by omega) (by omega)
  show IntKind.u16.wrap ((BitVec.ofInt 16 (a : Int) ||| BitVec.ofInt 16 (b : Int)).toNat : Int) = _
  rw [BitVec.toNat_or, bv_ofInt 16 a (by omega), bv_ofInt 16 b (by omega), wp_u16]
  omega
theorem and_u64 (ha : a < 18446744073709551616) (hb : b < 18446744073709551616) : bits .and .u64 (a : Int) (b : Int) = ((a &&& b : Nat) : Int) := by
  have hx : a &&& b < 2 ^ 64 := Nat.and_lt_two_pow _ (by omega)
  show IntKind.u64.wrap ((BitVec.ofInt 64 (a : Int) &&& BitVec.ofInt 64 (b : Int)).toNat : Int) = _
  rw [BitVec.toNat_and, bv_ofInt 64 a (by omega), bv_ofInt 64 b (by omega), wp_u64]
  omega
theorem or_u64 (ha : a < 18446744073709551616) (hb : b < 18446744073709551616) : bits .or .u64 (a : Int) (b : Int) = ((a ||| b : Nat) : Int) := by
  have hx : a ||| b < 2 ^ 64 := Nat.or_lt_two_pow (by omega) (by omega)
  show IntKind.u64.wrap ((BitVec.ofInt 64 (a : Int) ||| BitVec.ofInt 64 (b : Int)).toNat : Int) = _
  rw [BitVec.toNat_or, bv_ofInt 64 a (by omega), bv_ofInt 64 b (by omega), wp_u64]
  omega
end
section
variable {r s n p : Nat} {b : Int}
theorem pw {b : Int} {m n p : Nat} (hn : min b.toNat m = n) (hp : 2 ^ n = p) : (2 : Int) ^ (min b.toNat m) = (p : Int) := by
  rw [hn, ← hp]; exact (Int.natCast_pow 2 n).symm
theorem shl_u8 (hs : r * p % 256 = s) (hn : min b.toNat 8 = n := by rfl) (hp : 2 ^ n = p := by rfl) : IntKind.u8.wrap ((r : Int) * 2 ^ (min b.toNat IntKind.u8.bits)) = (s : Int) := by
  rw [show IntKind.u8.bits = 8 from rfl, pw hn hp, wp_u8, ← hs, Int.natCast_emod, Int.natCast_mul]; rfl
theorem shl_u16 (hs : r * p % 65536 = s) (hn : min b.toNat 16 = n := by rfl) (hp : 2 ^ n = p := by rfl) : IntKind.u16.wrap ((r : Int) * 2 ^ (min b.toNat IntKind.u16.bits)) = (s : Int) := by
  rw [show IntKind.u16.bits = 16 from rfl, pw hn hp, wp_u16, ← hs, Int.natCast_emod, Int.natCast_mul]; rfl
theorem shl_u64 (hs : r * p % 18446744073709551616 = s) (hn : min b.toNat 64 = n := by rfl) (hp : 2 ^ n = p := by rfl) : IntKind.u64.wrap ((r : Int) * 2 ^ (min b.toNat IntKind.u64.bits)) = (s : Int) := by
  rw [show IntKind.u64.bits = 64 from rfl, pw hn hp, wp_u64, ← hs, Int.natCast_emod, Int.natCast_mul]; rfl
theorem shr_u (k : IntKind) (hs : r / p = s) (hn : min b.toNat k.bits = n := by rfl) (hp : 2 ^ n = p := by rfl) : Int.fdiv (r : Int) (2 ^ (min b.toNat k.bits)) = (s : Int) := by
  rw [pw hn hp, Int.fdiv_eq_ediv_of_nonneg _ (by omega), ← hs]; exact (Int.natCast_ediv r p).symm
theorem cv_u8 (hs : r % 256 = s) : IntKind.u8.wrap (r : Int) = (s : Int) := by rw [wp_u8, ← hs, Int.natCast_emod]; rfl
theorem cv_u16 (hs : r % 65536 = s) : IntKind.u16.wrap (r : Int) = (s : Int) := by rw [wp_u16, ← hs, Int.natCast_emod]; rfl
theorem cv_u32 (hs : r % 4294967296 = s) : IntKind.u32.wrap (r : Int) = (s : Int) := by rw [wp_u32, ← hs, Int.natCast_emod]; rfl
theorem cv_u64 (hs : r % 18446744073709551616 = s) : IntKind.u64.wrap (r : Int) = (s : Int) := by rw [wp_u64, ← hs, Int.natCast_emod]; rfl
theorem cv_i64 (hs : r < 9223372036854775808) : IntKind.i64.wrap (r : Int) = (r : Int) := wr_i64 (by omega) (by omega)
end

theorem quo_i64 {r p : Nat} (hr : r < 9223372036854775808) (hp : 0 < p := by decide) : IntKind.i64.wrap ((r : Int).tdiv (p : Int)) = ((r / p : Nat) : Int) := by
  have h1 : r / p ≤ r := Nat.div_le_self _ _
  have h2 : (r : Int).tdiv (p : Int) = ((r / p : Nat) : Int) := (Int.tdiv_eq_ediv_of_nonneg (by omega)).trans (Int.natCast_ediv r p).symm
  rw [h2]; clear h2
  generalize r / p = q at *
  exact wr_i64 (by omega) (by omega)
theorem quo_u64 {r p : Nat} (hr : r < 18446744073709551616) (hp : 0 < p := by decide) : IntKind.u64.wrap ((r : Int).tdiv (p : Int)) = ((r / p : Nat) : Int) := by
  have h1 : r / p ≤ r := Nat.div_le_self _ _
  have h2 : (r : Int).tdiv (p : Int) = ((r / p : Nat) : Int) := (Int.tdiv_eq_ediv_of_nonneg (by omega)).trans (Int.natCast_ediv r p).symm
  rw [h2]; clear h2
  generalize r / p = q at *
  exact wr_u64 (by omega) (by omega)
theorem quo_u16 {r p : Nat} (hr : r < 65536) (hp : 0 < p := by decide) : IntKind.u16.wrap ((r : Int).tdiv (p : Int)) = ((r / p : Nat) : Int) := by
  have h1 : r / p ≤ r := Nat.div_le_self _ _
  have h2 : (r : Int).tdiv (p : Int) = ((r / p : Nat) : Int) := (Int.tdiv_eq_ediv_of_nonneg (by omega)).trans (Int.natCast_ediv r p).symm
  rw [h2]; clear h2
  generalize r / p = q at *
  exact wr_u16 (by omega) (by omega)
theorem rem_nat {r p : Nat} : (r : Int).tmod (p : Int) = ((r % p : Nat) : Int) := (Int.tmod_eq_emod_of_nonneg (by omega)).trans (Int.natCast_emod r p).symm
theorem St.hasRd {S : Nat → Prop} {w0 w : World} {L : List Res} {A : Option Addr} {sz n : Nat} {xs : List Value} (h : St S w0 w L) (hm : Has L (.rd A sz n xs)) : Rd w A sz n xs := h.has hm

/-! what is only read, at the start of a call -/
section
variable {w : World} {A B C : Option Addr} {sa sb sc na nb nc : Nat} {xa xb xc : List Value}
theorem St.rd1 {S : Nat → Prop} (h : Rd w A sa na xa) : St S w w [.rd A sa na xa] := (St.start w).add_rd h (by intro r h; cases h)
theorem St.rd2 {S : Nat → Prop} (h : Rd w A sa na xa) (k : Rd w B sb nb xb) : St S w w [.rd A sa na xa, .rd B sb nb xb] := (St.rd1 k).add_rd h (by intro r h g hg; simp at h; subst h; simp [Res.own] at hg)
theorem St.rd3 {S : Nat → Prop} (h : Rd w A sa na xa) (k : Rd w B sb nb xb) (j : Rd w C sc nc xc) : St S w w [.rd A sa na xa, .rd B sb nb xb, .rd C sc nc xc] := (St.rd2 k j).add_rd h (by intro r h g hg; simp at h; rcases h with rfl | rfl <;> simp [Res.own] at hg)
end
/-- what a call hands back, beside what was -/
theorem St.call {S : Nat → Prop} {w0 w w' : World} {L M : List Res} (h : St S w0 w L) (k : St NoB w w' M) (hr : ∀ r ∈ M, ∀ g, r.reads = some g → w.heap.size ≤ g := by simp [Res.reads]) : St S w0 w' (M ++ L) := by
  have h' := h.ext k.keep
  refine ⟨h'.keep, ?_, ?_, ?_⟩
  · intro r hm
    rcases List.mem_append.1 hm with hm | hm
    · exact k.holds r hm
    · exact h'.holds r hm
  · intro r hm g hg
    rcases List.mem_append.1 hm with hm | hm
    · rcases k.own r hm g hg with hx | hx
      · exact hx.elim
      · exact .inr (Nat.le_trans h.keep.size hx)
    · exact h.own r hm g hg
  · refine List.pairwise_append.2 ⟨k.apart, h.apart, fun r hm s hs g => ⟨fun hg => ?_, fun hg => ?_⟩⟩
    · have h1 : w.heap.size ≤ g := by rcases k.own r hm g hg with hx | hx; exact hx.elim; exact hx
      exact ⟨fun e => by have := own_lt (h.holds s hs) e; omega, fun e => by have := reads_lt (h.holds s hs) e; omega⟩
    · have h1 := own_lt (h.holds s hs) hg
      refine ⟨fun e => ?_, fun e => by have := hr r hm g e; omega⟩
      rcases k.own r hm g e with hx | hx
      · exact hx.elim
      · omega
/-- another look at what is read -/
theorem St.add_rd_of {S : Nat → Prop} {w0 w : World} {L : List Res} {A A' : Option Addr} {sz n sz' m : Nat} {xs ys : List Value} (h : St S w0 w L) (hm : Has L (.rd A sz n xs)) (hr : Rd w A' sz' m ys) (hb : 0 < m → 0 < n ∧ A'.map (·.block) = A.map (·.block)) : St S w0 w (.rd A' sz' m ys :: L) := by
  refine h.add_rd hr fun r hr' g hg e => ?_
  simp only [Res.reads] at e
  split at e
  · cases e
  · have hp : 0 < m := by omega
    obtain ⟨hn, he⟩ := hb hp
    have hread : (Res.rd A sz n xs).reads = some g := by simp only [Res.reads, if_neg (Nat.ne_of_gt hn)]; rw [← he]; exact e
    have hap : ∀ {M : List Res}, M.Pairwise Res.compat → r ∈ M → Res.rd A sz n xs ∈ M → False := by
      intro M hpw
      induction hpw with
      | nil => intro h1; cases h1
      | cons hhd _ ih =>
        intro h1 h2
        rcases List.mem_cons.1 h1 with rfl | h1
        · rcases List.mem_cons.1 h2 with e2 | h2
          · rw [← e2] at hg; simp [Res.own] at hg
          · exact ((hhd _ h2 g).1 hg).2 hread
        · rcases List.mem_cons.1 h2 with e2 | h2
          · rw [← e2] at hhd; exact ((hhd _ h1 g).2 hg).2 hread
          · exact ih h1 h2
    exact hap h.apart hr' hm.mem
def Byt (l : List Int) : Prop := ∀ x ∈ l, 0 ≤ x ∧ x ≤ 255
theorem Byt.get {l : List Int} (h : Byt l) (i : Nat) : 0 ≤ l.getD i 0 ∧ l.getD i 0 ≤ 255 := by
  rcases Nat.lt_or_ge i l.length with hi | hi
  · rw [List.getD_eq_getElem?_getD, List.getElem?_eq_getElem hi]; exact h _ (List.getElem_mem hi)
  · rw [List.getD_eq_getElem?_getD, List.getElem?_eq_none hi]; simp
def bt (l : List Int) (i : Nat) : Nat := (l.getD i 0).toNat
theorem Byt.bt {l : List Int} (h : Byt l) (i : Nat) : l.getD i 0 = (bt l i : Int) ∧ bt l i < 256 := by
  have := h.get i
  unfold Go.Proofs.Ytpjpaipkkcengaa.bt
  omega
theorem Byt.app {l m : List Int} (h : Byt l) (k : Byt m) : Byt (l ++ m) := fun x hx => by rcases List.mem_append.1 hx with h' | h'; exact h x h'; exact k x h'
theorem Byt.take {l : List Int} (h : Byt l) (n : Nat) : Byt (l.take n) := fun x hx => h x (List.mem_of_mem_take hx)
theorem Byt.drop {l : List Int} (h : Byt l) (n : Nat) : Byt (l.drop n) := fun x hx => h x (List.mem_of_mem_drop hx)
theorem byt_of_wf {l : List Int} (h : ∀ x ∈ l, (Lit.int .u8 x).wf = true) : Byt l := fun x hx => by
  have := h x hx
  simp [Lit.wf, IntKind.min, IntKind.max, IntKind.signed, IntKind.bits] at this
  omega
theorem take_succ_getD {l : List Int} {k : Nat} (h : k < l.length) : l.take (k + 1) = l.take k ++ [l.getD k 0] := by
  rw [List.take_succ_eq_append_getElem h, List.getD_eq_getElem?_getD, List.getElem?_eq_getElem h]; rfl
end Go.Proofs.Ytpjpaipkkcengaa
