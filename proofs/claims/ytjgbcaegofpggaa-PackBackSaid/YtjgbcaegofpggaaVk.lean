/-
  More words on numbers, bits and boxes. No program here.
-/
import Derived.Test.YtjgbcaegofpggaaVn
import Derived.Lib.BitFns
import Derived.Lib.ItoaNum
import Derived.WalkMore
import Derived.Scope
namespace Go.Proofs.Ytjgbcaegofpggaa
open Go.RowKit
theorem shr_n {k : IntKind} {r n : Nat} {b : Int} (hb : b = (n : Int)) (hn : n ≤ k.bits) : Int.fdiv (r : Int) (2 ^ (min b.toNat k.bits)) = ((r / 2 ^ n : Nat) : Int) := by
  subst hb
  exact shr_u k rfl (by rw [Int.toNat_natCast]; exact Nat.min_eq_left hn) rfl
theorem shl_n64 {r n : Nat} {b : Int} (hb : b = (n : Int)) : IntKind.u64.wrap ((r : Int) * 2 ^ (min b.toNat IntKind.u64.bits)) = ((r * 2 ^ n % 18446744073709551616 : Nat) : Int) := by
  have hbn : b.toNat = n := by omega
  by_cases h : n ≤ 64
  · exact shl_u64 (b := b) (r := r) (p := 2 ^ n) (n := n) (s := r * 2 ^ n % 18446744073709551616) (Eq.refl _) (by rw [hbn]; exact Nat.min_eq_left h) (Eq.refl _)
  · have key : ∀ M, M = 2 ^ 64 → r * M % M = r * 2 ^ n % M := fun M hM => by
      rw [show n = 64 + (n - 64) by omega, Nat.pow_add, ← hM, Nat.mul_mod_left, Nat.mul_left_comm, Nat.mul_mod_right]
    exact shl_u64 (b := b) (r := r) (p := 18446744073709551616) (n := 64) (key _ (by decide)) (by rw [hbn]; exact Nat.min_eq_right (by omega)) (by decide)
theorem andn7 {a : Nat} (h : a < 256) : bits .andNot .u8 (a : Int) 128 = ((a % 128 : Nat) : Int) := by
  have : ∀ a : Fin 256, bits .andNot .u8 ((a.val : Nat) : Int) 128 = ((a.val % 128 : Nat) : Int) := by decide +kernel
  exact this ⟨a, h⟩
theorem or7 {a : Nat} (h : a < 128) : bits .or .u8 (a : Int) 128 = ((a + 128 : Nat) : Int) := by
  have : ∀ a : Fin 128, bits .or .u8 ((a.val : Nat) : Int) 128 = ((a.val + 128 : Nat) : Int) := by decide +kernel
  exact this ⟨a, h⟩
theorem or_dis64 {a b n : Nat} {c d : Int} (hc : c = (a : Int)) (hd : d = ((2 ^ n * b : Nat) : Int)) (ha : a < 2 ^ n) (hs : a + 2 ^ n * b < 18446744073709551616) : bits .or .u64 c d = ((a + 2 ^ n * b : Nat) : Int) := by
  subst hc; subst hd
  rw [or_u64 (by omega) (by omega), Nat.or_comm, Nat.add_comm, Nat.two_pow_add_eq_or_of_lt ha]
theorem bitLen_le_iff {x k : Nat} (hx : x < 18446744073709551616) : Lib.bitLen x ≤ k ↔ x < 2 ^ k := by
  by_cases h0 : x = 0
  · subst h0
    simp only [Lib.bitLen, Lib.bitLenAux_zero, Nat.zero_le, true_iff]
    exact Nat.two_pow_pos k
  · obtain ⟨h1, h2, h3⟩ := Lib.bitLenAux_bounds 64 x hx h0
    unfold Lib.bitLen
    refine ⟨fun h => Nat.lt_of_lt_of_le h3 (Nat.pow_le_pow_right (by omega) h), fun h => ?_⟩
    have h4 : 2 ^ (Lib.bitLenAux 64 x - 1) < 2 ^ k := Nat.lt_of_le_of_lt h2 h
    have := (Nat.pow_lt_pow_iff_right (by omega : 1 < 2)).1 h4
    omega
theorem bitLen_le64 {x : Nat} (hx : x < 18446744073709551616) : Lib.bitLen x ≤ 64 := (bitLen_le_iff hx).2 hx
/-! boxes that are only read -/
section
variable {P : Program} {l : List Value} {w : World} {d : Nat} {ty : TypeId} {pos : String} {aft : Array Edge} {S : Nat → Prop} {w0 : World} {L : List Res}
theorem St.objRd {g : Nat} {cs : Array Value} {t : TypeId} {f : Nat × Nat} (h : St S w0 w L) (hm : Has L (.obj g (.cells cs t f))) : Rd w (some ⟨g, 0, none⟩) 1 cs.size cs.toList :=
  ⟨by simp, fun _ => ⟨g, 0, rfl, own_lt (h.has hm) rfl, h.obj_at hm⟩⟩
theorem m_load_bx {T : TypeId} {x : Operand} {dsc : TypeDesc} {g o k : Nat} {sz n : Nat} {xs : List Value} {v : Value} (hu : P.underlying T = some dsc) (hd : isAggD dsc = false := by rfl) (hx : opv l x = .pointer (some ⟨g, k, none⟩) := by rfl) (hS : St S w0 w L) (hm : Has L (.rd (some ⟨g, o, none⟩) sz n xs) := by repeat (first | exact Has.head | apply Has.tail)) (hn : 0 < n := by omega) (ho : o ≤ k := by omega) (hv : xs[k - o]? = some v := by first | rfl | exact ic_get (by first | omega | (simp [*]; done) | (simp [*]; omega)) | exact il_get (by first | omega | (simp [*]; done) | (simp [*]; omega))) : Go1 P l w ⟨some d, .load T x, ty, pos, aft, none⟩ v :=
  m_load hu hd hx (by
    obtain ⟨g', o', e, hat⟩ := hS.rd_at hm hn
    cases e
    have := hat (k - o) v hv
    rw [show o + (k - o) = k by omega] at this
    exact this)
theorem m_loada_bx {T : TypeId} {x : Operand} {dsc : TypeDesc} {g o k sz' by' : Nat} {z : Value} {sz n : Nat} {xs : List Value} (hu : P.underlying T = some dsc) (hd : isAggD dsc = true := by rfl) (hi : TI P T sz' by' z) (hx : opv l x = .pointer (some ⟨g, k, none⟩) := by rfl) (hS : St S w0 w L) (hm : Has L (.rd (some ⟨g, o, none⟩) sz n xs) := by repeat (first | exact Has.head | apply Has.tail)) (hn : 0 < n := by omega) (ho : o ≤ k := by omega) (hfit : k - o + sz' ≤ xs.length := by first | (simp [*]; done) | omega | rfl | (simp [*]; omega)) : Go1 P l w ⟨some d, .load T x, ty, pos, aft, none⟩ (.agg ((xs.drop (k - o)).take sz').toArray) :=
  m_loada hu hd hi hx (by simp; omega) (by
    obtain ⟨g', o', e, hat⟩ := hS.rd_at hm hn
    cases e
    have := (hat.drop (k - o)).take sz'
    rw [show o + (k - o) = k by omega] at this
    exact this)
end
theorem x_scope {P : Program} {n r : Act → World → Prop} {ex : List (Nat × (Act → World → Prop))} {a : Act} {w : World} {c : Code} (h : c.wp P (Qx n r ex) a w) : (Code.scope c).wp P (Qx n r ex) a w :=
  wp_scope_straight (wp_mono h fun e a w hq => by cases e <;> exact hq)
theorem calls_r {P : Program} {f : FuncId} {args : Array Value} {w : World} {v : Value} (h : Calls P f args w fun e w' => e = .returned v ∧ w' = w) : CallR P f args w fun u w' => u = v ∧ Ext w w' :=
  Calls.mono h fun _ _ ⟨he, hw⟩ => ⟨v, he, rfl, by subst hw; exact Ext.rfl'⟩
theorem mul_u64 {a b : Nat} (h : a * b < 18446744073709551616) : IntKind.u64.wrap ((a : Int) * (b : Int)) = ((a * b : Nat) : Int) := by
  rw [← Int.natCast_mul]; exact wr_u64 (by omega) (by omega)
theorem add_u64 {a b : Nat} (h : a + b < 18446744073709551616) : IntKind.u64.wrap ((a : Int) + (b : Int)) = ((a + b : Nat) : Int) := by
  rw [← Int.natCast_add]; exact wr_u64 (by omega) (by omega)
theorem made_int (k : IntKind) (n : Nat) : (madeCells #[.int k 0] (n * 1)).toList = (List.replicate n 0).map (Value.int k) := by
  simp only [madeCells, Nat.mul_one, Array.toList_map, Array.toList_range, List.map_replicate]
  refine List.ext_getElem (by simp) fun i h1 h2 => ?_
  simp [Nat.mod_one]
end Go.Proofs.Ytjgbcaegofpggaa
