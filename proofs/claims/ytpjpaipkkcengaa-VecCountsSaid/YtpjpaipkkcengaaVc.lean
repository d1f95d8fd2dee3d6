/-
  One rule for each kind of operation, over a list for a frame; the first lot: those that turn no memory. No program here.
-/
import Derived.Test.YtpjpaipkkcengaaVb
namespace Go.Proofs.Ytpjpaipkkcengaa
open Go.RowKit

/-- a type's size in cells and in bytes, and its zero value -/
def TI (P : Program) (t : TypeId) (sz by' : Nat) (z : Value) : Prop := ∃ i, P.info? t = some i ∧ i.size = sz ∧ i.bytes = by' ∧ i.zero = some z
theorem TI.of {P : Program} {t : TypeId} {sz by' : Nat} {z : Value} (h : (P.info? t).map (fun i => (i.size, i.bytes, i.zero)) = some (sz, by', some z)) : TI P t sz by' z := by
  cases hi : P.info? t with
  | none => rw [hi] at h; cases h
  | some i => rw [hi] at h; simp at h; exact ⟨i, hi, h.1, h.2.1, h.2.2⟩

section
variable {P : Program} {ops : Array Oper} {Q : Exit → Act → World → Prop} {rest : List Oper} {l : List Value} {w w' : World} {d : Nat} {ty : TypeId} {pos : String} {aft : Array Edge}

/-- an operation that yields a value and turns nothing -/
def Go1 (P : Program) (l : List Value) (w : World) (o : Oper) (v : Value) : Prop := (execOp (opv l) o).run P w = .ok (.value v) w
theorem s_val {op : Op} {v : Value} (hr : (execOp (opv l) ⟨some d, op, ty, pos, aft, none⟩).run P w = .ok (.value v) w') (h : WL P ops Q rest (fr (l.set d v)) w') : WL P ops Q (⟨some d, op, ty, pos, aft, none⟩ :: rest) (fr l) w :=
  wl_plain rfl fun K hK => by
    unfold Oper.wp
    rw [eval_fr, hr]
    simp only [Oper.upon_value, put_fr]
    exact hK _ _ h
theorem s_unit {op : Op} (hr : (execOp (opv l) ⟨none, op, ty, pos, aft, none⟩).run P w = .ok .skip w') (h : WL P ops Q rest (fr l) w') : WL P ops Q (⟨none, op, ty, pos, aft, none⟩ :: rest) (fr l) w :=
  wl_plain rfl fun K hK => by
    unfold Oper.wp
    rw [eval_fr, hr]
    simp only [Oper.upon_skip, put_fr_none]
    exact hK _ _ h
theorem s_go {op : Op} {v : Value} (hr : Go1 P l w ⟨some d, op, ty, pos, aft, none⟩ v) (h : WL P ops Q rest (fr (l.set d v)) w) : WL P ops Q (⟨some d, op, ty, pos, aft, none⟩ :: rest) (fr l) w := s_val hr h
theorem yi {os : List Oper} {l : List Value} {j t : Nat} {b : Bool} (ho : ((os[j]?).bind (·.dst)) = some t) (hl : l[t]? = some (.bool b)) : yielded os.toArray l.toArray j = some b := by
  simp [yielded, ho, hl]
theorem yn {os : List Oper} {l : List Value} {j t : Nat} (ho : ((os[j]?).bind (·.dst)) = some t) (hl : l[t]? = some undef) : yielded os.toArray l.toArray j = none := by
  simp [yielded, ho, hl, undef]
/-- a guard that says yes -/
theorem g_on {dst : Option Nat} {op : Op} {g : Nat × Bool} (hg : yielded ops (l.toArray) g.1 = some g.2) (h : WL P ops Q (⟨dst, op, ty, pos, aft, none⟩ :: rest) (fr l) w) : WL P ops Q (⟨dst, op, ty, pos, aft, some g⟩ :: rest) (fr l) w := by
  obtain ⟨h⟩ := h
  refine ⟨?_⟩
  unfold wpList at h ⊢
  have h1 : Region.wanted ⟨dst, op, ty, pos, aft, some g⟩ (yielded ops (fr l).tmps) = true := by simp [Region.wanted, fr, hg]
  have h2 : Region.wanted ⟨dst, op, ty, pos, aft, none⟩ (yielded ops (fr l).tmps) = true := by simp [Region.wanted]
  rw [if_pos h1]
  rw [if_pos h2] at h
  exact h
/-- a guard that says no -/
theorem g_off {op : Op} {g : Nat × Bool} (hg : yielded ops (l.toArray) g.1 = some (!g.2)) (h : WL P ops Q rest (fr (l.set d undef)) w) : WL P ops Q (⟨some d, op, ty, pos, aft, some g⟩ :: rest) (fr l) w := by
  obtain ⟨h⟩ := h
  refine ⟨?_⟩
  unfold wpList
  have h1 : Region.wanted ⟨some d, op, ty, pos, aft, some g⟩ (yielded ops (fr l).tmps) = false := by simp [Region.wanted, fr, hg]
  simp only [h1, Bool.false_eq_true, if_false, put_fr]
  exact h
theorem g_off_unit {op : Op} {g : Nat × Bool} (hg : yielded ops (l.toArray) g.1 = some (!g.2)) (h : WL P ops Q rest (fr l) w) : WL P ops Q (⟨none, op, ty, pos, aft, some g⟩ :: rest) (fr l) w := by
  obtain ⟨h⟩ := h
  refine ⟨?_⟩
  unfold wpList
  have h1 : Region.wanted ⟨none, op, ty, pos, aft, some g⟩ (yielded ops (fr l).tmps) = false := by simp [Region.wanted, fr, hg]
  simp only [h1, Bool.false_eq_true, if_false, put_fr_none]
  exact h
/-- a guard whose own operation was passed over says no -/
theorem g_un {op : Op} {g : Nat × Bool} (hg : yielded ops (l.toArray) g.1 = none) (h : WL P ops Q rest (fr (l.set d undef)) w) : WL P ops Q (⟨some d, op, ty, pos, aft, some g⟩ :: rest) (fr l) w := by
  obtain ⟨h⟩ := h
  refine ⟨?_⟩
  unfold wpList
  have h1 : Region.wanted ⟨some d, op, ty, pos, aft, some g⟩ (yielded ops (fr l).tmps) = false := by simp [Region.wanted, fr, hg]
  simp only [h1, Bool.false_eq_true, if_false, put_fr]
  exact h
/-- the walk parts on a Bool in a slot -/
theorem s_part {os : List Oper} (t : Nat) {b : Bool} (hb : l.getD t undef = .bool b) (ht : b = true → WL P ops Q os (fr (l.set t (.bool true))) w) (hf : b = false → WL P ops Q os (fr (l.set t (.bool false))) w) : WL P ops Q os (fr l) w := by
  cases b
  · have := hf rfl; rw [← hb, set_getD] at this; exact this
  · have := ht rfl; rw [← hb, set_getD] at this; exact this

theorem s_move {x : Operand} : Go1 P l w ⟨some d, .move x, ty, pos, aft, none⟩ (opv l x) := (by unfold Go1; simp [execOp])
theorem s_assign {x : Operand} : Go1 P l w ⟨some d, .assign x, ty, pos, aft, none⟩ (opv l x) := (by unfold Go1; simp [execOp])
theorem s_pick_t {c x y : Operand} (hc : opv l c = .bool true := by rfl) : Go1 P l w ⟨some d, .pick c x y, ty, pos, aft, none⟩ (opv l x) := (by unfold Go1; simp [execOp, hc, asBool])
theorem s_pick_f {c x y : Operand} (hc : opv l c = .bool false := by rfl) : Go1 P l w ⟨some d, .pick c x y, ty, pos, aft, none⟩ (opv l y) := (by unfold Go1; simp [execOp, hc, asBool])
theorem s_extract {x : Operand} {i : Nat} {vs : Array Value} {v : Value} (hx : opv l x = .tuple vs := by rfl) (hv : vs[i]? = some v := by rfl) : Go1 P l w ⟨some d, .extract x i, ty, pos, aft, none⟩ v := (by unfold Go1; simp [execOp, hx, Instr.extract, hv])

/-! integers -/
section
variable {x y : Operand} {T yT : TypeId} {k : IntKind} {a b c : Int}
theorem s_add (hx : opv l x = .int k a := by rfl) (hy : opv l y = .int k b := by rfl) (hc : k.wrap (a + b) = c) : Go1 P l w ⟨some d, .binOp .add T x y yT, ty, pos, aft, none⟩ (.int k c) :=
  (by subst hc; unfold Go1; simp [execOp, hx, hy, eqGuard, binOp, Op.intArith])
theorem s_sub (hx : opv l x = .int k a := by rfl) (hy : opv l y = .int k b := by rfl) (hc : k.wrap (a - b) = c) : Go1 P l w ⟨some d, .binOp .sub T x y yT, ty, pos, aft, none⟩ (.int k c) :=
  (by subst hc; unfold Go1; simp [execOp, hx, hy, eqGuard, binOp, Op.intArith])
theorem s_mul (hx : opv l x = .int k a := by rfl) (hy : opv l y = .int k b := by rfl) (hc : k.wrap (a * b) = c) : Go1 P l w ⟨some d, .binOp .mul T x y yT, ty, pos, aft, none⟩ (.int k c) :=
  (by subst hc; unfold Go1; simp [execOp, hx, hy, eqGuard, binOp, Op.intArith])
theorem s_quo (hx : opv l x = .int k a := by rfl) (hy : opv l y = .int k b := by rfl) (hb : b ≠ 0 := by first | decide | omega) (hc : k.wrap (a.tdiv b) = c) : Go1 P l w ⟨some d, .binOp .quo T x y yT, ty, pos, aft, none⟩ (.int k c) :=
  (by subst hc; unfold Go1; simp [execOp, hx, hy, eqGuard, binOp, Op.intDiv, hb])
theorem s_rem (hx : opv l x = .int k a := by rfl) (hy : opv l y = .int k b := by rfl) (hb : b ≠ 0 := by first | decide | omega) (hc : a.tmod b = c) : Go1 P l w ⟨some d, .binOp .rem T x y yT, ty, pos, aft, none⟩ (.int k c) :=
  (by subst hc; unfold Go1; simp [execOp, hx, hy, eqGuard, binOp, Op.intDiv, hb])
theorem s_lss (hx : opv l x = .int k a := by rfl) (hy : opv l y = .int k b := by rfl) : Go1 P l w ⟨some d, .binOp .lss T x y yT, ty, pos, aft, none⟩ (.bool (decide (a < b))) :=
  (by unfold Go1; simp [execOp, hx, hy, eqGuard, binOp, Op.intCmp])
theorem s_leq (hx : opv l x = .int k a := by rfl) (hy : opv l y = .int k b := by rfl) : Go1 P l w ⟨some d, .binOp .leq T x y yT, ty, pos, aft, none⟩ (.bool (decide (a ≤ b))) :=
  (by unfold Go1; simp [execOp, hx, hy, eqGuard, binOp, Op.intCmp])
theorem s_gtr (hx : opv l x = .int k a := by rfl) (hy : opv l y = .int k b := by rfl) : Go1 P l w ⟨some d, .binOp .gtr T x y yT, ty, pos, aft, none⟩ (.bool (decide (b < a))) :=
  (by unfold Go1; simp [execOp, hx, hy, eqGuard, binOp, Op.intCmp])
theorem s_geq (hx : opv l x = .int k a := by rfl) (hy : opv l y = .int k b := by rfl) : Go1 P l w ⟨some d, .binOp .geq T x y yT, ty, pos, aft, none⟩ (.bool (decide (b ≤ a))) :=
  (by unfold Go1; simp [execOp, hx, hy, eqGuard, binOp, Op.intCmp])
theorem s_eql (hx : opv l x = .int k a := by rfl) (hy : opv l y = .int k b := by rfl) : Go1 P l w ⟨some d, .binOp .eql T x y yT, ty, pos, aft, none⟩ (.bool (decide (a = b))) := by
  have e : (a == b) = decide (a = b) := by by_cases e : a = b <;> simp [e]
  unfold Go1
  simp [execOp, hx, hy, eqGuard, binOp, Op.intCmp, e]
theorem s_neq (hx : opv l x = .int k a := by rfl) (hy : opv l y = .int k b := by rfl) : Go1 P l w ⟨some d, .binOp .neq T x y yT, ty, pos, aft, none⟩ (.bool (decide (a ≠ b))) := by
  have e : (a != b) = decide (a ≠ b) := by by_cases e : a = b <;> simp [e, bne]
  unfold Go1
  rw [← e]
  simp [execOp, hx, hy, eqGuard, binOp, Op.intCmp]
theorem s_bits {op : BinOp} (hop : op = .and ∨ op = .or ∨ op = .xor ∨ op = .andNot) (hx : opv l x = .int k a := by rfl) (hy : opv l y = .int k b := by rfl) (hc : bits op k a b = c) : Go1 P l w ⟨some d, .binOp op T x y yT, ty, pos, aft, none⟩ (.int k c) := by
  subst hc
  rcases hop with rfl | rfl | rfl | rfl <;> exact (by unfold Go1; simp [execOp, hx, hy, eqGuard, binOp, Op.intBits, bits])
theorem s_shl {ky : IntKind} (hx : opv l x = .int k a := by rfl) (hy : opv l y = .int ky b := by rfl) (hb : 0 ≤ b := by first | decide | omega) (hc : k.wrap (a * 2 ^ (min b.toNat k.bits)) = c) : Go1 P l w ⟨some d, .binOp .shl T x y yT, ty, pos, aft, none⟩ (.int k c) :=
  (by subst hc; unfold Go1; simp [execOp, hx, hy, eqGuard, binOp, Op.shift, Int.not_lt.2 hb])
theorem s_shr {ky : IntKind} (hx : opv l x = .int k a := by rfl) (hy : opv l y = .int ky b := by rfl) (hb : 0 ≤ b := by first | decide | omega) (hc : a.fdiv (2 ^ (min b.toNat k.bits)) = c) : Go1 P l w ⟨some d, .binOp .shr T x y yT, ty, pos, aft, none⟩ (.int k c) :=
  (by subst hc; unfold Go1; simp [execOp, hx, hy, eqGuard, binOp, Op.shift, Int.not_lt.2 hb])
theorem s_conv {S D : TypeId} {k' : IntKind} (hS : P.underlying S = some (.int k)) (hD : P.underlying D = some (.int k')) (hx : opv l x = .int k a := by rfl) (hc : k'.wrap a = c) : Go1 P l w ⟨some d, .convert S D x, ty, pos, aft, none⟩ (.int k' c) :=
  (by subst hc; unfold Go1; simp [execOp, hx, convert, run_underlying hS, run_underlying hD, Conv.intToInt])
theorem s_neg (hx : opv l x = .int k a := by rfl) (hc : k.wrap (-a) = c) : Go1 P l w ⟨some d, .unOp .neg T x, ty, pos, aft, none⟩ (.int k c) :=
  (by subst hc; unfold Go1; simp [execOp, hx, Op.unary, Op.intArith])
theorem s_not {v : Bool} (hx : opv l x = .bool v := by rfl) : Go1 P l w ⟨some d, .unOp .not T x, ty, pos, aft, none⟩ (.bool (!v)) :=
  (by unfold Go1; simp [execOp, hx, Op.unary])
theorem run_eq_bool {P : Program} {w : World} {T : TypeId} (hT : P.underlying T = some .bool) (u v : Bool) : (Op.equal T (.bool u) (.bool v)).run P w = .ok (u == v) w := run_equalIn_bool' (P := P) w 9999 T u v hT
theorem s_eql_bool {u v : Bool} (hT : P.underlying T = some .bool) (hx : opv l x = .bool u := by rfl) (hy : opv l y = .bool v := by rfl) : Go1 P l w ⟨some d, .binOp .eql T x y yT, ty, pos, aft, none⟩ (.bool (u == v)) :=
  (by unfold Go1; simp [execOp, hx, hy, eqGuard, binOp, run_eq_bool hT])
theorem s_neq_bool {u v : Bool} (hT : P.underlying T = some .bool) (hx : opv l x = .bool u := by rfl) (hy : opv l y = .bool v := by rfl) : Go1 P l w ⟨some d, .binOp .neq T x y yT, ty, pos, aft, none⟩ (.bool (!(u == v))) :=
  (by unfold Go1; simp [execOp, hx, hy, eqGuard, binOp, run_eq_bool hT])
theorem s_max {tys : Array TypeId} (hx : opv l x = .int k a := by rfl) (hy : opv l y = .int k b := by rfl) : Go1 P l w ⟨some d, .call { callee := .builtin .max, args := #[x, y], argTypes := tys }, ty, pos, aft, none⟩ (.int k (max a b)) := by
  have e : (if b > a then b else a) = max a b := by simp only [Int.max_def]; split <;> split <;> omega
  unfold Go1
  rw [← e]
  simp [execOp, resolve, invoke, builtin, hx, hy, Builtin.max_, Builtin.max2]
theorem s_min {tys : Array TypeId} (hx : opv l x = .int k a := by rfl) (hy : opv l y = .int k b := by rfl) : Go1 P l w ⟨some d, .call { callee := .builtin .min, args := #[x, y], argTypes := tys }, ty, pos, aft, none⟩ (.int k (min a b)) := by
  have e : (if b < a then b else a) = min a b := by simp only [Int.min_def]; split <;> split <;> omega
  unfold Go1
  rw [← e]
  simp [execOp, resolve, invoke, builtin, hx, hy, Builtin.min_, Builtin.min2]
end

/-! strings, lengths -/
theorem s_len_str {x : Operand} {T : TypeId} {s : ByteArray} (hT : P.underlying T = some .string) (hx : opv l x = .string s := by rfl) : Go1 P l w ⟨some d, .call { callee := .builtin .len, args := #[x], argTypes := #[T] }, ty, pos, aft, none⟩ (.int .i64 s.size) :=
  (by unfold Go1; simp [execOp, resolve, invoke, builtin, hx, Builtin.len_, run_underlying hT, goInt])
theorem s_len_sl {x : Operand} {T e : TypeId} {A : Option Addr} {n c : Nat} (hT : P.underlying T = some (.slice e)) (hx : opv l x = .slice A n c := by rfl) : Go1 P l w ⟨some d, .call { callee := .builtin .len, args := #[x], argTypes := #[T] }, ty, pos, aft, none⟩ (.int .i64 n) :=
  (by unfold Go1; simp [execOp, resolve, invoke, builtin, hx, Builtin.len_, run_underlying hT, goInt])
theorem s_len_arr {x : Operand} {T e : TypeId} {n : Nat} (hT : P.underlying T = some (.array n e)) : Go1 P l w ⟨some d, .call { callee := .builtin .len, args := #[x], argTypes := #[T] }, ty, pos, aft, none⟩ (.int .i64 n) :=
  (by unfold Go1; simp [execOp, resolve, invoke, builtin, Builtin.len_, run_underlying hT, goInt])
theorem s_makeFunc {fn : Fn} {f c : Array Operand} : Go1 P l w ⟨some d, .makeFunc fn f c, ty, pos, aft, none⟩ (.func fn (f.map (opv l)) (c.map (opv l))) :=
  (by unfold Go1; simp [execOp, Instr.makeFunc])

def isAggD : TypeDesc → Bool
  | .struct _ | .array _ _ => true
  | _ => false
theorem run_isAgg_yes {P : Program} {t : TypeId} {dsc : TypeDesc} (hu : P.underlying t = some dsc) (hd : isAggD dsc = true) (w : World) : (isAgg t).run P w = .ok true w := by
  cases dsc <;> simp_all [isAgg, run_underlying hu, isAggD]
theorem run_isAgg_no {P : Program} {t : TypeId} {dsc : TypeDesc} (hu : P.underlying t = some dsc) (hd : isAggD dsc = false) (w : World) : (isAgg t).run P w = .ok false w := by
  cases dsc <;> simp_all [isAgg, run_underlying hu, isAggD]

/-! parts of a struct's or an array's value -/
theorem part_agg {P : Program} {w : World} {t : TypeId} {cs : Array Value} {off sz by' : Nat} {z : Value} {dsc : TypeDesc} (hu : P.underlying t = some dsc) (hd : isAggD dsc = true) (hi : TI P t sz by' z) :
    (part t cs off).run P w = .ok (.agg (cs.extract off (off + sz))) w := by
  obtain ⟨i, hi, rfl, _, _⟩ := hi
  simp [part, run_isAgg_yes hu hd, sizeOf, typeInfo, hi]
theorem part_one {P : Program} {w : World} {t : TypeId} {cs : Array Value} {off : Nat} {v : Value} {dsc : TypeDesc} (hu : P.underlying t = some dsc) (hd : isAggD dsc = false) (hv : cs[off]? = some v := by first | rfl | exact ic_get (by first | omega | (simp [*]; done) | (simp [*]; omega))) :
    (part t cs off).run P w = .ok v w := by
  simp [part, run_isAgg_no hu hd, hv]
theorem s_field_agg {x : Operand} {T : TypeId} {j : Nat} {fs : Array Field} {f : Field} {cs : Array Value} {sz by' : Nat} {z : Value} {dsc : TypeDesc} (hT : P.underlying T = some (.struct fs)) (hf : fs[j]? = some f := by rfl) (hu : P.underlying f.type = some dsc) (hd : isAggD dsc = true := by rfl) (hi : TI P f.type sz by' z)
    (hx : opv l x = .agg cs := by rfl) : Go1 P l w ⟨some d, .field T x j, ty, pos, aft, none⟩ (.agg (cs.extract f.offset (f.offset + sz))) :=
  (by unfold Go1; simp [execOp, Instr.field, run_underlying hT, hf, hx, asAgg, part_agg hu hd hi])
theorem s_field_one {x : Operand} {T : TypeId} {j : Nat} {fs : Array Field} {f : Field} {cs : Array Value} {v : Value} {dsc : TypeDesc} (hT : P.underlying T = some (.struct fs)) (hf : fs[j]? = some f := by rfl) (hu : P.underlying f.type = some dsc) (hd : isAggD dsc = false := by rfl)
    (hx : opv l x = .agg cs := by rfl) (hv : cs[f.offset]? = some v := by first | rfl | exact ic_get (by first | omega | (simp [*]; done) | (simp [*]; omega))) : Go1 P l w ⟨some d, .field T x j, ty, pos, aft, none⟩ v :=
  (by unfold Go1; simp [execOp, Instr.field, run_underlying hT, hf, hx, asAgg, part_one hu hd hv])
theorem s_index_one {x y : Operand} {T e : TypeId} {n sz by' : Nat} {z : Value} {k : IntKind} {i : Int} {cs : Array Value} {v : Value} {dsc : TypeDesc} (hT : P.underlying T = some (.array n e)) (hi : TI P e sz by' z) (hu : P.underlying e = some dsc) (hd : isAggD dsc = false := by rfl)
    (hx : opv l x = .agg cs := by rfl) (hy : opv l y = .int k i := by rfl) (h0 : 0 ≤ i := by omega) (h1 : i < n := by omega) (hv : cs[i.toNat * sz]? = some v := by first | rfl | exact ic_get (by first | omega | (simp [*]; done) | (simp [*]; omega))) : Go1 P l w ⟨some d, .index T x y, ty, pos, aft, none⟩ v := by
  obtain ⟨i', hi', rfl, _, _⟩ := hi
  exact (by unfold Go1; simp [execOp, Instr.index, run_underlying hT, hx, hy, asIntOf, h0, h1, sizeOf, typeInfo, hi', part_one hu hd hv])
theorem s_index_str {x y : Operand} {T : TypeId} {s : ByteArray} {k : IntKind} {i : Int} {b : UInt8} (hT : P.underlying T = some .string) (hx : opv l x = .string s := by rfl) (hy : opv l y = .int k i := by rfl) (h0 : 0 ≤ i := by omega) (hb : s[i.toNat]? = some b) : Go1 P l w ⟨some d, .index T x y, ty, pos, aft, none⟩ (.int .u8 b.toNat) :=
  (by unfold Go1; simp [execOp, Instr.index, run_underlying hT, hx, hy, asIntOf, h0, hb])

/-! calls -/
/-- A call comes back with a value. -/
def CallR (P : Program) (f : FuncId) (args : Array Value) (w : World) (R : Value → World → Prop) : Prop := Calls P f args w fun e w' => ∃ v, e = .returned v ∧ R v w'
theorem CallR.mono {f : FuncId} {args : Array Value} {w : World} {R R' : Value → World → Prop} (h : CallR P f args w R) (hr : ∀ v w', R v w' → R' v w') : CallR P f args w R' :=
  Calls.mono h fun _ _ ⟨v, he, q⟩ => ⟨v, he, hr _ _ q⟩
theorem s_call_any {o : Oper} {f : Nat} {args : Array Value} {K : Act → World → Prop} {Q : Exit → Act → World → Prop} (hr : (execOp (opv l) o).run P w = .ok (.enter f args) w) (h : CallR P f args w fun v w'' => K ((fr l).put o.dst v) w'') : o.wp P (fr l) w K Q := by
  unfold Oper.wp
  rw [eval_fr, hr, Oper.upon_enter]
  refine Calls.mono h ?_
  rintro e w1 ⟨v, rfl, q⟩
  exact q
theorem s_call {f : Nat} {args : Array Operand} {tys : Array TypeId} (he : Enters P f) (h : CallR P f (args.map (opv l)) w fun v w'' => WL P ops Q rest (fr (l.set d v)) w'') : WL P ops Q (⟨some d, .call { callee := .value (.func f), args := args, argTypes := tys }, ty, pos, aft, none⟩ :: rest) (fr l) w :=
  wl_plain rfl fun K hK => by
    have := he (args.map (opv l) ++ #[]) w
    simp only [Array.append_empty] at this
    refine s_call_any (f := f) (args := args.map (opv l)) (by simp [execOp, resolve, opv, Deferred.ofValue, invoke, this]) (h.mono fun v w1 q => ?_)
    show K ((fr l).put (some d) v) w1
    rw [put_fr]; exact hK _ _ q
theorem s_call_unit {f : Nat} {args : Array Operand} {tys : Array TypeId} (he : Enters P f) (h : CallR P f (args.map (opv l)) w fun _ w'' => WL P ops Q rest (fr l) w'') : WL P ops Q (⟨none, .call { callee := .value (.func f), args := args, argTypes := tys }, ty, pos, aft, none⟩ :: rest) (fr l) w :=
  wl_plain rfl fun K hK => by
    have := he (args.map (opv l) ++ #[]) w
    simp only [Array.append_empty] at this
    refine s_call_any (f := f) (args := args.map (opv l)) (by simp [execOp, resolve, opv, Deferred.ofValue, invoke, this]) (h.mono fun v w1 q => ?_)
    exact hK _ _ q
/-- a call of a function value -/
theorem s_callv {t f : Nat} {args : Array Operand} {tys : Array TypeId} {cap : Array Value} (hv : l.getD t undef = .func (.func f) #[] cap) (he : Enters P f) (h : CallR P f (args.map (opv l) ++ cap) w fun v w'' => WL P ops Q rest (fr (l.set d v)) w'') : WL P ops Q (⟨some d, .call { callee := .value (.tmp t), args := args, argTypes := tys }, ty, pos, aft, none⟩ :: rest) (fr l) w :=
  wl_plain rfl fun K hK => by
    have := he (args.map (opv l) ++ cap) w
    have hv' : opv l (.tmp t) = .func (.func f) #[] cap := hv
    refine s_call_any (f := f) (args := args.map (opv l) ++ cap) (by simp [execOp, resolve, hv', Deferred.ofValue, invoke, this]) (h.mono fun v w1 q => ?_)
    show K ((fr l).put (some d) v) w1
    rw [put_fr]; exact hK _ _ q
theorem s_callv_unit {t f : Nat} {args : Array Operand} {tys : Array TypeId} {cap : Array Value} (hv : l.getD t undef = .func (.func f) #[] cap) (he : Enters P f) (h : CallR P f (args.map (opv l) ++ cap) w fun _ w'' => WL P ops Q rest (fr l) w'') : WL P ops Q (⟨none, .call { callee := .value (.tmp t), args := args, argTypes := tys }, ty, pos, aft, none⟩ :: rest) (fr l) w :=
  wl_plain rfl fun K hK => by
    have := he (args.map (opv l) ++ cap) w
    have hv' : opv l (.tmp t) = .func (.func f) #[] cap := hv
    refine s_call_any (f := f) (args := args.map (opv l) ++ cap) (by simp [execOp, resolve, hv', Deferred.ofValue, invoke, this]) (h.mono fun v w1 q => ?_)
    exact hK _ _ q
end

/-! entering a function, and leaving it -/
section
variable {P : Program}
/-- a function's end -/
def Rt (P : Program) (fn : Func) (R : Value → World → Prop) (a : Act) (w : World) : Prop := a.defers = [] ∧ ∃ v, (results fn a.tmps).run P w = .ok v w ∧ R v w
theorem c_enter {f : FuncId} {fn : Func} {c : Code} {args : Array Value} {w : World} {R : Value → World → Prop} {l : List Value} (hf : P.funcs[f]? = some fn) (hb : fn.body = some c)
    (hl : (args ++ Array.replicate (fn.ntmps - args.size) undef) = l.toArray)
    (h : c.wp P (Qx (Rt P fn R) (Rt P fn R) []) (fr l) w) : CallR P f args w R := by
  refine calls_of_wp hf hb ?_
  rw [hl]
  refine wp_mono h fun e a w' q => ?_
  cases e with
  | normal => obtain ⟨h1, v, h2, h3⟩ := q; exact ⟨h1, v, h2, v, rfl, h3⟩
  | ret => obtain ⟨h1, v, h2, h3⟩ := q; exact ⟨h1, v, h2, v, rfl, h3⟩
  | exit i => exact q.elim
  | goto i => exact q.elim
  | panic ch => exact q.elim
  | outgrown => exact q.elim
theorem r_tmp {fn : Func} {t : Nat} {l : List Value} {w : World} {R : Value → World → Prop} (h : fn.results = #[.tmp t]) (hR : R (l.getD t undef) w) :
    Rt P fn R (fr l) w :=
  ⟨rfl, _, results_tmp h _ _ _, by simpa [fr, Array.getD_eq_getD_getElem?, List.getD] using hR⟩
theorem r_none {fn : Func} {l : List Value} {w : World} {R : Value → World → Prop} (h : fn.results = #[]) (hR : R (.tuple #[]) w) :
    Rt P fn R (fr l) w := ⟨rfl, _, results_none h _ _ _, hR⟩
theorem r_tmp2 {fn : Func} {t u : Nat} {l : List Value} {w : World} {R : Value → World → Prop} (h : fn.results = #[.tmp t, .tmp u]) (hR : R (.tuple #[l.getD t undef, l.getD u undef]) w) :
    Rt P fn R (fr l) w :=
  ⟨rfl, _, results_tmp2 h _ _ _, by simpa [fr, Array.getD_eq_getD_getElem?, List.getD] using hR⟩
theorem r_tmp3 {fn : Func} {t u v : Nat} {l : List Value} {w : World} {R : Value → World → Prop} (h : fn.results = #[.tmp t, .tmp u, .tmp v]) (hR : R (.tuple #[l.getD t undef, l.getD u undef, l.getD v undef]) w) :
    Rt P fn R (fr l) w :=
  ⟨rfl, _, results_tmp3 h _ _ _, by simpa [fr, Array.getD_eq_getD_getElem?, List.getD] using hR⟩
/-- one result that lies in a box -/
theorem r_cell {fn : Func} {t : Nat} {T : TypeId} {l : List Value} {w : World} {R : Value → World → Prop} {p : Addr} {v : Value} (h : fn.results = #[.cell t T]) (hp : l.getD t undef = .pointer (some p)) (hv : (loadVar T p).run P w = .ok v w) (hR : R v w) :
    Rt P fn R (fr l) w := by
  have hp' : ((fr l).tmps[t]?.getD undef) = .pointer (some p) := by rw [← hp]; simp [fr, List.getD]
  exact ⟨rfl, v, by simp [results, h, hp', asAddr, hv], hR⟩
theorem r_cell_tmp {fn : Func} {t u : Nat} {T : TypeId} {l : List Value} {w : World} {R : Value → World → Prop} {p : Addr} {v : Value} (h : fn.results = #[.cell t T, .tmp u]) (hp : l.getD t undef = .pointer (some p)) (hv : (loadVar T p).run P w = .ok v w) (hR : R (.tuple #[v, l.getD u undef]) w) :
    Rt P fn R (fr l) w := by
  have hp' : ((fr l).tmps[t]?.getD undef) = .pointer (some p) := by rw [← hp]; simp [fr, List.getD]
  have hu : ((fr l).tmps[u]?.getD undef) = l[u]?.getD undef := by simp [fr]
  exact ⟨rfl, .tuple #[v, l.getD u undef], by simp [results, h, hp', asAddr, hv, hu], hR⟩
theorem r_cell_cell {fn : Func} {t u : Nat} {T U : TypeId} {l : List Value} {w : World} {R : Value → World → Prop} {p q : Addr} {v v' : Value} (h : fn.results = #[.cell t T, .cell u U]) (hp : l.getD t undef = .pointer (some p)) (hv : (loadVar T p).run P w = .ok v w) (hq : l.getD u undef = .pointer (some q)) (hv' : (loadVar U q).run P w = .ok v' w) (hR : R (.tuple #[v, v']) w) :
    Rt P fn R (fr l) w := by
  have hp' : ((fr l).tmps[t]?.getD undef) = .pointer (some p) := by rw [← hp]; simp [fr, List.getD]
  have hq' : ((fr l).tmps[u]?.getD undef) = .pointer (some q) := by rw [← hq]; simp [fr, List.getD]
  exact ⟨rfl, .tuple #[v, v'], by simp [results, h, hp', hq', asAddr, hv, hv'], hR⟩
end
end Go.Proofs.Ytpjpaipkkcengaa
