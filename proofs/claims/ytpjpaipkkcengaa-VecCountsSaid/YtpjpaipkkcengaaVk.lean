/-
  More words on numbers, bits and boxes. No program here.
-/
import Derived.Test.YtpjpaipkkcengaaVn
import Derived.Lib.BitFns
import Derived.WideShapes
import Derived.Lib.ItoaNum
import Derived.WalkMore
import Derived.Scope
namespace Go.Proofs.Ytpjpaipkkcengaa
open Go.RowKit
theorem shr_n {k : IntKind} {r n : Nat} {b : Int} (hb : b = (n : Int)) (hn : n ≤ k.bits) : Int.fdiv (r : Int) (2 ^ (min b.toNat k.bits)) = ((r / 2 ^ n : Nat) : Int) := by
  subst hb
  exact shr_u k rfl (by rw [Int.toNat_natCast]; exact Nat.min_eq_left hn) rfl
theorem shl_n64 {r n : Nat} {b : Int} (hb : b = (n : Int)) : IntKind.u64.wrap ((r : Int) * 2 ^ (min b.toNat IntKind.u64.bits)) = ((r * 2 ^ n % 18446744073709551616 : Nat) : Int) := by
  have hbn : b.toNat = n := by omega
  by_cases h : n ≤ 64
  · exact shl_u64 (b := b) (r := r) (p := 2 ^ n) (n := n) (s := r * 2 ^ n % 18446744073709551616) (Eq.refl _) (by rw [hbn]; exact Nat.min_eq_left h) (Eq.refl _)
  · have key : ∀ M, M = 2 ^ 64 → r * M % M = r * 2 ^ n % M := fun M hM => by
      rw [show n = 64 + (n - 64) by omega, Nat.pow_add, ← hM, Nat.mul_mod_left, Nat.mul_left_comm, Nat.mul_mod_right]
    exact shl_u64 (b := b) (r := r) (p := 18446744073709551616) (n := 64) (key _ (by decide)) (by rw [hbn]; exact Nat.min_eq_right (by omega)) (by decide)
theorem andn7 {a : Nat} (h : a < 256) : bits .andNot .u8 (a : Int) 128 = ((a % 128 : Nat) : Int) := by
  have : ∀ a : Fin 256, bits .andNot .u8 ((a.val : Nat) : Int) 128 = ((a.val % 128 : Nat) : Int) := by decide +kernel
  exact this ⟨a, h⟩
theorem or7 {a : Nat} (h : a < 128) : bits .or .u8 (a : Int) 128 = ((a + 128 : Nat) : Int) := by
  have : ∀ a : Fin 128, bits .or .u8 ((a.val : Nat) : Int) 128 = ((a.val + 128 : Nat) : Int) := by decide +kernel
  exact this ⟨a, h⟩
theorem or_dis64 {a b n : Nat} {c d : Int} (hc : c = (a : Int)) (hd : d = ((2 ^ n * b : Nat) : Int)) (ha : a < 2 ^ n) (hs : a + 2 ^ n * b < 18446744073709551616) : bits .or .u64 c d = ((a + 2 ^ n * b : Nat) : Int) := by
  subst hc; subst hd
  rw [or_u64 (by omega) (by omega), Nat.or_comm, Nat.add_comm, Nat.two_pow_add_eq_or_of_lt ha]
theorem or_hi64 {a b n : Nat} (ha : a < 2 ^ n) (hs : 2 ^ n * b + a < 18446744073709551616) : bits .or .u64 ((2 ^ n * b : Nat) : Int) (a : Int) = ((2 ^ n * b + a : Nat) : Int) := by
  rw [or_u64 (by omega) (by omega), Nat.two_pow_add_eq_or_of_lt ha]
theorem shl_lt64 {r n : Nat} {b : Int} (hb : b = (n : Int)) (h : 2 ^ n * r < 18446744073709551616) : IntKind.u64.wrap ((r : Int) * 2 ^ (min b.toNat IntKind.u64.bits)) = ((2 ^ n * r : Nat) : Int) := by
  rw [shl_n64 hb, Nat.mul_comm, Nat.mod_eq_of_lt h]
theorem and_mask {x n : Nat} {c : Int} (hx : x < 18446744073709551616) (hc : c = ((2 ^ n - 1 : Nat) : Int)) (hn : n ≤ 63) : bits .and .u64 (x : Int) c = ((x % 2 ^ n : Nat) : Int) := by
  subst hc
  have h1 : 2 ^ n ≤ 2 ^ 63 := Nat.pow_le_pow_right (by omega) hn
  rw [and_u64 hx (by omega), Nat.and_two_pow_sub_one_eq_mod]
theorem bitLen_le_iff {x k : Nat} (hx : x < 18446744073709551616) : Lib.bitLen x ≤ k ↔ x < 2 ^ k := by
  by_cases h0 : x = 0
  · subst h0
    simp only [Lib.bitLen, Lib.bitLenAux_zero, Nat.zero_le, true_iff]
    exact Nat.two_pow_pos k
  · obtain ⟨h1, h2, h3⟩ := Lib.bitLenAux_bounds 64 x hx h0
    unfold Lib.bitLen
    refine ⟨fun h => Nat.lt_of_lt_of_le h3 (Nat.pow_le_pow_right (by omega) h), fun h => ?_⟩
    have h4 : 2 ^ (Lib.bitLenAux 64 x - 1) < 2 ^ k := Nat.lt_of_le_of_lt h2 h
    have := (Nat.pow_lt_pow_iff_right (by omega : 1 < 2)).1 h4
    omega
theorem bitLen_le64 {x : Nat} (hx : x < 18446744073709551616) : Lib.bitLen x ≤ 64 := (bitLen_le_iff hx).2 hx
/-! boxes that are only read -/
section
variable {P : Program} {l : List Value} {w : World} {d : Nat} {ty : TypeId} {pos : String} {aft : Array Edge} {S : Nat → Prop} {w0 : World} {L : List Res}
theorem St.objRd {g : Nat} {cs : Array Value} {t : TypeId} {f : Nat × Nat} (h : St S w0 w L) (hm : Has L (.obj g (.cells cs t f))) : Rd w (some ⟨g, 0, none⟩) 1 cs.size cs.toList :=
  ⟨by simp, fun _ => ⟨g, 0, rfl, own_lt (h.has hm) rfl, h.obj_at hm⟩⟩
theorem m_load_bx {T : TypeId} {x : Operand} {dsc : TypeDesc} {g o k : Nat} {sz n : Nat} {xs : List Value} {v : Value} (hu : P.underlying T = some dsc) (hd : isAggD dsc = false := by rfl) (hx : opv l x = .pointer (some ⟨g, k, none⟩) := by rfl) (hS : St S w0 w L) (hm : Has L (.rd (some ⟨g, o, none⟩) sz n xs) := by repeat (first | exact Has.head | apply Has.tail)) (hn : 0 < n := by omega) (ho : o ≤ k := by omega) (hv : xs[k - o]? = some v := by first | rfl | exact ic_get (by first | omega | (simp [*]; done) | (simp [*]; omega)) | exact il_get (by first | omega | (simp [*]; done) | (simp [*]; omega))) : Go1 P l w ⟨some d, .load T x, ty, pos, aft, none⟩ v :=
  m_load hu hd hx (by
    obtain ⟨g', o', e, hat⟩ := hS.rd_at hm hn
    cases e
    have := hat (k - o) v hv
    rw [show o + (k - o) = k by omega] at this
    exact this)
theorem m_loada_bx {T : TypeId} {x : Operand} {dsc : TypeDesc} {g o k sz' by' : Nat} {z : Value} {sz n : Nat} {xs : List Value} (hu : P.underlying T = some dsc) (hd : isAggD dsc = true := by rfl) (hi : TI P T sz' by' z) (hx : opv l x = .pointer (some ⟨g, k, none⟩) := by rfl) (hS : St S w0 w L) (hm : Has L (.rd (some ⟨g, o, none⟩) sz n xs) := by repeat (first | exact Has.head | apply Has.tail)) (hn : 0 < n := by omega) (ho : o ≤ k := by omega) (hfit : k - o + sz' ≤ xs.length := by first | (simp [*]; done) | omega | rfl | (simp [*]; omega)) : Go1 P l w ⟨some d, .load T x, ty, pos, aft, none⟩ (.agg ((xs.drop (k - o)).take sz').toArray) :=
  m_loada hu hd hi hx (by simp; omega) (by
    obtain ⟨g', o', e, hat⟩ := hS.rd_at hm hn
    cases e
    have := (hat.drop (k - o)).take sz'
    rw [show o + (k - o) = k by omega] at this
    exact this)
end
theorem x_scope {P : Program} {n r : Act → World → Prop} {ex : List (Nat × (Act → World → Prop))} {a : Act} {w : World} {c : Code} (h : c.wp P (Qx n r ex) a w) : (Code.scope c).wp P (Qx n r ex) a w :=
  wp_scope_straight (wp_mono h fun e a w hq => by cases e <;> exact hq)
theorem calls_r {P : Program} {f : FuncId} {args : Array Value} {w : World} {v : Value} (h : Calls P f args w fun e w' => e = .returned v ∧ w' = w) : CallR P f args w fun u w' => u = v ∧ Ext w w' :=
  Calls.mono h fun _ _ ⟨he, hw⟩ => ⟨v, he, rfl, by subst hw; exact Ext.rfl'⟩
theorem mul_u64 {a b : Nat} (h : a * b < 18446744073709551616) : IntKind.u64.wrap ((a : Int) * (b : Int)) = ((a * b : Nat) : Int) := by
  rw [← Int.natCast_mul]; exact wr_u64 (by omega) (by omega)
theorem add_u64 {a b : Nat} (h : a + b < 18446744073709551616) : IntKind.u64.wrap ((a : Int) + (b : Int)) = ((a + b : Nat) : Int) := by
  rw [← Int.natCast_add]; exact wr_u64 (by omega) (by omega)
/-! texts -/
theorem strOf_size (a : List Int) : (strOf a).size = a.length := by simp [strOf, ByteArray.size]
theorem strOf_app (a b : List Int) : strOf a ++ strOf b = strOf (a ++ b) := by simp only [strOf, ByteArray.mk_append_mk, List.map_append]
theorem strOf_get {a : List Int} {i : Nat} (h : i < a.length) : (strOf a)[i]? = some (UInt8.ofNat (a.getD i 0).toNat) := by
  have hs : i < (strOf a).size := by rw [strOf_size]; exact h
  rw [getElem?_pos (strOf a) i hs]
  congr 1
  show (strOf a).data[i] = _
  simp [strOf, List.getD_eq_getElem?_getD, List.getElem?_eq_getElem h]
theorem u8_back {b : Int} (h : 0 ≤ b ∧ b ≤ 255) : (((UInt8.ofNat b.toNat).toNat : Nat) : Int) = b := by
  simp; omega
theorem strOf_inj {a b : List Int} (ha : Byt a) (hb : Byt b) : strOf a = strOf b ↔ a = b := by
  refine ⟨fun h => ?_, fun h => by rw [h]⟩
  have h1 : a.map (fun n => UInt8.ofNat n.toNat) = b.map (fun n => UInt8.ofNat n.toNat) := by
    have := congrArg (fun s => s.data.toList) h
    simpa [strOf] using this
  have h2 : a.map (fun n => (((UInt8.ofNat n.toNat).toNat : Nat) : Int)) = b.map (fun n => (((UInt8.ofNat n.toNat).toNat : Nat) : Int)) := by
    have := congrArg (List.map fun u : UInt8 => ((u.toNat : Nat) : Int)) h1
    simpa [List.map_map, Function.comp_def] using this
  have e : ∀ c : List Int, Byt c → c.map (fun n => (((UInt8.ofNat n.toNat).toNat : Nat) : Int)) = c := fun c hc => by
    conv => rhs; rw [← List.map_id c]
    exact List.map_congr_left fun x hx => u8_back (hc x hx)
  rw [e a ha, e b hb] at h2
  exact h2
theorem strOf_beq {a b : List Int} (ha : Byt a) (hb : Byt b) : (strOf a == strOf b) = decide (a = b) := by
  rw [beq_toListBytes, ByteArray.toList_eq, ByteArray.toList_eq, Bool.eq_iff_iff, decide_eq_true_eq, beq_iff_eq, ← strOf_inj ha hb]
  exact ⟨fun h => WideShapes.bytes_inj h, fun h => by rw [h]⟩
section
variable {P : Program} {l : List Value} {w : World} {d : Nat} {ty : TypeId} {pos : String} {aft : Array Edge}
theorem s_nilCheck {x : Operand} {a : Addr} (hx : opv l x = .pointer (some a) := by rfl) : Go1 P l w ⟨some d, .nilCheck x, ty, pos, aft, none⟩ (.pointer (some a)) := by
  unfold Go1; simp [execOp, hx]
theorem run_eqp {T e : TypeId} {p : Option Addr} (hT : P.underlying T = some (.pointer e)) : (Op.equal T (.pointer p) (.pointer none)).run P w = .ok p.isNone w := by
  have h : ∀ d : Nat, (Op.equalIn (d + 1) T (.pointer p) (.pointer none)).run P w = .ok p.isNone w := fun d => by cases p <;> simp [Op.equalIn, run_underlying hT]
  exact h 9999
theorem s_eql_pointer {x y : Operand} {T yT e : TypeId} {p : Option Addr} (hT : P.underlying T = some (.pointer e)) (hx : opv l x = .pointer p := by rfl) (hy : opv l y = .pointer none := by rfl) : Go1 P l w ⟨some d, .binOp .eql T x y yT, ty, pos, aft, none⟩ (.bool p.isNone) := by
  unfold Go1; simp [execOp, hx, hy, eqGuard, binOp, run_eqp hT]
theorem s_neq_pointer {x y : Operand} {T yT e : TypeId} {p : Option Addr} (hT : P.underlying T = some (.pointer e)) (hx : opv l x = .pointer p := by rfl) (hy : opv l y = .pointer none := by rfl) : Go1 P l w ⟨some d, .binOp .neq T x y yT, ty, pos, aft, none⟩ (.bool (!p.isNone)) := by
  unfold Go1; simp [execOp, hx, hy, eqGuard, binOp, run_eqp hT]
theorem s_add_str {x y : Operand} {T yT : TypeId} {a b : ByteArray} (_hT : P.underlying T = some .string) (hx : opv l x = .string a := by rfl) (hy : opv l y = .string b := by rfl) (hn : a.size + b.size ≤ 9223372036854775807) : Go1 P l w ⟨some d, .binOp .add T x y yT, ty, pos, aft, none⟩ (.string (a ++ b)) := by
  unfold Go1; simp [execOp, hx, hy, eqGuard, binOp, run_string_add_sum w a b hn]
theorem s_eql_string {x y : Operand} {T yT : TypeId} {a b : ByteArray} (_hT : P.underlying T = some .string) (hx : opv l x = .string a := by rfl) (hy : opv l y = .string b := by rfl) : Go1 P l w ⟨some d, .binOp .eql T x y yT, ty, pos, aft, none⟩ (.bool (a == b)) := by
  unfold Go1; simp [execOp, hx, hy, eqGuard, binOp, Op.stringOp]; exact (beq_toListBytes a b).symm
theorem s_neq_string {x y : Operand} {T yT : TypeId} {a b : ByteArray} (_hT : P.underlying T = some .string) (hx : opv l x = .string a := by rfl) (hy : opv l y = .string b := by rfl) : Go1 P l w ⟨some d, .binOp .neq T x y yT, ty, pos, aft, none⟩ (.bool (!(a == b))) := by
  unfold Go1; simp [execOp, hx, hy, eqGuard, binOp, Op.stringOp]; exact (beq_toListBytes a b).symm
end
/-! structs whose leaves are integers -/
theorem zi_get {ks : List IntKind} {xs : List Int} {i : Nat} {k : IntKind} (hk : ks[i]? = some k) (h : i < xs.length) : (zi ks xs).toArray[i]? = some (.int k (xs.getD i 0)) := by
  simp [zi, List.getElem?_zipWith, hk, List.getElem?_eq_getElem h, List.getD_eq_getElem?_getD]
theorem zi_size {ks : List IntKind} {xs : List Int} (h : xs.length = ks.length) : (zi ks xs).toArray.size = ks.length := by simp [zi_len h]
theorem zi_set {ks : List IntKind} {xs : List Int} {o : Nat} {k : IntKind} {v : Int} (hk : ks[o]? = some k) (h : xs.length = ks.length) : splice (zi ks xs).toArray.toList o [.int k v] = zi ks (xs.set o v) := by
  have ho : o < ks.length := (List.getElem?_eq_some_iff.1 hk).1
  rw [List.toList_toArray, splice_one (by rw [zi_len h]; exact ho)]
  refine List.ext_getElem? fun i => ?_
  simp only [zi, List.getElem?_set, List.getElem?_zipWith, List.length_zipWith]
  by_cases hi : o = i
  · subst hi; simp [h, ho]; rw [List.getElem?_eq_getElem ho] at hk; exact (Option.some.inj hk).symm
  · simp [hi]
theorem zi_whole {ks : List IntKind} {a b : List Int} (ha : a.length = ks.length) (hb : b.length = ks.length) : splice (zi ks a).toArray.toList 0 (zi ks b).toArray.toList = zi ks b :=
  splice_whole (by simp only [List.toList_toArray, List.size_toArray, zi_len ha, zi_len hb])
theorem zi_one (ks : List IntKind) (xs : List Int) : ∀ u ∈ (zi ks xs).toArray.toList, u.oneCell' = true := by
  intro u hu
  simp only [zi] at hu
  obtain ⟨i, hi, rfl⟩ := List.getElem_of_mem hu
  simp [Value.oneCell']
theorem zi_part {k1 k2 k3 : List IntKind} {a b c : List Int} (h1 : a.length = k1.length) (h2 : b.length = k2.length) : (((zi (k1 ++ k2 ++ k3) (a ++ b ++ c)).toArray.toList.drop k1.length).take k2.length).toArray = (zi k2 b).toArray := by
  rw [List.toList_toArray, List.append_assoc, List.append_assoc, zi_app h1, zi_app h2, List.drop_left' (by rw [zi_len h1]), List.take_left' (by rw [zi_len h2])]
section
variable {P : Program} {ops : Array Oper} {Q : Exit → Act → World → Prop} {rest : List Oper} {l : List Value} {w : World} {d : Nat} {ty : TypeId} {pos : String} {aft : Array Edge}
variable {S : Nat → Prop} {w0 : World} {L L1 : List Res}
theorem m_append_vec {T e : TypeId} {x y : Operand} {sz by' : Nat} {z : Value} {A B : Option Addr} {n c m c2 cb : Nat} {eb : TypeId} {xs news : List Value} (hT : P.underlying T = some (.slice e)) (hi : TI P e sz by' z) (hsz : 0 < sz ∧ z.cells.size = sz := by decide) (hx : opv l x = .slice A n c := by rfl) (hy : opv l y = .slice B m c2 := by rfl) (hS : St S w0 w L)
    (hd : Del L (.vec A c e sz n xs) L1 := by repeat (first | exact Del.head | apply Del.tail)) (hm : Has L1 (.vec B cb eb sz m news) := by repeat (first | exact Has.head | apply Has.tail)) (h1 : ∀ u ∈ news, u.oneCell' = true := by first | exact ic_one _ _ | exact il_one _ _ | simp [Value.oneCell']) (h63 : n + m ≤ maxLen := by first | omega | (simp only [maxLen]; omega)) (hby : (n + m) * by' ≤ 140737488355328 := by omega)
    (h : ∀ w' A' c', St S w0 w' (.vec A' c' e sz (n + m) (xs ++ news) :: L1) → WL P ops Q rest (fr (l.set d (.slice A' (n + m) c'))) w') : WL P ops Q (⟨some d, .call { callee := .builtin .append, args := #[x, y], argTypes := #[T, T] }, ty, pos, aft, none⟩ :: rest) (fr l) w := by
  have hown := hS.holds _ hd.mem
  have hr : Rd w B sz m news := ((hS.perm hd.perm).drop).vecRd hm
  obtain ⟨A', c', w', hrun, hown', hk, hat⟩ := run_append_all (t := T) (ty := ty) hT hi hsz.1 hsz.2 hown (c2 := c2) hr h1 h63 hby
  refine s_val (v := .slice A' (n + m) c') (w' := w') (by simp [execOp, resolve, invoke, builtin, hx, hy, hrun]) (h w' A' c' ?_)
  exact hS.turn_front hd hk hown' (fun g hg => hat g hg) (by intro g hg; simp [Res.reads] at hg)
end
section
variable {P : Program} {ops : Array Oper} {Q : Exit → Act → World → Prop} {rest : List Oper} {l : List Value} {w : World} {d : Nat} {ty : TypeId} {pos : String} {aft : Array Edge}
/-- a call of a method's value -/
theorem s_callm {t f : Nat} {args : Array Operand} {tys : Array TypeId} {fst cap : Array Value} (hv : l.getD t undef = .func (.func f) fst cap) (he : Enters P f) (h : CallR P f (fst ++ args.map (opv l) ++ cap) w fun v w'' => WL P ops Q rest (fr (l.set d v)) w'') : WL P ops Q (⟨some d, .call { callee := .value (.tmp t), args := args, argTypes := tys }, ty, pos, aft, none⟩ :: rest) (fr l) w :=
  wl_plain rfl fun K hK => by
    have := he (fst ++ args.map (opv l) ++ cap) w
    have hv' : opv l (.tmp t) = .func (.func f) fst cap := hv
    refine s_call_any (f := f) (args := fst ++ args.map (opv l) ++ cap) (by simp only [Array.append_assoc] at this; simp [execOp, resolve, hv', Deferred.ofValue, invoke, this]) (h.mono fun v w1 q => ?_)
    show K ((fr l).put (some d) v) w1
    rw [put_fr]; exact hK _ _ q
end
theorem byL_strOf {a : List Int} (h : Byt a) : byL (strOf a) = a := by
  simp only [byL, strOf, List.map_map]
  conv => rhs; rw [← List.map_id a]
  exact List.map_congr_left fun x hx => u8_back (h x hx)
theorem made_int (k : IntKind) (n : Nat) : (madeCells #[.int k 0] (n * 1)).toList = (List.replicate n 0).map (Value.int k) := by
  simp only [madeCells, Nat.mul_one, Array.toList_map, Array.toList_range, List.map_replicate]
  refine List.ext_getElem (by simp) fun i h1 h2 => ?_
  simp [Nat.mod_one]
end Go.Proofs.Ytpjpaipkkcengaa
