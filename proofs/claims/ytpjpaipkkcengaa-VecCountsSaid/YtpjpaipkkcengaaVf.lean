/-
  More rules: '==' at structs and arrays, append, make, texts and bytes. No program here.
-/
import Derived.Test.YtpjpaipkkcengaaVe
import Derived.Maps.AppendAt
namespace Go.Proofs.Ytpjpaipkkcengaa
open Go.RowKit

theorem Del.upd {L L1 : List Res} {r : Res} (h : Del L r L1) (r' : Res) : ∃ L', Upd L r r' L' ∧ L'.Perm (r' :: L1) := by
  induction h with
  | head => exact ⟨_, .head, .refl _⟩
  | @tail s r L L' _ ih =>
    obtain ⟨M, hu, hp⟩ := ih
    exact ⟨s :: M, .tail hu, (hp.cons s).trans (.swap _ _ _)⟩
theorem Del.mem {L L1 : List Res} {r : Res} (h : Del L r L1) : r ∈ L := by
  induction h with
  | head => simp
  | tail _ ih => simp [ih]
theorem Del.mem_of {L L1 : List Res} {r s : Res} (h : Del L r L1) (hs : s ∈ L1) : s ∈ L := by
  induction h with
  | head => simp [hs]
  | tail _ ih => rcases List.mem_cons.1 hs with rfl | hs
                 · simp
                 · simp [ih hs]

section
variable {S : Nat → Prop} {w0 w w' : World} {L L1 : List Res} {r r' : Res}
/-- one resource turns, and is put in front -/
theorem St.turn_front (h : St S w0 w L) (hd : Del L r L1) (hk : Keep (fun k => r.own = some k) w w') (hr : r'.holds w')
    (ho : ∀ g, r'.own = some g → r.own = some g ∨ w.heap.size ≤ g) (hn : ∀ g, r'.reads = some g → r.own = some g ∨ r.reads = some g ∨ w.heap.size ≤ g) : St S w0 w' (r' :: L1) := by
  obtain ⟨L', hu, hp⟩ := hd.upd r'
  exact (h.turn hu hk hr ho hn).perm hp
theorem St.front (h : St S w0 w L) (hd : Del L r L1) : St S w0 w (r :: L1) := h.perm hd.perm
end

theorem keep_of_grown {w w' : World} {v : Value} {A : Option Addr} {n c : Nat} (hv : v = .slice A n c) (h : w.grownBy w' v.ownBlock) : Keep (fun k => A.map (·.block) = some k) w w' := by
  subst hv
  refine ⟨h.os, h.tape, h.output, h.size, fun k hk hs => h.block k hk (fun e => hs ?_)⟩
  rw [e]
  cases A <;> rfl

section
variable {P : Program} {w : World}
/-- the append of nothing -/
theorem run_append_zero {t ty e : TypeId} {i : TypeInfo} (ht : P.underlying t = some (.slice e)) (hi : P.info? e = some i) {A B : Option Addr} {n c c2 : Nat} (hnc : n ≤ c) :
    (Builtin.append_ #[t, t] ty #[.slice A n c, .slice B 0 c2]).run P w = .ok (.slice A n c) w := by
  cases A <;> cases B <;> simp [Builtin.append_, run_underlying ht, sizeOf, typeInfo, hi, Builtin.lenOf, Builtin.firstCells, hnc, storeCells, loadCells, loadCellsFrom]

theorem run_append_all {t ty e : TypeId} {sz by' : Nat} {z : Value} (ht : P.underlying t = some (.slice e)) (hi : TI P e sz by' z) (hsz : 0 < sz) (hzs : z.cells.size = sz) {A : Option Addr} {n c : Nat} {xs : List Value} (hown : w.ownsRow 0 e sz (.slice A n c) n xs)
    {B : Option Addr} {m c2 : Nat} {news : List Value} (hr : Rd w B sz m news) (h1 : ∀ u ∈ news, u.oneCell' = true) (h63 : n + m ≤ maxLen) (hby : (n + m) * by' ≤ 140737488355328) :
    ∃ A' c' w', (Builtin.append_ #[t, t] ty #[.slice A n c, .slice B m c2]).run P w = .ok (.slice A' (n + m) c') w' ∧ w'.ownsRow 0 e sz (.slice A' (n + m) c') (n + m) (xs ++ news) ∧ Keep (fun k => A.map (·.block) = some k) w w' ∧ (∀ g, A'.map (·.block) = some g → A.map (·.block) = some g ∨ w.heap.size ≤ g) := by
  obtain ⟨i, hi, rfl, rfl, hz⟩ := hi
  rcases Nat.eq_zero_or_pos m with rfl | hm
  · have hnil : news = [] := List.eq_nil_of_length_eq_zero (by simpa using hr.1)
    subst hnil
    have hnc : n ≤ c := by
      rcases hown.2 with ⟨hv, h0⟩ | ⟨g, cap, cur, hv, _, _, hnc, _⟩
      · omega
      · simp only [Value.slice.injEq] at hv; omega
    exact ⟨A, c, w, run_append_zero ht hi hnc, by simpa using hown, Keep.refl _ _, fun g hg => .inl hg⟩
  · obtain ⟨hl, h2⟩ := hr
    obtain ⟨g, o, rfl, _, hc⟩ := h2 hm
    obtain ⟨v', w', hrun, hown', hgrow, _, hat⟩ := run_append_own_at (P := P) w 0 t ty e i z i.size i.bytes ht hi hz rfl rfl hzs hsz _ n xs hown ⟨g, o, none⟩ m c2 news hl (fun j u hu => by rw [add_at]; exact hc j u hu) h1 h63 hby (Nat.zero_le _)
    rcases hown'.2 with ⟨_, h0⟩ | ⟨g', cap, cur, hv, hrest⟩
    · omega
    · subst hv
      refine ⟨some ⟨g', 0, none⟩, cap, w', hrun, hown', keep_of_grown rfl hgrow, fun k hk => ?_⟩
      simp at hk
      subst hk
      rcases hat with h5 | h5
      · left
        have h6 : (Value.slice A n c).ownBlock = some g' := by rw [← h5]; rfl
        cases A with
        | none => simp [Value.ownBlock] at h6
        | some a => simpa [Value.ownBlock] using h6
      · right
        simp [Value.ownBlock] at h5
        omega
/-- an append onto what has no room: the slice is copied -/
theorem run_append_copy {t ty e : TypeId} {sz by' : Nat} {z : Value} (ht : P.underlying t = some (.slice e)) (hi : TI P e sz by' z) (hzs : z.cells.size = sz) {A : Option Addr} {n : Nat} {xs : List Value} (hra : Rd w A sz n xs)
    {B : Option Addr} {m c2 : Nat} {news : List Value} (hr : Rd w B sz m news) (hm : 0 < m) (h63 : n + m ≤ maxLen) (hby : (n + m) * by' ≤ 140737488355328) :
    ∃ g c' w', (Builtin.append_ #[t, t] ty #[.slice A n n, .slice B m c2]).run P w = .ok (.slice (some ⟨g, 0, none⟩) (n + m) c') w' ∧ w'.ownsRow 0 e sz (.slice (some ⟨g, 0, none⟩) (n + m) c') (n + m) (xs ++ news) ∧ Ext w w' ∧ w.heap.size ≤ g := by
  obtain ⟨i, hi, rfl, rfl, hz⟩ := hi
  obtain ⟨hl, h2⟩ := hr
  obtain ⟨gb, ob, rfl, _, hc⟩ := h2 hm
  have hsmall : n + m ≤ 9223372036854775807 := by simp only [maxLen] at h63; omega
  have hf := run_firstCells_some (P := P) w.drew i.size m ⟨gb, ob, none⟩ m c2 news hl (fun j u hu => by rw [add_at]; simpa using hc j u hu)
  have hfo : (Builtin.firstCells i.size n (.slice A n n)).run P w.drew = .ok xs.toArray w.drew := by
    rcases Nat.eq_zero_or_pos n with rfl | hn
    · have : xs = [] := List.eq_nil_of_length_eq_zero (by simpa using hra.1)
      subst this
      cases A <;> simp [Builtin.firstCells, loadCells, loadCellsFrom]
    · obtain ⟨g, o, rfl, _, hca⟩ := hra.2 hn
      exact run_firstCells_some (P := P) w.drew i.size n ⟨g, o, none⟩ n n xs hra.1 (fun j u hu => by rw [add_at]; simpa using hca j u hu)
  have hge := grownCap_ge w (n + m) n e
  have hcm : grownCap w (n + m) n e ≤ maxLen := grownCap_le_maxLen w (n + m) n e h63
  have hn' : ¬ (n + m ≤ n) := by omega
  have h63' : ¬ (9223372036854775807 < ((n : Int) + (m : Int))) := by omega
  have h48' : ¬ (281474976710656 < Builtin.nextslicecap (n + m) n * i.bytes) := by have := growslice_fits (show n < n + m by omega) hby; omega
  refine ⟨w.heap.size, grownCap w (n + m) n e, w.drew.alloc (.cells (xs.toArray ++ news.toArray ++ Builtin.zeroCells z.cells (grownCap w (n + m) n e - (n + m))) e), ?_, ⟨?_, .inr ⟨w.heap.size, _, _, rfl, Nat.zero_le _, heap_alloc_new w.drew _, hge, hcm, ?_, ?_⟩⟩, (Ext.drew w).trans (Ext.alloc _ _), Nat.le_refl _⟩
  · simp [Builtin.append_, run_underlying ht, sizeOf, typeInfo, zeroValue, hi, hz, Builtin.lenOf, hn', h63', h48', Question.forced, hf, hfo, newRow, grownCap]
    congr 2
    apply Array.ext'
    simp [List.append_assoc]
  · rw [List.length_append, hra.1, hl, Nat.add_mul]
  · simp only [Array.size_append, List.size_toArray, size_zeroCells, hzs, hra.1, hl, ← Nat.add_mul]
    congr 1
    omega
  · simp only [Array.toList_append, List.append_assoc]
    have hlen : (xs ++ news).length = (n + m) * i.size := by rw [List.length_append, hra.1, hl, Nat.add_mul]
    rw [← List.append_assoc, ← hlen]
    exact List.take_left
end

section
variable {P : Program} {ops : Array Oper} {Q : Exit → Act → World → Prop} {rest : List Oper} {l : List Value} {w : World} {d : Nat} {ty : TypeId} {pos : String} {aft : Array Edge}
variable {S : Nat → Prop} {w0 : World} {L L1 : List Res}

theorem m_append {T e : TypeId} {x y : Operand} {sz by' : Nat} {z : Value} {A B : Option Addr} {n c m c2 : Nat} {xs news : List Value} (hT : P.underlying T = some (.slice e)) (hi : TI P e sz by' z) (hsz : 0 < sz ∧ z.cells.size = sz := by decide) (hx : opv l x = .slice A n c := by rfl) (hy : opv l y = .slice B m c2 := by rfl) (hS : St S w0 w L)
    (hd : Del L (.vec A c e sz n xs) L1 := by repeat (first | exact Del.head | apply Del.tail)) (hm : Has L1 (.rd B sz m news) := by repeat (first | exact Has.head | apply Has.tail)) (h1 : ∀ u ∈ news, u.oneCell' = true := by first | exact ic_one _ _ | exact il_one _ _ | simp [Value.oneCell']) (h63 : n + m ≤ maxLen := by first | omega | (simp only [maxLen]; omega)) (hby : (n + m) * by' ≤ 140737488355328 := by omega)
    (h : ∀ w' A' c', St S w0 w' (.vec A' c' e sz (n + m) (xs ++ news) :: L1) → WL P ops Q rest (fr (l.set d (.slice A' (n + m) c'))) w') : WL P ops Q (⟨some d, .call { callee := .builtin .append, args := #[x, y], argTypes := #[T, T] }, ty, pos, aft, none⟩ :: rest) (fr l) w := by
  have hown := hS.holds _ hd.mem
  have hr : Rd w B sz m news := hS.holds _ (hd.mem_of hm.mem)
  obtain ⟨A', c', w', hrun, hown', hk, hat⟩ := run_append_all (t := T) (ty := ty) hT hi hsz.1 hsz.2 hown (c2 := c2) hr h1 h63 hby
  refine s_val (v := .slice A' (n + m) c') (w' := w') (by simp [execOp, resolve, invoke, builtin, hx, hy, hrun]) (h w' A' c' ?_)
  exact hS.turn_front hd hk hown' (fun g hg => hat g hg) (by intro g hg; simp [Res.reads] at hg)
theorem m_append_copy {T e : TypeId} {x y : Operand} {sz by' : Nat} {z : Value} {A B : Option Addr} {n m c2 : Nat} {xs news : List Value} (hT : P.underlying T = some (.slice e)) (hi : TI P e sz by' z) (hzs : z.cells.size = sz := by decide) (hx : opv l x = .slice A n n := by rfl) (hy : opv l y = .slice B m c2 := by rfl) (hS : St S w0 w L)
    (hm1 : Has L (.rd A sz n xs) := by repeat (first | exact Has.head | apply Has.tail)) (hm : Has L (.rd B sz m news) := by repeat (first | exact Has.head | apply Has.tail)) (h0 : 0 < m := by omega) (h63 : n + m ≤ maxLen := by first | omega | (simp only [maxLen]; omega)) (hby : (n + m) * by' ≤ 140737488355328 := by omega)
    (h : ∀ w' A' c', St S w0 w' (.vec A' c' e sz (n + m) (xs ++ news) :: L) → WL P ops Q rest (fr (l.set d (.slice A' (n + m) c'))) w') : WL P ops Q (⟨some d, .call { callee := .builtin .append, args := #[x, y], argTypes := #[T, T] }, ty, pos, aft, none⟩ :: rest) (fr l) w := by
  have hra : Rd w A sz n xs := hS.has hm1
  have hr : Rd w B sz m news := hS.has hm
  obtain ⟨g, c', w', hrun, hown', hE, hg⟩ := run_append_copy (t := T) (ty := ty) hT hi hzs hra (c2 := c2) hr h0 h63 hby
  refine s_val (v := .slice (some ⟨g, 0, none⟩) (n + m) c') (w' := w') (by simp [execOp, resolve, invoke, builtin, hx, hy, hrun]) (h w' _ c' ?_)
  exact hS.add hE hown' (by
    intro k hk
    rcases hk with hk | hk
    · simp [Res.own] at hk; omega
    · simp [Res.reads] at hk)

theorem m_make {T e : TypeId} {x y : Operand} {sz by' n : Nat} {z : Value} {kl kc : IntKind} (hT : P.underlying T = some (.slice e)) (hi : TI P e sz by' z) (hx : opv l x = .int kl (n : Int) := by rfl) (hy : opv l y = .int kc (n : Int) := by rfl) (h63 : n ≤ maxLen) (hby : by' * n ≤ 281474976710656 := by omega) (hS : St S w0 w L)
    (h : ∀ w' A', St S w0 w' (.vec A' n e sz n (madeCells z.cells (n * sz)).toList :: L) → WL P ops Q rest (fr (l.set d (.slice A' n n))) w') : WL P ops Q (⟨some d, .makeSlice T x y, ty, pos, aft, none⟩ :: rest) (fr l) w := by
  obtain ⟨i, hi, rfl, rfl, hz⟩ := hi
  have h1 : (n : Int) ≤ 9223372036854775807 := by simp only [maxLen] at h63; omega
  have hb : (i.bytes : Int) * (n : Int) ≤ 281474976710656 := by
    have hh : ((i.bytes * n : Nat) : Int) ≤ 281474976710656 := by omega
    rwa [Int.natCast_mul] at hh
  have hr := run_make (P := P) w T e i z hT hi hz kl kc n n (by omega) (Int.le_refl _) hb h1
  simp only [Int.toNat_natCast] at hr
  refine s_val (v := .slice (some ⟨w.heap.size, 0, none⟩) n n) (w' := w.alloc (.cells (madeCells z.cells (n * i.size)) e)) (by simp [execOp, hx, hy, hr]) (h _ _ ?_)
  exact (hS.alloc _).obj_vec (size_madeCells _ _) h63 .head

/-! '==' at structs and arrays of integers -/
theorem run_eql_agg {T : TypeId} {D : Nat} {ks : List IntKind} {X Y : Array Value} {xs ys : List Int} (he : EqV P D T ks) (hD : D ≤ 10000) (hX : X = (zi ks xs).toArray) (hY : Y = (zi ks ys).toArray) (h1 : xs.length = ks.length) (h2 : ys.length = ks.length) (w : World) : (Op.equal T (.agg X) (.agg Y)).run P w = .ok (decide (xs = ys)) w := by
  subst hX hY
  exact he 10000 hD w _ _ xs ys h1 h2 (CAt.of_list _) (CAt.of_list _)
theorem s_eql_agg {T yT : TypeId} {x y : Operand} {D : Nat} {ks : List IntKind} {X Y : Array Value} {xs ys : List Int} (he : EqV P D T ks) (hD : D ≤ 10000 := by decide) (hg : P.eqGuardType P.depth T = false) (hx : opv l x = .agg X := by rfl) (hy : opv l y = .agg Y := by rfl) (hX : X = (zi ks xs).toArray) (hY : Y = (zi ks ys).toArray) (h1 : xs.length = ks.length) (h2 : ys.length = ks.length) : Go1 P l w ⟨some d, .binOp .eql T x y yT, ty, pos, aft, none⟩ (.bool (decide (xs = ys))) := by
  have hr := run_eql_agg he hD hX hY h1 h2 w
  have hgu := run_eqGuard_agg (P := P) w .eql T x y X Y hg
  unfold Go1
  simp [execOp, hx, hy, hgu, binOp, hr]
theorem s_neq_agg {T yT : TypeId} {x y : Operand} {D : Nat} {ks : List IntKind} {X Y : Array Value} {xs ys : List Int} (he : EqV P D T ks) (hD : D ≤ 10000 := by decide) (hg : P.eqGuardType P.depth T = false) (hx : opv l x = .agg X := by rfl) (hy : opv l y = .agg Y := by rfl) (hX : X = (zi ks xs).toArray) (hY : Y = (zi ks ys).toArray) (h1 : xs.length = ks.length) (h2 : ys.length = ks.length) : Go1 P l w ⟨some d, .binOp .neq T x y yT, ty, pos, aft, none⟩ (.bool (!decide (xs = ys))) := by
  have hr := run_eql_agg he hD hX hY h1 h2 w
  have hgu := run_eqGuard_agg (P := P) w .neq T x y X Y hg
  unfold Go1
  simp [execOp, hx, hy, hgu, binOp, hr]
theorem zi_ic {k : IntKind} {n : Nat} {l : List Int} (h : l.length = n) : ic k l = (zi (List.replicate n k) l).toArray := by subst h; rw [zi_rep]; rfl

/-! texts and bytes -/
def strOf (ns : List Int) : ByteArray := ⟨(ns.map fun n => UInt8.ofNat n.toNat).toArray⟩
theorem strOf_eq (ns : List Int) : ns.foldl (fun r n => r.push (UInt8.ofNat n.toNat)) ByteArray.empty = strOf ns := by
  have key : ∀ (ns : List Int) (s : ByteArray), ns.foldl (fun r n => r.push (UInt8.ofNat n.toNat)) s = ⟨s.data ++ (ns.map fun n => UInt8.ofNat n.toNat).toArray⟩ := by
    intro ns
    induction ns with
    | nil => intro s; simp
    | cons n ns ih =>
      intro s
      rw [List.foldl_cons, ih]
      congr 1
      simp [ByteArray.push]
  rw [key]
  simp [strOf, ByteArray.empty, ByteArray.emptyWithCapacity]; rfl
theorem m_bytes_str {U D e : TypeId} {x : Operand} {A : Option Addr} {n c : Nat} {ns : List Int} (hU : P.underlying U = some (.slice e)) (hD : P.underlying D = some .string) (he : P.underlying e = some (.int .u8)) (hx : opv l x = .slice A n c := by rfl) (hS : St S w0 w L) (hm : Has L (.rd A 1 n (ns.map (Value.int .u8))) := by repeat (first | exact Has.head | apply Has.tail)) : Go1 P l w ⟨some d, .convert U D x, ty, pos, aft, none⟩ (.string (strOf ns)) := by
  obtain ⟨hl, h2⟩ := hS.has hm
  have hln : ns.length = n := by simpa using hl
  unfold Go1
  have hr : (Conv.bytesToString (.slice A n c)).run P w = .ok (.string (strOf ns)) w := by
    cases A with
    | none =>
      have : n = 0 := by
        rcases Nat.eq_zero_or_pos n with h0 | h0
        · exact h0
        · obtain ⟨g, o, e, _⟩ := h2 h0; cases e
      subst this
      have : ns = [] := List.eq_nil_of_length_eq_zero hln
      subst this
      simp [Conv.bytesToString, strOf, ByteArray.empty, ByteArray.emptyWithCapacity]; rfl
    | some a =>
      rw [← strOf_eq]
      refine run_bytesToString w a n c ns ?_
      rcases Nat.eq_zero_or_pos n with h0 | h0
      · subst h0
        have : ns = [] := List.eq_nil_of_length_eq_zero hln
        subst this
        simp [loadCells, loadCellsFrom]
      · obtain ⟨g, o, e, _, hc⟩ := h2 h0
        injection e with e
        subst e
        have := run_loadCells_list (P := P) w ⟨g, o, none⟩ (ns.map (Value.int .u8)) (fun j v hv => by rw [add_at]; exact hc j v hv)
        simpa [hln] using this
  simp only [execOp, hx, run_convert_bytes_string (P := P) w U D e A n c hU he hD, Sem.run_bind, hr, Result.andThen_ok, Sem.run_pure]
end
end Go.Proofs.Ytpjpaipkkcengaa
