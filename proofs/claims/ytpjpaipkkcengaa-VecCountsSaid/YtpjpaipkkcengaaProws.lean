/-
  Rows of things, each of so many cells; such rows as arguments. Pieces of the wire's law. No program here.
-/
import Derived.Test.YtpjpaipkkcengaaPopen2
namespace Go.Proofs.Ytpjpaipkkcengaa
/-- the cells of a row of things -/
def rowsOf {α : Type} (cells : α → List Value) (l : List α) : List Value := (l.map cells).flatten
section
variable {α : Type} {cells : α → List Value} {sz : Nat}
theorem rowsOf_nil : rowsOf cells [] = [] := rfl
theorem rowsOf_cons (a : α) (l : List α) : rowsOf cells (a :: l) = cells a ++ rowsOf cells l := rfl
theorem rowsOf_app (l m : List α) : rowsOf cells (l ++ m) = rowsOf cells l ++ rowsOf cells m := by simp [rowsOf]
theorem rows_len (h : ∀ a, (cells a).length = sz) : ∀ l : List α, (rowsOf cells l).length = l.length * sz
  | [] => by simp [rowsOf]
  | a :: l => by rw [rowsOf_cons, List.length_append, rows_len h l, h a, List.length_cons, Nat.succ_mul, Nat.add_comm]
theorem rows_drop (h : ∀ a, (cells a).length = sz) (l : List α) (k : Nat) : (rowsOf cells l).drop (k * sz) = rowsOf cells (l.drop k) := by
  rcases Nat.lt_or_ge l.length k with hk | hk
  · have h1 : l.length * sz ≤ k * sz := Nat.mul_le_mul_right _ (by omega)
    rw [List.drop_eq_nil_of_le (by rw [rows_len h]; exact h1), List.drop_eq_nil_of_le (by omega)]; rfl
  · conv => lhs; rw [← List.take_append_drop k l, rowsOf_app]
    exact List.drop_left' (by rw [rows_len h, List.length_take, Nat.min_eq_left hk])
theorem rows_take (h : ∀ a, (cells a).length = sz) (l : List α) (k : Nat) : (rowsOf cells l).take (k * sz) = rowsOf cells (l.take k) := by
  rcases Nat.lt_or_ge l.length k with hk | hk
  · have h1 : l.length * sz ≤ k * sz := Nat.mul_le_mul_right _ (by omega)
    rw [List.take_of_length_le (by rw [rows_len h]; exact h1), List.take_of_length_le (by omega)]
  · conv => lhs; rw [← List.take_append_drop k l, rowsOf_app]
    exact List.take_left' (by rw [rows_len h, List.length_take, Nat.min_eq_left hk])
theorem rows_get (h : ∀ a, (cells a).length = sz) (d : α) {l : List α} {k : Nat} (hk : k < l.length) : ((rowsOf cells l).drop (k * sz)).take sz = cells (l.getD k d) := by
  rw [rows_drop h, List.drop_eq_getElem_cons hk, rowsOf_cons, List.take_left' (h _)]
  simp [List.getD_eq_getElem?_getD, List.getElem?_eq_getElem hk]
theorem rows_at (h : ∀ a, (cells a).length = sz) (d : α) {l : List α} {k j : Nat} (hk : k < l.length) (hj : j < sz) : (rowsOf cells l)[k * sz + j]? = (cells (l.getD k d))[j]? := by
  rw [← rows_get h d hk, List.getElem?_take_of_lt hj, List.getElem?_drop]
theorem rows_open {w : World} {ks : List LK} {ok : α → Prop} (hsz : ∀ cs, AllOk w ks cs → ∃ a, cs = cells a ∧ ok a) : ∀ (n : Nat) (xs : List Value), xs.length = n * sz → (∀ i, i < n → AllOk w ks ((xs.drop (i * sz)).take sz)) → ∃ l : List α, l.length = n ∧ xs = rowsOf cells l ∧ ∀ a ∈ l, ok a
  | 0, xs, hl, _ => ⟨[], rfl, List.eq_nil_of_length_eq_zero (by simpa using hl), by simp⟩
  | n + 1, xs, hl, h => by
    obtain ⟨a, ha, hok⟩ := hsz _ (by simpa using h 0 (by omega))
    obtain ⟨l, hll, hx, hl2⟩ := rows_open hsz n (xs.drop sz) (by simp [hl, Nat.succ_mul]) fun i hi => by
      have := h (i + 1) (by omega)
      rwa [List.drop_drop, Nat.add_comm sz, ← Nat.succ_mul]
    refine ⟨a :: l, by simp [hll], ?_, by intro b hb; rcases List.mem_cons.1 hb with rfl | hb; exact hok; exact hl2 b hb⟩
    rw [rowsOf_cons, ← ha, ← hx, List.take_append_drop]
end
theorem AllOk.inv {w : World} {k : LK} {ks : List LK} {cs : List Value} (h : AllOk w (k :: ks) cs) : ∃ v vs, cs = v :: vs ∧ k w v ∧ AllOk w ks vs := by
  rcases cs with _ | ⟨v, vs⟩
  · exact h.elim
  · exact ⟨v, vs, rfl, h.1, h.2⟩
theorem AllOk.nil_inv {w : World} {cs : List Value} (h : AllOk w [] cs) : cs = [] := by
  rcases cs with _ | ⟨v, vs⟩
  · rfl
  · exact h.elim
theorem sl_ints {w : World} {k : IntKind} {v : Value} (h : LK.sl 1 [LK.int k] w v) : ∃ (A : Option Addr) (n c : Nat) (l : List Int), v = .slice A n c ∧ n ≤ c ∧ c ≤ maxLen ∧ Rd w A 1 n (l.map (Value.int k)) ∧ l.length = n ∧ ∀ x ∈ l, (Lit.int k x).wf = true := by
  obtain ⟨A, n, c, xs, rfl, h1, h2, h3, h4⟩ := h
  have hl : xs.length = n := by simpa using h3.1
  obtain ⟨l, rfl, hll, hw⟩ := allOk_int1 (w := w) (vs := xs) (fun i hi => h4 i (by omega))
  exact ⟨A, n, c, l, rfl, h1, h2, h3, by omega, hw⟩
/-! the wire's pieces -/
structure Pc where
  d : Int
  x : Nat
  c : Int
  nm : List Int
  A : Option Addr
  cap : Nat
  b : List Int
  n : Int
def pc0 : Pc := ⟨0, 0, 0, nm0, none, 0, [], 0⟩
def pcL (p : Pc) : List Value := [.int .i64 p.d, .int .u64 (p.x : Int), .int .u8 p.c, .int .u8 (p.nm.getD 0 0), .int .u8 (p.nm.getD 1 0), .int .u8 (p.nm.getD 2 0), .int .u8 (p.nm.getD 3 0), .int .u8 (p.nm.getD 4 0), .int .u8 (p.nm.getD 5 0), .int .u8 (p.nm.getD 6 0), .int .u8 (p.nm.getD 7 0), .slice p.A p.b.length p.cap, .int .i64 p.n]
theorem pcL_len (p : Pc) : (pcL p).length = 13 := rfl
theorem ic8 {l : List Int} (h : l.length = 8) : (#[.int .u8 (l.getD 0 0), .int .u8 (l.getD 1 0), .int .u8 (l.getD 2 0), .int .u8 (l.getD 3 0), .int .u8 (l.getD 4 0), .int .u8 (l.getD 5 0), .int .u8 (l.getD 6 0), .int .u8 (l.getD 7 0)] : Array Value) = ic .u8 l := by
  match l, h with
  | [_, _, _, _, _, _, _, _], _ => rfl
structure PcOk (w : World) (p : Pc) : Prop where
  d : -9223372036854775808 ≤ p.d ∧ p.d ≤ 9223372036854775807
  x : p.x < 18446744073709551616
  c : 0 ≤ p.c ∧ p.c ≤ 255
  nl : p.nm.length = 8
  nb : Byt p.nm
  rd : Rd w p.A 1 p.b.length (p.b.map (Value.int .u8))
  bb : Byt p.b
  bc : p.b.length ≤ p.cap
  bm : p.cap ≤ maxLen
  n : -9223372036854775808 ≤ p.n ∧ p.n ≤ 9223372036854775807
def pcKs : List LK := [LK.int .i64, LK.int .u64, LK.int .u8, LK.int .u8, LK.int .u8, LK.int .u8, LK.int .u8, LK.int .u8, LK.int .u8, LK.int .u8, LK.int .u8, LK.sl 1 [LK.int .u8], LK.int .i64]
theorem pc_open {w : World} {cs : List Value} (h : AllOk w pcKs cs) : ∃ p, cs = pcL p ∧ PcOk w p := by
  obtain ⟨_, _, rfl, ⟨d, rfl, hd⟩, h_1⟩ := h.inv
  obtain ⟨_, _, rfl, ⟨x, rfl, hx⟩, h_2⟩ := h_1.inv
  obtain ⟨_, _, rfl, ⟨c, rfl, hc⟩, h_3⟩ := h_2.inv
  obtain ⟨_, _, rfl, ⟨a0, rfl, h0⟩, h_4⟩ := h_3.inv
  obtain ⟨_, _, rfl, ⟨a1, rfl, h1⟩, h_5⟩ := h_4.inv
  obtain ⟨_, _, rfl, ⟨a2, rfl, h2⟩, h_6⟩ := h_5.inv
  obtain ⟨_, _, rfl, ⟨a3, rfl, h3⟩, h_7⟩ := h_6.inv
  obtain ⟨_, _, rfl, ⟨a4, rfl, h4⟩, h_8⟩ := h_7.inv
  obtain ⟨_, _, rfl, ⟨a5, rfl, h5⟩, h_9⟩ := h_8.inv
  obtain ⟨_, _, rfl, ⟨a6, rfl, h6⟩, h_10⟩ := h_9.inv
  obtain ⟨_, _, rfl, ⟨a7, rfl, h7⟩, h_11⟩ := h_10.inv
  obtain ⟨_, _, rfl, hs, h_12⟩ := h_11.inv
  obtain ⟨_, _, rfl, ⟨n, rfl, hn⟩, h_13⟩ := h_12.inv
  obtain rfl := h_13.nil_inv
  obtain ⟨A, m, cap, l, rfl, hmc, hcm, hr, rfl, hw⟩ := sl_ints hs
  have hx' := wf_u64 hx
  refine ⟨⟨d, x.toNat, c, [a0, a1, a2, a3, a4, a5, a6, a7], A, cap, l, n⟩, ?_, ⟨bounds_i64 hd, hx'.2, bounds_u8 hc, rfl, ?_, hr, byt_of_wf hw, hmc, hcm, bounds_i64 hn⟩⟩
  · simp only [pcL]; rw [← hx'.1]; rfl
  · intro y hy
    simp only [List.mem_cons, List.not_mem_nil, or_false] at hy
    rcases hy with rfl | rfl | rfl | rfl | rfl | rfl | rfl | rfl <;> exact bounds_u8 (by assumption)
end Go.Proofs.Ytpjpaipkkcengaa
