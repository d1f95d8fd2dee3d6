/-
  The plain words of keys: rows of twelve numbers (sort, cart, the item's eight bytes, replica, sequence number). No program here.
-/
import Derived.Test.YtpjpaipkkcengaaPname
namespace Go.Proofs.Ytpjpaipkkcengaa
abbrev keyKs : List IntKind := [.u8, .u16, .u8, .u8, .u8, .u8, .u8, .u8, .u8, .u8, .u8, .u32]
abbrev KA (x : List Int) : Array Value := (zi keyKs x).toArray
def kn (x : List Int) (i : Nat) : Nat := (x.getD i 0).toNat
def kitem (x : List Int) : List Int := (x.drop 2).take 8
structure KeyOk (x : List Int) : Prop where
  len : x.length = 12
  e0 : x.getD 0 0 = (kn x 0 : Int)
  b0 : kn x 0 < 256
  e1 : x.getD 1 0 = (kn x 1 : Int)
  b1 : kn x 1 < 65536
  item : Byt (kitem x)
  e10 : x.getD 10 0 = (kn x 10 : Int)
  b10 : kn x 10 < 256
  e11 : x.getD 11 0 = (kn x 11 : Int)
  b11 : kn x 11 < 4294967296
theorem kitem_len {x : List Int} (h : x.length = 12) : (kitem x).length = 8 := by simp [kitem, h]
theorem key_cut {x : List Int} (h : x.length = 12) : x = [x.getD 0 0, x.getD 1 0] ++ kitem x ++ [x.getD 10 0, x.getD 11 0] := by
  obtain ⟨a, b, c, d, e, f, g, i, j, k, l, m, rfl⟩ : ∃ a b c d e f g i j k l m, x = [a, b, c, d, e, f, g, i, j, k, l, m] := by
    match x, h with
    | [a, b, c, d, e, f, g, i, j, k, l, m], _ => exact ⟨a, b, c, d, e, f, g, i, j, k, l, m, rfl⟩
  rfl
theorem key_item {x : List Int} (h : x.length = 12) : (((KA x).toList.drop 2).take 8).toArray = ic .u8 (kitem x) := by
  obtain ⟨a, b, c, d, e, f, g, i, j, k, l, m, rfl⟩ : ∃ a b c d e f g i j k l m, x = [a, b, c, d, e, f, g, i, j, k, l, m] := by
    match x, h with
    | [a, b, c, d, e, f, g, i, j, k, l, m], _ => exact ⟨a, b, c, d, e, f, g, i, j, k, l, m, rfl⟩
  rfl
theorem key_build {s c r q : Int} {l : List Int} (h : l.length = 8) : KA ([s, c] ++ l ++ [r, q]) = ([Value.int .u8 s, Value.int .u16 c] ++ l.map (Value.int .u8) ++ [Value.int .u8 r, Value.int .u32 q]).toArray := by
  match l, h with
  | [_, _, _, _, _, _, _, _], _ => rfl
theorem key_put {x l : List Int} (h : x.length = 12) (hl : l.length = 8) : splice (KA x).toList 2 (ic .u8 l).toList = zi keyKs ([x.getD 0 0, x.getD 1 0] ++ l ++ [x.getD 10 0, x.getD 11 0]) := by
  obtain ⟨a, b, c, d, e, f, g, i, j, k, m, n, rfl⟩ : ∃ a b c d e f g i j k l m, x = [a, b, c, d, e, f, g, i, j, k, l, m] := by
    match x, h with
    | [a, b, c, d, e, f, g, i, j, k, l, m], _ => exact ⟨a, b, c, d, e, f, g, i, j, k, l, m, rfl⟩
  match l, hl with
  | [_, _, _, _, _, _, _, _], _ => rfl
def mkKey (s c : Nat) (l : List Int) (r q : Nat) : List Int := [(s : Int), (c : Int)] ++ l ++ [(r : Int), (q : Int)]
theorem mkKey_len {s c r q : Nat} {l : List Int} (h : l.length = 8) : (mkKey s c l r q).length = 12 := by simp [mkKey, h]
theorem mkKey_ok {s c r q : Nat} {l : List Int} (h : l.length = 8) (hl : Byt l) (hs : s < 256) (hc : c < 65536) (hr : r < 256) (hq : q < 4294967296) : KeyOk (mkKey s c l r q) := by
  match l, h with
  | [_, _, _, _, _, _, _, _], _ => exact ⟨rfl, rfl, hs, rfl, hc, hl, rfl, hr, rfl, hq⟩
section
variable {s c r q : Nat} {l : List Int}
theorem mk_0 : kn (mkKey s c l r q) 0 = s := rfl
theorem mk_1 : kn (mkKey s c l r q) 1 = c := rfl
theorem mk_item (h : l.length = 8) : kitem (mkKey s c l r q) = l := by
  match l, h with
  | [_, _, _, _, _, _, _, _], _ => rfl
theorem mk_10 (h : l.length = 8) : kn (mkKey s c l r q) 10 = r := by
  match l, h with
  | [_, _, _, _, _, _, _, _], _ => rfl
theorem mk_11 (h : l.length = 8) : kn (mkKey s c l r q) 11 = q := by
  match l, h with
  | [_, _, _, _, _, _, _, _], _ => rfl
end
theorem key_mk {x : List Int} (h : KeyOk x) : x = mkKey (kn x 0) (kn x 1) (kitem x) (kn x 10) (kn x 11) := by
  have := key_cut h.len
  rw [h.e0, h.e1, h.e10, h.e11] at this
  exact this
def dotN (x : List Int) : Nat := 4294967296 * kn x 10 + kn x 11
def headN (x : List Int) : Nat := 65536 * kn x 0 + kn x 1
theorem dotN_lt {x : List Int} (h : KeyOk x) : dotN x < 1099511627776 := by have := h.b10; have := h.b11; unfold dotN; omega
theorem headN_lt {x : List Int} (h : KeyOk x) : headN x < 16777216 := by have := h.b0; have := h.b1; unfold headN; omega
def wordsL (x : List Int) : List Int := [(headN x : Int), (numN (kitem x) : Int), (dotN x : Int)]
def bareK (x : List Int) : List Int := mkKey (kn x 0) (kn x 1) nm0 0 0
def keyR (x : List Int) : Bool :=
  if kn x 0 = 4 then decide (x = bareK x) else
  if kn x 0 = 1 then decide (kn x 11 ≠ 0) && nright (kitem x) && decide (kn x 10 < 16) else
  if kn x 0 = 2 ∨ kn x 0 = 3 then decide (kn x 11 = 0) && nright (kitem x) && decide (kn x 10 < 16) else false
def lexLt : List Int → List Int → Bool
  | a :: x, b :: y => if a = b then lexLt x y else decide (a < b)
  | _, _ => false
theorem lexLt_at : ∀ {a b : List Int} {k : Nat}, k < a.length → k < b.length → (∀ j, j < k → a.getD j 0 = b.getD j 0) → a.getD k 0 ≠ b.getD k 0 → lexLt a b = decide (a.getD k 0 < b.getD k 0)
  | [], _, k, h, _, _, _ => by simp at h
  | _ :: _, [], k, _, h, _, _ => by simp at h
  | a :: x, b :: y, 0, _, _, _, hne => by simp at hne; simp [lexLt, hne]
  | a :: x, b :: y, k + 1, h1, h2, he, hne => by
    have e0 : a = b := by simpa using he 0 (by omega)
    rw [lexLt, if_pos e0]
    have := lexLt_at (a := x) (b := y) (k := k) (by simpa using h1) (by simpa using h2) (fun j hj => by simpa using he (j + 1) (by omega)) (by simpa using hne)
    simpa using this
theorem lexLt_same : ∀ (a : List Int), lexLt a a = false
  | [] => rfl
  | _ :: a => by rw [lexLt, if_pos rfl, lexLt_same a]
theorem w3_ext {a b : List Int} (ha : a.length = 3) (hb : b.length = 3) (h : ∀ j, j < 3 → a.getD j 0 = b.getD j 0) : a = b := by
  match a, b, ha, hb with
  | [_, _, _], [_, _, _], _, _ =>
    have h0 := h 0 (by omega); have h1 := h 1 (by omega); have h2 := h 2 (by omega)
    simp at h0 h1 h2; rw [h0, h1, h2]
theorem lexLt_eq {a b : List Int} (h : a.length = b.length) (he : ∀ j, j < a.length → a.getD j 0 = b.getD j 0) : lexLt a b = false := by
  have : a = b := by
    refine List.ext_getElem h fun i h1 h2 => ?_
    have := he i h1
    simpa [List.getD_eq_getElem?_getD, List.getElem?_eq_getElem h1, List.getElem?_eq_getElem h2] using this
  rw [this, lexLt_same]
def rawK (a b c : Nat) : List Int := mkKey (a / 65536 % 256) (a % 65536) (nmFrom b) (c / 4294967296 % 256) (c % 4294967296)
def key0 : List Int := mkKey 0 0 nm0 0 0
theorem rawK_ok (a b c : Nat) : KeyOk (rawK a b c) := mkKey_ok (nmFrom_len b) (nmFrom_byt b) (Nat.mod_lt _ (by decide)) (Nat.mod_lt _ (by decide)) (Nat.mod_lt _ (by decide)) (Nat.mod_lt _ (by decide))
def fromOk (a b c : Nat) : Bool := keyR (rawK a b c) && decide (wordsL (rawK a b c) = [(a : Int), (b : Int), (c : Int)])
def fromK (a b c : Nat) : List Int := if fromOk a b c then rawK a b c else key0
def fromKE (a b c : Nat) : Int := if fromOk a b c then 0 else 3
theorem fromK_len (a b c : Nat) : (fromK a b c).length = 12 := by
  unfold fromK; split
  · exact (rawK_ok a b c).len
  · rfl
theorem from_bad {a b c : Nat} (h : keyR (rawK a b c) = false ∨ ¬ wordsL (rawK a b c) = [(a : Int), (b : Int), (c : Int)]) : fromOk a b c = false := by
  rcases h with h | h <;> simp [fromOk, h]
theorem from_good {a b c : Nat} (h : keyR (rawK a b c) = true) (h2 : wordsL (rawK a b c) = [(a : Int), (b : Int), (c : Int)]) : fromOk a b c = true := by simp [fromOk, h, h2]
theorem nmFrom_bad {b : Nat} (h : ¬ nmFromE b = 0) : nmFrom b = nm0 := by
  unfold nmFromE at h; unfold nmFrom
  by_cases hr : nright (nmOf b) = true
  · rw [if_pos hr] at h; exact absurd rfl h
  · rw [if_neg hr]
theorem eight {l : List Int} (h : l.length = 8) : ∃ a b c d e f g i, l = [a, b, c, d, e, f, g, i] := by
  match l, h with
  | [a, b, c, d, e, f, g, i], _ => exact ⟨a, b, c, d, e, f, g, i, rfl⟩
def keyLt (x y : List Int) : Bool := lexLt (wordsL x) (wordsL y)
end Go.Proofs.Ytpjpaipkkcengaa
