/-
  The plain words of atoms: rows of twenty-one numbers (a key's twelve, a value's number and eight bytes). No program here.
-/
import Derived.Test.YtpjpaipkkcengaaPkey
import Derived.Test.YtpjpaipkkcengaaPpack
namespace Go.Proofs.Ytpjpaipkkcengaa
abbrev valKs : List IntKind := [.u64, .u8, .u8, .u8, .u8, .u8, .u8, .u8, .u8]
abbrev VA (v : List Int) : Array Value := (zi valKs v).toArray
abbrev atomKs : List IntKind := [.u8, .u16, .u8, .u8, .u8, .u8, .u8, .u8, .u8, .u8, .u8, .u32, .u64, .u8, .u8, .u8, .u8, .u8, .u8, .u8, .u8]
abbrev AA (a : List Int) : Array Value := (zi atomKs a).toArray
def akey (a : List Int) : List Int := a.take 12
def aval (a : List Int) : List Int := a.drop 12
def vtext (v : List Int) : List Int := v.drop 1
structure ValOk (v : List Int) : Prop where
  len : v.length = 9
  e0 : v.getD 0 0 = (kn v 0 : Int)
  b0 : kn v 0 < 18446744073709551616
  text : Byt (vtext v)
structure AtomOk (a : List Int) : Prop where
  len : a.length = 21
  key : KeyOk (akey a)
  val : ValOk (aval a)
theorem vtext_len {v : List Int} (h : v.length = 9) : (vtext v).length = 8 := by simp [vtext, h]
theorem twentyone {a : List Int} (h : a.length = 21) : ∃ k v : List Int, k.length = 12 ∧ v.length = 9 ∧ a = k ++ v := ⟨a.take 12, a.drop 12, by simp [h], by simp [h], (List.take_append_drop 12 a).symm⟩
theorem atom_key {a : List Int} (h : a.length = 21) : (((AA a).toList.drop 0).take 12).toArray = KA (akey a) := by
  have := zi_part (k1 := []) (k2 := keyKs) (k3 := valKs) (a := []) (b := a.take 12) (c := a.drop 12) rfl (by simp [h])
  simpa [akey] using this
theorem atom_val {a : List Int} (h : a.length = 21) : (((AA a).toList.drop 12).take 9).toArray = VA (aval a) := by
  have := zi_part (k1 := keyKs) (k2 := valKs) (k3 := []) (a := a.take 12) (b := a.drop 12) (c := []) (by simp [h]) (by simp [h])
  simpa [aval] using this
theorem val_text {v : List Int} (h : v.length = 9) : (((VA v).toList.drop 1).take 8).toArray = ic .u8 (vtext v) := by
  match v, h with
  | [_, _, _, _, _, _, _, _, _], _ => rfl
theorem aval_0 {a : List Int} (h : a.length = 21) : a.getD 12 0 = (aval a).getD 0 0 := by
  simp [aval, List.getD_eq_getElem?_getD]
theorem atom_text {a : List Int} (h : a.length = 21) : (((AA a).toList.drop 13).take 8).toArray = ic .u8 (vtext (aval a)) := by
  have h1 := val_text (v := aval a) (by simp [aval, h])
  have h2 := atom_val h
  rw [← h1]
  have e : ∀ (L : List Value), L.length = 21 → (L.drop 13).take 8 = ((((L.drop 12).take 9)).drop 1).take 8 := fun L hL => by
    rw [List.drop_take, List.drop_drop, List.take_take]; simp
  have hL : (AA a).toList.length = 21 := by simp [zi, h]
  rw [e _ hL]
  have h3 : ((AA a).toList.drop 12).take 9 = (VA (aval a)).toList := by
    have := congrArg Array.toList h2; simpa using this
  rw [h3]
/-- what a key is written as -/
def nmOut (l : List Int) : List Int := (nsz l : Int) :: nmTxt l
theorem nmOut_len (l : List Int) : (nmOut l).length = nsz l + 1 := by simp [nmOut, nmTxt_len]
def keyOut (x : List Int) : List Int :=
  [(kn x 0 : Int)] ++ vari (kn x 1) ++ (if kn x 0 = 4 then [] else nmOut (kitem x) ++ [(kn x 10 : Int)] ++ (if kn x 0 = 1 then vari (kn x 11) else []))
theorem keyOut_len {x : List Int} (h : KeyOk x) : (keyOut x).length ≤ 40 := by
  have h1 := vari_len10 (x := kn x 1) (by have := h.b1; omega)
  have h2 := vari_len10 (x := kn x 11) (by have := h.b11; omega)
  have h3 := nmOut_len (kitem x)
  have h4 := nsz_le (kitem x)
  have h5 := kitem_len h.len
  unfold keyOut
  split
  · simp; omega
  · split <;> simp <;> omega
def stampE (n : Nat) : Int := if 16 ≤ n % 256 ∨ 1099511627775 < n then 2 else if n / 256 % 4294967296 = 0 then 3 else 0
theorem stampE_0 {n : Nat} : stampE n = 0 ↔ n % 256 < 16 ∧ 1 ≤ n / 256 ∧ n / 256 ≤ 4294967295 := by
  unfold stampE
  split
  · simp; omega
  · split
    · simp; omega
    · simp; omega
def bareV (v : List Int) : Bool := decide (vtext v = nm0)
def valR (s : Nat) (v : List Int) : Bool :=
  if s = 1 then bareV v && decide (kn v 0 = 1 ∨ kn v 0 = 2) else
  if s = 2 ∨ s = 3 then bareV v && decide (1 ≤ kn v 0 ∧ kn v 0 ≤ 4294967295) else
  if s = 4 then decide (stampE (kn v 0) = 0) && (bareV v || nright (vtext v)) else false
def atomR (a : List Int) : Bool := keyR (akey a) && valR (kn a 0) (aval a)
def overV (x y : List Int) : Bool := decide (kn y 0 < kn x 0) || (decide (kn x 0 = kn y 0) && !decide (numN (vtext x) < numN (vtext y)))
def moreV (x y : List Int) : List Int := if overV x y then x else y
def valOut (s : Nat) (v : List Int) : List Int :=
  if s = 1 then [((kn v 0 % 256 : Nat) : Int)] else if s = 4 then vari (kn v 0) ++ nmOut (vtext v) else vari (kn v 0)
def atomOut (a : List Int) : List Int := if atomR a then keyOut (akey a) ++ valOut (kn a 0) (aval a) else []
end Go.Proofs.Ytpjpaipkkcengaa
