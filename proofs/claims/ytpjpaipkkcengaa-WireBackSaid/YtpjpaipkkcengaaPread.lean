/-
  What a cursor reads of bytes: the value, the error then, and what comes yet. No program here.
-/
import Derived.Test.YtpjpaipkkcengaaPatom
namespace Go.Proofs.Ytpjpaipkkcengaa
def numS (m : Nat) (e : Int) (xs : List Int) : Nat × Int × List Int :=
  if e = 0 then (if (unvar xs).2.2 = 0 then (if (unvar xs).1 ≤ m then ((unvar xs).1, 0, xs.drop (unvar xs).2.1) else (0, 2, [])) else (0, ((unvar xs).2.2 : Int), [])) else (0, e, xs)
def oneS (e : Int) (xs : List Int) : Int × Int × List Int :=
  if e = 0 then (if 1 ≤ xs.length then (xs.getD 0 0, 0, xs.drop 1) else (0, 4, [])) else (0, e, xs)
def namS (e : Int) (xs : List Int) : List Int × Int × List Int :=
  if e = 0 then
    if 1 ≤ xs.length then
      if xs.getD 0 0 ≤ 8 then
        if 1 + (xs.getD 0 0).toNat ≤ xs.length then
          if xs.getD 0 0 = 0 ∨ isN ((xs.drop 1).take (xs.getD 0 0).toNat) = true then (padN ((xs.drop 1).take (xs.getD 0 0).toNat), 0, xs.drop (1 + (xs.getD 0 0).toNat)) else (nm0, 3, [])
        else (nm0, 4, [])
      else (nm0, 3, [])
    else (nm0, 4, [])
  else (nm0, e, xs)
def bytS (m : Nat) (e : Int) (xs : List Int) : List Int × Int × List Int :=
  if (numS m e xs).2.1 = 0 then (if (numS m e xs).1 ≤ (numS m e xs).2.2.length then ((numS m e xs).2.2.take (numS m e xs).1, 0, (numS m e xs).2.2.drop (numS m e xs).1) else ([], 4, [])) else ([], (numS m e xs).2.1, (numS m e xs).2.2)
theorem namS_len (e : Int) (xs : List Int) : (namS e xs).1.length = 8 := by
  unfold namS
  repeat' split
  all_goals first | exact padN_len _ | rfl
theorem namS_byt {e : Int} {xs : List Int} (h : Byt xs) : Byt (namS e xs).1 := by
  unfold namS
  repeat' split
  all_goals first | exact padN_byt ((h.drop _).take _) | exact nm0_byt
theorem numS_le (m : Nat) (e : Int) (xs : List Int) : (numS m e xs).1 ≤ m := by
  unfold numS
  repeat' split
  all_goals first | assumption | omega
theorem numS_byt {m : Nat} {e : Int} {xs : List Int} (h : Byt xs) : Byt (numS m e xs).2.2 := by
  unfold numS
  repeat' split
  all_goals first | exact h | exact h.drop _ | (intro y hy; simp at hy)
theorem oneS_byt {e : Int} {xs : List Int} (h : Byt xs) : Byt (oneS e xs).2.2 := by
  unfold oneS
  repeat' split
  all_goals first | exact h | exact h.drop _ | (intro y hy; simp at hy)
theorem namS_byt' {e : Int} {xs : List Int} (h : Byt xs) : Byt (namS e xs).2.2 := by
  unfold namS
  repeat' split
  all_goals first | exact h | exact h.drop _ | (intro y hy; simp at hy)
theorem bytS_byt {m : Nat} {e : Int} {xs : List Int} (h : Byt xs) : Byt (bytS m e xs).1 := by
  have := numS_byt (m := m) (e := e) h
  unfold bytS
  repeat' split
  all_goals first | exact this.take _ | (intro y hy; simp at hy)
theorem bytS_byt' {m : Nat} {e : Int} {xs : List Int} (h : Byt xs) : Byt (bytS m e xs).2.2 := by
  have := numS_byt (m := m) (e := e) h
  unfold bytS
  repeat' split
  all_goals first | exact this.drop _ | exact this | (intro y hy; simp at hy)
theorem oneS_val {e : Int} {xs : List Int} (h : Byt xs) : 0 ≤ (oneS e xs).1 ∧ (oneS e xs).1 ≤ 255 := by
  unfold oneS
  repeat' split
  all_goals first | exact h.get 0 | (constructor <;> simp)
theorem numS_len (m : Nat) (e : Int) (xs : List Int) : (numS m e xs).2.2.length ≤ xs.length := by
  unfold numS
  repeat' split
  all_goals simp
theorem oneS_len (e : Int) (xs : List Int) : (oneS e xs).2.2.length ≤ xs.length := by
  unfold oneS
  repeat' split
  all_goals simp
theorem namS_len' (e : Int) (xs : List Int) : (namS e xs).2.2.length ≤ xs.length := by
  unfold namS
  repeat' split
  all_goals simp
theorem bytS_len' (m : Nat) (e : Int) (xs : List Int) : (bytS m e xs).2.2.length ≤ xs.length := by
  have := numS_len m e xs
  unfold bytS
  repeat' split
  all_goals first | (simp; omega) | simp
theorem bytS_len (m : Nat) (e : Int) (xs : List Int) : (bytS m e xs).1.length ≤ xs.length := by
  have := numS_len m e xs
  unfold bytS
  repeat' split
  all_goals first | (simp; omega) | simp
/-! what was written is read as it was -/
theorem numS_back {x m : Nat} (hx : x < 18446744073709551616) (hm : x ≤ m) (l : List Int) : numS m 0 (vari x ++ l) = (x, 0, l) := by
  simp [numS, unvar_app hx, hm]
theorem oneS_back (b : Int) (l : List Int) : oneS 0 (b :: l) = (b, 0, l) := by simp [oneS]
theorem nm0_txt : nmTxt nm0 = [] := rfl
theorem padTxt {l : List Int} (h : l.length = 8) (hr : nright l = true) : isN (nmTxt l) = true ∧ padN (nmTxt l) = l := by
  rw [nright_eq h, Bool.and_eq_true, decide_eq_true_eq] at hr
  exact hr
theorem namS_back {n : List Int} (h : n.length = 8) (hr : n = nm0 ∨ nright n = true) (l : List Int) : namS 0 (nmOut n ++ l) = (n, 0, l) := by
  have h8 := nsz_le n
  have hl := nmTxt_len n
  have h2 : ((nsz n : Int) :: nmTxt n ++ l).getD 0 0 = (nsz n : Int) := rfl
  have h3 : ((nsz n : Int)).toNat = nsz n := Int.toNat_natCast _
  have h4 : (((nsz n : Int) :: nmTxt n ++ l).drop 1).take (nsz n) = nmTxt n := by
    rw [List.cons_append, List.drop_succ_cons, List.drop_zero]; exact List.take_left' hl
  have h5 : ((nsz n : Int) :: nmTxt n ++ l).drop (1 + nsz n) = l := by
    rw [List.cons_append, Nat.add_comm, List.drop_succ_cons]; exact List.drop_left' hl
  have hlen : ((nsz n : Int) :: nmTxt n ++ l).length = nsz n + 1 + l.length := by simp [hl]; omega
  unfold namS nmOut
  rw [if_pos rfl, if_pos (by rw [hlen]; omega), h2, if_pos (by omega), h3, if_pos (by rw [hlen]; omega), h4, h5]
  rcases hr with rfl | hr
  · rw [if_pos (.inl (by decide))]; rfl
  · obtain ⟨h6, h7⟩ := padTxt h hr
    rw [if_pos (.inr h6), h7]
theorem bytS_back {ys : List Int} {m : Nat} (hx : ys.length < 18446744073709551616) (hm : ys.length ≤ m) (l : List Int) : bytS m 0 (vari ys.length ++ (ys ++ l)) = (ys, 0, l) := by
  simp [bytS, numS_back hx hm]
/-! pieces -/
def rdS (d : Int) (x : Nat) (n : Int) (e : Int) (xs : List Int) : (Nat × Int × List Int × List Int) × Int × List Int :=
  if d = 0 then (((numS x e xs).1, 0, nm0, []), (numS x e xs).2) else
  if d = 1 then ((0, (oneS e xs).1, nm0, []), (oneS e xs).2) else
  if d = 2 then ((0, 0, (namS e xs).1, []), (namS e xs).2) else
  ((0, 0, nm0, (bytS n.toNat e xs).1), (bytS n.toNat e xs).2)
end Go.Proofs.Ytpjpaipkkcengaa
