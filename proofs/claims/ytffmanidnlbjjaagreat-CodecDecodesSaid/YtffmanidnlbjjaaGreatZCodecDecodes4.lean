/- Rules, plain words and walks that the claim leans on: Pread3, Ck, Cl, Cy, Dm, Dn, Dq. -/
import Derived.Test.YtffmanidnlbjjaaGreatZCodecDecodes3
set_option linter.unusedSimpArgs false
set_option linter.unusedVariables false
namespace Go.Proofs.YtffmanidnlbjjaaGreat
/-- what was read may be wrong -/
def askS (bad : Bool) (w : Int) (s : Int × List Int) : Int × List Int := if s.1 = 0 ∧ bad = true then (w, []) else s
theorem askS_err {b : Bool} {w : Int} {s : Int × List Int} (h : ¬ s.1 = 0) : askS b w s = s := if_neg fun h1 => h h1.1
theorem askS_bad {b : Bool} {w : Int} {s : Int × List Int} (h : s.1 = 0) (hb : b = true) : askS b w s = (w, []) := if_pos ⟨h, hb⟩
theorem askS_good {b : Bool} {w : Int} {s : Int × List Int} (hb : b = false) : askS b w s = s := if_neg fun h1 => by rw [hb] at h1; exact absurd h1.2 (by decide)
theorem askS_zero {b : Bool} {w : Int} {s : Int × List Int} (hw : ¬ w = 0) (h : (askS b w s).1 = 0) : s.1 = 0 ∧ b = false ∧ askS b w s = s := by
  unfold askS at h ⊢
  split at h
  · exact absurd h hw
  · next h1 =>
    refine ⟨h, ?_, if_neg h1⟩
    cases b
    · rfl
    · exact absurd ⟨h, rfl⟩ h1
theorem askS_ok {b : Bool} {w : Int} {s : Int × List Int} (h : ErrOk s.1 s.2) : ErrOk (askS b w s).1 (askS b w s).2 := by
  unfold askS
  split
  · exact fun _ => rfl
  · exact h
theorem askS_byt {b : Bool} {w : Int} {s : Int × List Int} (h : Byt s.2) : Byt (askS b w s).2 := by
  unfold askS
  split
  · intro y hy; cases hy
  · exact h
theorem askS_len (b : Bool) (w : Int) (s : Int × List Int) : (askS b w s).2.length ≤ s.2.length := by
  unfold askS
  split
  · simp
  · exact Nat.le_refl _
section
variable (e : Int) (xs : List Int)
abbrev kA : Int := (oneS e xs).1
def kS1 : Int × List Int := askS (!decide (1 ≤ kA e xs ∧ kA e xs ≤ 4)) 3 (oneS e xs).2
abbrev kC : Nat := (numS 65535 (kS1 e xs).1 (kS1 e xs).2).1
def kS2 : Int × List Int := (numS 65535 (kS1 e xs).1 (kS1 e xs).2).2
abbrev kN : List Int := (namS (kS2 e xs).1 (kS2 e xs).2).1
def kS3 : Int × List Int := askS (decide (kN e xs = nm0)) 3 (namS (kS2 e xs).1 (kS2 e xs).2).2
abbrev kR : Int := (oneS (kS3 e xs).1 (kS3 e xs).2).1
def kS4 : Int × List Int := askS (!decide (kR e xs < 16)) 2 (oneS (kS3 e xs).1 (kS3 e xs).2).2
abbrev kQ : Nat := (numS 4294967295 (kS4 e xs).1 (kS4 e xs).2).1
def kS5 : Int × List Int := askS (decide (kQ e xs = 0)) 3 (numS 4294967295 (kS4 e xs).1 (kS4 e xs).2).2
end
section
variable {e : Int} {xs : List Int}
theorem kS1_zero (h : (kS1 e xs).1 = 0) : (oneS e xs).2.1 = 0 ∧ (1 ≤ kA e xs ∧ kA e xs ≤ 4) ∧ kS1 e xs = (oneS e xs).2 := by
  obtain ⟨h1, h2, h3⟩ := askS_zero (by decide) h
  exact ⟨h1, by simpa using h2, h3⟩
theorem kS3_zero (h : (kS3 e xs).1 = 0) : (namS (kS2 e xs).1 (kS2 e xs).2).2.1 = 0 ∧ ¬ kN e xs = nm0 ∧ kS3 e xs = (namS (kS2 e xs).1 (kS2 e xs).2).2 := by
  obtain ⟨h1, h2, h3⟩ := askS_zero (by decide) h
  exact ⟨h1, by simpa using h2, h3⟩
theorem kS4_zero (h : (kS4 e xs).1 = 0) : (oneS (kS3 e xs).1 (kS3 e xs).2).2.1 = 0 ∧ kR e xs < 16 ∧ kS4 e xs = (oneS (kS3 e xs).1 (kS3 e xs).2).2 := by
  obtain ⟨h1, h2, h3⟩ := askS_zero (by decide) h
  exact ⟨h1, by simpa using h2, h3⟩
theorem kS5_zero (h : (kS5 e xs).1 = 0) : (numS 4294967295 (kS4 e xs).1 (kS4 e xs).2).2.1 = 0 ∧ ¬ kQ e xs = 0 ∧ kS5 e xs = (numS 4294967295 (kS4 e xs).1 (kS4 e xs).2).2 := by
  obtain ⟨h1, h2, h3⟩ := askS_zero (by decide) h
  exact ⟨h1, by simpa using h2, h3⟩
theorem kS2_err (h : ¬ (kS1 e xs).1 = 0) : kS2 e xs = kS1 e xs := by rw [kS2, numS_err h]
theorem kS4_err (h : ¬ (kS3 e xs).1 = 0) : kS4 e xs = kS3 e xs := by rw [kS4, oneS_err h, askS_err h]
theorem kN_err (h : ¬ (kS2 e xs).1 = 0) : kS3 e xs = kS2 e xs := by rw [kS3, namS_err h, askS_err h]
theorem kS5_err (h : ¬ (kS4 e xs).1 = 0) : kS5 e xs = kS4 e xs := by rw [kS5, numS_err h, askS_err h]
theorem keyS_1 (h : ¬ (kS1 e xs).1 = 0) : keyS e xs = (key0, kS1 e xs) := by
  unfold keyS
  by_cases h1 : (oneS e xs).2.1 = 0
  · rw [if_pos h1]
    by_cases h2 : 1 ≤ (oneS e xs).1 ∧ (oneS e xs).1 ≤ 4
    · exact absurd (by rw [kS1, askS_good (by rw [decide_eq_true h2]; rfl)]; exact h1) h
    · rw [if_neg h2, kS1, askS_bad h1 (by rw [decide_eq_false h2]; rfl)]
  · rw [if_neg h1, kS1, askS_err h1]
theorem keyS_at2 (h1 : (kS1 e xs).1 = 0) : keyS e xs = (if (kS2 e xs).1 = 0 then (if kA e xs = 4 then (mkKey 4 (kC e xs) nm0 0 0, kS2 e xs) else keyS.keyT (kA e xs) (kC e xs) (kS2 e xs).1 (kS2 e xs).2) else (key0, kS2 e xs)) := by
  obtain ⟨h2, h3, h4⟩ := kS1_zero h1
  unfold keyS
  rw [if_pos h2, if_pos h3]
  rw [kS2, kC, h4]
theorem keyS_2 (h1 : (kS1 e xs).1 = 0) (h2 : ¬ (kS2 e xs).1 = 0) : keyS e xs = (key0, kS2 e xs) := by rw [keyS_at2 h1, if_neg h2]
theorem keyS_3 (h1 : (kS1 e xs).1 = 0) (h2 : (kS2 e xs).1 = 0) (h4 : kA e xs = 4) : keyS e xs = (mkKey 4 (kC e xs) nm0 0 0, kS2 e xs) := by rw [keyS_at2 h1, if_pos h2, if_pos h4]
theorem keyT_at {s : Int} {c : Nat} : keyS.keyT s c (kS2 e xs).1 (kS2 e xs).2 = (if (kS4 e xs).1 = 0 then (if s = 1 then keyS.keyQ c (kN e xs) (kR e xs) (kS4 e xs).1 (kS4 e xs).2 else (mkKey s.toNat c (kN e xs) (kR e xs).toNat 0, kS4 e xs)) else (key0, kS4 e xs)) := by
  unfold keyS.keyT
  by_cases h1 : (namS (kS2 e xs).1 (kS2 e xs).2).2.1 = 0
  · rw [if_pos h1]
    by_cases h2 : kN e xs = nm0
    · have h3 : kS3 e xs = (3, []) := by rw [kS3, askS_bad h1 (by simpa using h2)]
      have h4 : ¬ (kS3 e xs).1 = 0 := by rw [h3]; decide
      rw [if_pos h2, kS4_err h4, if_neg h4, h3]
    · have h3 : kS3 e xs = (namS (kS2 e xs).1 (kS2 e xs).2).2 := by rw [kS3, askS_good (by simpa using h2)]
      rw [if_neg h2, ← h3]
      by_cases h5 : (oneS (kS3 e xs).1 (kS3 e xs).2).2.1 = 0
      · rw [if_pos h5]
        by_cases h6 : 16 ≤ kR e xs
        · have h7 : kS4 e xs = (2, []) := by rw [kS4, askS_bad h5 (by simp; omega)]
          rw [if_pos h6, h7, if_neg (by decide)]
        · have h7 : kS4 e xs = (oneS (kS3 e xs).1 (kS3 e xs).2).2 := by rw [kS4, askS_good (by simp; omega)]
          rw [if_neg h6, h7, if_pos h5]
      · have h7 : kS4 e xs = (oneS (kS3 e xs).1 (kS3 e xs).2).2 := by rw [kS4, askS_err h5]
        rw [if_neg h5, h7, if_neg h5]
  · have h3 : kS3 e xs = (namS (kS2 e xs).1 (kS2 e xs).2).2 := by rw [kS3, askS_err h1]
    have h4 : ¬ (kS3 e xs).1 = 0 := by rw [h3]; exact h1
    rw [if_neg h1, kS4_err h4, if_neg h4, h3]
theorem keyS_4 (h1 : (kS1 e xs).1 = 0) (h2 : (kS2 e xs).1 = 0) (h4 : ¬ kA e xs = 4) (h5 : ¬ (kS4 e xs).1 = 0) : keyS e xs = (key0, kS4 e xs) := by rw [keyS_at2 h1, if_pos h2, if_neg h4, keyT_at, if_neg h5]
theorem keyS_5 (h1 : (kS1 e xs).1 = 0) (h2 : (kS2 e xs).1 = 0) (h4 : ¬ kA e xs = 4) (h5 : (kS4 e xs).1 = 0) (h6 : ¬ kA e xs = 1) : keyS e xs = (mkKey (kA e xs).toNat (kC e xs) (kN e xs) (kR e xs).toNat 0, kS4 e xs) := by rw [keyS_at2 h1, if_pos h2, if_neg h4, keyT_at, if_pos h5, if_neg h6]
theorem keyS_at6 (h1 : (kS1 e xs).1 = 0) (h2 : (kS2 e xs).1 = 0) (h5 : (kS4 e xs).1 = 0) (h6 : kA e xs = 1) : keyS e xs = (if (kS5 e xs).1 = 0 then (mkKey 1 (kC e xs) (kN e xs) (kR e xs).toNat (kQ e xs), kS5 e xs) else (key0, kS5 e xs)) := by
  rw [keyS_at2 h1, if_pos h2, if_neg (by omega), keyT_at, if_pos h5, if_pos h6]
  unfold keyS.keyQ
  by_cases h7 : (numS 4294967295 (kS4 e xs).1 (kS4 e xs).2).2.1 = 0
  · rw [if_pos h7]
    by_cases h8 : kQ e xs = 0
    · have h9 : kS5 e xs = (3, []) := by rw [kS5, askS_bad h7 (by simpa using h8)]
      rw [if_pos h8, h9, if_neg (by decide)]
    · have h9 : kS5 e xs = (numS 4294967295 (kS4 e xs).1 (kS4 e xs).2).2 := by rw [kS5, askS_good (by simpa using h8)]
      rw [if_neg h8, h9, if_pos h7]
  · have h9 : kS5 e xs = (numS 4294967295 (kS4 e xs).1 (kS4 e xs).2).2 := by rw [kS5, askS_err h7]
    rw [if_neg h7, h9, if_neg h7]
theorem keyS_6 (h1 : (kS1 e xs).1 = 0) (h2 : (kS2 e xs).1 = 0) (h5 : (kS4 e xs).1 = 0) (h6 : kA e xs = 1) (h7 : ¬ (kS5 e xs).1 = 0) : keyS e xs = (key0, kS5 e xs) := by rw [keyS_at6 h1 h2 h5 h6, if_neg h7]
theorem keyS_7 (h1 : (kS1 e xs).1 = 0) (h2 : (kS2 e xs).1 = 0) (h5 : (kS4 e xs).1 = 0) (h6 : kA e xs = 1) (h7 : (kS5 e xs).1 = 0) : keyS e xs = (mkKey 1 (kC e xs) (kN e xs) (kR e xs).toNat (kQ e xs), kS5 e xs) := by rw [keyS_at6 h1 h2 h5 h6, if_pos h7]
theorem namS_zero {e : Int} {xs : List Int} (h : (namS e xs).2.1 = 0) : e = 0 := Decidable.byContradiction fun he => by rw [namS_err he] at h; exact he h
theorem numS_zero {m : Nat} {e : Int} {xs : List Int} (h : (numS m e xs).2.1 = 0) : e = 0 := Decidable.byContradiction fun he => by rw [numS_err he] at h; exact he h
theorem oneS_zero {e : Int} {xs : List Int} (h : (oneS e xs).2.1 = 0) : e = 0 := Decidable.byContradiction fun he => by rw [oneS_err he] at h; exact he h
theorem kS2_0 (h : (kS2 e xs).1 = 0) : (kS1 e xs).1 = 0 := numS_zero h
theorem kS4_0 (h : (kS4 e xs).1 = 0) : (kS1 e xs).1 = 0 ∧ (kS2 e xs).1 = 0 ∧ (kS3 e xs).1 = 0 := by
  have h3 := oneS_zero (kS4_zero h).1
  have h2 := namS_zero (kS3_zero h3).1
  exact ⟨kS2_0 h2, h2, h3⟩
theorem keyS_e2 (h : ¬ (kS2 e xs).1 = 0) : keyS e xs = (key0, kS2 e xs) := by
  by_cases h1 : (kS1 e xs).1 = 0
  · exact keyS_2 h1 h
  · rw [kS2_err h1]; exact keyS_1 h1
theorem keyS_e4 (h4 : ¬ kA e xs = 4) (h5 : ¬ (kS4 e xs).1 = 0) : keyS e xs = (key0, kS4 e xs) := by
  by_cases h2 : (kS2 e xs).1 = 0
  · exact keyS_4 (kS2_0 h2) h2 h4 h5
  · have h3 := kN_err h2
    rw [kS4_err (by rw [h3]; exact h2), h3]; exact keyS_e2 h2
theorem keyS_e5 (h6 : kA e xs = 1) (h7 : ¬ (kS5 e xs).1 = 0) : keyS e xs = (key0, kS5 e xs) := by
  by_cases h5 : (kS4 e xs).1 = 0
  · obtain ⟨h1, h2, _⟩ := kS4_0 h5
    exact keyS_6 h1 h2 h5 h6 h7
  · rw [kS5_err h5]; exact keyS_e4 (by omega) h5
theorem kS1_byt (h : Byt xs) : Byt (kS1 e xs).2 := askS_byt (oneS_byt h)
theorem kS2_byt (h : Byt xs) : Byt (kS2 e xs).2 := numS_byt (kS1_byt h)
theorem kS3_byt (h : Byt xs) : Byt (kS3 e xs).2 := askS_byt (namS_byt' (kS2_byt h))
theorem kS4_byt (h : Byt xs) : Byt (kS4 e xs).2 := askS_byt (oneS_byt (kS3_byt h))
theorem kS5_byt (h : Byt xs) : Byt (kS5 e xs).2 := askS_byt (numS_byt (kS4_byt h))
theorem kS1_len : (kS1 e xs).2.length ≤ xs.length := Nat.le_trans (askS_len _ _ _) (oneS_len _ _)
theorem kS2_len : (kS2 e xs).2.length ≤ xs.length := Nat.le_trans (numS_len _ _ _) kS1_len
theorem kS3_len : (kS3 e xs).2.length ≤ xs.length := Nat.le_trans (askS_len _ _ _) (Nat.le_trans (namS_len' _ _) kS2_len)
theorem kS4_len : (kS4 e xs).2.length ≤ xs.length := Nat.le_trans (askS_len _ _ _) (Nat.le_trans (oneS_len _ _) kS3_len)
theorem kS5_len : (kS5 e xs).2.length ≤ xs.length := Nat.le_trans (askS_len _ _ _) (Nat.le_trans (numS_len _ _ _) kS4_len)
theorem keyS_ok (h : ErrOk e xs) : ErrOk (keyS e xs).2.1 (keyS e xs).2.2 := by
  have o1 : ErrOk (kS1 e xs).1 (kS1 e xs).2 := askS_ok (oneS_ok h)
  have o2 : ErrOk (kS2 e xs).1 (kS2 e xs).2 := numS_ok o1
  have o3 : ErrOk (kS3 e xs).1 (kS3 e xs).2 := askS_ok (namS_ok o2)
  have o4 : ErrOk (kS4 e xs).1 (kS4 e xs).2 := askS_ok (oneS_ok o3)
  have o5 : ErrOk (kS5 e xs).1 (kS5 e xs).2 := askS_ok (numS_ok o4)
  by_cases h1 : (kS1 e xs).1 = 0
  · by_cases h2 : (kS2 e xs).1 = 0
    · by_cases h4 : kA e xs = 4
      · rw [keyS_3 h1 h2 h4]; exact o2
      · by_cases h5 : (kS4 e xs).1 = 0
        · by_cases h6 : kA e xs = 1
          · by_cases h7 : (kS5 e xs).1 = 0
            · rw [keyS_7 h1 h2 h5 h6 h7]; exact o5
            · rw [keyS_6 h1 h2 h5 h6 h7]; exact o5
          · rw [keyS_5 h1 h2 h4 h5 h6]; exact o4
        · rw [keyS_4 h1 h2 h4 h5]; exact o4
    · rw [keyS_2 h1 h2]; exact o2
  · rw [keyS_1 h1]; exact o1
theorem keyS_byt (h : Byt xs) : Byt (keyS e xs).2.2 := by
  by_cases h1 : (kS1 e xs).1 = 0
  · by_cases h2 : (kS2 e xs).1 = 0
    · by_cases h4 : kA e xs = 4
      · rw [keyS_3 h1 h2 h4]; exact kS2_byt h
      · by_cases h5 : (kS4 e xs).1 = 0
        · by_cases h6 : kA e xs = 1
          · by_cases h7 : (kS5 e xs).1 = 0
            · rw [keyS_7 h1 h2 h5 h6 h7]; exact kS5_byt h
            · rw [keyS_6 h1 h2 h5 h6 h7]; exact kS5_byt h
          · rw [keyS_5 h1 h2 h4 h5 h6]; exact kS4_byt h
        · rw [keyS_4 h1 h2 h4 h5]; exact kS4_byt h
    · rw [keyS_2 h1 h2]; exact kS2_byt h
  · rw [keyS_1 h1]; exact kS1_byt h
theorem keyS_len : (keyS e xs).2.2.length ≤ xs.length := by
  by_cases h1 : (kS1 e xs).1 = 0
  · by_cases h2 : (kS2 e xs).1 = 0
    · by_cases h4 : kA e xs = 4
      · rw [keyS_3 h1 h2 h4]; exact kS2_len
      · by_cases h5 : (kS4 e xs).1 = 0
        · by_cases h6 : kA e xs = 1
          · by_cases h7 : (kS5 e xs).1 = 0
            · rw [keyS_7 h1 h2 h5 h6 h7]; exact kS5_len
            · rw [keyS_6 h1 h2 h5 h6 h7]; exact kS5_len
          · rw [keyS_5 h1 h2 h4 h5 h6]; exact kS4_len
        · rw [keyS_4 h1 h2 h4 h5]; exact kS4_len
    · rw [keyS_2 h1 h2]; exact kS2_len
  · rw [keyS_1 h1]; exact kS1_len
end
end Go.Proofs.YtffmanidnlbjjaaGreat
set_option linter.unusedSimpArgs false
set_option linter.unusedVariables false
set_option maxHeartbeats 800000
set_option maxRecDepth 100000
namespace Go.Proofs.YtffmanidnlbjjaaGreat
open Go.RowKit
theorem c_keyDot (x : List Int) (hk : KeyOk x)  (w0 : World) :
    CallR Tryz.prog 53 #[.agg (KA x)] w0 fun v w' => v = .int .u64 (dotN x : Int) ∧ Ext w0 w' := by
 have hS : St NoB w0 w0 [] := St.start w0
 refine c_enter (l := [.agg (KA x), undef, undef, undef, undef, undef, undef, undef, undef, undef, undef]) Tryz.func53 rfl (by simp only [Tryz.ntmps53, List.size_toArray, List.length_cons, List.length_nil, Nat.reduceAdd, Nat.reduceSub, Array.replicate_succ, Array.replicate_zero, List.push_toArray, List.append_toArray, List.nil_append, List.cons_append]) ?_
 refine x_seq fun K1 hK1 => ?_
 refine x_region ?_
 refine m_box hS (fun w1 g1 hS => ?_)
 try simp only [opv, nZ, Value.cells, Array.toArray_toList] at hS ⊢
 refine s_go (s_assign) ?_
 try simp only [opv, nZ, Value.cells]
 refine x_nil ?_
 refine hK1 _ _ ?_
 refine x_seq fun K2 hK2 => ?_
 refine x_region ?_
 have hkl := hk.len
 have hb10 := hk.b10
 have hb11 := hk.b11
 refine s_go (m_fieldAddr Tryz.underlying83 (hi := ti5)) ?_
 try simp only [opv, nZ, Value.cells, Nat.zero_add, Nat.add_zero, List.getElem_toArray, List.getElem_cons_zero, List.getElem_cons_succ]
 refine s_go (m_load_obj Tryz.underlying5 (hS := hS) (hv := by exact zi_get rfl (by omega))) ?_
 try simp only [opv, nZ, Value.cells, List.getElem_toArray, List.getElem_cons_zero, List.getElem_cons_succ]
 rw [hk.e10]
 refine s_go (s_conv Tryz.underlying5 Tryz.underlying84 (hc := by exact wr_u64 (by omega) (by omega))) ?_
 try simp only [opv, nZ, Value.cells]
 refine s_go (s_shl (hc := shl_lt64 (r := kn x 10) (n := 32) rfl (by omega))) ?_
 try simp only [opv, nZ, Value.cells]
 refine s_go (m_fieldAddr Tryz.underlying83 (hi := ti24)) ?_
 try simp only [opv, nZ, Value.cells, Nat.zero_add, Nat.add_zero, List.getElem_toArray, List.getElem_cons_zero, List.getElem_cons_succ]
 refine s_go (m_load_obj Tryz.underlying24 (hS := hS) (hv := by exact zi_get rfl (by omega))) ?_
 try simp only [opv, nZ, Value.cells, List.getElem_toArray, List.getElem_cons_zero, List.getElem_cons_succ]
 rw [hk.e11]
 refine s_go (s_conv Tryz.underlying24 Tryz.underlying84 (hc := by exact wr_u64 (by omega) (by omega))) ?_
 try simp only [opv, nZ, Value.cells]
 refine s_go (s_bits (by simp) (hc := or_hi64 (n := 32) hb11 (by omega))) ?_
 try simp only [opv, nZ, Value.cells]
 refine s_go (s_assign) ?_
 try simp only [opv, nZ, Value.cells]
 refine x_nil ?_
 refine hK2 _ _ ?_
 refine x_ret ?_
 refine r_tmp rfl ?_
 exact ⟨rfl, hS.ext_of⟩
end Go.Proofs.YtffmanidnlbjjaaGreat
set_option linter.unusedSimpArgs false
set_option linter.unusedVariables false
set_option maxHeartbeats 800000
set_option maxRecDepth 100000
namespace Go.Proofs.YtffmanidnlbjjaaGreat
open Go.RowKit
theorem c_keyWords (x : List Int) (hk : KeyOk x)  (w0 : World) :
    CallR Tryz.prog 147 #[.agg (KA x)] w0 fun v w' => v = .agg (ic .u64 (wordsL x)) ∧ Ext w0 w' := by
 have hS : St NoB w0 w0 [] := St.start w0
 refine c_enter (l := [.agg (KA x), undef, undef, undef, undef, undef, undef, undef, undef, undef, undef, undef, undef, undef, undef, undef, undef]) Tryz.func147 rfl (by simp only [Tryz.ntmps147, List.size_toArray, List.length_cons, List.length_nil, Nat.reduceAdd, Nat.reduceSub, Array.replicate_succ, Array.replicate_zero, List.push_toArray, List.append_toArray, List.nil_append, List.cons_append]) ?_
 refine x_seq fun K1 hK1 => ?_
 refine x_region ?_
 have hkl := hk.len
 have hb0 := hk.b0
 have hb1 := hk.b1
 have hb10 := hk.b10
 have hb11 := hk.b11
 have hil := kitem_len hk.len
 have hib := hk.item
 refine m_box hS (fun w1 g1 hS => ?_)
 try simp only [opv, nZ, Value.cells, Array.toArray_toList] at hS ⊢
 refine m_alloc ti98 hS (fun w2 g2 hS => ?_)
 try simp only [opv, nZ, Value.cells, Array.toArray_toList] at hS ⊢
 have hS : St NoB w0 w2 [.obj g2 (.cells (ic .u64 [0, 0, 0]) 98 (0, 0)), .obj g1 (.cells (KA x) 83 (0, 0))] := hS
 refine x_nil ?_
 refine hK1 _ _ ?_
 refine x_seq fun K2 hK2 => ?_
 refine x_mixed_f [14] 0 [3, 4, 5, 6, 7, 8, 9, 10, 11, 12, 13, 14, 15, 16] (fun f w => St NoB w0 w [.obj g2 (.cells (ic .u64 (wordsL x)) 98 (0, 0)), .obj g1 (.cells (KA x) 83 (0, 0))]) (by kernel_rfl) (by kernel_rfl) (by kernel_rfl) (by decide) hS (fun w3 hS => ?mixpre101) ?mixrest101
 case mixpre101 =>
  refine p_nil ?_
  simp only [List.length_cons, List.length_nil, Nat.reduceAdd, Nat.reduceSub]
  refine any_go (i := 0) (by rfl) (by decide +kernel) (by decide +kernel) (by unfold noLate; decide) (go_yields w_none (fun w hS => m_fieldAddr Tryz.underlying83 (hi := ti5))) ?_
  try simp only [opv, nZ, Value.cells, Nat.zero_add, Nat.add_zero, List.getElem_toArray, List.getElem_cons_zero, List.getElem_cons_succ]
  refine any_go (i := 1) (by rfl) (by decide +kernel) (by decide +kernel) (by unfold noLate; decide) (go_yields w_none (fun w hS => m_load_obj Tryz.underlying5 (hS := hS) (hv := by exact zi_get rfl (by omega)))) ?_
  try simp only [opv, nZ, Value.cells, List.getElem_toArray, List.getElem_cons_zero, List.getElem_cons_succ]
  rw [hk.e0]
  refine any_go (i := 2) (by rfl) (by decide +kernel) (by decide +kernel) (by unfold noLate; decide) (go_yields w_none (fun w hS => s_conv Tryz.underlying5 Tryz.underlying84 (hc := by exact wr_u64 (by omega) (by omega)))) ?_
  try simp only [opv, nZ, Value.cells]
  refine any_go (i := 3) (by rfl) (by decide +kernel) (by decide +kernel) (by unfold noLate; decide) (go_yields w_none (fun w hS => s_shl (hc := shl_lt64 (r := kn x 0) (n := 16) rfl (by omega)))) ?_
  try simp only [opv, nZ, Value.cells]
  refine any_go (i := 4) (by rfl) (by decide +kernel) (by decide +kernel) (by unfold noLate; decide) (go_yields w_none (fun w hS => m_fieldAddr Tryz.underlying83 (hi := ti39))) ?_
  try simp only [opv, nZ, Value.cells, Nat.zero_add, Nat.add_zero, List.getElem_toArray, List.getElem_cons_zero, List.getElem_cons_succ]
  refine any_go (i := 5) (by rfl) (by decide +kernel) (by decide +kernel) (by unfold noLate; decide) (go_yields w_none (fun w hS => m_load_obj Tryz.underlying39 (hS := hS) (hv := by exact zi_get rfl (by omega)))) ?_
  try simp only [opv, nZ, Value.cells, List.getElem_toArray, List.getElem_cons_zero, List.getElem_cons_succ]
  rw [hk.e1]
  refine any_go (i := 6) (by rfl) (by decide +kernel) (by decide +kernel) (by unfold noLate; decide) (go_yields w_none (fun w hS => s_conv Tryz.underlying39 Tryz.underlying84 (hc := by exact wr_u64 (by omega) (by omega)))) ?_
  try simp only [opv, nZ, Value.cells]
  refine any_go (i := 7) (by rfl) (by decide +kernel) (by decide +kernel) (by unfold noLate; decide) (go_yields w_none (fun w hS => s_bits (by simp) (hc := or_hi64 (n := 16) (show kn x 1 < 2 ^ 16 from hb1) (by omega)))) ?_
  try simp only [opv, nZ, Value.cells]
  refine any_go (i := 8) (by rfl) (by decide +kernel) (by decide +kernel) (by unfold noLate; decide) (go_yields w_none (fun w hS => m_fieldAddr Tryz.underlying83 (hi := ti41))) ?_
  try simp only [opv, nZ, Value.cells, Nat.zero_add, Nat.add_zero, List.getElem_toArray, List.getElem_cons_zero, List.getElem_cons_succ]
  refine any_go (i := 9) (by rfl) (by decide +kernel) (by decide +kernel) (by unfold noLate; decide) (go_yields w_none (fun w hS => m_loada_obj Tryz.underlying41 (hi := ti41) (hS := hS) (hfit := by (rw [zi_size (by omega)]; decide)))) ?_
  try simp only [opv, nZ, Value.cells, List.getElem_toArray, List.getElem_cons_zero, List.getElem_cons_succ]
  rw [key_item hkl]
  apply any_go (i := 10) (by rfl) (by decide +kernel) (by decide +kernel) (by unfold noLate; decide) (call_yields w_none en189 ?H1) ?K1
  case H1 =>
    intro w hS
    try simp only [opv, nZ, List.map_toArray, List.map_cons, List.map_nil, List.append_toArray, List.cons_append, List.nil_append, Array.append_empty]
    refine CallR.mono (c_nameNumber _ hil hib _) ?_
    rintro _ w1 ⟨rfl, hE⟩; exact ⟨rfl, hE⟩
  try simp only [opv, nZ, Value.cells]
  refine any_go (i := 11) (by rfl) (by decide +kernel) (by decide +kernel) (by unfold noLate; decide) (go_yields w_none (fun w hS => m_load_row Tryz.underlying83 (hi := ti83) (hS := hS) (hfit := by (rw [zi_size (by omega)]; rfl)))) ?_
  try simp only [opv, nZ, Value.cells, List.getElem_toArray, List.getElem_cons_zero, List.getElem_cons_succ]
  apply any_go (i := 12) (by rfl) (by decide +kernel) (by decide +kernel) (by unfold noLate; decide) (call_yields w_none en53 ?H2) ?K2
  case H2 =>
    intro w hS
    try simp only [opv, nZ, List.map_toArray, List.map_cons, List.map_nil, List.append_toArray, List.cons_append, List.nil_append, Array.append_empty]
    refine CallR.mono (c_keyDot x hk _) ?_
    rintro _ w1 ⟨rfl, hE⟩; exact ⟨rfl, hE⟩
  try simp only [opv, nZ, Value.cells]
  refine any_go (i := 13) (by rfl) (by decide +kernel) (by decide +kernel) (by unfold noLate; decide) (go_yields w_none (fun w hS => s_build_arr (cells := #[_, _, _]) Tryz.underlying98 ti98 ti84 (hc := by simp only [List.map_toArray, List.map_cons, List.map_nil, opv, nZ, Value.cells, List.toList_toArray]; (repeat (refine fill_cons rfl rfl (Nat.le_of_ble_eq_true rfl) ?_)); rfl))) ?_
  try simp only [opv, nZ, Value.cells]
  rw [show (#[.int .u64 ((2 ^ 16 * kn x 0 + kn x 1 : Nat) : Int), .int .u64 (numN (kitem x) : Int), .int .u64 (dotN x : Int)] : Array Value) = ic .u64 (wordsL x) from rfl]
  refine any_step [14] (by kernel_rfl) (by decide) (fun w4 hE => ⟨fun _ => (hS.ext hE).sel (by repeat (first | exact Sel.nil | (refine Sel.cons (by repeat (exact Del.head)) ?_))), ?_⟩)
  replace hS := hS.ext hE
  intro i hi
  simp only [List.mem_cons, List.not_mem_nil, or_false] at hi
  subst hi
  ·
   refine any_op (by rfl) ?_
   refine m_store_obj ti98 (hS := hS) (hc := by (exact splice_whole (by rfl))) (hv := by rfl) (hfit := by (simp only [ic_size, List.length_map, List.size_toArray]; decide)) (h1 := by exact ic_one _ _) (h := fun w5 hS => ?_)
   try simp only [opv, nZ, Value.cells, Array.toArray_toList] at hS ⊢
   refine x_nil ?_
   refine any_nil (by kernel_rfl) (fun w6 hE => ?_)
   replace hS := hS.ext hE
   refine ⟨fun hl => absurd (hl 14 (by decide)) (by decide +kernel), ?_⟩
   refine mix_leaf (by simp only [clob, List.foldl, nZ]) ?_
   try simp only [n1, n2]
   exact hS.sel (by repeat (first | exact Sel.nil | (refine Sel.cons (by repeat (exact Del.head)) ?_)))
 intro fm1 w7 hM
 replace hS := hM
 simp only [clob, List.foldl, n3, n4]
 refine hK2 _ _ ?_
 refine x_ret ?_
 refine r_cell_agg rfl Tryz.underlying98 ti98 (hS := hS) (hfit := by rfl) (hR := ?_)
 exact ⟨rfl, hS.ext_of⟩
theorem c_ref08Words (x : List Int) (hk : KeyOk x)  (w0 : World) :
    CallR Tryz.prog 55 #[.agg (KA x)] w0 fun v w' => v = .agg (ic .u64 (wordsL x)) ∧ Ext w0 w' := by
 have hS : St NoB w0 w0 [] := St.start w0
 refine c_enter (l := [.agg (KA x), undef, undef, undef, undef, undef, undef, undef, undef, undef, undef, undef, undef, undef, undef, undef, undef, undef, undef, undef, undef, undef, undef]) Tryz.func55 rfl (by simp only [Tryz.ntmps55, List.size_toArray, List.length_cons, List.length_nil, Nat.reduceAdd, Nat.reduceSub, Array.replicate_succ, Array.replicate_zero, List.push_toArray, List.append_toArray, List.nil_append, List.cons_append]) ?_
 refine x_seq fun K1 hK1 => ?_
 refine x_region ?_
 have hkl := hk.len
 have hb0 := hk.b0
 have hb1 := hk.b1
 have hb10 := hk.b10
 have hb11 := hk.b11
 have hil := kitem_len hk.len
 have hib := hk.item
 refine m_box hS (fun w1 g1 hS => ?_)
 try simp only [opv, nZ, Value.cells, Array.toArray_toList] at hS ⊢
 refine m_alloc ti98 hS (fun w2 g2 hS => ?_)
 try simp only [opv, nZ, Value.cells, Array.toArray_toList] at hS ⊢
 have hS : St NoB w0 w2 [.obj g2 (.cells (ic .u64 [0, 0, 0]) 98 (0, 0)), .obj g1 (.cells (KA x) 83 (0, 0))] := hS
 refine x_nil ?_
 refine hK1 _ _ ?_
 refine x_seq fun K2 hK2 => ?_
 refine x_mixed_f [20] 0 [3, 4, 5, 6, 7, 8, 9, 10, 11, 12, 13, 14, 15, 16, 17, 18, 19, 20, 21, 22] (fun f w => St NoB w0 w [.obj g2 (.cells (ic .u64 (wordsL x)) 98 (0, 0)), .obj g1 (.cells (KA x) 83 (0, 0))]) (by kernel_rfl) (by kernel_rfl) (by kernel_rfl) (by decide) hS (fun w3 hS => ?mixpre101) ?mixrest101
 case mixpre101 =>
  refine p_nil ?_
  simp only [List.length_cons, List.length_nil, Nat.reduceAdd, Nat.reduceSub]
  refine any_go (i := 0) (by rfl) (by decide +kernel) (by decide +kernel) (by unfold noLate; decide) (go_yields w_none (fun w hS => m_fieldAddr Tryz.underlying83 (hi := ti5))) ?_
  try simp only [opv, nZ, Value.cells, Nat.zero_add, Nat.add_zero, List.getElem_toArray, List.getElem_cons_zero, List.getElem_cons_succ]
  refine any_go (i := 1) (by rfl) (by decide +kernel) (by decide +kernel) (by unfold noLate; decide) (go_yields w_none (fun w hS => m_load_obj Tryz.underlying5 (hS := hS) (hv := by exact zi_get rfl (by omega)))) ?_
  try simp only [opv, nZ, Value.cells, List.getElem_toArray, List.getElem_cons_zero, List.getElem_cons_succ]
  rw [hk.e0]
  refine any_go (i := 2) (by rfl) (by decide +kernel) (by decide +kernel) (by unfold noLate; decide) (go_yields w_none (fun w hS => s_conv Tryz.underlying5 Tryz.underlying84 (hc := by exact wr_u64 (by omega) (by omega)))) ?_
  try simp only [opv, nZ, Value.cells]
  refine any_go (i := 3) (by rfl) (by decide +kernel) (by decide +kernel) (by unfold noLate; decide) (go_yields w_none (fun w hS => s_mul (hc := by exact wr_u64 (by omega) (by omega)))) ?_
  try simp only [opv, nZ, Value.cells]
  refine any_go (i := 4) (by rfl) (by decide +kernel) (by decide +kernel) (by unfold noLate; decide) (go_yields w_none (fun w hS => m_fieldAddr Tryz.underlying83 (hi := ti39))) ?_
  try simp only [opv, nZ, Value.cells, Nat.zero_add, Nat.add_zero, List.getElem_toArray, List.getElem_cons_zero, List.getElem_cons_succ]
  refine any_go (i := 5) (by rfl) (by decide +kernel) (by decide +kernel) (by unfold noLate; decide) (go_yields w_none (fun w hS => m_load_obj Tryz.underlying39 (hS := hS) (hv := by exact zi_get rfl (by omega)))) ?_
  try simp only [opv, nZ, Value.cells, List.getElem_toArray, List.getElem_cons_zero, List.getElem_cons_succ]
  rw [hk.e1]
  refine any_go (i := 6) (by rfl) (by decide +kernel) (by decide +kernel) (by unfold noLate; decide) (go_yields w_none (fun w hS => s_conv Tryz.underlying39 Tryz.underlying84 (hc := by exact wr_u64 (by omega) (by omega)))) ?_
  try simp only [opv, nZ, Value.cells]
  refine any_go (i := 7) (by rfl) (by decide +kernel) (by decide +kernel) (by unfold noLate; decide) (go_yields w_none (fun w hS => s_add (hc := by exact wr_u64 (by omega) (by omega)))) ?_
  try simp only [opv, nZ, Value.cells]
  rw [show (kn x 0 : Int) * 65536 + (kn x 1 : Int) = (headN x : Int) by unfold headN; omega]
  refine any_go (i := 8) (by rfl) (by decide +kernel) (by decide +kernel) (by unfold noLate; decide) (go_yields w_none (fun w hS => m_fieldAddr Tryz.underlying83 (hi := ti41))) ?_
  try simp only [opv, nZ, Value.cells, Nat.zero_add, Nat.add_zero, List.getElem_toArray, List.getElem_cons_zero, List.getElem_cons_succ]
  refine any_go (i := 9) (by rfl) (by decide +kernel) (by decide +kernel) (by unfold noLate; decide) (go_yields w_none (fun w hS => m_loada_obj Tryz.underlying41 (hi := ti41) (hS := hS) (hfit := by (rw [zi_size (by omega)]; decide)))) ?_
  try simp only [opv, nZ, Value.cells, List.getElem_toArray, List.getElem_cons_zero, List.getElem_cons_succ]
  rw [key_item hkl]
  apply any_go (i := 10) (by rfl) (by decide +kernel) (by decide +kernel) (by unfold noLate; decide) (call_yields w_none en110 ?H1) ?K1
  case H1 =>
    intro w hS
    try simp only [opv, nZ, List.map_toArray, List.map_cons, List.map_nil, List.append_toArray, List.cons_append, List.nil_append, Array.append_empty]
    refine CallR.mono (c_ref06Number _ hil hib _) ?_
    rintro _ w1 ⟨rfl, hE⟩; exact ⟨rfl, hE⟩
  try simp only [opv, nZ, Value.cells]
  refine any_go (i := 11) (by rfl) (by decide +kernel) (by decide +kernel) (by unfold noLate; decide) (go_yields w_none (fun w hS => m_fieldAddr Tryz.underlying83 (hi := ti5))) ?_
  try simp only [opv, nZ, Value.cells, Nat.zero_add, Nat.add_zero, List.getElem_toArray, List.getElem_cons_zero, List.getElem_cons_succ]
  refine any_go (i := 12) (by rfl) (by decide +kernel) (by decide +kernel) (by unfold noLate; decide) (go_yields w_none (fun w hS => m_load_obj Tryz.underlying5 (hS := hS) (hv := by exact zi_get rfl (by omega)))) ?_
  try simp only [opv, nZ, Value.cells, List.getElem_toArray, List.getElem_cons_zero, List.getElem_cons_succ]
  rw [hk.e10]
  refine any_go (i := 13) (by rfl) (by decide +kernel) (by decide +kernel) (by unfold noLate; decide) (go_yields w_none (fun w hS => s_conv Tryz.underlying5 Tryz.underlying84 (hc := by exact wr_u64 (by omega) (by omega)))) ?_
  try simp only [opv, nZ, Value.cells]
  refine any_go (i := 14) (by rfl) (by decide +kernel) (by decide +kernel) (by unfold noLate; decide) (go_yields w_none (fun w hS => s_mul (hc := by exact wr_u64 (by omega) (by omega)))) ?_
  try simp only [opv, nZ, Value.cells]
  refine any_go (i := 15) (by rfl) (by decide +kernel) (by decide +kernel) (by unfold noLate; decide) (go_yields w_none (fun w hS => m_fieldAddr Tryz.underlying83 (hi := ti24))) ?_
  try simp only [opv, nZ, Value.cells, Nat.zero_add, Nat.add_zero, List.getElem_toArray, List.getElem_cons_zero, List.getElem_cons_succ]
  refine any_go (i := 16) (by rfl) (by decide +kernel) (by decide +kernel) (by unfold noLate; decide) (go_yields w_none (fun w hS => m_load_obj Tryz.underlying24 (hS := hS) (hv := by exact zi_get rfl (by omega)))) ?_
  try simp only [opv, nZ, Value.cells, List.getElem_toArray, List.getElem_cons_zero, List.getElem_cons_succ]
  rw [hk.e11]
  refine any_go (i := 17) (by rfl) (by decide +kernel) (by decide +kernel) (by unfold noLate; decide) (go_yields w_none (fun w hS => s_conv Tryz.underlying24 Tryz.underlying84 (hc := by exact wr_u64 (by omega) (by omega)))) ?_
  try simp only [opv, nZ, Value.cells]
  refine any_go (i := 18) (by rfl) (by decide +kernel) (by decide +kernel) (by unfold noLate; decide) (go_yields w_none (fun w hS => s_add (hc := by exact wr_u64 (by omega) (by omega)))) ?_
  try simp only [opv, nZ, Value.cells]
  rw [show (kn x 10 : Int) * 4294967296 + (kn x 11 : Int) = (dotN x : Int) by unfold dotN; omega]
  refine any_go (i := 19) (by rfl) (by decide +kernel) (by decide +kernel) (by unfold noLate; decide) (go_yields w_none (fun w hS => s_build_arr (cells := #[_, _, _]) Tryz.underlying98 ti98 ti84 (hc := by simp only [List.map_toArray, List.map_cons, List.map_nil, opv, nZ, Value.cells, List.toList_toArray]; (repeat (refine fill_cons rfl rfl (Nat.le_of_ble_eq_true rfl) ?_)); rfl))) ?_
  try simp only [opv, nZ, Value.cells]
  rw [show (#[.int .u64 (headN x : Int), .int .u64 (numN (kitem x) : Int), .int .u64 (dotN x : Int)] : Array Value) = ic .u64 (wordsL x) from rfl]
  refine any_step [20] (by kernel_rfl) (by decide) (fun w4 hE => ⟨fun _ => (hS.ext hE).sel (by repeat (first | exact Sel.nil | (refine Sel.cons (by repeat (exact Del.head)) ?_))), ?_⟩)
  replace hS := hS.ext hE
  intro i hi
  simp only [List.mem_cons, List.not_mem_nil, or_false] at hi
  subst hi
  ·
   refine any_op (by rfl) ?_
   refine m_store_obj ti98 (hS := hS) (hc := by (exact splice_whole (by rfl))) (hv := by rfl) (hfit := by (simp only [ic_size, List.length_map, List.size_toArray]; decide)) (h1 := by exact ic_one _ _) (h := fun w5 hS => ?_)
   try simp only [opv, nZ, Value.cells, Array.toArray_toList] at hS ⊢
   refine x_nil ?_
   refine any_nil (by kernel_rfl) (fun w6 hE => ?_)
   replace hS := hS.ext hE
   refine ⟨fun hl => absurd (hl 20 (by decide)) (by decide +kernel), ?_⟩
   refine mix_leaf (by simp only [clob, List.foldl, nZ]) ?_
   try simp only [n1, n2]
   exact hS.sel (by repeat (first | exact Sel.nil | (refine Sel.cons (by repeat (exact Del.head)) ?_)))
 intro fm1 w7 hM
 replace hS := hM
 simp only [clob, List.foldl, n3, n4]
 refine hK2 _ _ ?_
 refine x_ret ?_
 refine r_cell_agg rfl Tryz.underlying98 ti98 (hS := hS) (hfit := by rfl) (hR := ?_)
 exact ⟨rfl, hS.ext_of⟩

theorem rgt_a {p q : Prop} [Decidable p] [Decidable q] {b : Bool} (h : ¬ p) : false = (decide p && b && decide q) := by simp [h]
theorem rgt_b {p q : Prop} [Decidable p] [Decidable q] {b : Bool} (h : b = false) : false = (decide p && b && decide q) := by simp [h]
theorem rgt_c {p q q' : Prop} [Decidable p] [Decidable q] [Decidable q'] {b : Bool} (h : p) (hb : b = true) (hq : q' ↔ q) : decide q' = (decide p && b && decide q) := by simp [h, hb, hq]
theorem c_keyRight (x : List Int) (hk : KeyOk x)  (w0 : World) :
    CallR Tryz.prog 200 #[.agg (KA x)] w0 fun v w' => v = .bool (keyR x) ∧ Ext w0 w' := by
 have hS : St NoB w0 w0 [] := St.start w0
 refine c_enter (l := [.agg (KA x), undef, undef, undef, undef, undef, undef, undef, undef, undef, undef, undef, undef, undef, undef, undef, undef, undef, undef, undef, undef, undef, undef, undef, undef, undef, undef, undef, undef, undef, undef, undef, undef, undef, undef, undef, undef, undef, undef, undef, undef, undef, undef, undef, undef, undef, undef]) Tryz.func200 rfl (by simp only [Tryz.ntmps200, List.size_toArray, List.length_cons, List.length_nil, Nat.reduceAdd, Nat.reduceSub, Array.replicate_succ, Array.replicate_zero, List.push_toArray, List.append_toArray, List.nil_append, List.cons_append]) ?_
 refine x_seq fun K1 hK1 => ?_
 refine x_region ?_
 have hkl := hk.len
 have hb0 := hk.b0
 have hb1 := hk.b1
 have hb10 := hk.b10
 have hb11 := hk.b11
 have hil := kitem_len hk.len
 have hib := hk.item
 refine m_box hS (fun w1 g1 hS => ?_)
 try simp only [opv, nZ, Value.cells, Array.toArray_toList] at hS ⊢
 refine s_go (s_assign) ?_
 try simp only [opv, nZ, Value.cells]
 refine x_nil ?_
 refine hK1 _ _ ?_
 refine x_seq fun K2 hK2 => ?_
 refine x_region ?_
 refine s_go (m_fieldAddr Tryz.underlying83 (hi := ti5)) ?_
 try simp only [opv, nZ, Value.cells, Nat.zero_add, Nat.add_zero, List.getElem_toArray, List.getElem_cons_zero, List.getElem_cons_succ]
 refine s_go (m_load_obj Tryz.underlying5 (hS := hS) (hv := by exact zi_get rfl (by omega))) ?_
 try simp only [opv, nZ, Value.cells, List.getElem_toArray, List.getElem_cons_zero, List.getElem_cons_succ]
 rw [hk.e0]
 refine s_go (m_fieldAddr Tryz.underlying83 (hi := ti39)) ?_
 try simp only [opv, nZ, Value.cells, Nat.zero_add, Nat.add_zero, List.getElem_toArray, List.getElem_cons_zero, List.getElem_cons_succ]
 refine s_go (m_load_obj Tryz.underlying39 (hS := hS) (hv := by exact zi_get rfl (by omega))) ?_
 try simp only [opv, nZ, Value.cells, List.getElem_toArray, List.getElem_cons_zero, List.getElem_cons_succ]
 rw [hk.e1]
 refine s_go (s_build_struct (cells := #[_, _, .int .u8 0, .int .u8 0, .int .u8 0, .int .u8 0, .int .u8 0, .int .u8 0, .int .u8 0, .int .u8 0, .int .u8 0, .int .u32 0]) Tryz.underlying83 ti83 bp83 (hc := by simp only [List.map_toArray, List.map_cons, List.map_nil, opv, nZ, Value.cells, List.toList_toArray]; (repeat (refine fill_cons rfl rfl (Nat.le_of_ble_eq_true rfl) ?_)); rfl)) ?_
 try simp only [opv, nZ, Value.cells]
 rw [show (#[.int .u8 (kn x 0 : Int), .int .u16 (kn x 1 : Int), .int .u8 0, .int .u8 0, .int .u8 0, .int .u8 0, .int .u8 0, .int .u8 0, .int .u8 0, .int .u8 0, .int .u8 0, .int .u32 0] : Array Value) = KA (bareK x) from rfl]
 have hbl : (bareK x).length = 12 := rfl
 refine m_alloc ti83 hS (fun w2 g2 hS => ?_)
 try simp only [opv, nZ, Value.cells, Array.toArray_toList] at hS ⊢
 refine m_store_obj ti83 (hS := hS) (hc := by (exact splice_whole (by rfl))) (hv := by rfl) (hfit := by (simp only [ic_size, List.length_map, List.size_toArray]; decide)) (h1 := by exact zi_one _ _) (h := fun w3 hS => ?_)
 try simp only [opv, nZ, Value.cells, Array.toArray_toList] at hS ⊢
 have hS : St NoB w0 w3 [.obj g2 (.cells (KA (bareK x)) 83 (0, 0)), .obj g1 (.cells (KA x) 83 (0, 0))] := hS
 refine x_nil ?_
 refine hK2 _ _ ?_
 refine x_seq fun K3 hK3 => ?_
 refine x_seq fun K4 hK4 => ?_
 refine x_region ?_
 refine s_go (m_fieldAddr Tryz.underlying83 (hi := ti5)) ?_
 try simp only [opv, nZ, Value.cells, Nat.zero_add, Nat.add_zero, List.getElem_toArray, List.getElem_cons_zero, List.getElem_cons_succ]
 refine s_go (m_load_obj Tryz.underlying5 (hS := hS) (hv := by exact zi_get rfl (by omega))) ?_
 try simp only [opv, nZ, Value.cells, List.getElem_toArray, List.getElem_cons_zero, List.getElem_cons_succ]
 rw [hk.e0]
 refine x_nil ?_
 refine hK4 _ _ ?_
 refine x_block ?_
 refine x_seq fun K5 hK5 => ?_
 refine x_region ?_
 refine s_go (s_eql) ?_
 try simp only [opv, nZ, Value.cells]
 refine s_go (s_assign) ?_
 try simp only [opv, nZ, Value.cells]
 refine x_nil ?_
 refine hK5 _ _ ?_
 refine x_cond (ht := fun hc1 => ?_) (hf := fun hc1 => ?_)
 ·
  try simp only [dZ, ne_eq, bne_iff_ne, beq_iff_eq] at hc1
  have hR : keyR x = decide (x = bareK x) := by rw [keyR, if_pos (by omega)]
  refine x_seq fun K6 hK6 => ?_
  refine x_region ?_
  refine s_go (m_load_row Tryz.underlying83 (hi := ti83) (hS := hS) (hfit := by (rw [zi_size (by omega)]; rfl))) ?_
  try simp only [opv, nZ, Value.cells, List.getElem_toArray, List.getElem_cons_zero, List.getElem_cons_succ]
  refine s_go (m_load_row Tryz.underlying83 (hi := ti83) (hS := hS) (hfit := by (rw [zi_size (by omega)]; rfl))) ?_
  try simp only [opv, nZ, Value.cells, List.getElem_toArray, List.getElem_cons_zero, List.getElem_cons_succ]
  refine s_go (s_eql_agg eqv83 (hg := eg83) (hX := rfl) (hY := rfl) (h1 := by assumption) (h2 := by assumption)) ?_
  try simp only [opv, nZ, Value.cells]
  refine s_go (s_assign) ?_
  try simp only [opv, nZ, Value.cells]
  refine x_nil ?_
  refine hK6 _ _ ?_
  refine x_ret ?_
  refine r_tmp rfl ?_
  exact ⟨by rw [hR]; rfl, hS.ext_of⟩
 ·
  try simp only [dZ, ne_eq, bne_iff_ne, beq_iff_eq] at hc1
  refine x_seq fun K7 hK7 => ?_
  refine x_region ?_
  refine s_go (s_eql) ?_
  try simp only [opv, nZ, Value.cells]
  refine s_go (s_assign) ?_
  try simp only [opv, nZ, Value.cells]
  refine x_nil ?_
  refine hK7 _ _ ?_
  refine x_cond (ht := fun hc2 => ?_) (hf := fun hc2 => ?_)
  ·
   try simp only [dZ, ne_eq, bne_iff_ne, beq_iff_eq] at hc2
   have hR : keyR x = (decide (kn x 11 ≠ 0) && nright (kitem x) && decide (kn x 10 < 16)) := by rw [keyR, if_neg (by omega), if_pos (by omega)]
   refine x_seq fun K8 hK8 => ?_
   refine x_region ?_
   refine s_go (m_fieldAddr Tryz.underlying83 (hi := ti24)) ?_
   try simp only [opv, nZ, Value.cells, Nat.zero_add, Nat.add_zero, List.getElem_toArray, List.getElem_cons_zero, List.getElem_cons_succ]
   refine s_go (m_load_obj Tryz.underlying24 (hS := hS) (hv := by exact zi_get rfl (by omega))) ?_
   try simp only [opv, nZ, Value.cells, List.getElem_toArray, List.getElem_cons_zero, List.getElem_cons_succ]
   rw [hk.e11]
   refine s_go (s_neq) ?_
   try simp only [opv, nZ, Value.cells]
   refine s_go (s_move) ?_
   try simp only [opv, nZ, Value.cells]
   refine s_part 21 rfl (fun hp1 => ?_) (fun hp1 => ?_)
   ·
    try simp only [n3, n4]
    try simp only [dZ, ne_eq] at hp1
    refine g_on (yi (t := 21) rfl rfl) ?_
    refine s_go (m_fieldAddr Tryz.underlying83 (hi := ti41)) ?_
    try simp only [opv, nZ, Value.cells, Nat.zero_add, Nat.add_zero, List.getElem_toArray, List.getElem_cons_zero, List.getElem_cons_succ]
    refine g_on (yi (t := 21) rfl rfl) ?_
    refine s_go (m_loada_obj Tryz.underlying41 (hi := ti41) (hS := hS) (hfit := by (rw [zi_size (by omega)]; decide))) ?_
    try simp only [opv, nZ, Value.cells, List.getElem_toArray, List.getElem_cons_zero, List.getElem_cons_succ]
    rw [key_item hkl]
    refine g_on (yi (t := 21) rfl rfl) ?_
    refine s_call en72 ?_
    try simp only [opv, nZ, Value.cells, List.map_toArray, List.map_cons, List.map_nil, List.append_toArray, List.cons_append, List.nil_append, Array.append_empty]
    refine CallR.mono (c_nameRight _ hil hib _) ?_
    rintro _ w4 ⟨rfl, hE4⟩
    replace hS := hS.ext hE4
    try simp only [opv, nZ, Value.cells]
    refine s_go (s_pick_t) ?_
    try simp only [opv, nZ, Value.cells]
    refine s_go (s_move) ?_
    try simp only [opv, nZ, Value.cells]
    refine s_part 26 rfl (fun hp2 => ?_) (fun hp2 => ?_)
    ·
     try simp only [n3, n4]
     try simp only [dZ, ne_eq] at hp2
     refine g_on (yi (t := 26) rfl rfl) ?_
     refine s_go (m_fieldAddr Tryz.underlying83 (hi := ti5)) ?_
     try simp only [opv, nZ, Value.cells, Nat.zero_add, Nat.add_zero, List.getElem_toArray, List.getElem_cons_zero, List.getElem_cons_succ]
     refine g_on (yi (t := 26) rfl rfl) ?_
     refine s_go (m_load_obj Tryz.underlying5 (hS := hS) (hv := by exact zi_get rfl (by omega))) ?_
     try simp only [opv, nZ, Value.cells, List.getElem_toArray, List.getElem_cons_zero, List.getElem_cons_succ]
     rw [hk.e10]
     refine g_on (yi (t := 26) rfl rfl) ?_
     refine s_go (s_lss) ?_
     try simp only [opv, nZ, Value.cells]
     refine s_go (s_pick_t) ?_
     try simp only [opv, nZ, Value.cells]
     refine s_go (s_assign) ?_
     try simp only [opv, nZ, Value.cells]
     refine x_nil ?_
     refine hK8 _ _ ?_
     refine x_ret ?_
     refine r_tmp rfl ?_
     exact ⟨congrArg Value.bool (by rw [hR]; exact rgt_c (by omega) (by assumption) (by omega)), hS.ext_of⟩
    ·
     try simp only [n3, n4]
     try simp only [dZ, ne_eq] at hp2
     refine g_off (yi (t := 26) rfl rfl) ?_
     try simp only [opv, nZ, Value.cells]
     refine g_off (yi (t := 26) rfl rfl) ?_
     try simp only [opv, nZ, Value.cells]
     refine g_off (yi (t := 26) rfl rfl) ?_
     try simp only [opv, nZ, Value.cells]
     refine s_go (s_pick_f) ?_
     try simp only [opv, nZ, Value.cells]
     refine s_go (s_assign) ?_
     try simp only [opv, nZ, Value.cells]
     refine x_nil ?_
     refine hK8 _ _ ?_
     refine x_ret ?_
     refine r_tmp rfl ?_
     exact ⟨congrArg Value.bool (by rw [hR]; exact rgt_b (by assumption)), hS.ext_of⟩
   ·
    try simp only [n3, n4]
    try simp only [dZ, ne_eq] at hp1
    refine g_off (yi (t := 21) rfl rfl) ?_
    try simp only [opv, nZ, Value.cells]
    refine g_off (yi (t := 21) rfl rfl) ?_
    try simp only [opv, nZ, Value.cells]
    refine g_off (yi (t := 21) rfl rfl) ?_
    try simp only [opv, nZ, Value.cells]
    refine s_go (s_pick_f) ?_
    try simp only [opv, nZ, Value.cells]
    refine s_go (s_move) ?_
    try simp only [opv, nZ, Value.cells]
    refine g_off (yi (t := 26) rfl rfl) ?_
    try simp only [opv, nZ, Value.cells]
    refine g_off (yi (t := 26) rfl rfl) ?_
    try simp only [opv, nZ, Value.cells]
    refine g_off (yi (t := 26) rfl rfl) ?_
    try simp only [opv, nZ, Value.cells]
    refine s_go (s_pick_f) ?_
    try simp only [opv, nZ, Value.cells]
    refine s_go (s_assign) ?_
    try simp only [opv, nZ, Value.cells]
    refine x_nil ?_
    refine hK8 _ _ ?_
    refine x_ret ?_
    refine r_tmp rfl ?_
    exact ⟨congrArg Value.bool (by rw [hR]; exact rgt_a (by omega)), hS.ext_of⟩
  ·
   try simp only [dZ, ne_eq, bne_iff_ne, beq_iff_eq] at hc2
   refine x_seq fun K9 hK9 => ?_
   refine x_seq fun K10 hK10 => ?_
   refine x_region ?_
   refine s_go (s_eql) ?_
   try simp only [opv, nZ, Value.cells]
   refine s_go (s_assign) ?_
   try simp only [opv, nZ, Value.cells]
   refine x_nil ?_
   refine hK10 _ _ ?_
   refine x_cond (ht := fun hc3 => ?_) (hf := fun hc3 => ?_)
   ·
    try simp only [dZ, ne_eq, bne_iff_ne, beq_iff_eq] at hc3
    try have hR : keyR x = (decide (kn x 11 = 0) && nright (kitem x) && decide (kn x 10 < 16)) := by rw [keyR, if_neg (by omega), if_neg (by omega), if_pos (by omega)]
    refine x_skip ?_
    refine hK9 _ _ ?_
    refine x_cond (ht := fun hc4 => ?_) (hf := fun hc4 => ?_)
    ·
     try simp only [dZ, ne_eq, bne_iff_ne, beq_iff_eq] at hc4
     try have hR : keyR x = (decide (kn x 11 = 0) && nright (kitem x) && decide (kn x 10 < 16)) := by rw [keyR, if_neg (by omega), if_neg (by omega), if_pos (by omega)]
     refine x_seq fun K11 hK11 => ?_
     refine x_region ?_
     refine s_go (m_fieldAddr Tryz.underlying83 (hi := ti24)) ?_
     try simp only [opv, nZ, Value.cells, Nat.zero_add, Nat.add_zero, List.getElem_toArray, List.getElem_cons_zero, List.getElem_cons_succ]
     refine s_go (m_load_obj Tryz.underlying24 (hS := hS) (hv := by exact zi_get rfl (by omega))) ?_
     try simp only [opv, nZ, Value.cells, List.getElem_toArray, List.getElem_cons_zero, List.getElem_cons_succ]
     rw [hk.e11]
     refine s_go (s_eql) ?_
     try simp only [opv, nZ, Value.cells]
     refine s_go (s_move) ?_
     try simp only [opv, nZ, Value.cells]
     refine s_part 37 rfl (fun hp3 => ?_) (fun hp3 => ?_)
     ·
      try simp only [n3, n4]
      try simp only [dZ, ne_eq] at hp3
      refine g_on (yi (t := 37) rfl rfl) ?_
      refine s_go (m_fieldAddr Tryz.underlying83 (hi := ti41)) ?_
      try simp only [opv, nZ, Value.cells, Nat.zero_add, Nat.add_zero, List.getElem_toArray, List.getElem_cons_zero, List.getElem_cons_succ]
      refine g_on (yi (t := 37) rfl rfl) ?_
      refine s_go (m_loada_obj Tryz.underlying41 (hi := ti41) (hS := hS) (hfit := by (rw [zi_size (by omega)]; decide))) ?_
      try simp only [opv, nZ, Value.cells, List.getElem_toArray, List.getElem_cons_zero, List.getElem_cons_succ]
      rw [key_item hkl]
      refine g_on (yi (t := 37) rfl rfl) ?_
      refine s_call en72 ?_
      try simp only [opv, nZ, Value.cells, List.map_toArray, List.map_cons, List.map_nil, List.append_toArray, List.cons_append, List.nil_append, Array.append_empty]
      refine CallR.mono (c_nameRight _ hil hib _) ?_
      rintro _ w5 ⟨rfl, hE5⟩
      replace hS := hS.ext hE5
      try simp only [opv, nZ, Value.cells]
      refine s_go (s_pick_t) ?_
      try simp only [opv, nZ, Value.cells]
      refine s_go (s_move) ?_
      try simp only [opv, nZ, Value.cells]
      refine s_part 42 rfl (fun hp4 => ?_) (fun hp4 => ?_)
      ·
       try simp only [n3, n4]
       try simp only [dZ, ne_eq] at hp4
       refine g_on (yi (t := 42) rfl rfl) ?_
       refine s_go (m_fieldAddr Tryz.underlying83 (hi := ti5)) ?_
       try simp only [opv, nZ, Value.cells, Nat.zero_add, Nat.add_zero, List.getElem_toArray, List.getElem_cons_zero, List.getElem_cons_succ]
       refine g_on (yi (t := 42) rfl rfl) ?_
       refine s_go (m_load_obj Tryz.underlying5 (hS := hS) (hv := by exact zi_get rfl (by omega))) ?_
       try simp only [opv, nZ, Value.cells, List.getElem_toArray, List.getElem_cons_zero, List.getElem_cons_succ]
       rw [hk.e10]
       refine g_on (yi (t := 42) rfl rfl) ?_
       refine s_go (s_lss) ?_
       try simp only [opv, nZ, Value.cells]
       refine s_go (s_pick_t) ?_
       try simp only [opv, nZ, Value.cells]
       refine s_go (s_assign) ?_
       try simp only [opv, nZ, Value.cells]
       refine x_nil ?_
       refine hK11 _ _ ?_
       refine x_ret ?_
       refine r_tmp rfl ?_
       exact ⟨congrArg Value.bool (by rw [hR]; exact rgt_c (by omega) (by assumption) (by omega)), hS.ext_of⟩
      ·
       try simp only [n3, n4]
       try simp only [dZ, ne_eq] at hp4
       refine g_off (yi (t := 42) rfl rfl) ?_
       try simp only [opv, nZ, Value.cells]
       refine g_off (yi (t := 42) rfl rfl) ?_
       try simp only [opv, nZ, Value.cells]
       refine g_off (yi (t := 42) rfl rfl) ?_
       try simp only [opv, nZ, Value.cells]
       refine s_go (s_pick_f) ?_
       try simp only [opv, nZ, Value.cells]
       refine s_go (s_assign) ?_
       try simp only [opv, nZ, Value.cells]
       refine x_nil ?_
       refine hK11 _ _ ?_
       refine x_ret ?_
       refine r_tmp rfl ?_
       exact ⟨congrArg Value.bool (by rw [hR]; exact rgt_b (by assumption)), hS.ext_of⟩
     ·
      try simp only [n3, n4]
      try simp only [dZ, ne_eq] at hp3
      refine g_off (yi (t := 37) rfl rfl) ?_
      try simp only [opv, nZ, Value.cells]
      refine g_off (yi (t := 37) rfl rfl) ?_
      try simp only [opv, nZ, Value.cells]
      refine g_off (yi (t := 37) rfl rfl) ?_
      try simp only [opv, nZ, Value.cells]
      refine s_go (s_pick_f) ?_
      try simp only [opv, nZ, Value.cells]
      refine s_go (s_move) ?_
      try simp only [opv, nZ, Value.cells]
      refine g_off (yi (t := 42) rfl rfl) ?_
      try simp only [opv, nZ, Value.cells]
      refine g_off (yi (t := 42) rfl rfl) ?_
      try simp only [opv, nZ, Value.cells]
      refine g_off (yi (t := 42) rfl rfl) ?_
      try simp only [opv, nZ, Value.cells]
      refine s_go (s_pick_f) ?_
      try simp only [opv, nZ, Value.cells]
      refine s_go (s_assign) ?_
      try simp only [opv, nZ, Value.cells]
      refine x_nil ?_
      refine hK11 _ _ ?_
      refine x_ret ?_
      refine r_tmp rfl ?_
      exact ⟨congrArg Value.bool (by rw [hR]; exact rgt_a (by omega)), hS.ext_of⟩
    ·
     try simp only [dZ, ne_eq, bne_iff_ne, beq_iff_eq] at hc4
     (exfalso; omega)
   ·
    try simp only [dZ, ne_eq, bne_iff_ne, beq_iff_eq] at hc3
    try have hR : keyR x = false := by rw [keyR, if_neg (by omega), if_neg (by omega), if_neg (by omega)]
    refine x_region ?_
    refine s_go (s_eql) ?_
    try simp only [opv, nZ, Value.cells]
    refine s_go (s_assign) ?_
    try simp only [opv, nZ, Value.cells]
    refine x_nil ?_
    refine hK9 _ _ ?_
    refine x_cond (ht := fun hc5 => ?_) (hf := fun hc5 => ?_)
    ·
     try simp only [dZ, ne_eq, bne_iff_ne, beq_iff_eq] at hc5
     try have hR : keyR x = (decide (kn x 11 = 0) && nright (kitem x) && decide (kn x 10 < 16)) := by rw [keyR, if_neg (by omega), if_neg (by omega), if_pos (by omega)]
     refine x_seq fun K13 hK13 => ?_
     refine x_region ?_
     refine s_go (m_fieldAddr Tryz.underlying83 (hi := ti24)) ?_
     try simp only [opv, nZ, Value.cells, Nat.zero_add, Nat.add_zero, List.getElem_toArray, List.getElem_cons_zero, List.getElem_cons_succ]
     refine s_go (m_load_obj Tryz.underlying24 (hS := hS) (hv := by exact zi_get rfl (by omega))) ?_
     try simp only [opv, nZ, Value.cells, List.getElem_toArray, List.getElem_cons_zero, List.getElem_cons_succ]
     rw [hk.e11]
     refine s_go (s_eql) ?_
     try simp only [opv, nZ, Value.cells]
     refine s_go (s_move) ?_
     try simp only [opv, nZ, Value.cells]
     refine s_part 37 rfl (fun hp5 => ?_) (fun hp5 => ?_)
     ·
      try simp only [n3, n4]
      try simp only [dZ, ne_eq] at hp5
      refine g_on (yi (t := 37) rfl rfl) ?_
      refine s_go (m_fieldAddr Tryz.underlying83 (hi := ti41)) ?_
      try simp only [opv, nZ, Value.cells, Nat.zero_add, Nat.add_zero, List.getElem_toArray, List.getElem_cons_zero, List.getElem_cons_succ]
      refine g_on (yi (t := 37) rfl rfl) ?_
      refine s_go (m_loada_obj Tryz.underlying41 (hi := ti41) (hS := hS) (hfit := by (rw [zi_size (by omega)]; decide))) ?_
      try simp only [opv, nZ, Value.cells, List.getElem_toArray, List.getElem_cons_zero, List.getElem_cons_succ]
      rw [key_item hkl]
      refine g_on (yi (t := 37) rfl rfl) ?_
      refine s_call en72 ?_
      try simp only [opv, nZ, Value.cells, List.map_toArray, List.map_cons, List.map_nil, List.append_toArray, List.cons_append, List.nil_append, Array.append_empty]
      refine CallR.mono (c_nameRight _ hil hib _) ?_
      rintro _ w6 ⟨rfl, hE6⟩
      replace hS := hS.ext hE6
      try simp only [opv, nZ, Value.cells]
      refine s_go (s_pick_t) ?_
      try simp only [opv, nZ, Value.cells]
      refine s_go (s_move) ?_
      try simp only [opv, nZ, Value.cells]
      refine s_part 42 rfl (fun hp6 => ?_) (fun hp6 => ?_)
      ·
       try simp only [n3, n4]
       try simp only [dZ, ne_eq] at hp6
       refine g_on (yi (t := 42) rfl rfl) ?_
       refine s_go (m_fieldAddr Tryz.underlying83 (hi := ti5)) ?_
       try simp only [opv, nZ, Value.cells, Nat.zero_add, Nat.add_zero, List.getElem_toArray, List.getElem_cons_zero, List.getElem_cons_succ]
       refine g_on (yi (t := 42) rfl rfl) ?_
       refine s_go (m_load_obj Tryz.underlying5 (hS := hS) (hv := by exact zi_get rfl (by omega))) ?_
       try simp only [opv, nZ, Value.cells, List.getElem_toArray, List.getElem_cons_zero, List.getElem_cons_succ]
       rw [hk.e10]
       refine g_on (yi (t := 42) rfl rfl) ?_
       refine s_go (s_lss) ?_
       try simp only [opv, nZ, Value.cells]
       refine s_go (s_pick_t) ?_
       try simp only [opv, nZ, Value.cells]
       refine s_go (s_assign) ?_
       try simp only [opv, nZ, Value.cells]
       refine x_nil ?_
       refine hK13 _ _ ?_
       refine x_ret ?_
       refine r_tmp rfl ?_
       exact ⟨congrArg Value.bool (by rw [hR]; exact rgt_c (by omega) (by assumption) (by omega)), hS.ext_of⟩
      ·
       try simp only [n3, n4]
       try simp only [dZ, ne_eq] at hp6
       refine g_off (yi (t := 42) rfl rfl) ?_
       try simp only [opv, nZ, Value.cells]
       refine g_off (yi (t := 42) rfl rfl) ?_
       try simp only [opv, nZ, Value.cells]
       refine g_off (yi (t := 42) rfl rfl) ?_
       try simp only [opv, nZ, Value.cells]
       refine s_go (s_pick_f) ?_
       try simp only [opv, nZ, Value.cells]
       refine s_go (s_assign) ?_
       try simp only [opv, nZ, Value.cells]
       refine x_nil ?_
       refine hK13 _ _ ?_
       refine x_ret ?_
       refine r_tmp rfl ?_
       exact ⟨congrArg Value.bool (by rw [hR]; exact rgt_b (by assumption)), hS.ext_of⟩
     ·
      try simp only [n3, n4]
      try simp only [dZ, ne_eq] at hp5
      refine g_off (yi (t := 37) rfl rfl) ?_
      try simp only [opv, nZ, Value.cells]
      refine g_off (yi (t := 37) rfl rfl) ?_
      try simp only [opv, nZ, Value.cells]
      refine g_off (yi (t := 37) rfl rfl) ?_
      try simp only [opv, nZ, Value.cells]
      refine s_go (s_pick_f) ?_
      try simp only [opv, nZ, Value.cells]
      refine s_go (s_move) ?_
      try simp only [opv, nZ, Value.cells]
      refine g_off (yi (t := 42) rfl rfl) ?_
      try simp only [opv, nZ, Value.cells]
      refine g_off (yi (t := 42) rfl rfl) ?_
      try simp only [opv, nZ, Value.cells]
      refine g_off (yi (t := 42) rfl rfl) ?_
      try simp only [opv, nZ, Value.cells]
      refine s_go (s_pick_f) ?_
      try simp only [opv, nZ, Value.cells]
      refine s_go (s_assign) ?_
      try simp only [opv, nZ, Value.cells]
      refine x_nil ?_
      refine hK13 _ _ ?_
      refine x_ret ?_
      refine r_tmp rfl ?_
      exact ⟨congrArg Value.bool (by rw [hR]; exact rgt_a (by omega)), hS.ext_of⟩
    ·
     try simp only [dZ, ne_eq, bne_iff_ne, beq_iff_eq] at hc5
     try have hR : keyR x = false := by rw [keyR, if_neg (by omega), if_neg (by omega), if_neg (by omega)]
     refine x_skip ?_
     refine hK3 _ _ ?_
     refine x_seq fun K14 hK14 => ?_
     refine x_region ?_
     refine s_go (s_assign) ?_
     try simp only [opv, nZ, Value.cells]
     refine x_nil ?_
     refine hK14 _ _ ?_
     refine x_ret ?_
     refine r_tmp rfl ?_
     exact ⟨by rw [hR]; rfl, hS.ext_of⟩
end Go.Proofs.YtffmanidnlbjjaaGreat
set_option linter.unusedSimpArgs false
set_option linter.unusedVariables false
set_option maxHeartbeats 800000
set_option maxRecDepth 100000
namespace Go.Proofs.YtffmanidnlbjjaaGreat
open Go.RowKit
theorem c_keyWrite (w0 : World) (g : Nat) (A : Option Addr) (c : Nat) (xs : List Int) (hx : xs.length ≤ 10000000) (y : List Int) (hy : KeyOk y) (hM : St (OwnB [.obj g (.cells #[.slice A xs.length c] 201 (0, 0)), .vec A c 5 1 xs.length (xs.map (Value.int .u8))]) w0 w0 [.obj g (.cells #[.slice A xs.length c] 201 (0, 0)), .vec A c 5 1 xs.length (xs.map (Value.int .u8))]) :
    CallR Tryz.prog 162 #[.pointer (some ⟨g, 0, none⟩), .agg (KA y)] w0 fun v w' => v = .tuple #[] ∧ WrSt w0 w' [.obj g (.cells #[.slice A xs.length c] 201 (0, 0)), .vec A c 5 1 xs.length (xs.map (Value.int .u8))] g (xs ++ keyOut y) [] := by
 have hS := hM
 refine c_enter (l := [.pointer (some ⟨g, 0, none⟩), .agg (KA y), undef, undef, undef, undef, undef, undef, undef, undef, undef, undef, undef, undef, undef, undef, undef, undef, undef, undef, undef, undef, undef, undef, undef, undef, undef, undef, undef, undef, undef, undef]) Tryz.func162 rfl (by simp only [Tryz.ntmps162, List.size_toArray, List.length_cons, List.length_nil, Nat.reduceAdd, Nat.reduceSub, Array.replicate_succ, Array.replicate_zero, List.push_toArray, List.append_toArray, List.nil_append, List.cons_append]) ?_
 refine x_seq fun K1 hK1 => ?_
 refine x_region ?_
 have hyl := hy.len
 have hb0 := hy.b0
 have hb1 := hy.b1
 have hb10 := hy.b10
 have hb11 := hy.b11
 have hil := kitem_len hy.len
 have hib := hy.item
 have hv1 := vari_len10 (x := kn y 1) (by omega)
 have hno := nmOut_len (kitem y)
 have hns := nsz_le (kitem y)
 refine m_box hS (fun w1 g1 hS => ?_)
 try simp only [opv, nZ, Value.cells, Array.toArray_toList] at hS ⊢
 refine x_nil ?_
 refine hK1 _ _ ?_
 refine x_seq fun K2 hK2 => ?_
 refine x_region ?_
 refine s_go (s_move) ?_
 try simp only [opv, nZ, Value.cells]
 refine s_go (m_fieldAddr Tryz.underlying83 (hi := ti5)) ?_
 try simp only [opv, nZ, Value.cells, Nat.zero_add, Nat.add_zero, List.getElem_toArray, List.getElem_cons_zero, List.getElem_cons_succ]
 refine s_go (m_load_obj Tryz.underlying5 (hS := hS) (hv := by exact zi_get rfl (by omega))) ?_
 try simp only [opv, nZ, Value.cells, List.getElem_toArray, List.getElem_cons_zero, List.getElem_cons_succ]
 rw [hy.e0]
 refine s_call en163 ?_
 try simp only [opv, nZ, Value.cells, List.map_toArray, List.map_cons, List.map_nil, List.append_toArray, List.cons_append, List.nil_append, Array.append_empty]
 refine CallR.mono (c_wbyte _ g A c xs (by omega) _ (hS.owns (by repeat (first | exact Spl.nil | (apply Spl.cons (by repeat (first | exact Del.head | apply Del.tail))))))) ?_
 rintro _ w2 ⟨rfl, A2, c2, hC2⟩
 replace hS := hS.frame (by repeat (first | exact Spl.nil | (apply Spl.cons (by repeat (first | exact Del.head | apply Del.tail))))) hC2 (by intro r hr g hg; simp only [List.mem_cons, List.not_mem_nil, or_false] at hr; rcases hr with rfl | rfl | rfl <;> (simp [Res.reads] at hg; done))
 simp only [List.cons_append, List.nil_append] at hS
 try simp only [opv, nZ, Value.cells]
 refine x_nil ?_
 refine hK2 _ _ ?_
 refine x_seq fun K3 hK3 => ?_
 refine x_region ?_
 refine s_go (s_move) ?_
 try simp only [opv, nZ, Value.cells]
 refine s_go (m_fieldAddr Tryz.underlying83 (hi := ti39)) ?_
 try simp only [opv, nZ, Value.cells, Nat.zero_add, Nat.add_zero, List.getElem_toArray, List.getElem_cons_zero, List.getElem_cons_succ]
 refine s_go (m_load_obj Tryz.underlying39 (hS := hS) (hv := by exact zi_get rfl (by omega))) ?_
 try simp only [opv, nZ, Value.cells, List.getElem_toArray, List.getElem_cons_zero, List.getElem_cons_succ]
 rw [hy.e1]
 refine s_go (s_conv Tryz.underlying39 Tryz.underlying84 (hc := by exact wr_u64 (by omega) (by omega))) ?_
 try simp only [opv, nZ, Value.cells]
 refine s_call en95 ?_
 try simp only [opv, nZ, Value.cells, List.map_toArray, List.map_cons, List.map_nil, List.append_toArray, List.cons_append, List.nil_append, Array.append_empty]
 refine CallR.mono (c_wnum _ g _ _ (xs ++ [(kn y 0 : Int)]) (by simp only [List.length_append, List.length_cons, List.length_nil]; omega) (kn y 1) (by omega) (hS.owns (by repeat (first | exact Spl.nil | (apply Spl.cons (by repeat (exact Del.head))))))) ?_
 rintro _ w3 ⟨rfl, A3, c3, hC3⟩
 replace hS := hS.frame (by repeat (first | exact Spl.nil | (apply Spl.cons (by repeat (exact Del.head))))) hC3 (by intro r hr g hg; simp only [List.mem_cons, List.not_mem_nil, or_false] at hr; rcases hr with rfl | rfl | rfl <;> (simp [Res.reads] at hg; done))
 simp only [List.cons_append, List.nil_append] at hS
 try simp only [opv, nZ, Value.cells]
 refine x_nil ?_
 refine hK3 _ _ ?_
 refine x_seq fun K4 hK4 => ?_
 refine x_seq fun K5 hK5 => ?_
 refine x_region ?_
 refine s_go (m_fieldAddr Tryz.underlying83 (hi := ti5)) ?_
 try simp only [opv, nZ, Value.cells, Nat.zero_add, Nat.add_zero, List.getElem_toArray, List.getElem_cons_zero, List.getElem_cons_succ]
 refine s_go (m_load_obj Tryz.underlying5 (hS := hS) (hv := by exact zi_get rfl (by omega))) ?_
 try simp only [opv, nZ, Value.cells, List.getElem_toArray, List.getElem_cons_zero, List.getElem_cons_succ]
 rw [hy.e0]
 refine s_go (s_eql) ?_
 try simp only [opv, nZ, Value.cells]
 refine x_nil ?_
 refine hK5 _ _ ?_
 refine x_cond (ht := fun hc1 => ?_) (hf := fun hc1 => ?_)
 ·
  try simp only [dZ, ne_eq, bne_iff_ne, beq_iff_eq] at hc1
  have hO : xs ++ keyOut y = xs ++ [(kn y 0 : Int)] ++ vari (kn y 1) := by simp [keyOut, show kn y 0 = 4 by omega]
  refine x_ret ?_
  refine r_none rfl ?_
  rw [← hO] at hS
  exact ⟨rfl, _, _, hS.sel (by repeat (first | exact Sel.nil | (refine Sel.cons (by repeat (exact Del.head)) ?_)))⟩
 ·
  try simp only [dZ, ne_eq, bne_iff_ne, beq_iff_eq] at hc1
  refine x_skip ?_
  refine hK4 _ _ ?_
  refine x_seq fun K6 hK6 => ?_
  refine x_region ?_
  refine s_go (s_move) ?_
  try simp only [opv, nZ, Value.cells]
  refine s_go (m_fieldAddr Tryz.underlying83 (hi := ti41)) ?_
  try simp only [opv, nZ, Value.cells, Nat.zero_add, Nat.add_zero, List.getElem_toArray, List.getElem_cons_zero, List.getElem_cons_succ]
  refine s_go (m_loada_obj Tryz.underlying41 (hi := ti41) (hS := hS) (hfit := by (rw [zi_size (by omega)]; decide))) ?_
  try simp only [opv, nZ, Value.cells, List.getElem_toArray, List.getElem_cons_zero, List.getElem_cons_succ]
  rw [key_item hyl]
  refine s_call en164 ?_
  try simp only [opv, nZ, Value.cells, List.map_toArray, List.map_cons, List.map_nil, List.append_toArray, List.cons_append, List.nil_append, Array.append_empty]
  refine CallR.mono (c_wname _ g _ _ (xs ++ [(kn y 0 : Int)] ++ vari (kn y 1)) (by simp only [List.length_append, List.length_cons, List.length_nil]; omega) (kitem y) hil hib (hS.owns (by repeat (first | exact Spl.nil | (apply Spl.cons (by repeat (exact Del.head))))))) ?_
  rintro _ w4 ⟨rfl, A4, c4, hC4⟩
  replace hS := hS.frame (by repeat (first | exact Spl.nil | (apply Spl.cons (by repeat (exact Del.head))))) hC4 (by intro r hr g hg; simp only [List.mem_cons, List.not_mem_nil, or_false] at hr; rcases hr with rfl | rfl | rfl <;> (simp [Res.reads] at hg; done))
  simp only [List.cons_append, List.nil_append] at hS
  try simp only [opv, nZ, Value.cells]
  refine x_nil ?_
  refine hK6 _ _ ?_
  refine x_seq fun K7 hK7 => ?_
  refine x_region ?_
  refine s_go (s_move) ?_
  try simp only [opv, nZ, Value.cells]
  refine s_go (m_fieldAddr Tryz.underlying83 (hi := ti5)) ?_
  try simp only [opv, nZ, Value.cells, Nat.zero_add, Nat.add_zero, List.getElem_toArray, List.getElem_cons_zero, List.getElem_cons_succ]
  refine s_go (m_load_obj Tryz.underlying5 (hS := hS) (hv := by exact zi_get rfl (by omega))) ?_
  try simp only [opv, nZ, Value.cells, List.getElem_toArray, List.getElem_cons_zero, List.getElem_cons_succ]
  rw [hy.e10]
  refine s_call en163 ?_
  try simp only [opv, nZ, Value.cells, List.map_toArray, List.map_cons, List.map_nil, List.append_toArray, List.cons_append, List.nil_append, Array.append_empty]
  refine CallR.mono (c_wbyte _ g _ _ (xs ++ [(kn y 0 : Int)] ++ vari (kn y 1) ++ nmOut (kitem y)) (by simp only [List.length_append, List.length_cons, List.length_nil]; omega) _ (hS.owns (by repeat (first | exact Spl.nil | (apply Spl.cons (by repeat (exact Del.head))))))) ?_
  rintro _ w5 ⟨rfl, A5, c5, hC5⟩
  replace hS := hS.frame (by repeat (first | exact Spl.nil | (apply Spl.cons (by repeat (exact Del.head))))) hC5 (by intro r hr g hg; simp only [List.mem_cons, List.not_mem_nil, or_false] at hr; rcases hr with rfl | rfl | rfl <;> (simp [Res.reads] at hg; done))
  simp only [List.cons_append, List.nil_append] at hS
  try simp only [opv, nZ, Value.cells]
  refine x_nil ?_
  refine hK7 _ _ ?_
  refine x_seq fun K8 hK8 => ?_
  refine x_region ?_
  refine s_go (m_fieldAddr Tryz.underlying83 (hi := ti5)) ?_
  try simp only [opv, nZ, Value.cells, Nat.zero_add, Nat.add_zero, List.getElem_toArray, List.getElem_cons_zero, List.getElem_cons_succ]
  refine s_go (m_load_obj Tryz.underlying5 (hS := hS) (hv := by exact zi_get rfl (by omega))) ?_
  try simp only [opv, nZ, Value.cells, List.getElem_toArray, List.getElem_cons_zero, List.getElem_cons_succ]
  rw [hy.e0]
  refine s_go (s_eql) ?_
  try simp only [opv, nZ, Value.cells]
  refine x_nil ?_
  refine hK8 _ _ ?_
  refine x_cond (ht := fun hc2 => ?_) (hf := fun hc2 => ?_)
  ·
   try simp only [dZ, ne_eq, bne_iff_ne, beq_iff_eq] at hc2
   have hO : xs ++ keyOut y = xs ++ [(kn y 0 : Int)] ++ vari (kn y 1) ++ nmOut (kitem y) ++ [(kn y 10 : Int)] ++ vari (kn y 11) := by simp [keyOut, show kn y 0 = 1 by omega]
   refine x_region ?_
   refine s_go (s_move) ?_
   try simp only [opv, nZ, Value.cells]
   refine s_go (m_fieldAddr Tryz.underlying83 (hi := ti24)) ?_
   try simp only [opv, nZ, Value.cells, Nat.zero_add, Nat.add_zero, List.getElem_toArray, List.getElem_cons_zero, List.getElem_cons_succ]
   refine s_go (m_load_obj Tryz.underlying24 (hS := hS) (hv := by exact zi_get rfl (by omega))) ?_
   try simp only [opv, nZ, Value.cells, List.getElem_toArray, List.getElem_cons_zero, List.getElem_cons_succ]
   rw [hy.e11]
   refine s_go (s_conv Tryz.underlying24 Tryz.underlying84 (hc := by exact wr_u64 (by omega) (by omega))) ?_
   try simp only [opv, nZ, Value.cells]
   refine s_call en95 ?_
   try simp only [opv, nZ, Value.cells, List.map_toArray, List.map_cons, List.map_nil, List.append_toArray, List.cons_append, List.nil_append, Array.append_empty]
   refine CallR.mono (c_wnum _ g _ _ (xs ++ [(kn y 0 : Int)] ++ vari (kn y 1) ++ nmOut (kitem y) ++ [(kn y 10 : Int)]) (by simp only [List.length_append, List.length_cons, List.length_nil]; omega) (kn y 11) (by omega) (hS.owns (by repeat (first | exact Spl.nil | (apply Spl.cons (by repeat (exact Del.head))))))) ?_
   rintro _ w6 ⟨rfl, A6, c6, hC6⟩
   replace hS := hS.frame (by repeat (first | exact Spl.nil | (apply Spl.cons (by repeat (exact Del.head))))) hC6 (by intro r hr g hg; simp only [List.mem_cons, List.not_mem_nil, or_false] at hr; rcases hr with rfl | rfl | rfl <;> (simp [Res.reads] at hg; done))
   simp only [List.cons_append, List.nil_append] at hS
   try simp only [opv, nZ, Value.cells]
   refine x_nil ?_
   refine r_none rfl ?_
   rw [← hO] at hS
   exact ⟨rfl, _, _, hS.sel (by repeat (first | exact Sel.nil | (refine Sel.cons (by repeat (exact Del.head)) ?_)))⟩
  ·
   try simp only [dZ, ne_eq, bne_iff_ne, beq_iff_eq] at hc2
   have hO : xs ++ keyOut y = xs ++ [(kn y 0 : Int)] ++ vari (kn y 1) ++ nmOut (kitem y) ++ [(kn y 10 : Int)] := by simp [keyOut, show ¬ kn y 0 = 4 by omega, show ¬ kn y 0 = 1 by omega]
   refine x_skip ?_
   refine r_none rfl ?_
   rw [← hO] at hS
   exact ⟨rfl, _, _, hS.sel (by repeat (first | exact Sel.nil | (refine Sel.cons (by repeat (exact Del.head)) ?_)))⟩
end Go.Proofs.YtffmanidnlbjjaaGreat
set_option linter.unusedSimpArgs false
set_option linter.unusedVariables false
set_option maxHeartbeats 2000000
set_option maxRecDepth 100000
namespace Go.Proofs.YtffmanidnlbjjaaGreat
open Go.RowKit

theorem errE_of {e x : Int} (h : e = 0) : errE e x = x := if_pos h
theorem errX_of {e x : Int} {xs : List Int} (h : e = 0) (h2 : ¬ x = 0) : errX e x xs = [] := by rw [errX, errE_of h, if_neg h2]
theorem c_cErr2 {w0 : World} {g : Nat} {e : Int} {A : Option Addr} {c : Nat} {xs : List Int} (hM : St (OwnB [.obj g (.cells #[.int .i64 e, .slice A xs.length c] 189 (0, 0)), .rd A 1 xs.length (xs.map (Value.int .u8))]) w0 w0 [.obj g (.cells #[.int .i64 e, .slice A xs.length c] 189 (0, 0)), .rd A 1 xs.length (xs.map (Value.int .u8))]) (hc : xs.length ≤ c) : CallR Tryz.prog 150 #[.pointer (some ⟨g, 0, none⟩)] w0 fun v w' => v = .int .i64 e ∧ St (OwnB [.obj g (.cells #[.int .i64 e, .slice A xs.length c] 189 (0, 0)), .rd A 1 xs.length (xs.map (Value.int .u8))]) w0 w' [.obj g (.cells #[.int .i64 e, .slice A xs.length c] 189 (0, 0)), .rd A 1 xs.length (xs.map (Value.int .u8))] := c_cErr w0 g e A c xs hc hM

theorem c_keyRead1 (b : Int) (hb : 0 ≤ b ∧ b ≤ 255)  (w0 : World) :
    CallR Tryz.prog 217 #[.int .u8 b] w0 fun v w' => v = .bool (decide (1 ≤ b ∧ b ≤ 4)) ∧ Ext w0 w' := by
 have hS : St NoB w0 w0 [] := St.start w0
 refine c_enter (l := [.int .u8 b, undef, undef, undef, undef, undef, undef, undef, undef]) Tryz.func217 rfl (by simp only [Tryz.ntmps217, List.size_toArray, List.length_cons, List.length_nil, Nat.reduceAdd, Nat.reduceSub, Array.replicate_succ, Array.replicate_zero, List.push_toArray, List.append_toArray, List.nil_append, List.cons_append]) ?_
 refine x_seq fun K1 hK1 => ?_
 refine x_region ?_
 refine s_go (s_assign) ?_
 try simp only [opv, nZ, Value.cells]
 refine x_nil ?_
 refine hK1 _ _ ?_
 refine x_seq fun K2 hK2 => ?_
 refine x_region ?_
 refine s_go (s_move) ?_
 try simp only [opv, nZ, Value.cells]
 refine s_go (s_geq) ?_
 try simp only [opv, nZ, Value.cells]
 refine s_go (s_move) ?_
 try simp only [opv, nZ, Value.cells]
 refine s_part 5 rfl (fun hp1 => ?_) (fun hp1 => ?_)
 ·
  try simp only [n3, n4]
  try simp only [dZ, ne_eq] at hp1
  refine g_on (yi (t := 5) rfl rfl) ?_
  refine s_go (s_move) ?_
  try simp only [opv, nZ, Value.cells]
  refine g_on (yi (t := 5) rfl rfl) ?_
  refine s_go (s_leq) ?_
  try simp only [opv, nZ, Value.cells]
  refine s_go (s_pick_t) ?_
  try simp only [opv, nZ, Value.cells]
  refine s_go (s_assign) ?_
  try simp only [opv, nZ, Value.cells]
  refine x_nil ?_
  refine hK2 _ _ ?_
  refine x_ret ?_
  refine r_tmp rfl ?_
  exact ⟨congrArg Value.bool (by (simp [*]; done)), hS.ext_of⟩
 ·
  try simp only [n3, n4]
  try simp only [dZ, ne_eq] at hp1
  refine g_off (yi (t := 5) rfl rfl) ?_
  try simp only [opv, nZ, Value.cells]
  refine g_off (yi (t := 5) rfl rfl) ?_
  try simp only [opv, nZ, Value.cells]
  refine s_go (s_pick_f) ?_
  try simp only [opv, nZ, Value.cells]
  refine s_go (s_assign) ?_
  try simp only [opv, nZ, Value.cells]
  refine x_nil ?_
  refine hK2 _ _ ?_
  refine x_ret ?_
  refine r_tmp rfl ?_
  exact ⟨congrArg Value.bool (by (simp; omega)), hS.ext_of⟩
theorem c_keyRead2 (b : Int) (hb : 0 ≤ b ∧ b ≤ 255)  (w0 : World) :
    CallR Tryz.prog 220 #[.int .u8 b] w0 fun v w' => v = .bool (decide (b < 16)) ∧ Ext w0 w' := by
 have hS : St NoB w0 w0 [] := St.start w0
 refine c_enter (l := [.int .u8 b, undef, undef, undef, undef]) Tryz.func220 rfl (by simp only [Tryz.ntmps220, List.size_toArray, List.length_cons, List.length_nil, Nat.reduceAdd, Nat.reduceSub, Array.replicate_succ, Array.replicate_zero, List.push_toArray, List.append_toArray, List.nil_append, List.cons_append]) ?_
 refine x_seq fun K1 hK1 => ?_
 refine x_region ?_
 refine s_go (s_assign) ?_
 try simp only [opv, nZ, Value.cells]
 refine x_nil ?_
 refine hK1 _ _ ?_
 refine x_seq fun K2 hK2 => ?_
 refine x_region ?_
 refine s_go (s_move) ?_
 try simp only [opv, nZ, Value.cells]
 refine s_go (s_lss) ?_
 try simp only [opv, nZ, Value.cells]
 refine s_go (s_assign) ?_
 try simp only [opv, nZ, Value.cells]
 refine x_nil ?_
 refine hK2 _ _ ?_
 refine x_ret ?_
 refine r_tmp rfl ?_
 exact ⟨rfl, hS.ext_of⟩
theorem c_keyRead4 (x : Nat)  (w0 : World) :
    CallR Tryz.prog 223 #[.int .u64 (x : Int)] w0 fun v w' => v = .bool (!decide (x = 0)) ∧ Ext w0 w' := by
 have hS : St NoB w0 w0 [] := St.start w0
 refine c_enter (l := [.int .u64 (x : Int), undef, undef, undef, undef]) Tryz.func223 rfl (by simp only [Tryz.ntmps223, List.size_toArray, List.length_cons, List.length_nil, Nat.reduceAdd, Nat.reduceSub, Array.replicate_succ, Array.replicate_zero, List.push_toArray, List.append_toArray, List.nil_append, List.cons_append]) ?_
 refine x_seq fun K1 hK1 => ?_
 refine x_region ?_
 refine s_go (s_assign) ?_
 try simp only [opv, nZ, Value.cells]
 refine x_nil ?_
 refine hK1 _ _ ?_
 refine x_seq fun K2 hK2 => ?_
 refine x_region ?_
 refine s_go (s_move) ?_
 try simp only [opv, nZ, Value.cells]
 refine s_go (s_gtr) ?_
 try simp only [opv, nZ, Value.cells]
 refine s_go (s_assign) ?_
 try simp only [opv, nZ, Value.cells]
 refine x_nil ?_
 refine hK2 _ _ ?_
 refine x_ret ?_
 refine r_tmp rfl ?_
 exact ⟨congrArg Value.bool (by rw [Bool.eq_iff_iff]; simp; omega), hS.ext_of⟩
theorem c_keyRead3 (w0 : World) (g : Nat) (e : Int) (A : Option Addr) (c : Nat) (xs : List Int) (hc : xs.length ≤ c) (hw : Byt xs) (hn : xs.length ≤ 1000000000) (b : Nat) (hM : St (OwnB [.obj g (.cells #[.int .i64 e, .slice A xs.length c] 189 (0, 0)), .rd A 1 xs.length (xs.map (Value.int .u8)), .obj b (.cells #[.pointer (some ⟨g, 0, none⟩)] 130 (0, 0))]) w0 w0 [.obj g (.cells #[.int .i64 e, .slice A xs.length c] 189 (0, 0)), .rd A 1 xs.length (xs.map (Value.int .u8)), .obj b (.cells #[.pointer (some ⟨g, 0, none⟩)] 130 (0, 0))]) :
    CallR Tryz.prog 222 #[.pointer (some ⟨b, 0, none⟩)] w0 fun v w' => v = .int .u64 ((numS 4294967295 e xs).1 : Int) ∧ CuSt w0 w' [.obj g (.cells #[.int .i64 e, .slice A xs.length c] 189 (0, 0)), .rd A 1 xs.length (xs.map (Value.int .u8)), .obj b (.cells #[.pointer (some ⟨g, 0, none⟩)] 130 (0, 0))] g (numS 4294967295 e xs).2.1 (numS 4294967295 e xs).2.2 [.obj b (.cells #[.pointer (some ⟨g, 0, none⟩)] 130 (0, 0))] := by
 have hS := hM
 refine c_enter (l := [.pointer (some ⟨b, 0, none⟩), undef, undef, undef]) Tryz.func222 rfl (by simp only [Tryz.ntmps222, List.size_toArray, List.length_cons, List.length_nil, Nat.reduceAdd, Nat.reduceSub, Array.replicate_succ, Array.replicate_zero, List.push_toArray, List.append_toArray, List.nil_append, List.cons_append]) ?_
 refine x_seq fun K1 hK1 => ?_
 refine x_region ?_
 refine s_go (s_assign) ?_
 try simp only [opv, nZ, Value.cells]
 refine x_nil ?_
 refine hK1 _ _ ?_
 refine x_seq fun K2 hK2 => ?_
 refine x_region ?_
 refine s_go (m_load_obj Tryz.underlying130 (hS := hS)) ?_
 try simp only [opv, nZ, Value.cells, List.getElem_toArray, List.getElem_cons_zero, List.getElem_cons_succ]
 refine s_call en87 ?_
 try simp only [opv, nZ, Value.cells, List.map_toArray, List.map_cons, List.map_nil, List.append_toArray, List.cons_append, List.nil_append, Array.append_empty]
 refine CallR.mono (c_cNum _ g e A c xs hc hw hn 4294967295 (by omega) (hS.owns (by repeat (first | exact Spl.nil | (apply Spl.cons (by repeat (exact Del.head))))))) ?_
 rintro _ w1 ⟨rfl, A1, c1, hcp1, hR1, hC1⟩
 have hY1 := RdIn.trans hM hS (by repeat (first | exact Spl.nil | (apply Spl.cons (by repeat (exact Del.head))))) hR1 (by intro s hs q hb; simp only [List.mem_cons, List.not_mem_nil, or_false] at hs; rcases hs with rfl | rfl <;> first | (simp [Res.reads] at hb; done) | exact .inr ⟨_, List.mem_cons_of_mem _ (List.mem_cons_self ..), .inr hb⟩)
 replace hS := hS.frame (by repeat (first | exact Spl.nil | (apply Spl.cons (by repeat (exact Del.head))))) hC1 (by intro r hr b hb; simp only [List.mem_cons, List.not_mem_nil, or_false] at hr; rcases hr with rfl | rfl <;> first | (simp [Res.reads] at hb; done) | exact hR1 b hb)
 replace hR1 := hY1
 simp only [List.cons_append, List.nil_append] at hS
 try simp only [opv, nZ, Value.cells]
 refine s_go (s_assign) ?_
 try simp only [opv, nZ, Value.cells]
 refine x_nil ?_
 refine hK2 _ _ ?_
 refine x_ret ?_
 refine r_tmp rfl ?_
 exact ⟨rfl, _, _, by assumption, by assumption, hS.sel (by repeat (first | exact Sel.nil | (refine Sel.cons (by repeat (exact Del.head)) ?_)))⟩
theorem c_askB (w0 : World) (g : Nat) (e : Int) (A : Option Addr) (c : Nat) (xs : List Int) (hc : xs.length ≤ c) (hw : Byt xs) (hn : xs.length ≤ 1000000000) (q : Int → Bool) (f : FuncId) (he : Enters Tryz.prog f) (H : ∀ (w : World) (b : Int), 0 ≤ b ∧ b ≤ 255 → CallR Tryz.prog f #[.int .u8 b] w fun v w' => v = .bool (q b) ∧ Ext w w') (e2 : Int) (he2 : ¬ e2 = 0) (hM : St (OwnB [.obj g (.cells #[.int .i64 e, .slice A xs.length c] 189 (0, 0)), .rd A 1 xs.length (xs.map (Value.int .u8))]) w0 w0 [.obj g (.cells #[.int .i64 e, .slice A xs.length c] 189 (0, 0)), .rd A 1 xs.length (xs.map (Value.int .u8))]) :
    CallR Tryz.prog 215 #[.pointer (some ⟨g, 0, none⟩), .func (.func 216) #[.pointer (some ⟨g, 0, none⟩)] #[], .func (.func f) #[] #[], .int .i64 e2] w0 fun v w' => v = .tuple #[.int .u8 (oneS e xs).1, .bool (decide ((askS (!q (oneS e xs).1) e2 (oneS e xs).2).1 = 0))] ∧ CuSt w0 w' [.obj g (.cells #[.int .i64 e, .slice A xs.length c] 189 (0, 0)), .rd A 1 xs.length (xs.map (Value.int .u8))] g (askS (!q (oneS e xs).1) e2 (oneS e xs).2).1 (askS (!q (oneS e xs).1) e2 (oneS e xs).2).2 [] := by
 have hS := hM
 have hov := oneS_val (e := e) hw
 refine c_enter (l := [.pointer (some ⟨g, 0, none⟩), .func (.func 216) #[.pointer (some ⟨g, 0, none⟩)] #[], .func (.func f) #[] #[], .int .i64 e2, undef, undef, undef, undef, undef, undef, undef, undef, undef, undef, undef, undef, undef, undef, undef, undef, undef, undef, undef, undef, undef, undef, undef, undef, undef]) Tryz.func215 rfl (by simp only [Tryz.ntmps215, List.size_toArray, List.length_cons, List.length_nil, Nat.reduceAdd, Nat.reduceSub, Array.replicate_succ, Array.replicate_zero, List.push_toArray, List.append_toArray, List.nil_append, List.cons_append]) ?_
 refine x_seq fun K1 hK1 => ?_
 refine x_region ?_
 refine s_go (s_assign) ?_
 try simp only [opv, nZ, Value.cells]
 refine s_go (s_assign) ?_
 try simp only [opv, nZ, Value.cells]
 refine x_nil ?_
 refine hK1 _ _ ?_
 refine x_seq fun K2 hK2 => ?_
 refine x_region ?_
 refine s_go (s_move) ?_
 try simp only [opv, nZ, Value.cells]
 refine s_callm (hv := rfl) en216 ?_
 try simp only [opv, nZ, Value.cells, List.map_toArray, List.map_cons, List.map_nil, List.append_toArray, List.cons_append, List.nil_append, Array.append_empty]
 refine CallR.mono (c_cByte _ g e A c xs hc hw hn (hS.owns (by repeat (first | exact Spl.nil | (apply Spl.cons (by repeat (exact Del.head))))))) ?_
 rintro _ w1 ⟨rfl, Aa, ca, hcpa, hRa, hCa⟩
 have hYa := RdIn.trans hM hS (by repeat (first | exact Spl.nil | (apply Spl.cons (by repeat (exact Del.head))))) hRa (by intro s hs q hb; simp only [List.mem_cons, List.not_mem_nil, or_false] at hs; rcases hs with rfl | rfl <;> first | (simp [Res.reads] at hb; done) | exact .inr ⟨_, List.mem_cons_of_mem _ (List.mem_cons_self ..), .inr hb⟩)
 replace hS := hS.frame (by repeat (first | exact Spl.nil | (apply Spl.cons (by repeat (exact Del.head))))) hCa (by intro r hr b hb; simp only [List.mem_cons, List.not_mem_nil, or_false] at hr; rcases hr with rfl | rfl <;> first | (simp [Res.reads] at hb; done) | exact hRa b hb)
 replace hRa := hYa
 simp only [List.cons_append, List.nil_append] at hS
 try simp only [opv, nZ, Value.cells]
 refine s_go (s_assign) ?_
 try simp only [opv, nZ, Value.cells]
 refine x_nil ?_
 refine hK2 _ _ ?_
 refine x_seq fun K3 hK3 => ?_
 refine x_seq fun K4 hK4 => ?_
 refine x_region ?_
 refine s_go (s_move) ?_
 try simp only [opv, nZ, Value.cells]
 refine s_call en150 ?_
 try simp only [opv, nZ, Value.cells, List.map_toArray, List.map_cons, List.map_nil, List.append_toArray, List.cons_append, List.nil_append, Array.append_empty]
 refine CallR.mono (c_cErr _ g ((oneS e xs).2.1) Aa ca ((oneS e xs).2.2) hcpa (hS.owns (by repeat (first | exact Spl.nil | (apply Spl.cons (by repeat (exact Del.head))))))) ?_
 rintro _ w2 ⟨rfl, hC2⟩
 replace hS := hS.frame (by repeat (first | exact Spl.nil | (apply Spl.cons (by repeat (exact Del.head))))) hC2 (by intro r hr g hg; simp only [List.mem_cons, List.not_mem_nil, or_false] at hr; rcases hr with rfl | rfl | rfl <;> first | (simp [Res.reads] at hg; done) | exact .inr ⟨_, by simp, .inr hg⟩)
 simp only [List.cons_append, List.nil_append] at hS
 try simp only [opv, nZ, Value.cells]
 refine s_go (s_eql) ?_
 try simp only [opv, nZ, Value.cells]
 refine s_go (s_move) ?_
 try simp only [opv, nZ, Value.cells]
 refine s_part 16 rfl (fun hp1 => ?_) (fun hp1 => ?_)
 ·
  try simp only [n3, n4]
  try simp only [dZ, ne_eq] at hp1
  have hE : (oneS e xs).2.1 = 0 := by simpa using hp1
  refine g_on (yi (t := 16) rfl rfl) ?_
  refine s_go (s_move) ?_
  try simp only [opv, nZ, Value.cells]
  refine g_on (yi (t := 16) rfl rfl) ?_
  refine s_go (s_move) ?_
  try simp only [opv, nZ, Value.cells]
  refine g_on (yi (t := 16) rfl rfl) ?_
  refine s_callv (hv := rfl) he ?_
  try simp only [opv, nZ, Value.cells, List.map_toArray, List.map_cons, List.map_nil, List.append_toArray, List.cons_append, List.nil_append, Array.append_empty]
  refine CallR.mono (H _ _ hov) ?_
  rintro _ w3 ⟨rfl, hE3⟩
  replace hS := hS.ext hE3
  try simp only [opv, nZ, Value.cells]
  refine g_on (yi (t := 16) rfl rfl) ?_
  refine s_go (s_not) ?_
  try simp only [opv, nZ, Value.cells]
  refine s_go (s_pick_t) ?_
  try simp only [opv, nZ, Value.cells]
  refine x_nil ?_
  refine hK4 _ _ ?_
  refine x_cond (ht := fun hc1 => ?_) (hf := fun hc1 => ?_)
  ·
   try simp only [dZ, ne_eq, bne_iff_ne, beq_iff_eq] at hc1
   have hz := askS_bad (b := !q (oneS e xs).1) (w := e2) hE (by simpa using hc1)
   refine x_region ?_
   refine s_go (s_move) ?_
   try simp only [opv, nZ, Value.cells]
   refine s_go (s_move) ?_
   try simp only [opv, nZ, Value.cells]
   refine s_call en88 ?_
   try simp only [opv, nZ, Value.cells, List.map_toArray, List.map_cons, List.map_nil, List.append_toArray, List.cons_append, List.nil_append, Array.append_empty]
   refine CallR.mono (c_cFail _ g (oneS e xs).2.1 Aa ca (oneS e xs).2.2 hcpa e2 (hS.owns (by repeat (first | exact Spl.nil | (apply Spl.cons (by repeat (exact Del.head))))))) ?_
   rintro _ w4 ⟨rfl, Ab, cb, hcpb, hRb, hCb⟩
   have hYb := RdIn.trans hM hS (by repeat (first | exact Spl.nil | (apply Spl.cons (by repeat (exact Del.head))))) hRb (by intro s hs q hb; simp only [List.mem_cons, List.not_mem_nil, or_false] at hs; rcases hs with rfl | rfl <;> first | (simp [Res.reads] at hb; done) | exact hRa q hb)
   replace hS := hS.frame (by repeat (first | exact Spl.nil | (apply Spl.cons (by repeat (exact Del.head))))) hCb (by intro r hr b hb; simp only [List.mem_cons, List.not_mem_nil, or_false] at hr; rcases hr with rfl | rfl <;> first | (simp [Res.reads] at hb; done) | exact hRb b hb)
   replace hRb := hYb
   simp only [List.cons_append, List.nil_append] at hS
   simp only [errE_of hE, errX_of hE he2] at hS hcpb hRb
   try simp only [opv, nZ, Value.cells]
   refine x_nil ?_
   refine hK3 _ _ ?_
   refine x_seq fun K5 hK5 => ?_
   refine x_region ?_
   refine s_go (s_move) ?_
   try simp only [opv, nZ, Value.cells]
   refine s_go (s_move) ?_
   try simp only [opv, nZ, Value.cells]
   refine s_call en150 ?_
   try simp only [opv, nZ, Value.cells, List.map_toArray, List.map_cons, List.map_nil, List.append_toArray, List.cons_append, List.nil_append, Array.append_empty]
   refine CallR.mono (c_cErr2 (hS.owns (by repeat (first | exact Spl.nil | (apply Spl.cons (by repeat (exact Del.head)))))) (by assumption)) ?_
   rintro _ w5 ⟨rfl, hC5⟩
   replace hS := hS.frame (by repeat (first | exact Spl.nil | (apply Spl.cons (by repeat (exact Del.head))))) hC5 (by intro r hr g hg; simp only [List.mem_cons, List.not_mem_nil, or_false] at hr; rcases hr with rfl | rfl | rfl <;> (simp [Res.reads] at hg; done))
   simp only [List.cons_append, List.nil_append] at hS
   try simp only [opv, nZ, Value.cells]
   refine s_go (s_eql) ?_
   try simp only [opv, nZ, Value.cells]
   refine s_go (s_assign) ?_
   try simp only [opv, nZ, Value.cells]
   refine s_go (s_assign) ?_
   try simp only [opv, nZ, Value.cells]
   refine x_nil ?_
   refine hK5 _ _ ?_
   refine x_ret ?_
   refine r_tmp2 rfl ?_
   rw [hz]
   exact ⟨rfl, _, _, by assumption, by assumption, hS.sel (by repeat (first | exact Sel.nil | (refine Sel.cons (by repeat (exact Del.head)) ?_)))⟩
  ·
   try simp only [dZ, ne_eq, bne_iff_ne, beq_iff_eq] at hc1
   have hz := askS_good (b := !q (oneS e xs).1) (w := e2) (s := (oneS e xs).2) (by simpa using hc1)
   refine x_skip ?_
   refine hK3 _ _ ?_
   refine x_seq fun K6 hK6 => ?_
   refine x_region ?_
   refine s_go (s_move) ?_
   try simp only [opv, nZ, Value.cells]
   refine s_go (s_move) ?_
   try simp only [opv, nZ, Value.cells]
   refine s_call en150 ?_
   try simp only [opv, nZ, Value.cells, List.map_toArray, List.map_cons, List.map_nil, List.append_toArray, List.cons_append, List.nil_append, Array.append_empty]
   refine CallR.mono (c_cErr2 (hS.owns (by repeat (first | exact Spl.nil | (apply Spl.cons (by repeat (exact Del.head)))))) (by assumption)) ?_
   rintro _ w6 ⟨rfl, hC6⟩
   replace hS := hS.frame (by repeat (first | exact Spl.nil | (apply Spl.cons (by repeat (exact Del.head))))) hC6 (by intro r hr g hg; simp only [List.mem_cons, List.not_mem_nil, or_false] at hr; rcases hr with rfl | rfl | rfl <;> first | (simp [Res.reads] at hg; done) | exact .inr ⟨_, by simp, .inr hg⟩)
   simp only [List.cons_append, List.nil_append] at hS
   try simp only [opv, nZ, Value.cells]
   refine s_go (s_eql) ?_
   try simp only [opv, nZ, Value.cells]
   refine s_go (s_assign) ?_
   try simp only [opv, nZ, Value.cells]
   refine s_go (s_assign) ?_
   try simp only [opv, nZ, Value.cells]
   refine x_nil ?_
   refine hK6 _ _ ?_
   refine x_ret ?_
   refine r_tmp2 rfl ?_
   rw [hz]
   exact ⟨rfl, _, _, by assumption, by assumption, hS.sel (by repeat (first | exact Sel.nil | (refine Sel.cons (by repeat (exact Del.head)) ?_)))⟩
 ·
  try simp only [n3, n4]
  try simp only [dZ, ne_eq] at hp1
  have hE : ¬ (oneS e xs).2.1 = 0 := by simpa using hp1
  have hz := askS_err (b := !q (oneS e xs).1) (w := e2) hE
  refine g_off (yi (t := 16) rfl rfl) ?_
  try simp only [opv, nZ, Value.cells]
  refine g_off (yi (t := 16) rfl rfl) ?_
  try simp only [opv, nZ, Value.cells]
  refine g_off (yi (t := 16) rfl rfl) ?_
  try simp only [opv, nZ, Value.cells]
  refine g_off (yi (t := 16) rfl rfl) ?_
  try simp only [opv, nZ, Value.cells]
  refine s_go (s_pick_f) ?_
  try simp only [opv, nZ, Value.cells]
  refine x_nil ?_
  refine hK4 _ _ ?_
  refine x_cond_f (h := ?_)
  skip
  refine x_skip ?_
  refine hK3 _ _ ?_
  refine x_seq fun K7 hK7 => ?_
  refine x_region ?_
  refine s_go (s_move) ?_
  try simp only [opv, nZ, Value.cells]
  refine s_go (s_move) ?_
  try simp only [opv, nZ, Value.cells]
  refine s_call en150 ?_
  try simp only [opv, nZ, Value.cells, List.map_toArray, List.map_cons, List.map_nil, List.append_toArray, List.cons_append, List.nil_append, Array.append_empty]
  refine CallR.mono (c_cErr2 (hS.owns (by repeat (first | exact Spl.nil | (apply Spl.cons (by repeat (exact Del.head)))))) (by assumption)) ?_
  rintro _ w7 ⟨rfl, hC7⟩
  replace hS := hS.frame (by repeat (first | exact Spl.nil | (apply Spl.cons (by repeat (exact Del.head))))) hC7 (by intro r hr g hg; simp only [List.mem_cons, List.not_mem_nil, or_false] at hr; rcases hr with rfl | rfl | rfl <;> first | (simp [Res.reads] at hg; done) | exact .inr ⟨_, by simp, .inr hg⟩)
  simp only [List.cons_append, List.nil_append] at hS
  try simp only [opv, nZ, Value.cells]
  refine s_go (s_eql) ?_
  try simp only [opv, nZ, Value.cells]
  refine s_go (s_assign) ?_
  try simp only [opv, nZ, Value.cells]
  refine s_go (s_assign) ?_
  try simp only [opv, nZ, Value.cells]
  refine x_nil ?_
  refine hK7 _ _ ?_
  refine x_ret ?_
  refine r_tmp2 rfl ?_
  rw [hz]
  exact ⟨rfl, _, _, by assumption, by assumption, hS.sel (by repeat (first | exact Sel.nil | (refine Sel.cons (by repeat (exact Del.head)) ?_)))⟩
theorem c_askN (w0 : World) (g : Nat) (e : Int) (A : Option Addr) (c : Nat) (xs : List Int) (hc : xs.length ≤ c) (hw : Byt xs) (hn : xs.length ≤ 1000000000) (e2 : Int) (he2 : ¬ e2 = 0) (hM : St (OwnB [.obj g (.cells #[.int .i64 e, .slice A xs.length c] 189 (0, 0)), .rd A 1 xs.length (xs.map (Value.int .u8))]) w0 w0 [.obj g (.cells #[.int .i64 e, .slice A xs.length c] 189 (0, 0)), .rd A 1 xs.length (xs.map (Value.int .u8))]) :
    CallR Tryz.prog 218 #[.pointer (some ⟨g, 0, none⟩), .func (.func 219) #[.pointer (some ⟨g, 0, none⟩)] #[], .func (.func 73) #[] #[], .int .i64 e2] w0 fun v w' => v = .tuple #[.agg (ic .u8 (namS e xs).1), .bool (decide ((askS (decide ((namS e xs).1 = nm0)) e2 (namS e xs).2).1 = 0))] ∧ CuSt w0 w' [.obj g (.cells #[.int .i64 e, .slice A xs.length c] 189 (0, 0)), .rd A 1 xs.length (xs.map (Value.int .u8))] g (askS (decide ((namS e xs).1 = nm0)) e2 (namS e xs).2).1 (askS (decide ((namS e xs).1 = nm0)) e2 (namS e xs).2).2 [] := by
 have hS := hM
 have hnl := namS_len e xs
 have hnb := namS_byt (e := e) hw
 have h0l : nm0.length = 8 := rfl
 refine c_enter (l := [.pointer (some ⟨g, 0, none⟩), .func (.func 219) #[.pointer (some ⟨g, 0, none⟩)] #[], .func (.func 73) #[] #[], .int .i64 e2, undef, undef, undef, undef, undef, undef, undef, undef, undef, undef, undef, undef, undef, undef, undef, undef, undef, undef, undef, undef, undef, undef, undef, undef, undef]) Tryz.func218 rfl (by simp only [Tryz.ntmps218, List.size_toArray, List.length_cons, List.length_nil, Nat.reduceAdd, Nat.reduceSub, Array.replicate_succ, Array.replicate_zero, List.push_toArray, List.append_toArray, List.nil_append, List.cons_append]) ?_
 refine x_seq fun K1 hK1 => ?_
 refine x_region ?_
 refine m_alloc ti41 hS (fun w1 g1 hS => ?_)
 try simp only [opv, nZ, Value.cells, Array.toArray_toList] at hS ⊢
 replace hS : St (OwnB [.obj g (.cells #[.int .i64 e, .slice A xs.length c] 189 (0, 0)), .rd A 1 xs.length (xs.map (Value.int .u8))]) w0 w1 (.obj g1 (.cells (ic .u8 nm0) 41 (0, 0)) :: [.obj g (.cells #[.int .i64 e, .slice A xs.length c] 189 (0, 0)), .rd A 1 xs.length (xs.map (Value.int .u8))]) := hS
 refine s_go (s_assign) ?_
 try simp only [opv, nZ, Value.cells]
 refine x_nil ?_
 refine hK1 _ _ ?_
 refine x_seq fun K2 hK2 => ?_
 refine x_region ?_
 refine s_go (s_move) ?_
 try simp only [opv, nZ, Value.cells]
 refine s_callm (hv := rfl) en219 ?_
 try simp only [opv, nZ, Value.cells, List.map_toArray, List.map_cons, List.map_nil, List.append_toArray, List.cons_append, List.nil_append, Array.append_empty]
 refine CallR.mono (c_cName _ g e A c xs hc hw hn (hS.owns (by repeat (first | exact Spl.nil | (apply Spl.cons (by repeat (first | exact Del.head | apply Del.tail))))))) ?_
 rintro _ w2 ⟨rfl, Aa, ca, hcpa, hRa, hCa⟩
 have hYa := RdIn.trans hM hS (by repeat (first | exact Spl.nil | (apply Spl.cons (by repeat (first | exact Del.head | apply Del.tail))))) hRa (by intro s hs q hb; simp only [List.mem_cons, List.not_mem_nil, or_false] at hs; rcases hs with rfl | rfl <;> first | (simp [Res.reads] at hb; done) | exact .inr ⟨_, List.mem_cons_of_mem _ (List.mem_cons_self ..), .inr hb⟩)
 replace hS := hS.frame (by repeat (first | exact Spl.nil | (apply Spl.cons (by repeat (first | exact Del.head | apply Del.tail))))) hCa (by intro r hr b hb; simp only [List.mem_cons, List.not_mem_nil, or_false] at hr; rcases hr with rfl | rfl <;> first | (simp [Res.reads] at hb; done) | exact hRa b hb)
 replace hRa := hYa
 simp only [List.cons_append, List.nil_append] at hS
 try simp only [opv, nZ, Value.cells]
 refine m_alloc ti41 hS (fun w3 g3 hS => ?_)
 try simp only [opv, nZ, Value.cells, Array.toArray_toList] at hS ⊢
 obtain ⟨gn, hgn⟩ : ∃ gn, gn = g3 := ⟨_, rfl⟩
 rw [← hgn] at hS ⊢
 replace hS : St (OwnB [.obj g (.cells #[.int .i64 e, .slice A xs.length c] 189 (0, 0)), .rd A 1 xs.length (xs.map (Value.int .u8))]) w0 w3 (.obj gn (.cells (ic .u8 nm0) 41 (0, 0)) :: _) := hS
 refine m_store_obj ti41 (hS := hS) (h := fun w4 hS => ?_)
 try simp only [opv, nZ, Value.cells, Array.toArray_toList] at hS ⊢
 refine x_nil ?_
 refine hK2 _ _ ?_
 refine x_seq fun K3 hK3 => ?_
 refine x_seq fun K4 hK4 => ?_
 refine x_region ?_
 refine s_go (s_move) ?_
 try simp only [opv, nZ, Value.cells]
 refine s_call en150 ?_
 try simp only [opv, nZ, Value.cells, List.map_toArray, List.map_cons, List.map_nil, List.append_toArray, List.cons_append, List.nil_append, Array.append_empty]
 refine CallR.mono (c_cErr _ g ((namS e xs).2.1) Aa ca ((namS e xs).2.2) hcpa (hS.owns (by repeat (first | exact Spl.nil | (apply Spl.cons (by repeat (first | exact Del.head | apply Del.tail))))))) ?_
 rintro _ w5 ⟨rfl, hC5⟩
 replace hS := hS.frame (by repeat (first | exact Spl.nil | (apply Spl.cons (by repeat (first | exact Del.head | apply Del.tail))))) hC5 (by intro r hr g hg; simp only [List.mem_cons, List.not_mem_nil, or_false] at hr; rcases hr with rfl | rfl | rfl <;> first | (simp [Res.reads] at hg; done) | exact .inr ⟨_, by simp, .inr hg⟩)
 simp only [List.cons_append, List.nil_append] at hS
 try simp only [opv, nZ, Value.cells]
 refine s_go (s_eql) ?_
 try simp only [opv, nZ, Value.cells]
 refine s_go (s_move) ?_
 try simp only [opv, nZ, Value.cells]
 refine s_part 16 rfl (fun hp1 => ?_) (fun hp1 => ?_)
 ·
  try simp only [n3, n4]
  try simp only [dZ, ne_eq] at hp1
  have hE : (namS e xs).2.1 = 0 := by simpa using hp1
  refine g_on (yi (t := 16) rfl rfl) ?_
  refine s_go (s_move) ?_
  try simp only [opv, nZ, Value.cells]
  refine g_on (yi (t := 16) rfl rfl) ?_
  refine s_go (m_load_row Tryz.underlying41 (hi := ti41) (hS := hS)) ?_
  try simp only [opv, nZ, Value.cells, List.getElem_toArray, List.getElem_cons_zero, List.getElem_cons_succ]
  refine g_on (yi (t := 16) rfl rfl) ?_
  refine s_callv (hv := rfl) en73 ?_
  try simp only [opv, nZ, Value.cells, List.map_toArray, List.map_cons, List.map_nil, List.append_toArray, List.cons_append, List.nil_append, Array.append_empty]
  refine CallR.mono (c_nameSome _ (by assumption) (by assumption) _) ?_
  rintro _ w6 ⟨rfl, hE6⟩
  replace hS := hS.ext hE6
  try simp only [opv, nZ, Value.cells]
  refine g_on (yi (t := 16) rfl rfl) ?_
  refine s_go (s_not) ?_
  try simp only [opv, nZ, Value.cells]
  refine s_go (s_pick_t) ?_
  try simp only [opv, nZ, Value.cells]
  refine x_nil ?_
  refine hK4 _ _ ?_
  refine x_cond (ht := fun hc1 => ?_) (hf := fun hc1 => ?_)
  ·
   try simp only [dZ, ne_eq, bne_iff_ne, beq_iff_eq] at hc1
   have hz := askS_bad (b := decide ((namS e xs).1 = nm0)) (w := e2) hE (by simpa using hc1)
   refine x_region ?_
   refine s_go (s_move) ?_
   try simp only [opv, nZ, Value.cells]
   refine s_go (s_move) ?_
   try simp only [opv, nZ, Value.cells]
   refine s_call en88 ?_
   try simp only [opv, nZ, Value.cells, List.map_toArray, List.map_cons, List.map_nil, List.append_toArray, List.cons_append, List.nil_append, Array.append_empty]
   refine CallR.mono (c_cFail _ g (namS e xs).2.1 Aa ca (namS e xs).2.2 hcpa e2 (hS.owns (by repeat (first | exact Spl.nil | (apply Spl.cons (by repeat (exact Del.head))))))) ?_
   rintro _ w7 ⟨rfl, Ab, cb, hcpb, hRb, hCb⟩
   have hYb := RdIn.trans hM hS (by repeat (first | exact Spl.nil | (apply Spl.cons (by repeat (exact Del.head))))) hRb (by intro s hs q hb; simp only [List.mem_cons, List.not_mem_nil, or_false] at hs; rcases hs with rfl | rfl <;> first | (simp [Res.reads] at hb; done) | exact hRa q hb)
   replace hS := hS.frame (by repeat (first | exact Spl.nil | (apply Spl.cons (by repeat (exact Del.head))))) hCb (by intro r hr b hb; simp only [List.mem_cons, List.not_mem_nil, or_false] at hr; rcases hr with rfl | rfl <;> first | (simp [Res.reads] at hb; done) | exact hRb b hb)
   replace hRb := hYb
   simp only [List.cons_append, List.nil_append] at hS
   simp only [errE_of hE, errX_of hE he2] at hS hcpb hRb
   try simp only [opv, nZ, Value.cells]
   refine x_nil ?_
   refine hK3 _ _ ?_
   refine x_seq fun K5 hK5 => ?_
   refine x_mixed_c (Lc := [.obj gn (.cells (ic .u8 (namS e xs).1) 41 (0, 0))]) [] 0 [9, 25, 26, 27, 28] (fun f w => f 9 = .bool (decide ((askS (decide ((namS e xs).1 = nm0)) e2 (namS e xs).2).1 = 0)) ∧ ∃ (A' : Option Addr) (c' : Nat), (askS (decide ((namS e xs).1 = nm0)) e2 (namS e xs).2).2.length ≤ c' ∧ RdIn w0 [.obj g (.cells #[.int .i64 e, .slice A xs.length c] 189 (0, 0)), .rd A 1 xs.length (xs.map (Value.int .u8))] A' (askS (decide ((namS e xs).1 = nm0)) e2 (namS e xs).2).2.length ∧ St (OwnB [.obj g (.cells #[.int .i64 e, .slice A xs.length c] 189 (0, 0)), .rd A 1 xs.length (xs.map (Value.int .u8))]) w0 w [.obj g1 (.cells (ic .u8 (namS e xs).1) 41 (0, 0)), .obj g (.cells #[.int .i64 (askS (decide ((namS e xs).1 = nm0)) e2 (namS e xs).2).1, .slice A' (askS (decide ((namS e xs).1 = nm0)) e2 (namS e xs).2).2.length c'] 189 (0, 0)), .rd A' 1 (askS (decide ((namS e xs).1 = nm0)) e2 (namS e xs).2).2.length ((askS (decide ((namS e xs).1 = nm0)) e2 (namS e xs).2).2.map (Value.int .u8))]) (by kernel_rfl) (by kernel_rfl) (by kernel_rfl) (by decide) hS (fun w8 hS => ?mixpre401) ?mixrest401
   case mixpre401 =>
    refine p_nil ?_
    simp only [List.length_cons, List.length_nil, Nat.reduceAdd, Nat.reduceSub]
    refine any_go (i := 0) (by rfl) (by decide +kernel) (by decide +kernel) noLate_nil (go_yields w_none (fun w hS => m_load_row Tryz.underlying41 (hi := ti41) (hS := hS))) ?_
    try simp only [opv, nZ, Value.cells, List.getElem_toArray, List.getElem_cons_zero, List.getElem_cons_succ]
    refine any_go (i := 1) (by rfl) (by decide +kernel) (by decide +kernel) noLate_nil (go_yields w_none (fun w hS => s_move)) ?_
    try simp only [opv, nZ, Value.cells]
    refine any_step [2] (by kernel_rfl) (by decide) (fun w9 hE => ⟨fun _ => (hS.ext hE).sel (by repeat (first | exact Sel.nil | (refine Sel.cons (by repeat (first | exact Del.head | apply Del.tail)) ?_))), ?_⟩)
    replace hS := hS.ext hE
    intro i hi
    simp only [List.mem_cons, List.not_mem_nil, or_false] at hi
    subst hi
    ·
     refine any_op (by rfl) ?_
     refine s_call en150 ?_
     try simp only [opv, nZ, Value.cells, List.map_toArray, List.map_cons, List.map_nil, List.append_toArray, List.cons_append, List.nil_append, Array.append_empty]
     refine CallR.mono (c_cErr2 (hS.owns (by repeat (first | exact Spl.nil | (apply Spl.cons (by repeat (exact Del.head)))))) (by assumption)) ?_
     rintro _ w10 ⟨rfl, hC10⟩
     replace hS := hS.frame (by repeat (first | exact Spl.nil | (apply Spl.cons (by repeat (exact Del.head))))) hC10 (by intro r hr g hg; simp only [List.mem_cons, List.not_mem_nil, or_false] at hr; rcases hr with rfl | rfl | rfl <;> (simp [Res.reads] at hg; done))
     simp only [List.cons_append, List.nil_append] at hS
     try simp only [opv, nZ, Value.cells]
     refine x_nil ?_
     refine any_go (i := 3) (by rfl) (by decide +kernel) (by decide +kernel) noLate_nil (go_yields w_none (fun w hS => s_eql)) ?_
     try simp only [opv, nZ, Value.cells]
     refine any_step [4] (by kernel_rfl) (by decide) (fun w11 hE => ⟨fun _ => (hS.ext hE).sel (by repeat (first | exact Sel.nil | (refine Sel.cons (by repeat (first | exact Del.head | apply Del.tail)) ?_))), ?_⟩)
     replace hS := hS.ext hE
     intro i hi
     simp only [List.mem_cons, List.not_mem_nil, or_false] at hi
     subst hi
     ·
      refine any_op (by rfl) ?_
      refine m_store_obj ti41 (hS := hS) (h := fun w12 hS => ?_)
      try simp only [opv, nZ, Value.cells, Array.toArray_toList] at hS ⊢
      refine x_nil ?_
      refine any_go (i := 5) (by rfl) (by decide +kernel) (by decide +kernel) noLate_nil (go_yields w_none (fun w hS => s_assign)) ?_
      try simp only [opv, nZ, Value.cells]
      refine any_nil (by kernel_rfl) (fun w13 hE => ?_)
      replace hS := hS.ext hE
      refine ⟨fun _ => hS.selA, ?_⟩
      refine mix_leaf (by simp only [clob, List.foldl, nZ]) ?_
      try simp only [n1, n2]
      rw [hz]
      exact ⟨by trivial, _, _, by assumption, by assumption, hS.selA⟩
   intro fm1 w14 hM
   obtain ⟨h9, A9, c9, hc9, hR9, hS⟩ := hM
   simp only [clob, List.foldl, n3, n4, h9]
   refine hK5 _ _ ?_
   refine x_ret ?_
   refine r_cell_tmp_agg rfl Tryz.underlying41 ti41 (hS := hS) (hR := ?_)
   exact ⟨rfl, A9, c9, hc9, hR9, hS.selA⟩
  ·
   try simp only [dZ, ne_eq, bne_iff_ne, beq_iff_eq] at hc1
   have hz := askS_good (b := decide ((namS e xs).1 = nm0)) (w := e2) (s := (namS e xs).2) (by simpa using hc1)
   refine x_skip ?_
   refine hK3 _ _ ?_
   refine x_seq fun K6 hK6 => ?_
   refine x_mixed_c (Lc := [.obj gn (.cells (ic .u8 (namS e xs).1) 41 (0, 0))]) [] 0 [9, 25, 26, 27, 28] (fun f w => f 9 = .bool (decide ((askS (decide ((namS e xs).1 = nm0)) e2 (namS e xs).2).1 = 0)) ∧ ∃ (A' : Option Addr) (c' : Nat), (askS (decide ((namS e xs).1 = nm0)) e2 (namS e xs).2).2.length ≤ c' ∧ RdIn w0 [.obj g (.cells #[.int .i64 e, .slice A xs.length c] 189 (0, 0)), .rd A 1 xs.length (xs.map (Value.int .u8))] A' (askS (decide ((namS e xs).1 = nm0)) e2 (namS e xs).2).2.length ∧ St (OwnB [.obj g (.cells #[.int .i64 e, .slice A xs.length c] 189 (0, 0)), .rd A 1 xs.length (xs.map (Value.int .u8))]) w0 w [.obj g1 (.cells (ic .u8 (namS e xs).1) 41 (0, 0)), .obj g (.cells #[.int .i64 (askS (decide ((namS e xs).1 = nm0)) e2 (namS e xs).2).1, .slice A' (askS (decide ((namS e xs).1 = nm0)) e2 (namS e xs).2).2.length c'] 189 (0, 0)), .rd A' 1 (askS (decide ((namS e xs).1 = nm0)) e2 (namS e xs).2).2.length ((askS (decide ((namS e xs).1 = nm0)) e2 (namS e xs).2).2.map (Value.int .u8))]) (by kernel_rfl) (by kernel_rfl) (by kernel_rfl) (by decide) hS (fun w15 hS => ?mixpre402) ?mixrest402
   case mixpre402 =>
    refine p_nil ?_
    simp only [List.length_cons, List.length_nil, Nat.reduceAdd, Nat.reduceSub]
    refine any_go (i := 0) (by rfl) (by decide +kernel) (by decide +kernel) noLate_nil (go_yields w_none (fun w hS => m_load_row Tryz.underlying41 (hi := ti41) (hS := hS))) ?_
    try simp only [opv, nZ, Value.cells, List.getElem_toArray, List.getElem_cons_zero, List.getElem_cons_succ]
    refine any_go (i := 1) (by rfl) (by decide +kernel) (by decide +kernel) noLate_nil (go_yields w_none (fun w hS => s_move)) ?_
    try simp only [opv, nZ, Value.cells]
    refine any_step [2] (by kernel_rfl) (by decide) (fun w16 hE => ⟨fun _ => (hS.ext hE).sel (by repeat (first | exact Sel.nil | (refine Sel.cons (by repeat (first | exact Del.head | apply Del.tail)) ?_))), ?_⟩)
    replace hS := hS.ext hE
    intro i hi
    simp only [List.mem_cons, List.not_mem_nil, or_false] at hi
    subst hi
    ·
     refine any_op (by rfl) ?_
     refine s_call en150 ?_
     try simp only [opv, nZ, Value.cells, List.map_toArray, List.map_cons, List.map_nil, List.append_toArray, List.cons_append, List.nil_append, Array.append_empty]
     refine CallR.mono (c_cErr2 (hS.owns (by repeat (first | exact Spl.nil | (apply Spl.cons (by repeat (exact Del.head)))))) (by assumption)) ?_
     rintro _ w17 ⟨rfl, hC17⟩
     replace hS := hS.frame (by repeat (first | exact Spl.nil | (apply Spl.cons (by repeat (exact Del.head))))) hC17 (by intro r hr g hg; simp only [List.mem_cons, List.not_mem_nil, or_false] at hr; rcases hr with rfl | rfl | rfl <;> first | (simp [Res.reads] at hg; done) | exact .inr ⟨_, by simp, .inr hg⟩)
     simp only [List.cons_append, List.nil_append] at hS
     try simp only [opv, nZ, Value.cells]
     refine x_nil ?_
     refine any_go (i := 3) (by rfl) (by decide +kernel) (by decide +kernel) noLate_nil (go_yields w_none (fun w hS => s_eql)) ?_
     try simp only [opv, nZ, Value.cells]
     refine any_step [4] (by kernel_rfl) (by decide) (fun w18 hE => ⟨fun _ => (hS.ext hE).sel (by repeat (first | exact Sel.nil | (refine Sel.cons (by repeat (first | exact Del.head | apply Del.tail)) ?_))), ?_⟩)
     replace hS := hS.ext hE
     intro i hi
     simp only [List.mem_cons, List.not_mem_nil, or_false] at hi
     subst hi
     ·
      refine any_op (by rfl) ?_
      refine m_store_obj ti41 (hS := hS) (h := fun w19 hS => ?_)
      try simp only [opv, nZ, Value.cells, Array.toArray_toList] at hS ⊢
      refine x_nil ?_
      refine any_go (i := 5) (by rfl) (by decide +kernel) (by decide +kernel) noLate_nil (go_yields w_none (fun w hS => s_assign)) ?_
      try simp only [opv, nZ, Value.cells]
      refine any_nil (by kernel_rfl) (fun w20 hE => ?_)
      replace hS := hS.ext hE
      refine ⟨fun _ => hS.selA, ?_⟩
      refine mix_leaf (by simp only [clob, List.foldl, nZ]) ?_
      try simp only [n1, n2]
      rw [hz]
      exact ⟨by trivial, _, _, by assumption, by assumption, hS.selA⟩
   intro fm2 w21 hM
   obtain ⟨h9, A9, c9, hc9, hR9, hS⟩ := hM
   simp only [clob, List.foldl, n3, n4, h9]
   refine hK6 _ _ ?_
   refine x_ret ?_
   refine r_cell_tmp_agg rfl Tryz.underlying41 ti41 (hS := hS) (hR := ?_)
   exact ⟨rfl, A9, c9, hc9, hR9, hS.selA⟩
 ·
  try simp only [n3, n4]
  try simp only [dZ, ne_eq] at hp1
  have hE : ¬ (namS e xs).2.1 = 0 := by simpa using hp1
  have hz := askS_err (b := decide ((namS e xs).1 = nm0)) (w := e2) hE
  refine g_off (yi (t := 16) rfl rfl) ?_
  try simp only [opv, nZ, Value.cells]
  refine g_off (yi (t := 16) rfl rfl) ?_
  try simp only [opv, nZ, Value.cells]
  refine g_off (yi (t := 16) rfl rfl) ?_
  try simp only [opv, nZ, Value.cells]
  refine g_off (yi (t := 16) rfl rfl) ?_
  try simp only [opv, nZ, Value.cells]
  refine s_go (s_pick_f) ?_
  try simp only [opv, nZ, Value.cells]
  refine x_nil ?_
  refine hK4 _ _ ?_
  refine x_cond_f (h := ?_)
  skip
  refine x_skip ?_
  refine hK3 _ _ ?_
  refine x_seq fun K7 hK7 => ?_
  refine x_mixed_c (Lc := [.obj gn (.cells (ic .u8 (namS e xs).1) 41 (0, 0))]) [] 0 [9, 25, 26, 27, 28] (fun f w => f 9 = .bool (decide ((askS (decide ((namS e xs).1 = nm0)) e2 (namS e xs).2).1 = 0)) ∧ ∃ (A' : Option Addr) (c' : Nat), (askS (decide ((namS e xs).1 = nm0)) e2 (namS e xs).2).2.length ≤ c' ∧ RdIn w0 [.obj g (.cells #[.int .i64 e, .slice A xs.length c] 189 (0, 0)), .rd A 1 xs.length (xs.map (Value.int .u8))] A' (askS (decide ((namS e xs).1 = nm0)) e2 (namS e xs).2).2.length ∧ St (OwnB [.obj g (.cells #[.int .i64 e, .slice A xs.length c] 189 (0, 0)), .rd A 1 xs.length (xs.map (Value.int .u8))]) w0 w [.obj g1 (.cells (ic .u8 (namS e xs).1) 41 (0, 0)), .obj g (.cells #[.int .i64 (askS (decide ((namS e xs).1 = nm0)) e2 (namS e xs).2).1, .slice A' (askS (decide ((namS e xs).1 = nm0)) e2 (namS e xs).2).2.length c'] 189 (0, 0)), .rd A' 1 (askS (decide ((namS e xs).1 = nm0)) e2 (namS e xs).2).2.length ((askS (decide ((namS e xs).1 = nm0)) e2 (namS e xs).2).2.map (Value.int .u8))]) (by kernel_rfl) (by kernel_rfl) (by kernel_rfl) (by decide) hS (fun w22 hS => ?mixpre403) ?mixrest403
  case mixpre403 =>
   refine p_nil ?_
   simp only [List.length_cons, List.length_nil, Nat.reduceAdd, Nat.reduceSub]
   refine any_go (i := 0) (by rfl) (by decide +kernel) (by decide +kernel) noLate_nil (go_yields w_none (fun w hS => m_load_row Tryz.underlying41 (hi := ti41) (hS := hS))) ?_
   try simp only [opv, nZ, Value.cells, List.getElem_toArray, List.getElem_cons_zero, List.getElem_cons_succ]
   refine any_go (i := 1) (by rfl) (by decide +kernel) (by decide +kernel) noLate_nil (go_yields w_none (fun w hS => s_move)) ?_
   try simp only [opv, nZ, Value.cells]
   refine any_step [2] (by kernel_rfl) (by decide) (fun w23 hE => ⟨fun _ => (hS.ext hE).sel (by repeat (first | exact Sel.nil | (refine Sel.cons (by repeat (first | exact Del.head | apply Del.tail)) ?_))), ?_⟩)
   replace hS := hS.ext hE
   intro i hi
   simp only [List.mem_cons, List.not_mem_nil, or_false] at hi
   subst hi
   ·
    refine any_op (by rfl) ?_
    refine s_call en150 ?_
    try simp only [opv, nZ, Value.cells, List.map_toArray, List.map_cons, List.map_nil, List.append_toArray, List.cons_append, List.nil_append, Array.append_empty]
    refine CallR.mono (c_cErr2 (hS.owns (by repeat (first | exact Spl.nil | (apply Spl.cons (by repeat (exact Del.head)))))) (by assumption)) ?_
    rintro _ w24 ⟨rfl, hC24⟩
    replace hS := hS.frame (by repeat (first | exact Spl.nil | (apply Spl.cons (by repeat (exact Del.head))))) hC24 (by intro r hr g hg; simp only [List.mem_cons, List.not_mem_nil, or_false] at hr; rcases hr with rfl | rfl | rfl <;> first | (simp [Res.reads] at hg; done) | exact .inr ⟨_, by simp, .inr hg⟩)
    simp only [List.cons_append, List.nil_append] at hS
    try simp only [opv, nZ, Value.cells]
    refine x_nil ?_
    refine any_go (i := 3) (by rfl) (by decide +kernel) (by decide +kernel) noLate_nil (go_yields w_none (fun w hS => s_eql)) ?_
    try simp only [opv, nZ, Value.cells]
    refine any_step [4] (by kernel_rfl) (by decide) (fun w25 hE => ⟨fun _ => (hS.ext hE).sel (by repeat (first | exact Sel.nil | (refine Sel.cons (by repeat (first | exact Del.head | apply Del.tail)) ?_))), ?_⟩)
    replace hS := hS.ext hE
    intro i hi
    simp only [List.mem_cons, List.not_mem_nil, or_false] at hi
    subst hi
    ·
     refine any_op (by rfl) ?_
     refine m_store_obj ti41 (hS := hS) (h := fun w26 hS => ?_)
     try simp only [opv, nZ, Value.cells, Array.toArray_toList] at hS ⊢
     refine x_nil ?_
     refine any_go (i := 5) (by rfl) (by decide +kernel) (by decide +kernel) noLate_nil (go_yields w_none (fun w hS => s_assign)) ?_
     try simp only [opv, nZ, Value.cells]
     refine any_nil (by kernel_rfl) (fun w27 hE => ?_)
     replace hS := hS.ext hE
     refine ⟨fun _ => hS.selA, ?_⟩
     refine mix_leaf (by simp only [clob, List.foldl, nZ]) ?_
     try simp only [n1, n2]
     rw [hz]
     exact ⟨by trivial, _, _, by assumption, by assumption, hS.selA⟩
  intro fm3 w28 hM
  obtain ⟨h9, A9, c9, hc9, hR9, hS⟩ := hM
  simp only [clob, List.foldl, n3, n4, h9]
  refine hK7 _ _ ?_
  refine x_ret ?_
  refine r_cell_tmp_agg rfl Tryz.underlying41 ti41 (hS := hS) (hR := ?_)
  exact ⟨rfl, A9, c9, hc9, hR9, hS.selA⟩
theorem c_askU (w0 : World) (g : Nat) (e : Int) (A : Option Addr) (c : Nat) (xs : List Int) (hc : xs.length ≤ c) (hw : Byt xs) (hn : xs.length ≤ 1000000000) (b : Nat) (e2 : Int) (he2 : ¬ e2 = 0) (hM : St (OwnB [.obj g (.cells #[.int .i64 e, .slice A xs.length c] 189 (0, 0)), .rd A 1 xs.length (xs.map (Value.int .u8)), .obj b (.cells #[.pointer (some ⟨g, 0, none⟩)] 130 (0, 0))]) w0 w0 [.obj g (.cells #[.int .i64 e, .slice A xs.length c] 189 (0, 0)), .rd A 1 xs.length (xs.map (Value.int .u8)), .obj b (.cells #[.pointer (some ⟨g, 0, none⟩)] 130 (0, 0))]) :
    CallR Tryz.prog 221 #[.pointer (some ⟨g, 0, none⟩), .func (.func 222) #[] #[.pointer (some ⟨b, 0, none⟩)], .func (.func 223) #[] #[], .int .i64 e2] w0 fun v w' => v = .tuple #[.int .u64 ((numS 4294967295 e xs).1 : Int), .bool (decide ((askS (decide ((numS 4294967295 e xs).1 = 0)) e2 (numS 4294967295 e xs).2).1 = 0))] ∧ CuSt w0 w' [.obj g (.cells #[.int .i64 e, .slice A xs.length c] 189 (0, 0)), .rd A 1 xs.length (xs.map (Value.int .u8)), .obj b (.cells #[.pointer (some ⟨g, 0, none⟩)] 130 (0, 0))] g (askS (decide ((numS 4294967295 e xs).1 = 0)) e2 (numS 4294967295 e xs).2).1 (askS (decide ((numS 4294967295 e xs).1 = 0)) e2 (numS 4294967295 e xs).2).2 [.obj b (.cells #[.pointer (some ⟨g, 0, none⟩)] 130 (0, 0))] := by
 have hS := hM
 refine c_enter (l := [.pointer (some ⟨g, 0, none⟩), .func (.func 222) #[] #[.pointer (some ⟨b, 0, none⟩)], .func (.func 223) #[] #[], .int .i64 e2, undef, undef, undef, undef, undef, undef, undef, undef, undef, undef, undef, undef, undef, undef, undef, undef, undef, undef, undef, undef, undef, undef, undef, undef, undef]) Tryz.func221 rfl (by simp only [Tryz.ntmps221, List.size_toArray, List.length_cons, List.length_nil, Nat.reduceAdd, Nat.reduceSub, Array.replicate_succ, Array.replicate_zero, List.push_toArray, List.append_toArray, List.nil_append, List.cons_append]) ?_
 refine x_seq fun K1 hK1 => ?_
 refine x_region ?_
 refine s_go (s_assign) ?_
 try simp only [opv, nZ, Value.cells]
 refine s_go (s_assign) ?_
 try simp only [opv, nZ, Value.cells]
 refine x_nil ?_
 refine hK1 _ _ ?_
 refine x_seq fun K2 hK2 => ?_
 refine x_region ?_
 refine s_go (s_move) ?_
 try simp only [opv, nZ, Value.cells]
 refine s_callv (hv := rfl) en222 ?_
 try simp only [opv, nZ, Value.cells, List.map_toArray, List.map_cons, List.map_nil, List.append_toArray, List.cons_append, List.nil_append, Array.append_empty]
 refine CallR.mono (c_keyRead3 _ g e A c xs hc hw hn b (hS.owns (by repeat (first | exact Spl.nil | (apply Spl.cons (by repeat (exact Del.head))))))) ?_
 rintro _ w1 ⟨rfl, Aa, ca, hcpa, hRa, hCa⟩
 have hYa := RdIn.trans hM hS (by repeat (first | exact Spl.nil | (apply Spl.cons (by repeat (exact Del.head))))) hRa (by intro s hs q hb; simp only [List.mem_cons, List.not_mem_nil, or_false] at hs; rcases hs with rfl | rfl | rfl <;> first | (simp [Res.reads] at hb; done) | exact .inr ⟨_, List.mem_cons_of_mem _ (List.mem_cons_self ..), .inr hb⟩)
 replace hS := hS.frame (by repeat (first | exact Spl.nil | (apply Spl.cons (by repeat (exact Del.head))))) hCa (by intro r hr b hb; simp only [List.mem_cons, List.not_mem_nil, or_false] at hr; rcases hr with rfl | rfl | rfl <;> first | (simp [Res.reads] at hb; done) | exact hRa b hb)
 replace hRa := hYa
 simp only [List.cons_append, List.nil_append] at hS
 try simp only [opv, nZ, Value.cells]
 refine s_go (s_assign) ?_
 try simp only [opv, nZ, Value.cells]
 refine x_nil ?_
 refine hK2 _ _ ?_
 refine x_seq fun K3 hK3 => ?_
 refine x_seq fun K4 hK4 => ?_
 refine x_region ?_
 refine s_go (s_move) ?_
 try simp only [opv, nZ, Value.cells]
 refine s_call en150 ?_
 try simp only [opv, nZ, Value.cells, List.map_toArray, List.map_cons, List.map_nil, List.append_toArray, List.cons_append, List.nil_append, Array.append_empty]
 refine CallR.mono (c_cErr _ g ((numS 4294967295 e xs).2.1) Aa ca ((numS 4294967295 e xs).2.2) hcpa (hS.owns (by repeat (first | exact Spl.nil | (apply Spl.cons (by repeat (exact Del.head))))))) ?_
 rintro _ w2 ⟨rfl, hC2⟩
 replace hS := hS.frame (by repeat (first | exact Spl.nil | (apply Spl.cons (by repeat (exact Del.head))))) hC2 (by intro r hr g hg; simp only [List.mem_cons, List.not_mem_nil, or_false] at hr; rcases hr with rfl | rfl | rfl <;> first | (simp [Res.reads] at hg; done) | exact .inr ⟨_, by simp, .inr hg⟩)
 simp only [List.cons_append, List.nil_append] at hS
 try simp only [opv, nZ, Value.cells]
 refine s_go (s_eql) ?_
 try simp only [opv, nZ, Value.cells]
 refine s_go (s_move) ?_
 try simp only [opv, nZ, Value.cells]
 refine s_part 16 rfl (fun hp1 => ?_) (fun hp1 => ?_)
 ·
  try simp only [n3, n4]
  try simp only [dZ, ne_eq] at hp1
  have hE : (numS 4294967295 e xs).2.1 = 0 := by simpa using hp1
  refine g_on (yi (t := 16) rfl rfl) ?_
  refine s_go (s_move) ?_
  try simp only [opv, nZ, Value.cells]
  refine g_on (yi (t := 16) rfl rfl) ?_
  refine s_go (s_move) ?_
  try simp only [opv, nZ, Value.cells]
  refine g_on (yi (t := 16) rfl rfl) ?_
  refine s_callv (hv := rfl) en223 ?_
  try simp only [opv, nZ, Value.cells, List.map_toArray, List.map_cons, List.map_nil, List.append_toArray, List.cons_append, List.nil_append, Array.append_empty]
  refine CallR.mono (c_keyRead4 _ _) ?_
  rintro _ w3 ⟨rfl, hE3⟩
  replace hS := hS.ext hE3
  try simp only [opv, nZ, Value.cells]
  refine g_on (yi (t := 16) rfl rfl) ?_
  refine s_go (s_not) ?_
  try simp only [opv, nZ, Value.cells]
  refine s_go (s_pick_t) ?_
  try simp only [opv, nZ, Value.cells]
  refine x_nil ?_
  refine hK4 _ _ ?_
  refine x_cond (ht := fun hc1 => ?_) (hf := fun hc1 => ?_)
  ·
   try simp only [dZ, ne_eq, bne_iff_ne, beq_iff_eq] at hc1
   have hz := askS_bad (b := decide ((numS 4294967295 e xs).1 = 0)) (w := e2) hE (by simpa using hc1)
   refine x_region ?_
   refine s_go (s_move) ?_
   try simp only [opv, nZ, Value.cells]
   refine s_go (s_move) ?_
   try simp only [opv, nZ, Value.cells]
   refine s_call en88 ?_
   try simp only [opv, nZ, Value.cells, List.map_toArray, List.map_cons, List.map_nil, List.append_toArray, List.cons_append, List.nil_append, Array.append_empty]
   refine CallR.mono (c_cFail _ g (numS 4294967295 e xs).2.1 Aa ca (numS 4294967295 e xs).2.2 hcpa e2 (hS.owns (by repeat (first | exact Spl.nil | (apply Spl.cons (by repeat (exact Del.head))))))) ?_
   rintro _ w4 ⟨rfl, Ab, cb, hcpb, hRb, hCb⟩
   have hYb := RdIn.trans hM hS (by repeat (first | exact Spl.nil | (apply Spl.cons (by repeat (exact Del.head))))) hRb (by intro s hs q hb; simp only [List.mem_cons, List.not_mem_nil, or_false] at hs; rcases hs with rfl | rfl <;> first | (simp [Res.reads] at hb; done) | exact hRa q hb)
   replace hS := hS.frame (by repeat (first | exact Spl.nil | (apply Spl.cons (by repeat (exact Del.head))))) hCb (by intro r hr b hb; simp only [List.mem_cons, List.not_mem_nil, or_false] at hr; rcases hr with rfl | rfl <;> first | (simp [Res.reads] at hb; done) | exact hRb b hb)
   replace hRb := hYb
   simp only [List.cons_append, List.nil_append] at hS
   simp only [errE_of hE, errX_of hE he2] at hS hcpb hRb
   try simp only [opv, nZ, Value.cells]
   refine x_nil ?_
   refine hK3 _ _ ?_
   refine x_seq fun K5 hK5 => ?_
   refine x_region ?_
   refine s_go (s_move) ?_
   try simp only [opv, nZ, Value.cells]
   refine s_go (s_move) ?_
   try simp only [opv, nZ, Value.cells]
   refine s_call en150 ?_
   try simp only [opv, nZ, Value.cells, List.map_toArray, List.map_cons, List.map_nil, List.append_toArray, List.cons_append, List.nil_append, Array.append_empty]
   refine CallR.mono (c_cErr2 (hS.owns (by repeat (first | exact Spl.nil | (apply Spl.cons (by repeat (exact Del.head)))))) (by assumption)) ?_
   rintro _ w5 ⟨rfl, hC5⟩
   replace hS := hS.frame (by repeat (first | exact Spl.nil | (apply Spl.cons (by repeat (exact Del.head))))) hC5 (by intro r hr g hg; simp only [List.mem_cons, List.not_mem_nil, or_false] at hr; rcases hr with rfl | rfl | rfl <;> (simp [Res.reads] at hg; done))
   simp only [List.cons_append, List.nil_append] at hS
   try simp only [opv, nZ, Value.cells]
   refine s_go (s_eql) ?_
   try simp only [opv, nZ, Value.cells]
   refine s_go (s_assign) ?_
   try simp only [opv, nZ, Value.cells]
   refine s_go (s_assign) ?_
   try simp only [opv, nZ, Value.cells]
   refine x_nil ?_
   refine hK5 _ _ ?_
   refine x_ret ?_
   refine r_tmp2 rfl ?_
   rw [hz]
   exact ⟨rfl, _, _, by assumption, by assumption, hS.sel (by repeat (first | exact Sel.nil | (refine Sel.cons (by repeat (exact Del.head)) ?_)))⟩
  ·
   try simp only [dZ, ne_eq, bne_iff_ne, beq_iff_eq] at hc1
   have hz := askS_good (b := decide ((numS 4294967295 e xs).1 = 0)) (w := e2) (s := (numS 4294967295 e xs).2) (by simpa using hc1)
   refine x_skip ?_
   refine hK3 _ _ ?_
   refine x_seq fun K6 hK6 => ?_
   refine x_region ?_
   refine s_go (s_move) ?_
   try simp only [opv, nZ, Value.cells]
   refine s_go (s_move) ?_
   try simp only [opv, nZ, Value.cells]
   refine s_call en150 ?_
   try simp only [opv, nZ, Value.cells, List.map_toArray, List.map_cons, List.map_nil, List.append_toArray, List.cons_append, List.nil_append, Array.append_empty]
   refine CallR.mono (c_cErr2 (hS.owns (by repeat (first | exact Spl.nil | (apply Spl.cons (by repeat (exact Del.head)))))) (by assumption)) ?_
   rintro _ w6 ⟨rfl, hC6⟩
   replace hS := hS.frame (by repeat (first | exact Spl.nil | (apply Spl.cons (by repeat (exact Del.head))))) hC6 (by intro r hr g hg; simp only [List.mem_cons, List.not_mem_nil, or_false] at hr; rcases hr with rfl | rfl | rfl <;> first | (simp [Res.reads] at hg; done) | exact .inr ⟨_, by simp, .inr hg⟩)
   simp only [List.cons_append, List.nil_append] at hS
   try simp only [opv, nZ, Value.cells]
   refine s_go (s_eql) ?_
   try simp only [opv, nZ, Value.cells]
   refine s_go (s_assign) ?_
   try simp only [opv, nZ, Value.cells]
   refine s_go (s_assign) ?_
   try simp only [opv, nZ, Value.cells]
   refine x_nil ?_
   refine hK6 _ _ ?_
   refine x_ret ?_
   refine r_tmp2 rfl ?_
   rw [hz]
   exact ⟨rfl, _, _, by assumption, by assumption, hS.sel (by repeat (first | exact Sel.nil | (refine Sel.cons (by repeat (exact Del.head)) ?_)))⟩
 ·
  try simp only [n3, n4]
  try simp only [dZ, ne_eq] at hp1
  have hE : ¬ (numS 4294967295 e xs).2.1 = 0 := by simpa using hp1
  have hz := askS_err (b := decide ((numS 4294967295 e xs).1 = 0)) (w := e2) hE
  refine g_off (yi (t := 16) rfl rfl) ?_
  try simp only [opv, nZ, Value.cells]
  refine g_off (yi (t := 16) rfl rfl) ?_
  try simp only [opv, nZ, Value.cells]
  refine g_off (yi (t := 16) rfl rfl) ?_
  try simp only [opv, nZ, Value.cells]
  refine g_off (yi (t := 16) rfl rfl) ?_
  try simp only [opv, nZ, Value.cells]
  refine s_go (s_pick_f) ?_
  try simp only [opv, nZ, Value.cells]
  refine x_nil ?_
  refine hK4 _ _ ?_
  refine x_cond_f (h := ?_)
  skip
  refine x_skip ?_
  refine hK3 _ _ ?_
  refine x_seq fun K7 hK7 => ?_
  refine x_region ?_
  refine s_go (s_move) ?_
  try simp only [opv, nZ, Value.cells]
  refine s_go (s_move) ?_
  try simp only [opv, nZ, Value.cells]
  refine s_call en150 ?_
  try simp only [opv, nZ, Value.cells, List.map_toArray, List.map_cons, List.map_nil, List.append_toArray, List.cons_append, List.nil_append, Array.append_empty]
  refine CallR.mono (c_cErr2 (hS.owns (by repeat (first | exact Spl.nil | (apply Spl.cons (by repeat (exact Del.head)))))) (by assumption)) ?_
  rintro _ w7 ⟨rfl, hC7⟩
  replace hS := hS.frame (by repeat (first | exact Spl.nil | (apply Spl.cons (by repeat (exact Del.head))))) hC7 (by intro r hr g hg; simp only [List.mem_cons, List.not_mem_nil, or_false] at hr; rcases hr with rfl | rfl | rfl <;> first | (simp [Res.reads] at hg; done) | exact .inr ⟨_, by simp, .inr hg⟩)
  simp only [List.cons_append, List.nil_append] at hS
  try simp only [opv, nZ, Value.cells]
  refine s_go (s_eql) ?_
  try simp only [opv, nZ, Value.cells]
  refine s_go (s_assign) ?_
  try simp only [opv, nZ, Value.cells]
  refine s_go (s_assign) ?_
  try simp only [opv, nZ, Value.cells]
  refine x_nil ?_
  refine hK7 _ _ ?_
  refine x_ret ?_
  refine r_tmp2 rfl ?_
  rw [hz]
  exact ⟨rfl, _, _, by assumption, by assumption, hS.sel (by repeat (first | exact Sel.nil | (refine Sel.cons (by repeat (exact Del.head)) ?_)))⟩
end Go.Proofs.YtffmanidnlbjjaaGreat
set_option linter.unusedSimpArgs false
set_option linter.unusedVariables false
set_option maxHeartbeats 4000000
set_option maxRecDepth 100000
namespace Go.Proofs.YtffmanidnlbjjaaGreat
open Go.RowKit

theorem mk_set1 {s c c' r q : Nat} {l : List Int} : (mkKey s c l r q).set 1 (c' : Int) = mkKey s c' l r q := rfl
theorem mk_item_put {s c r q : Nat} {l l' : List Int} (h : l.length = 8) (h' : l'.length = 8) : splice (KA (mkKey s c l r q)).toList 2 (ic .u8 l').toList = zi keyKs (mkKey s c l' r q) := by
  rw [key_put (mkKey_len h) h']
  match l, h with
  | [_, _, _, _, _, _, _, _], _ => rfl
theorem mk_set10 {s c r r' q : Nat} {l : List Int} (h : l.length = 8) : (mkKey s c l r q).set 10 (r' : Int) = mkKey s c l r' q := by
  match l, h with
  | [_, _, _, _, _, _, _, _], _ => rfl
theorem mk_set11 {s c r q q' : Nat} {l : List Int} (h : l.length = 8) : (mkKey s c l r q).set 11 (q' : Int) = mkKey s c l r q' := by
  match l, h with
  | [_, _, _, _, _, _, _, _], _ => rfl
theorem toNat_of {a : Int} (h : 0 ≤ a ∧ a ≤ 255) : ((a.toNat : Nat) : Int) = a := Int.toNat_of_nonneg h.1

theorem key_lit {a : Int} (h : 0 ≤ a ∧ a ≤ 255) {c : Nat} : (#[.int .u8 a, .int .u16 (c : Int), .int .u8 0, .int .u8 0, .int .u8 0, .int .u8 0, .int .u8 0, .int .u8 0, .int .u8 0, .int .u8 0, .int .u8 0, .int .u32 0] : Array Value) = KA (mkKey a.toNat c nm0 0 0) := by
  have := Int.toNat_of_nonneg h.1
  show _ = KA ([((a.toNat : Nat) : Int), (c : Int)] ++ nm0 ++ [((0 : Nat) : Int), ((0 : Nat) : Int)])
  rw [this]; rfl
theorem mk_set10i {s c r q : Nat} {l : List Int} {a : Int} (h : l.length = 8) (ha : 0 ≤ a ∧ a ≤ 255) : (mkKey s c l r q).set 10 a = mkKey s c l a.toNat q := by
  have := Int.toNat_of_nonneg ha.1
  rw [← this, mk_set10 h, Int.toNat_natCast]

theorem c_keyRead (w0 : World) (g : Nat) (e : Int) (A : Option Addr) (c : Nat) (xs : List Int) (hc : xs.length ≤ c) (hw : Byt xs) (hn : xs.length ≤ 1000000000) (hM : St (OwnB [.obj g (.cells #[.int .i64 e, .slice A xs.length c] 189 (0, 0)), .rd A 1 xs.length (xs.map (Value.int .u8))]) w0 w0 [.obj g (.cells #[.int .i64 e, .slice A xs.length c] 189 (0, 0)), .rd A 1 xs.length (xs.map (Value.int .u8))]) :
    CallR Tryz.prog 190 #[.pointer (some ⟨g, 0, none⟩)] w0 fun v w' => v = .agg (KA (keyS e xs).1) ∧ CuSt w0 w' [.obj g (.cells #[.int .i64 e, .slice A xs.length c] 189 (0, 0)), .rd A 1 xs.length (xs.map (Value.int .u8))] g (keyS e xs).2.1 (keyS e xs).2.2 [] := by
 have hS := hM
 have hw1 := kS1_byt (e := e) hw
 have hw2 := kS2_byt (e := e) hw
 have hw3 := kS3_byt (e := e) hw
 have hw4 := kS4_byt (e := e) hw
 have hw5 := kS5_byt (e := e) hw
 have hl1 := kS1_len (e := e) (xs := xs)
 have hl2 := kS2_len (e := e) (xs := xs)
 have hl3 := kS3_len (e := e) (xs := xs)
 have hl4 := kS4_len (e := e) (xs := xs)
 have hl5 := kS5_len (e := e) (xs := xs)
 have hav := oneS_val (e := e) hw
 have hrv := oneS_val (e := (kS3 e xs).1) hw3
 have hcv := numS_le 65535 (kS1 e xs).1 (kS1 e xs).2
 have hqv := numS_le 4294967295 (kS4 e xs).1 (kS4 e xs).2
 have hnl := namS_len (kS2 e xs).1 (kS2 e xs).2
 have hk0l : key0.length = 12 := rfl
 refine c_enter (l := [.pointer (some ⟨g, 0, none⟩), undef, undef, undef, undef, undef, undef, undef, undef, undef, undef, undef, undef, undef, undef, undef, undef, undef, undef, undef, undef, undef, undef, undef, undef, undef, undef, undef, undef, undef, undef, undef, undef, undef, undef, undef, undef, undef, undef, undef, undef, undef, undef, undef, undef, undef, undef, undef, undef, undef, undef, undef, undef, undef, undef, undef, undef, undef, undef, undef, undef, undef, undef, undef, undef, undef, undef]) Tryz.func190 rfl (by simp only [Tryz.ntmps190, List.size_toArray, List.length_cons, List.length_nil, Nat.reduceAdd, Nat.reduceSub, Array.replicate_succ, Array.replicate_zero, List.push_toArray, List.append_toArray, List.nil_append, List.cons_append]) ?_
 refine x_seq fun K1 hK1 => ?_
 refine x_region ?_
 refine m_box hS (fun w1 g1 hS => ?_)
 try simp only [opv, nZ, Value.cells, Array.toArray_toList] at hS ⊢
 refine m_alloc ti83 hS (fun w2 g2 hS => ?_)
 try simp only [opv, nZ, Value.cells, Array.toArray_toList] at hS ⊢
 replace hS : St (OwnB [.obj g (.cells #[.int .i64 e, .slice A xs.length c] 189 (0, 0)), .rd A 1 xs.length (xs.map (Value.int .u8))]) w0 w2 (.obj g2 (.cells (KA key0) 83 (0, 0)) :: _) := hS
 refine x_nil ?_
 refine hK1 _ _ ?_
 refine x_seq fun K2 hK2 => ?_
 refine x_region ?_
 refine s_go (m_load_obj Tryz.underlying130 (hS := hS) (hv := by rfl)) ?_
 try simp only [opv, nZ, Value.cells, List.getElem_toArray, List.getElem_cons_zero, List.getElem_cons_succ]
 refine s_go (m_load_obj Tryz.underlying130 (hS := hS) (hv := by rfl)) ?_
 try simp only [opv, nZ, Value.cells, List.getElem_toArray, List.getElem_cons_zero, List.getElem_cons_succ]
 refine s_go (s_makeFunc) ?_
 try simp only [opv, nZ, Value.cells, List.map_toArray, List.map_cons, List.map_nil]
 refine s_call en215 ?_
 try simp only [opv, nZ, Value.cells, List.map_toArray, List.map_cons, List.map_nil, List.append_toArray, List.cons_append, List.nil_append, Array.append_empty]
 refine CallR.mono (c_askB _ g e A c xs hc hw hn (fun b => decide (1 ≤ b ∧ b ≤ 4)) _ en217 (fun w b hb => c_keyRead1 b hb w) 3 (by decide) (hS.owns (by repeat (first | exact Spl.nil | (apply Spl.cons (by repeat (first | exact Del.head | apply Del.tail))))))) ?_
 rintro _ w3 ⟨rfl, Aa, ca, hcpa, hRa, hCa⟩
 have hYa := RdIn.trans hM hS (by repeat (first | exact Spl.nil | (apply Spl.cons (by repeat (first | exact Del.head | apply Del.tail))))) hRa (by intro s hs q hb; simp only [List.mem_cons, List.not_mem_nil, or_false] at hs; rcases hs with rfl | rfl <;> first | (simp [Res.reads] at hb; done) | exact .inr ⟨_, List.mem_cons_of_mem _ (List.mem_cons_self ..), .inr hb⟩)
 replace hS := hS.frame (by repeat (first | exact Spl.nil | (apply Spl.cons (by repeat (first | exact Del.head | apply Del.tail))))) hCa (by intro r hr b hb; simp only [List.mem_cons, List.not_mem_nil, or_false] at hr; rcases hr with rfl | rfl <;> first | (simp [Res.reads] at hb; done) | exact hRa b hb)
 replace hRa := hYa
 simp only [List.cons_append, List.nil_append] at hS
 replace hcpa : (kS1 e xs).2.length ≤ ca := hcpa
 replace hS : St (OwnB [.obj g (.cells #[.int .i64 e, .slice A xs.length c] 189 (0, 0)), .rd A 1 xs.length (xs.map (Value.int .u8))]) w0 w3 (.obj g (.cells #[.int .i64 (kS1 e xs).1, .slice Aa (kS1 e xs).2.length ca] 189 (0, 0)) :: .rd Aa 1 (kS1 e xs).2.length ((kS1 e xs).2.map (Value.int .u8)) :: _) := hS
 try simp only [opv, nZ, Value.cells]
 refine s_go (s_move) ?_
 try simp only [opv, nZ, Value.cells]
 refine s_go (s_extract (hv := rfl)) ?_
 try simp only [List.getElem_toArray, List.getElem_cons_zero, List.getElem_cons_succ]
 try simp only [opv, nZ, Value.cells]
 refine s_go (s_extract (hv := rfl)) ?_
 try simp only [List.getElem_toArray, List.getElem_cons_zero, List.getElem_cons_succ]
 try simp only [opv, nZ, Value.cells]
 refine s_go (s_assign) ?_
 try simp only [opv, nZ, Value.cells]
 refine s_go (s_assign) ?_
 try simp only [opv, nZ, Value.cells]
 refine x_nil ?_
 refine hK2 _ _ ?_
 refine x_seq fun K3 hK3 => ?_
 refine x_region ?_
 refine s_go (m_load_obj Tryz.underlying130 (hS := hS) (hv := by rfl)) ?_
 try simp only [opv, nZ, Value.cells, List.getElem_toArray, List.getElem_cons_zero, List.getElem_cons_succ]
 refine s_call en87 ?_
 try simp only [opv, nZ, Value.cells, List.map_toArray, List.map_cons, List.map_nil, List.append_toArray, List.cons_append, List.nil_append, Array.append_empty]
 refine CallR.mono (c_cNum _ g (kS1 e xs).1 Aa ca (kS1 e xs).2 hcpa hw1 (by omega) 65535 (by omega) (hS.owns (by repeat (first | exact Spl.nil | (apply Spl.cons (by repeat (exact Del.head))))))) ?_
 rintro _ w4 ⟨rfl, Ab, cb, hcpb, hRb, hCb⟩
 have hYb := RdIn.trans hM hS (by repeat (first | exact Spl.nil | (apply Spl.cons (by repeat (exact Del.head))))) hRb (by intro s hs q hb; simp only [List.mem_cons, List.not_mem_nil, or_false] at hs; rcases hs with rfl | rfl <;> first | (simp [Res.reads] at hb; done) | exact hRa q hb)
 replace hS := hS.frame (by repeat (first | exact Spl.nil | (apply Spl.cons (by repeat (exact Del.head))))) hCb (by intro r hr b hb; simp only [List.mem_cons, List.not_mem_nil, or_false] at hr; rcases hr with rfl | rfl <;> first | (simp [Res.reads] at hb; done) | exact hRb b hb)
 replace hRb := hYb
 simp only [List.cons_append, List.nil_append] at hS
 replace hcpb : (kS2 e xs).2.length ≤ cb := hcpb
 replace hS : St (OwnB [.obj g (.cells #[.int .i64 e, .slice A xs.length c] 189 (0, 0)), .rd A 1 xs.length (xs.map (Value.int .u8))]) w0 w4 (.obj g (.cells #[.int .i64 (kS2 e xs).1, .slice Ab (kS2 e xs).2.length cb] 189 (0, 0)) :: .rd Ab 1 (kS2 e xs).2.length ((kS2 e xs).2.map (Value.int .u8)) :: _) := hS
 try simp only [opv, nZ, Value.cells]
 refine s_go (s_assign) ?_
 try simp only [opv, nZ, Value.cells]
 refine x_nil ?_
 refine hK3 _ _ ?_
 refine x_seq fun K4 hK4 => ?_
 refine x_region ?_
 refine s_go (s_move) ?_
 try simp only [opv, nZ, Value.cells]
 refine s_go (s_move) ?_
 try simp only [opv, nZ, Value.cells]
 refine s_go (s_conv Tryz.underlying84 Tryz.underlying39 (hc := by exact wr_u16 (by omega) (by omega))) ?_
 try simp only [opv, nZ, Value.cells]
 refine s_go (s_build_struct (cells := #[_, _, .int .u8 0, .int .u8 0, .int .u8 0, .int .u8 0, .int .u8 0, .int .u8 0, .int .u8 0, .int .u8 0, .int .u8 0, .int .u32 0]) Tryz.underlying83 ti83 bp83 (hc := by simp only [List.map_toArray, List.map_cons, List.map_nil, opv, nZ, Value.cells, List.toList_toArray]; (repeat (refine fill_cons rfl rfl (Nat.le_of_ble_eq_true rfl) ?_)); rfl)) ?_
 try simp only [opv, nZ, Value.cells]
 rw [key_lit hav]
 have hkl : (mkKey (oneS e xs).1.toNat (kC e xs) nm0 0 0).length = 12 := rfl
 refine m_store_obj ti83 (hS := hS) (hc := by exact zi_whole (by omega) (by omega)) (hv := by rfl) (hfit := by (rw [zi_size (by omega)]; decide)) (h1 := by exact zi_one _ _) (h := fun w5 hS => ?_)
 try simp only [opv, nZ, Value.cells, Array.toArray_toList] at hS ⊢
 refine x_nil ?_
 refine hK4 _ _ ?_
 refine x_seq fun K5 hK5 => ?_
 refine x_seq fun K6 hK6 => ?_
 refine x_region ?_
 refine s_go (s_move) ?_
 try simp only [opv, nZ, Value.cells]
 refine s_go (s_move) ?_
 try simp only [opv, nZ, Value.cells]
 refine s_part 22 rfl (fun hp1 => ?_) (fun hp1 => ?_)
 ·
  try simp only [n3, n4]
  try simp only [dZ, ne_eq] at hp1
  have h1 : (kS1 e xs).1 = 0 := hp1
  refine g_on (yi (t := 22) rfl rfl) ?_
  refine s_go (m_load_obj Tryz.underlying130 (hS := hS) (hv := by rfl)) ?_
  try simp only [opv, nZ, Value.cells, List.getElem_toArray, List.getElem_cons_zero, List.getElem_cons_succ]
  refine g_on (yi (t := 22) rfl rfl) ?_
  refine s_call en150 ?_
  try simp only [opv, nZ, Value.cells, List.map_toArray, List.map_cons, List.map_nil, List.append_toArray, List.cons_append, List.nil_append, Array.append_empty]
  refine CallR.mono (c_cErr _ g ((kS2 e xs).1) Ab cb ((kS2 e xs).2) hcpb (hS.owns (by repeat (first | exact Spl.nil | (apply Spl.cons (by repeat (exact Del.head))))))) ?_
  rintro _ w6 ⟨rfl, hC6⟩
  replace hS := hS.frame (by repeat (first | exact Spl.nil | (apply Spl.cons (by repeat (exact Del.head))))) hC6 (by intro r hr g hg; simp only [List.mem_cons, List.not_mem_nil, or_false] at hr; rcases hr with rfl | rfl | rfl <;> first | (simp [Res.reads] at hg; done) | exact .inr ⟨_, by simp, .inr hg⟩)
  simp only [List.cons_append, List.nil_append] at hS
  try simp only [opv, nZ, Value.cells]
  refine g_on (yi (t := 22) rfl rfl) ?_
  refine s_go (s_eql) ?_
  try simp only [opv, nZ, Value.cells]
  refine s_go (s_pick_t) ?_
  try simp only [opv, nZ, Value.cells]
  refine s_go (s_assign) ?_
  try simp only [opv, nZ, Value.cells]
  refine x_nil ?_
  refine hK6 _ _ ?_
  refine x_seq fun K7 hK7 => ?_
  refine x_region ?_
  refine s_go (s_move) ?_
  try simp only [opv, nZ, Value.cells]
  refine s_go (s_move) ?_
  try simp only [opv, nZ, Value.cells]
  refine s_part 28 rfl (fun hp2 => ?_) (fun hp2 => ?_)
  ·
   try simp only [n3, n4]
   try simp only [dZ, ne_eq] at hp2
   have h2 : (kS2 e xs).1 = 0 := hp2
   refine g_on (yi (t := 28) rfl rfl) ?_
   refine s_go (s_move) ?_
   try simp only [opv, nZ, Value.cells]
   refine g_on (yi (t := 28) rfl rfl) ?_
   refine s_go (s_neq) ?_
   try simp only [opv, nZ, Value.cells]
   refine s_go (s_pick_t) ?_
   try simp only [opv, nZ, Value.cells]
   refine x_nil ?_
   refine hK7 _ _ ?_
   refine x_cond (ht := fun hc1 => ?_) (hf := fun hc1 => ?_)
   ·
    try simp only [dZ, ne_eq, bne_iff_ne, beq_iff_eq] at hc1
    have h4 : ¬ (oneS e xs).1 = 4 := hc1
    refine x_seq fun K8 hK8 => ?_
    refine x_region ?_
    refine s_go (m_load_obj Tryz.underlying130 (hS := hS) (hv := by rfl)) ?_
    try simp only [opv, nZ, Value.cells, List.getElem_toArray, List.getElem_cons_zero, List.getElem_cons_succ]
    refine s_go (m_load_obj Tryz.underlying130 (hS := hS) (hv := by rfl)) ?_
    try simp only [opv, nZ, Value.cells, List.getElem_toArray, List.getElem_cons_zero, List.getElem_cons_succ]
    refine s_go (s_makeFunc) ?_
    try simp only [opv, nZ, Value.cells, List.map_toArray, List.map_cons, List.map_nil]
    refine s_call en218 ?_
    try simp only [opv, nZ, Value.cells, List.map_toArray, List.map_cons, List.map_nil, List.append_toArray, List.cons_append, List.nil_append, Array.append_empty]
    refine CallR.mono (c_askN _ g (kS2 e xs).1 Ab cb (kS2 e xs).2 hcpb hw2 (by omega) 3 (by decide) (hS.owns (by repeat (first | exact Spl.nil | (apply Spl.cons (by repeat (exact Del.head))))))) ?_
    rintro _ w7 ⟨rfl, Ac, cc, hcpc, hRc, hCc⟩
    have hYc := RdIn.trans hM hS (by repeat (first | exact Spl.nil | (apply Spl.cons (by repeat (exact Del.head))))) hRc (by intro s hs q hb; simp only [List.mem_cons, List.not_mem_nil, or_false] at hs; rcases hs with rfl | rfl <;> first | (simp [Res.reads] at hb; done) | exact hRb q hb)
    replace hS := hS.frame (by repeat (first | exact Spl.nil | (apply Spl.cons (by repeat (exact Del.head))))) hCc (by intro r hr b hb; simp only [List.mem_cons, List.not_mem_nil, or_false] at hr; rcases hr with rfl | rfl <;> first | (simp [Res.reads] at hb; done) | exact hRc b hb)
    replace hRc := hYc
    simp only [List.cons_append, List.nil_append] at hS
    replace hcpc : (kS3 e xs).2.length ≤ cc := hcpc
    replace hS : St (OwnB [.obj g (.cells #[.int .i64 e, .slice A xs.length c] 189 (0, 0)), .rd A 1 xs.length (xs.map (Value.int .u8))]) w0 w7 (.obj g (.cells #[.int .i64 (kS3 e xs).1, .slice Ac (kS3 e xs).2.length cc] 189 (0, 0)) :: .rd Ac 1 (kS3 e xs).2.length ((kS3 e xs).2.map (Value.int .u8)) :: _) := hS
    try simp only [opv, nZ, Value.cells]
    refine s_go (s_move) ?_
    try simp only [opv, nZ, Value.cells]
    refine s_go (s_extract (hv := rfl)) ?_
    try simp only [List.getElem_toArray, List.getElem_cons_zero, List.getElem_cons_succ]
    try simp only [opv, nZ, Value.cells]
    refine s_go (s_extract (hv := rfl)) ?_
    try simp only [List.getElem_toArray, List.getElem_cons_zero, List.getElem_cons_succ]
    try simp only [opv, nZ, Value.cells]
    refine s_go (m_fieldAddr Tryz.underlying83 (hi := ti41)) ?_
    try simp only [opv, nZ, Value.cells, Nat.zero_add, Nat.add_zero, List.getElem_toArray, List.getElem_cons_zero, List.getElem_cons_succ]
    refine m_store_obj ti41 (hS := hS) (hc := mk_item_put rfl hnl) (hv := by (show (ic .u8 _).size = 8; rw [ic_size]; exact hnl)) (hfit := by (rw [zi_size (by omega)]; decide)) (h1 := by exact ic_one _ _) (h := fun w8 hS => ?_)
    try simp only [opv, nZ, Value.cells, Array.toArray_toList] at hS ⊢
    have hkl2 : (mkKey (oneS e xs).1.toNat (kC e xs) (kN e xs) 0 0).length = 12 := mkKey_len hnl
    refine x_nil ?_
    refine hK8 _ _ ?_
    refine x_region ?_
    refine s_go (m_load_obj Tryz.underlying130 (hS := hS) (hv := by rfl)) ?_
    try simp only [opv, nZ, Value.cells, List.getElem_toArray, List.getElem_cons_zero, List.getElem_cons_succ]
    refine s_go (m_load_obj Tryz.underlying130 (hS := hS) (hv := by rfl)) ?_
    try simp only [opv, nZ, Value.cells, List.getElem_toArray, List.getElem_cons_zero, List.getElem_cons_succ]
    refine s_go (s_makeFunc) ?_
    try simp only [opv, nZ, Value.cells, List.map_toArray, List.map_cons, List.map_nil]
    refine s_call en215 ?_
    try simp only [opv, nZ, Value.cells, List.map_toArray, List.map_cons, List.map_nil, List.append_toArray, List.cons_append, List.nil_append, Array.append_empty]
    refine CallR.mono (c_askB _ g (kS3 e xs).1 Ac cc (kS3 e xs).2 hcpc hw3 (by omega) (fun b => decide (b < 16)) _ en220 (fun w b hb => c_keyRead2 b hb w) 2 (by decide) (hS.owns (by repeat (first | exact Spl.nil | (apply Spl.cons (by repeat (exact Del.head))))))) ?_
    rintro _ w9 ⟨rfl, Ad, cd, hcpd, hRd, hCd⟩
    have hYd := RdIn.trans hM hS (by repeat (first | exact Spl.nil | (apply Spl.cons (by repeat (exact Del.head))))) hRd (by intro s hs q hb; simp only [List.mem_cons, List.not_mem_nil, or_false] at hs; rcases hs with rfl | rfl <;> first | (simp [Res.reads] at hb; done) | exact hRc q hb)
    replace hS := hS.frame (by repeat (first | exact Spl.nil | (apply Spl.cons (by repeat (exact Del.head))))) hCd (by intro r hr b hb; simp only [List.mem_cons, List.not_mem_nil, or_false] at hr; rcases hr with rfl | rfl <;> first | (simp [Res.reads] at hb; done) | exact hRd b hb)
    replace hRd := hYd
    simp only [List.cons_append, List.nil_append] at hS
    replace hcpd : (kS4 e xs).2.length ≤ cd := hcpd
    replace hS : St (OwnB [.obj g (.cells #[.int .i64 e, .slice A xs.length c] 189 (0, 0)), .rd A 1 xs.length (xs.map (Value.int .u8))]) w0 w9 (.obj g (.cells #[.int .i64 (kS4 e xs).1, .slice Ad (kS4 e xs).2.length cd] 189 (0, 0)) :: .rd Ad 1 (kS4 e xs).2.length ((kS4 e xs).2.map (Value.int .u8)) :: _) := hS
    try simp only [opv, nZ, Value.cells]
    refine s_go (s_move) ?_
    try simp only [opv, nZ, Value.cells]
    refine s_go (s_extract (hv := rfl)) ?_
    try simp only [List.getElem_toArray, List.getElem_cons_zero, List.getElem_cons_succ]
    try simp only [opv, nZ, Value.cells]
    refine s_go (s_extract (hv := rfl)) ?_
    try simp only [List.getElem_toArray, List.getElem_cons_zero, List.getElem_cons_succ]
    try simp only [opv, nZ, Value.cells]
    refine s_go (m_fieldAddr Tryz.underlying83 (hi := ti5)) ?_
    try simp only [opv, nZ, Value.cells, Nat.zero_add, Nat.add_zero, List.getElem_toArray, List.getElem_cons_zero, List.getElem_cons_succ]
    refine m_store_obj ti5 (hS := hS) (hc := by exact zi_set rfl (by omega)) (hv := by rfl) (hfit := by (rw [zi_size (by omega)]; decide)) (h1 := by simp [opv, Value.cells, Value.oneCell']) (h := fun w10 hS => ?_)
    try simp only [opv, nZ, Value.cells, Array.toArray_toList] at hS ⊢
    rw [mk_set10i hnl hrv] at hS
    have hkl3 : (mkKey (oneS e xs).1.toNat (kC e xs) (kN e xs) (kR e xs).toNat 0).length = 12 := mkKey_len hnl
    refine s_go (s_assign) ?_
    try simp only [opv, nZ, Value.cells]
    refine x_nil ?_
    refine hK5 _ _ ?_
    refine x_seq fun K9 hK9 => ?_
    refine x_seq fun K10 hK10 => ?_
    refine x_region ?_
    refine s_go (s_move) ?_
    try simp only [opv, nZ, Value.cells]
    refine s_go (s_move) ?_
    try simp only [opv, nZ, Value.cells]
    refine s_part 49 rfl (fun hp3 => ?_) (fun hp3 => ?_)
    ·
     try simp only [n3, n4]
     try simp only [dZ, ne_eq] at hp3
     have h5 : (kS4 e xs).1 = 0 := hp3
     refine g_on (yi (t := 49) rfl rfl) ?_
     refine s_go (s_move) ?_
     try simp only [opv, nZ, Value.cells]
     refine g_on (yi (t := 49) rfl rfl) ?_
     refine s_go (s_eql) ?_
     try simp only [opv, nZ, Value.cells]
     refine s_go (s_pick_t) ?_
     try simp only [opv, nZ, Value.cells]
     refine x_nil ?_
     refine hK10 _ _ ?_
     refine x_cond (ht := fun hc2 => ?_) (hf := fun hc2 => ?_)
     ·
      try simp only [dZ, ne_eq, bne_iff_ne, beq_iff_eq] at hc2
      have h6 : (oneS e xs).1 = 1 := by assumption
      refine x_seq fun K11 hK11 => ?_
      refine x_region ?_
      refine s_go (m_load_obj Tryz.underlying130 (hS := hS) (hv := by rfl)) ?_
      try simp only [opv, nZ, Value.cells, List.getElem_toArray, List.getElem_cons_zero, List.getElem_cons_succ]
      refine s_go (s_makeFunc) ?_
      try simp only [opv, nZ, Value.cells, List.map_toArray, List.map_cons, List.map_nil]
      refine s_call en221 ?_
      try simp only [opv, nZ, Value.cells, List.map_toArray, List.map_cons, List.map_nil, List.append_toArray, List.cons_append, List.nil_append, Array.append_empty]
      refine CallR.mono (c_askU _ g (kS4 e xs).1 Ad cd (kS4 e xs).2 hcpd hw4 (by omega) _ 3 (by decide) (hS.owns (by repeat (first | exact Spl.nil | (apply Spl.cons (by repeat (first | exact Del.head | apply Del.tail))))))) ?_
      rintro _ w11 ⟨rfl, Ae, ce, hcpe, hRe, hCe⟩
      have hYe := RdIn.trans hM hS (by repeat (first | exact Spl.nil | (apply Spl.cons (by repeat (first | exact Del.head | apply Del.tail))))) hRe (by intro s hs q hb; simp only [List.mem_cons, List.not_mem_nil, or_false] at hs; rcases hs with rfl | rfl | rfl <;> first | (simp [Res.reads] at hb; done) | exact hRd q hb)
      replace hS := hS.frame (by repeat (first | exact Spl.nil | (apply Spl.cons (by repeat (first | exact Del.head | apply Del.tail))))) hCe (by intro r hr b hb; simp only [List.mem_cons, List.not_mem_nil, or_false] at hr; rcases hr with rfl | rfl | rfl <;> first | (simp [Res.reads] at hb; done) | exact hRe b hb)
      replace hRe := hYe
      simp only [List.cons_append, List.nil_append] at hS
      replace hcpe : (kS5 e xs).2.length ≤ ce := hcpe
      replace hS : St (OwnB [.obj g (.cells #[.int .i64 e, .slice A xs.length c] 189 (0, 0)), .rd A 1 xs.length (xs.map (Value.int .u8))]) w0 w11 (.obj g (.cells #[.int .i64 (kS5 e xs).1, .slice Ae (kS5 e xs).2.length ce] 189 (0, 0)) :: .rd Ae 1 (kS5 e xs).2.length ((kS5 e xs).2.map (Value.int .u8)) :: _) := hS
      try simp only [opv, nZ, Value.cells]
      refine s_go (s_move) ?_
      try simp only [opv, nZ, Value.cells]
      refine s_go (s_extract (hv := rfl)) ?_
      try simp only [List.getElem_toArray, List.getElem_cons_zero, List.getElem_cons_succ]
      try simp only [opv, nZ, Value.cells]
      refine s_go (s_extract (hv := rfl)) ?_
      try simp only [List.getElem_toArray, List.getElem_cons_zero, List.getElem_cons_succ]
      try simp only [opv, nZ, Value.cells]
      refine s_go (s_assign) ?_
      try simp only [opv, nZ, Value.cells]
      refine s_go (s_assign) ?_
      try simp only [opv, nZ, Value.cells]
      refine x_nil ?_
      refine hK11 _ _ ?_
      refine x_region ?_
      refine s_go (s_move) ?_
      try simp only [opv, nZ, Value.cells]
      refine s_go (s_conv Tryz.underlying84 Tryz.underlying24 (hc := by exact wr_u32 (by omega) (by omega))) ?_
      try simp only [opv, nZ, Value.cells]
      refine s_go (m_fieldAddr Tryz.underlying83 (hi := ti24)) ?_
      try simp only [opv, nZ, Value.cells, Nat.zero_add, Nat.add_zero, List.getElem_toArray, List.getElem_cons_zero, List.getElem_cons_succ]
      refine m_store_obj ti24 (hS := hS) (hc := by exact zi_set rfl (by omega)) (hv := by rfl) (hfit := by (rw [zi_size (by omega)]; decide)) (h1 := by simp [opv, Value.cells, Value.oneCell']) (h := fun w12 hS => ?_)
      try simp only [opv, nZ, Value.cells, Array.toArray_toList] at hS ⊢
      rw [mk_set11 hnl] at hS
      have hkl4 : (mkKey (oneS e xs).1.toNat (kC e xs) (kN e xs) (kR e xs).toNat (kQ e xs)).length = 12 := mkKey_len hnl
      refine x_nil ?_
      refine hK9 _ _ ?_
      refine x_seq fun K12 hK12 => ?_
      refine x_seq fun K13 hK13 => ?_
      refine x_region ?_
      refine s_go (m_load_obj Tryz.underlying130 (hS := hS) (hv := by rfl)) ?_
      try simp only [opv, nZ, Value.cells, List.getElem_toArray, List.getElem_cons_zero, List.getElem_cons_succ]
      refine s_call en150 ?_
      try simp only [opv, nZ, Value.cells, List.map_toArray, List.map_cons, List.map_nil, List.append_toArray, List.cons_append, List.nil_append, Array.append_empty]
      refine CallR.mono (c_cErr2 (hS.owns (by repeat (first | exact Spl.nil | (apply Spl.cons (by repeat (exact Del.head)))))) (by assumption)) ?_
      rintro _ w13 ⟨rfl, hC13⟩
      replace hS := hS.frame (by repeat (first | exact Spl.nil | (apply Spl.cons (by repeat (exact Del.head))))) hC13 (by intro r hr g hg; simp only [List.mem_cons, List.not_mem_nil, or_false] at hr; rcases hr with rfl | rfl | rfl <;> first | (simp [Res.reads] at hg; done) | exact .inr ⟨_, by simp, .inr hg⟩)
      simp only [List.cons_append, List.nil_append] at hS
      try simp only [opv, nZ, Value.cells]
      refine s_go (s_neq) ?_
      try simp only [opv, nZ, Value.cells]
      refine x_nil ?_
      refine hK13 _ _ ?_
      refine x_cond (ht := fun hc3 => ?_) (hf := fun hc3 => ?_)
      ·
       try simp only [dZ, ne_eq, bne_iff_ne, beq_iff_eq] at hc3
       have hz := keyS_6 h1 h2 h5 h6 hc3
       refine x_seq fun K14 hK14 => ?_
       refine x_region ?_
       refine s_go (s_build_struct (cells := #[.int .u8 0, .int .u16 0, .int .u8 0, .int .u8 0, .int .u8 0, .int .u8 0, .int .u8 0, .int .u8 0, .int .u8 0, .int .u8 0, .int .u8 0, .int .u32 0]) Tryz.underlying83 ti83 bp83 (hc := by simp only [List.map_toArray, List.map_cons, List.map_nil, opv, nZ, Value.cells, List.toList_toArray]; (repeat (refine fill_cons rfl rfl (Nat.le_of_ble_eq_true rfl) ?_)); rfl)) ?_
       try simp only [opv, nZ, Value.cells]
       rw [show (#[.int .u8 0, .int .u16 0, .int .u8 0, .int .u8 0, .int .u8 0, .int .u8 0, .int .u8 0, .int .u8 0, .int .u8 0, .int .u8 0, .int .u8 0, .int .u32 0] : Array Value) = KA key0 from rfl]
       refine m_store_obj ti83 (hS := hS) (hc := by exact zi_whole (by omega) (by omega)) (hv := by rfl) (hfit := by (rw [zi_size (by omega)]; decide)) (h1 := by exact zi_one _ _) (h := fun w14 hS => ?_)
       try simp only [opv, nZ, Value.cells, Array.toArray_toList] at hS ⊢
       refine x_nil ?_
       refine hK14 _ _ ?_
       refine x_ret ?_
       refine r_cell_agg rfl Tryz.underlying83 ti83 (hS := hS) (hfit := by (rw [zi_size (by omega)]; rfl)) (hR := ?_)
       exact ⟨by rw [hz] <;> first | rfl | (rw [h4]; rfl) | (rw [h6]; rfl), _, _, by rw [hz]; assumption, by rw [hz]; assumption, by rw [hz]; exact hS.sel (by repeat (first | exact Sel.nil | (refine Sel.cons (by repeat (exact Del.head)) ?_)))⟩
      ·
       try simp only [dZ, ne_eq, bne_iff_ne, beq_iff_eq] at hc3
       have hz := keyS_7 h1 h2 h5 h6 hc3
       refine x_skip ?_
       refine hK12 _ _ ?_
       refine x_seq fun K15 hK15 => ?_
       refine x_region ?_
       refine s_go (m_load_row Tryz.underlying83 (hi := ti83) (hS := hS) (hfit := by (rw [zi_size (by omega)]; rfl))) ?_
       try simp only [opv, nZ, Value.cells, List.getElem_toArray, List.getElem_cons_zero, List.getElem_cons_succ]
       refine m_store_obj ti83 (hS := hS) (hc := by exact zi_whole (by omega) (by omega)) (hv := by (show (zi _ _).toArray.size = _; rw [zi_size (by omega)]; rfl)) (hfit := by (rw [zi_size (by omega)]; decide)) (h1 := by exact zi_one _ _) (h := fun w15 hS => ?_)
       try simp only [opv, nZ, Value.cells, Array.toArray_toList] at hS ⊢
       refine x_nil ?_
       refine hK15 _ _ ?_
       refine x_ret ?_
       refine r_cell_agg rfl Tryz.underlying83 ti83 (hS := hS) (hfit := by (rw [zi_size (by omega)]; rfl)) (hR := ?_)
       exact ⟨by rw [hz] <;> (rw [h6]; rfl), _, _, by rw [hz]; assumption, by rw [hz]; assumption, by rw [hz]; exact hS.sel (by repeat (first | exact Sel.nil | (refine Sel.cons (by repeat (exact Del.head)) ?_)))⟩
     ·
      try simp only [dZ, ne_eq, bne_iff_ne, beq_iff_eq] at hc2
      have h6 : ¬ (oneS e xs).1 = 1 := by assumption
      refine x_skip ?_
      refine hK9 _ _ ?_
      refine x_seq fun K16 hK16 => ?_
      refine x_seq fun K17 hK17 => ?_
      refine x_region ?_
      refine s_go (m_load_obj Tryz.underlying130 (hS := hS) (hv := by rfl)) ?_
      try simp only [opv, nZ, Value.cells, List.getElem_toArray, List.getElem_cons_zero, List.getElem_cons_succ]
      refine s_call en150 ?_
      try simp only [opv, nZ, Value.cells, List.map_toArray, List.map_cons, List.map_nil, List.append_toArray, List.cons_append, List.nil_append, Array.append_empty]
      refine CallR.mono (c_cErr2 (hS.owns (by repeat (first | exact Spl.nil | (apply Spl.cons (by repeat (exact Del.head)))))) (by assumption)) ?_
      rintro _ w16 ⟨rfl, hC16⟩
      replace hS := hS.frame (by repeat (first | exact Spl.nil | (apply Spl.cons (by repeat (exact Del.head))))) hC16 (by intro r hr g hg; simp only [List.mem_cons, List.not_mem_nil, or_false] at hr; rcases hr with rfl | rfl | rfl <;> first | (simp [Res.reads] at hg; done) | exact .inr ⟨_, by simp, .inr hg⟩)
      simp only [List.cons_append, List.nil_append] at hS
      try simp only [opv, nZ, Value.cells]
      refine s_go (s_neq) ?_
      try simp only [opv, nZ, Value.cells]
      refine x_nil ?_
      refine hK17 _ _ ?_
      refine x_cond (ht := fun hc4 => ?_) (hf := fun hc4 => ?_)
      ·
       try simp only [dZ, ne_eq, bne_iff_ne, beq_iff_eq] at hc4
       (exfalso; omega)
      ·
       try simp only [dZ, ne_eq, bne_iff_ne, beq_iff_eq] at hc4
       have hz := keyS_5 h1 h2 h4 h5 h6
       refine x_skip ?_
       refine hK16 _ _ ?_
       refine x_seq fun K19 hK19 => ?_
       refine x_region ?_
       refine s_go (m_load_row Tryz.underlying83 (hi := ti83) (hS := hS) (hfit := by (rw [zi_size (by omega)]; rfl))) ?_
       try simp only [opv, nZ, Value.cells, List.getElem_toArray, List.getElem_cons_zero, List.getElem_cons_succ]
       refine m_store_obj ti83 (hS := hS) (hc := by exact zi_whole (by omega) (by omega)) (hv := by (show (zi _ _).toArray.size = _; rw [zi_size (by omega)]; rfl)) (hfit := by (rw [zi_size (by omega)]; decide)) (h1 := by exact zi_one _ _) (h := fun w18 hS => ?_)
       try simp only [opv, nZ, Value.cells, Array.toArray_toList] at hS ⊢
       refine x_nil ?_
       refine hK19 _ _ ?_
       refine x_ret ?_
       refine r_cell_agg rfl Tryz.underlying83 ti83 (hS := hS) (hfit := by (rw [zi_size (by omega)]; rfl)) (hR := ?_)
       exact ⟨by rw [hz] <;> first | rfl | (rw [h4]; rfl) | (rw [h6]; rfl), _, _, by rw [hz]; assumption, by rw [hz]; assumption, by rw [hz]; exact hS.sel (by repeat (first | exact Sel.nil | (refine Sel.cons (by repeat (exact Del.head)) ?_)))⟩
    ·
     try simp only [n3, n4]
     try simp only [dZ, ne_eq] at hp3
     have h5 : ¬ (kS4 e xs).1 = 0 := hp3
     refine g_off (yi (t := 49) rfl rfl) ?_
     try simp only [opv, nZ, Value.cells]
     refine g_off (yi (t := 49) rfl rfl) ?_
     try simp only [opv, nZ, Value.cells]
     refine s_go (s_pick_f) ?_
     try simp only [opv, nZ, Value.cells]
     refine x_nil ?_
     refine hK10 _ _ ?_
     refine x_cond_f (h := ?_)
     skip
     refine x_skip ?_
     refine hK9 _ _ ?_
     refine x_seq fun K20 hK20 => ?_
     refine x_seq fun K21 hK21 => ?_
     refine x_region ?_
     refine s_go (m_load_obj Tryz.underlying130 (hS := hS) (hv := by rfl)) ?_
     try simp only [opv, nZ, Value.cells, List.getElem_toArray, List.getElem_cons_zero, List.getElem_cons_succ]
     refine s_call en150 ?_
     try simp only [opv, nZ, Value.cells, List.map_toArray, List.map_cons, List.map_nil, List.append_toArray, List.cons_append, List.nil_append, Array.append_empty]
     refine CallR.mono (c_cErr2 (hS.owns (by repeat (first | exact Spl.nil | (apply Spl.cons (by repeat (exact Del.head)))))) (by assumption)) ?_
     rintro _ w19 ⟨rfl, hC19⟩
     replace hS := hS.frame (by repeat (first | exact Spl.nil | (apply Spl.cons (by repeat (exact Del.head))))) hC19 (by intro r hr g hg; simp only [List.mem_cons, List.not_mem_nil, or_false] at hr; rcases hr with rfl | rfl | rfl <;> first | (simp [Res.reads] at hg; done) | exact .inr ⟨_, by simp, .inr hg⟩)
     simp only [List.cons_append, List.nil_append] at hS
     try simp only [opv, nZ, Value.cells]
     refine s_go (s_neq) ?_
     try simp only [opv, nZ, Value.cells]
     refine x_nil ?_
     refine hK21 _ _ ?_
     refine x_cond (ht := fun hc6 => ?_) (hf := fun hc6 => ?_)
     ·
      try simp only [dZ, ne_eq, bne_iff_ne, beq_iff_eq] at hc6
      have hz := keyS_4 h1 h2 h4 h5
      refine x_seq fun K22 hK22 => ?_
      refine x_region ?_
      refine s_go (s_build_struct (cells := #[.int .u8 0, .int .u16 0, .int .u8 0, .int .u8 0, .int .u8 0, .int .u8 0, .int .u8 0, .int .u8 0, .int .u8 0, .int .u8 0, .int .u8 0, .int .u32 0]) Tryz.underlying83 ti83 bp83 (hc := by simp only [List.map_toArray, List.map_cons, List.map_nil, opv, nZ, Value.cells, List.toList_toArray]; (repeat (refine fill_cons rfl rfl (Nat.le_of_ble_eq_true rfl) ?_)); rfl)) ?_
      try simp only [opv, nZ, Value.cells]
      rw [show (#[.int .u8 0, .int .u16 0, .int .u8 0, .int .u8 0, .int .u8 0, .int .u8 0, .int .u8 0, .int .u8 0, .int .u8 0, .int .u8 0, .int .u8 0, .int .u32 0] : Array Value) = KA key0 from rfl]
      refine m_store_obj ti83 (hS := hS) (hc := by exact zi_whole (by omega) (by omega)) (hv := by rfl) (hfit := by (rw [zi_size (by omega)]; decide)) (h1 := by exact zi_one _ _) (h := fun w20 hS => ?_)
      try simp only [opv, nZ, Value.cells, Array.toArray_toList] at hS ⊢
      refine x_nil ?_
      refine hK22 _ _ ?_
      refine x_ret ?_
      refine r_cell_agg rfl Tryz.underlying83 ti83 (hS := hS) (hfit := by (rw [zi_size (by omega)]; rfl)) (hR := ?_)
      exact ⟨by rw [hz] <;> first | rfl | (rw [h4]; rfl) | (rw [h6]; rfl), _, _, by rw [hz]; assumption, by rw [hz]; assumption, by rw [hz]; exact hS.sel (by repeat (first | exact Sel.nil | (refine Sel.cons (by repeat (exact Del.head)) ?_)))⟩
     ·
      try simp only [dZ, ne_eq, bne_iff_ne, beq_iff_eq] at hc6
      (exfalso; omega)
   ·
    try simp only [dZ, ne_eq, bne_iff_ne, beq_iff_eq] at hc1
    have h4 : (oneS e xs).1 = 4 := hc1
    refine x_skip ?_
    refine hK5 _ _ ?_
    refine x_seq fun K24 hK24 => ?_
    refine x_seq fun K25 hK25 => ?_
    refine x_region ?_
    refine s_go (s_move) ?_
    try simp only [opv, nZ, Value.cells]
    refine s_go (s_move) ?_
    try simp only [opv, nZ, Value.cells]
    refine s_part 49 rfl (fun hp4 => ?_) (fun hp4 => ?_)
    ·
     try simp only [n3, n4]
     try simp only [dZ, ne_eq] at hp4
     skip
     refine g_on (yi (t := 49) rfl rfl) ?_
     refine s_go (s_move) ?_
     try simp only [opv, nZ, Value.cells]
     refine g_on (yi (t := 49) rfl rfl) ?_
     refine s_go (s_eql) ?_
     try simp only [opv, nZ, Value.cells]
     refine s_go (s_pick_t) ?_
     try simp only [opv, nZ, Value.cells]
     refine x_nil ?_
     refine hK25 _ _ ?_
     refine x_cond (ht := fun hc7 => ?_) (hf := fun hc7 => ?_)
     ·
      try simp only [dZ, ne_eq, bne_iff_ne, beq_iff_eq] at hc7
      (exfalso; omega)
     ·
      try simp only [dZ, ne_eq, bne_iff_ne, beq_iff_eq] at hc7
      have h6 : ¬ (oneS e xs).1 = 1 := by assumption
      refine x_skip ?_
      refine hK24 _ _ ?_
      refine x_seq fun K31 hK31 => ?_
      refine x_seq fun K32 hK32 => ?_
      refine x_region ?_
      refine s_go (m_load_obj Tryz.underlying130 (hS := hS) (hv := by rfl)) ?_
      try simp only [opv, nZ, Value.cells, List.getElem_toArray, List.getElem_cons_zero, List.getElem_cons_succ]
      refine s_call en150 ?_
      try simp only [opv, nZ, Value.cells, List.map_toArray, List.map_cons, List.map_nil, List.append_toArray, List.cons_append, List.nil_append, Array.append_empty]
      refine CallR.mono (c_cErr2 (hS.owns (by repeat (first | exact Spl.nil | (apply Spl.cons (by repeat (exact Del.head)))))) (by assumption)) ?_
      rintro _ w27 ⟨rfl, hC27⟩
      replace hS := hS.frame (by repeat (first | exact Spl.nil | (apply Spl.cons (by repeat (exact Del.head))))) hC27 (by intro r hr g hg; simp only [List.mem_cons, List.not_mem_nil, or_false] at hr; rcases hr with rfl | rfl | rfl <;> first | (simp [Res.reads] at hg; done) | exact .inr ⟨_, by simp, .inr hg⟩)
      simp only [List.cons_append, List.nil_append] at hS
      try simp only [opv, nZ, Value.cells]
      refine s_go (s_neq) ?_
      try simp only [opv, nZ, Value.cells]
      refine x_nil ?_
      refine hK32 _ _ ?_
      refine x_cond (ht := fun hc9 => ?_) (hf := fun hc9 => ?_)
      ·
       try simp only [dZ, ne_eq, bne_iff_ne, beq_iff_eq] at hc9
       (exfalso; omega)
      ·
       try simp only [dZ, ne_eq, bne_iff_ne, beq_iff_eq] at hc9
       have hz := keyS_3 h1 h2 h4
       refine x_skip ?_
       refine hK31 _ _ ?_
       refine x_seq fun K34 hK34 => ?_
       refine x_region ?_
       refine s_go (m_load_row Tryz.underlying83 (hi := ti83) (hS := hS) (hfit := by (rw [zi_size (by omega)]; rfl))) ?_
       try simp only [opv, nZ, Value.cells, List.getElem_toArray, List.getElem_cons_zero, List.getElem_cons_succ]
       refine m_store_obj ti83 (hS := hS) (hc := by exact zi_whole (by omega) (by omega)) (hv := by rfl) (hfit := by (rw [zi_size (by omega)]; decide)) (h1 := by exact zi_one _ _) (h := fun w29 hS => ?_)
       try simp only [opv, nZ, Value.cells, Array.toArray_toList] at hS ⊢
       refine x_nil ?_
       refine hK34 _ _ ?_
       refine x_ret ?_
       refine r_cell_agg rfl Tryz.underlying83 ti83 (hS := hS) (hfit := by (rw [zi_size (by omega)]; rfl)) (hR := ?_)
       exact ⟨by rw [hz] <;> (rw [h4]; rfl), _, _, by rw [hz]; assumption, by rw [hz]; assumption, by rw [hz]; exact hS.sel (by repeat (first | exact Sel.nil | (refine Sel.cons (by repeat (exact Del.head)) ?_)))⟩
    ·
     try simp only [n3, n4]
     try simp only [dZ, ne_eq] at hp4
     (exfalso; omega)
  ·
   try simp only [n3, n4]
   try simp only [dZ, ne_eq] at hp2
   have h2 : ¬ (kS2 e xs).1 = 0 := hp2
   refine g_off (yi (t := 28) rfl rfl) ?_
   try simp only [opv, nZ, Value.cells]
   refine g_off (yi (t := 28) rfl rfl) ?_
   try simp only [opv, nZ, Value.cells]
   refine s_go (s_pick_f) ?_
   try simp only [opv, nZ, Value.cells]
   refine x_nil ?_
   refine hK7 _ _ ?_
   refine x_cond_f (h := ?_)
   skip
   refine x_skip ?_
   refine hK5 _ _ ?_
   refine x_seq fun K39 hK39 => ?_
   refine x_seq fun K40 hK40 => ?_
   refine x_region ?_
   refine s_go (s_move) ?_
   try simp only [opv, nZ, Value.cells]
   refine s_go (s_move) ?_
   try simp only [opv, nZ, Value.cells]
   refine s_part 49 rfl (fun hp5 => ?_) (fun hp5 => ?_)
   ·
    try simp only [n3, n4]
    try simp only [dZ, ne_eq] at hp5
    (exfalso; omega)
   ·
    try simp only [n3, n4]
    try simp only [dZ, ne_eq] at hp5
    skip
    refine g_off (yi (t := 49) rfl rfl) ?_
    try simp only [opv, nZ, Value.cells]
    refine g_off (yi (t := 49) rfl rfl) ?_
    try simp only [opv, nZ, Value.cells]
    refine s_go (s_pick_f) ?_
    try simp only [opv, nZ, Value.cells]
    refine x_nil ?_
    refine hK40 _ _ ?_
    refine x_cond_f (h := ?_)
    skip
    refine x_skip ?_
    refine hK39 _ _ ?_
    refine x_seq fun K50 hK50 => ?_
    refine x_seq fun K51 hK51 => ?_
    refine x_region ?_
    refine s_go (m_load_obj Tryz.underlying130 (hS := hS) (hv := by rfl)) ?_
    try simp only [opv, nZ, Value.cells, List.getElem_toArray, List.getElem_cons_zero, List.getElem_cons_succ]
    refine s_call en150 ?_
    try simp only [opv, nZ, Value.cells, List.map_toArray, List.map_cons, List.map_nil, List.append_toArray, List.cons_append, List.nil_append, Array.append_empty]
    refine CallR.mono (c_cErr2 (hS.owns (by repeat (first | exact Spl.nil | (apply Spl.cons (by repeat (exact Del.head)))))) (by assumption)) ?_
    rintro _ w41 ⟨rfl, hC41⟩
    replace hS := hS.frame (by repeat (first | exact Spl.nil | (apply Spl.cons (by repeat (exact Del.head))))) hC41 (by intro r hr g hg; simp only [List.mem_cons, List.not_mem_nil, or_false] at hr; rcases hr with rfl | rfl | rfl <;> first | (simp [Res.reads] at hg; done) | exact .inr ⟨_, by simp, .inr hg⟩)
    simp only [List.cons_append, List.nil_append] at hS
    try simp only [opv, nZ, Value.cells]
    refine s_go (s_neq) ?_
    try simp only [opv, nZ, Value.cells]
    refine x_nil ?_
    refine hK51 _ _ ?_
    refine x_cond (ht := fun hc17 => ?_) (hf := fun hc17 => ?_)
    ·
     try simp only [dZ, ne_eq, bne_iff_ne, beq_iff_eq] at hc17
     have hz := keyS_2 h1 h2
     refine x_seq fun K52 hK52 => ?_
     refine x_region ?_
     refine s_go (s_build_struct (cells := #[.int .u8 0, .int .u16 0, .int .u8 0, .int .u8 0, .int .u8 0, .int .u8 0, .int .u8 0, .int .u8 0, .int .u8 0, .int .u8 0, .int .u8 0, .int .u32 0]) Tryz.underlying83 ti83 bp83 (hc := by simp only [List.map_toArray, List.map_cons, List.map_nil, opv, nZ, Value.cells, List.toList_toArray]; (repeat (refine fill_cons rfl rfl (Nat.le_of_ble_eq_true rfl) ?_)); rfl)) ?_
     try simp only [opv, nZ, Value.cells]
     rw [show (#[.int .u8 0, .int .u16 0, .int .u8 0, .int .u8 0, .int .u8 0, .int .u8 0, .int .u8 0, .int .u8 0, .int .u8 0, .int .u8 0, .int .u8 0, .int .u32 0] : Array Value) = KA key0 from rfl]
     refine m_store_obj ti83 (hS := hS) (hc := by exact zi_whole (by omega) (by omega)) (hv := by rfl) (hfit := by (rw [zi_size (by omega)]; decide)) (h1 := by exact zi_one _ _) (h := fun w42 hS => ?_)
     try simp only [opv, nZ, Value.cells, Array.toArray_toList] at hS ⊢
     refine x_nil ?_
     refine hK52 _ _ ?_
     refine x_ret ?_
     refine r_cell_agg rfl Tryz.underlying83 ti83 (hS := hS) (hfit := by (rw [zi_size (by omega)]; rfl)) (hR := ?_)
     exact ⟨by rw [hz] <;> first | rfl | (rw [h4]; rfl) | (rw [h6]; rfl), _, _, by rw [hz]; assumption, by rw [hz]; assumption, by rw [hz]; exact hS.sel (by repeat (first | exact Sel.nil | (refine Sel.cons (by repeat (exact Del.head)) ?_)))⟩
    ·
     try simp only [dZ, ne_eq, bne_iff_ne, beq_iff_eq] at hc17
     (exfalso; omega)
 ·
  try simp only [n3, n4]
  try simp only [dZ, ne_eq] at hp1
  have h1 : ¬ (kS1 e xs).1 = 0 := hp1
  have h12 := kS2_err h1
  have h1z : ¬ (kS2 e xs).1 = 0 := by rw [h12]; exact h1
  refine g_off (yi (t := 22) rfl rfl) ?_
  try simp only [opv, nZ, Value.cells]
  refine g_off (yi (t := 22) rfl rfl) ?_
  try simp only [opv, nZ, Value.cells]
  refine g_off (yi (t := 22) rfl rfl) ?_
  try simp only [opv, nZ, Value.cells]
  refine s_go (s_pick_f) ?_
  try simp only [opv, nZ, Value.cells]
  refine s_go (s_assign) ?_
  try simp only [opv, nZ, Value.cells]
  refine x_nil ?_
  refine hK6 _ _ ?_
  refine x_seq fun K54 hK54 => ?_
  refine x_region ?_
  refine s_go (s_move) ?_
  try simp only [opv, nZ, Value.cells]
  refine s_go (s_move) ?_
  try simp only [opv, nZ, Value.cells]
  refine g_off (yi (t := 28) rfl rfl) ?_
  try simp only [opv, nZ, Value.cells]
  refine g_off (yi (t := 28) rfl rfl) ?_
  try simp only [opv, nZ, Value.cells]
  refine s_go (s_pick_f) ?_
  try simp only [opv, nZ, Value.cells]
  refine x_nil ?_
  refine hK54 _ _ ?_
  refine x_cond_f (h := ?_)
  skip
  refine x_skip ?_
  refine hK5 _ _ ?_
  refine x_seq fun K55 hK55 => ?_
  refine x_seq fun K56 hK56 => ?_
  refine x_region ?_
  refine s_go (s_move) ?_
  try simp only [opv, nZ, Value.cells]
  refine s_go (s_move) ?_
  try simp only [opv, nZ, Value.cells]
  refine g_off (yi (t := 49) rfl rfl) ?_
  try simp only [opv, nZ, Value.cells]
  refine g_off (yi (t := 49) rfl rfl) ?_
  try simp only [opv, nZ, Value.cells]
  refine s_go (s_pick_f) ?_
  try simp only [opv, nZ, Value.cells]
  refine x_nil ?_
  refine hK56 _ _ ?_
  refine x_cond_f (h := ?_)
  skip
  refine x_skip ?_
  refine hK55 _ _ ?_
  refine x_seq fun K57 hK57 => ?_
  refine x_seq fun K58 hK58 => ?_
  refine x_region ?_
  refine s_go (m_load_obj Tryz.underlying130 (hS := hS) (hv := by rfl)) ?_
  try simp only [opv, nZ, Value.cells, List.getElem_toArray, List.getElem_cons_zero, List.getElem_cons_succ]
  refine s_call en150 ?_
  try simp only [opv, nZ, Value.cells, List.map_toArray, List.map_cons, List.map_nil, List.append_toArray, List.cons_append, List.nil_append, Array.append_empty]
  refine CallR.mono (c_cErr2 (hS.owns (by repeat (first | exact Spl.nil | (apply Spl.cons (by repeat (exact Del.head)))))) (by assumption)) ?_
  rintro _ w44 ⟨rfl, hC44⟩
  replace hS := hS.frame (by repeat (first | exact Spl.nil | (apply Spl.cons (by repeat (exact Del.head))))) hC44 (by intro r hr g hg; simp only [List.mem_cons, List.not_mem_nil, or_false] at hr; rcases hr with rfl | rfl | rfl <;> first | (simp [Res.reads] at hg; done) | exact .inr ⟨_, by simp, .inr hg⟩)
  simp only [List.cons_append, List.nil_append] at hS
  try simp only [opv, nZ, Value.cells]
  refine s_go (s_neq) ?_
  try simp only [opv, nZ, Value.cells]
  refine x_nil ?_
  refine hK58 _ _ ?_
  refine x_cond (ht := fun hc20 => ?_) (hf := fun hc20 => ?_)
  ·
   try simp only [dZ, ne_eq, bne_iff_ne, beq_iff_eq] at hc20
   have hz : keyS e xs = (key0, kS2 e xs) := by (rw [h12]; exact keyS_1 h1)
   refine x_seq fun K59 hK59 => ?_
   refine x_region ?_
   refine s_go (s_build_struct (cells := #[.int .u8 0, .int .u16 0, .int .u8 0, .int .u8 0, .int .u8 0, .int .u8 0, .int .u8 0, .int .u8 0, .int .u8 0, .int .u8 0, .int .u8 0, .int .u32 0]) Tryz.underlying83 ti83 bp83 (hc := by simp only [List.map_toArray, List.map_cons, List.map_nil, opv, nZ, Value.cells, List.toList_toArray]; (repeat (refine fill_cons rfl rfl (Nat.le_of_ble_eq_true rfl) ?_)); rfl)) ?_
   try simp only [opv, nZ, Value.cells]
   rw [show (#[.int .u8 0, .int .u16 0, .int .u8 0, .int .u8 0, .int .u8 0, .int .u8 0, .int .u8 0, .int .u8 0, .int .u8 0, .int .u8 0, .int .u8 0, .int .u32 0] : Array Value) = KA key0 from rfl]
   refine m_store_obj ti83 (hS := hS) (hc := by exact zi_whole (by omega) (by omega)) (hv := by rfl) (hfit := by (rw [zi_size (by omega)]; decide)) (h1 := by exact zi_one _ _) (h := fun w45 hS => ?_)
   try simp only [opv, nZ, Value.cells, Array.toArray_toList] at hS ⊢
   refine x_nil ?_
   refine hK59 _ _ ?_
   refine x_ret ?_
   refine r_cell_agg rfl Tryz.underlying83 ti83 (hS := hS) (hfit := by (rw [zi_size (by omega)]; rfl)) (hR := ?_)
   exact ⟨by rw [hz] <;> first | rfl | (rw [h4]; rfl) | (rw [h6]; rfl), _, _, by rw [hz]; assumption, by rw [hz]; assumption, by rw [hz]; exact hS.sel (by repeat (first | exact Sel.nil | (refine Sel.cons (by repeat (exact Del.head)) ?_)))⟩
  ·
   try simp only [dZ, ne_eq, bne_iff_ne, beq_iff_eq] at hc20
   (exfalso; omega)
end Go.Proofs.YtffmanidnlbjjaaGreat
set_option linter.unusedSimpArgs false
set_option linter.unusedVariables false
set_option maxHeartbeats 4000000
set_option maxRecDepth 100000
namespace Go.Proofs.YtffmanidnlbjjaaGreat
open Go.RowKit

theorem mk_at10 {s c r q : Nat} {l : List Int} (h : l.length = 8) : (mkKey s c l r q).getD 10 0 = (r : Int) := by
  match l, h with
  | [_, _, _, _, _, _, _, _], _ => rfl
theorem mk_at10i {s c q : Nat} {l : List Int} {a : Int} (h : l.length = 8) (ha : 0 ≤ a ∧ a ≤ 255) : (mkKey s c l a.toNat q).getD 10 0 = a := (mk_at10 h).trans (toNat_of ha)
theorem mk_at0 {c r q : Nat} {l : List Int} {a : Int} (ha : 0 ≤ a ∧ a ≤ 255) : (mkKey a.toNat c l r q).getD 0 0 = a := toNat_of ha
theorem mk_at11 {s c r q : Nat} {l : List Int} (h : l.length = 8) : (mkKey s c l r q).getD 11 0 = (q : Int) := by
  match l, h with
  | [_, _, _, _, _, _, _, _], _ => rfl
theorem kS5_4 {e : Int} {xs : List Int} (h : (kS5 e xs).1 = 0) : (kS4 e xs).1 = 0 := numS_zero (kS5_zero h).1
theorem rdS_u {x : Nat} {n e : Int} {xs : List Int} : rdS 0 x n e xs = (((numS x e xs).1, 0, nm0, []), (numS x e xs).2) := by rw [rdS, if_pos rfl]
theorem rdS_b {x : Nat} {n e : Int} {xs : List Int} : rdS 1 x n e xs = ((0, (oneS e xs).1, nm0, []), (oneS e xs).2) := by rw [rdS, if_neg (by decide), if_pos rfl]
theorem rdS_n {x : Nat} {n e : Int} {xs : List Int} : rdS 2 x n e xs = ((0, 0, (namS e xs).1, []), (namS e xs).2) := by rw [rdS, if_neg (by decide), if_neg (by decide), if_pos rfl]
theorem pA_x {d : Int} {x : Nat} {c : Int} {nm : List Int} (h : nm.length = 8) {B : Option Addr} {m k : Nat} {n : Int} : (pA d x c nm B m k n).extract 3 (3 + 8) = ic .u8 nm := (show _ = (#[_, _, _, _, _, _, _, _] : Array Value) from rfl).trans (ic8 h)
theorem key_lit0 {a : Int} (h : 0 ≤ a ∧ a ≤ 255) : (#[.int .u8 a, .int .u16 0, .int .u8 0, .int .u8 0, .int .u8 0, .int .u8 0, .int .u8 0, .int .u8 0, .int .u8 0, .int .u8 0, .int .u8 0, .int .u32 0] : Array Value) = KA (mkKey a.toNat 0 nm0 0 0) := key_lit (c := 0) h

theorem c_ref08Fail (w0 : World) (g : Nat) (A : Option Addr) (c : Nat) (xs : List Int) (hc : xs.length ≤ c) (e2 : Int) (hM : St (OwnB [.obj g (.cells #[.slice A xs.length c, .int .i64 0] 140 (0, 0)), .rd A 1 xs.length (xs.map (Value.int .u8))]) w0 w0 [.obj g (.cells #[.slice A xs.length c, .int .i64 0] 140 (0, 0)), .rd A 1 xs.length (xs.map (Value.int .u8))]) :
    CallR Tryz.prog 195 #[.pointer (some ⟨g, 0, none⟩), .int .i64 e2] w0 fun v w' => v = .agg (KA key0) ∧ CrSt w0 w' [.obj g (.cells #[.slice A xs.length c, .int .i64 0] 140 (0, 0)), .rd A 1 xs.length (xs.map (Value.int .u8))] g e2 [] [] := by
 have hS := hM
 have hk0l : key0.length = 12 := rfl
 refine c_enter (l := [.pointer (some ⟨g, 0, none⟩), .int .i64 e2, undef, undef, undef, undef, undef, undef, undef, undef, undef, undef, undef, undef, undef, undef, undef, undef]) Tryz.func195 rfl (by simp only [Tryz.ntmps195, List.size_toArray, List.length_cons, List.length_nil, Nat.reduceAdd, Nat.reduceSub, Array.replicate_succ, Array.replicate_zero, List.push_toArray, List.append_toArray, List.nil_append, List.cons_append]) ?_
 refine x_seq fun K1 hK1 => ?_
 refine x_region ?_
 refine m_alloc ti83 hS (fun w1 g1 hS => ?_)
 try simp only [opv, nZ, Value.cells, Array.toArray_toList] at hS ⊢
 replace hS : St (OwnB [.obj g (.cells #[.slice A xs.length c, .int .i64 0] 140 (0, 0)), .rd A 1 xs.length (xs.map (Value.int .u8))]) w0 w1 (.obj g1 (.cells (KA key0) 83 (0, 0)) :: _) := hS
 refine x_nil ?_
 refine hK1 _ _ ?_
 refine x_seq fun K2 hK2 => ?_
 refine x_seq fun K3 hK3 => ?_
 refine x_region ?_
 refine s_go (s_move) ?_
 try simp only [opv, nZ, Value.cells]
 refine s_go (s_nilCheck) ?_
 try simp only [opv, nZ, Value.cells]
 refine s_go (m_fieldAddr Tryz.underlying140 (hi := ti53)) ?_
 try simp only [opv, nZ, Value.cells, Nat.zero_add, Nat.add_zero, List.getElem_toArray, List.getElem_cons_zero, List.getElem_cons_succ]
 refine s_go (m_load_obj Tryz.underlying53 (hS := hS) (hv := by rfl)) ?_
 try simp only [opv, nZ, Value.cells, List.getElem_toArray, List.getElem_cons_zero, List.getElem_cons_succ]
 refine s_go (s_eql) ?_
 try simp only [opv, nZ, Value.cells]
 refine x_nil ?_
 refine hK3 _ _ ?_
 refine x_cond_t (h := ?_)
 refine x_region ?_
 refine s_go (s_move) ?_
 try simp only [opv, nZ, Value.cells]
 refine s_go (s_move) ?_
 try simp only [opv, nZ, Value.cells]
 refine s_go (s_move) ?_
 try simp only [opv, nZ, Value.cells]
 refine s_go (s_nilCheck) ?_
 try simp only [opv, nZ, Value.cells]
 refine s_go (m_fieldAddr Tryz.underlying140 (hi := ti73)) ?_
 try simp only [opv, nZ, Value.cells, Nat.zero_add, Nat.add_zero, List.getElem_toArray, List.getElem_cons_zero, List.getElem_cons_succ]
 refine m_store_obj ti73 (hS := hS) (hc := by ((simp only [opv, n1, n2, Value.cells, splice, List.take_succ_cons, List.take_zero, List.drop_succ_cons, List.drop_zero, List.length_cons, List.length_nil, Nat.zero_add, Nat.reduceAdd, List.append_assoc, List.cons_append, List.nil_append]; rfl))) (hv := by rfl) (hfit := by (simp [*]; done)) (h1 := by simp [opv, Value.cells, Value.oneCell']) (h := fun w2 hS => ?_)
 try simp only [opv, nZ, Value.cells, Array.toArray_toList] at hS ⊢
 refine s_go (s_nilCheck) ?_
 try simp only [opv, nZ, Value.cells]
 refine s_go (m_fieldAddr Tryz.underlying140 (hi := ti53)) ?_
 try simp only [opv, nZ, Value.cells, Nat.zero_add, Nat.add_zero, List.getElem_toArray, List.getElem_cons_zero, List.getElem_cons_succ]
 refine m_store_obj ti53 (hS := hS) (hc := by (exact splice_whole (by (simp [opv, Value.cells, *]; done)))) (hv := by rfl) (hfit := by (simp only [ic_size, List.length_map, List.size_toArray]; decide)) (h1 := by simp [opv, Value.cells, Value.oneCell']) (h := fun w3 hS => ?_)
 try simp only [opv, nZ, Value.cells, Array.toArray_toList] at hS ⊢
 refine x_nil ?_
 refine hK2 _ _ ?_
 refine x_seq fun K4 hK4 => ?_
 refine x_region ?_
 refine s_go (s_build_struct (cells := #[.int .u8 0, .int .u16 0, .int .u8 0, .int .u8 0, .int .u8 0, .int .u8 0, .int .u8 0, .int .u8 0, .int .u8 0, .int .u8 0, .int .u8 0, .int .u32 0]) Tryz.underlying83 ti83 bp83 (hc := by simp only [List.map_toArray, List.map_cons, List.map_nil, opv, nZ, Value.cells, List.toList_toArray]; (repeat (refine fill_cons rfl rfl (Nat.le_of_ble_eq_true rfl) ?_)); rfl)) ?_
 try simp only [opv, nZ, Value.cells]
 rw [show (#[.int .u8 0, .int .u16 0, .int .u8 0, .int .u8 0, .int .u8 0, .int .u8 0, .int .u8 0, .int .u8 0, .int .u8 0, .int .u8 0, .int .u8 0, .int .u32 0] : Array Value) = KA key0 from rfl]
 refine m_store_obj ti83 (hS := hS) (hc := by exact zi_whole (by omega) (by omega)) (hv := by rfl) (hfit := by (rw [zi_size (by omega)]; decide)) (h1 := by exact zi_one _ _) (h := fun w4 hS => ?_)
 try simp only [opv, nZ, Value.cells, Array.toArray_toList] at hS ⊢
 refine x_nil ?_
 refine hK4 _ _ ?_
 refine x_ret ?_
 refine r_cell_agg rfl Tryz.underlying83 ti83 (hS := hS) (hfit := by (rw [zi_size (by omega)]; rfl)) (hR := ?_)
 replace hS := hS.rd_none none 1
 exact ⟨rfl, none, 0, Nat.le_refl 0, RdIn.none _ _ _, hS.selA⟩
theorem c_ref08In (w0 : World) (g : Nat) (e : Int) (A : Option Addr) (c : Nat) (xs : List Int) (hc : xs.length ≤ c) (hw : Byt xs) (hn : xs.length ≤ 1000000000) (hM : St (OwnB [.obj g (.cells #[.slice A xs.length c, .int .i64 e] 140 (0, 0)), .rd A 1 xs.length (xs.map (Value.int .u8))]) w0 w0 [.obj g (.cells #[.slice A xs.length c, .int .i64 e] 140 (0, 0)), .rd A 1 xs.length (xs.map (Value.int .u8))]) :
    CallR Tryz.prog 158 #[.pointer (some ⟨g, 0, none⟩)] w0 fun v w' => v = .agg (KA (keyS e xs).1) ∧ CrSt w0 w' [.obj g (.cells #[.slice A xs.length c, .int .i64 e] 140 (0, 0)), .rd A 1 xs.length (xs.map (Value.int .u8))] g (keyS e xs).2.1 (keyS e xs).2.2 [] := by
 have hS := hM
 have hw1 := kS1_byt (e := e) hw
 have hw2 := kS2_byt (e := e) hw
 have hw3 := kS3_byt (e := e) hw
 have hw4 := kS4_byt (e := e) hw
 have hw5 := kS5_byt (e := e) hw
 have hl1 := kS1_len (e := e) (xs := xs)
 have hl2 := kS2_len (e := e) (xs := xs)
 have hl3 := kS3_len (e := e) (xs := xs)
 have hl4 := kS4_len (e := e) (xs := xs)
 have hl5 := kS5_len (e := e) (xs := xs)
 have hav := oneS_val (e := e) hw
 have hrv := oneS_val (e := (kS3 e xs).1) hw3
 have hcv := numS_le 65535 (kS1 e xs).1 (kS1 e xs).2
 have hqv := numS_le 4294967295 (kS4 e xs).1 (kS4 e xs).2
 have hnl := namS_len (kS2 e xs).1 (kS2 e xs).2
 have hk0l : key0.length = 12 := rfl
 have hi1 : ¬ (oneS e xs).2.1 = 0 → (oneS e xs).1 = 0 := fun h => oneS_bad h
 have hi2 : ¬ (kS1 e xs).1 = 0 → (kS2 e xs).1 = (kS1 e xs).1 := fun h => by rw [kS2_err h]
 have hi3 : ¬ (kS2 e xs).1 = 0 → (namS (kS2 e xs).1 (kS2 e xs).2).2.1 = (kS2 e xs).1 := fun h => by rw [namS_err h]
 have hi4 : ¬ (kS3 e xs).1 = 0 → (oneS (kS3 e xs).1 (kS3 e xs).2).2.1 = (kS3 e xs).1 := fun h => by rw [oneS_err h]
 have hi5 : ¬ (kS4 e xs).1 = 0 → (numS 4294967295 (kS4 e xs).1 (kS4 e xs).2).2.1 = (kS4 e xs).1 := fun h => by rw [numS_err h]
 refine c_enter (l := [.pointer (some ⟨g, 0, none⟩), undef, undef, undef, undef, undef, undef, undef, undef, undef, undef, undef, undef, undef, undef, undef, undef, undef, undef, undef, undef, undef, undef, undef, undef, undef, undef, undef, undef, undef, undef, undef, undef, undef, undef, undef, undef, undef, undef, undef, undef, undef, undef, undef, undef, undef, undef, undef, undef, undef, undef, undef, undef, undef, undef, undef, undef, undef, undef, undef, undef, undef, undef, undef, undef, undef, undef, undef, undef, undef, undef, undef, undef, undef, undef, undef, undef, undef, undef, undef, undef, undef, undef, undef, undef, undef, undef, undef, undef, undef, undef, undef, undef, undef, undef, undef, undef, undef]) Tryz.func158 rfl (by simp only [Tryz.ntmps158, List.size_toArray, List.length_cons, List.length_nil, Nat.reduceAdd, Nat.reduceSub, Array.replicate_succ, Array.replicate_zero, List.push_toArray, List.append_toArray, List.nil_append, List.cons_append]) ?_
 refine x_seq fun K1 hK1 => ?_
 refine x_region ?_
 refine m_alloc ti83 hS (fun w1 g1 hS => ?_)
 try simp only [opv, nZ, Value.cells, Array.toArray_toList] at hS ⊢
 replace hS : St (OwnB [.obj g (.cells #[.slice A xs.length c, .int .i64 e] 140 (0, 0)), .rd A 1 xs.length (xs.map (Value.int .u8))]) w0 w1 (.obj g1 (.cells (KA key0) 83 (0, 0)) :: _) := hS
 refine x_nil ?_
 refine hK1 _ _ ?_
 refine x_seq fun K2 hK2 => ?_
 refine x_region ?_
 refine s_go (s_move) ?_
 try simp only [opv, nZ, Value.cells]
 refine s_go (s_build_struct (cells := #[_, .int .u64 0, .int .u8 0, .int .u8 0, .int .u8 0, .int .u8 0, .int .u8 0, .int .u8 0, .int .u8 0, .int .u8 0, .int .u8 0, .slice none 0 0, .int .i64 0]) Tryz.underlying142 ti142 bp142 (hc := by simp only [List.map_toArray, List.map_cons, List.map_nil, opv, nZ, Value.cells, List.toList_toArray]; (repeat (refine fill_cons rfl rfl (Nat.le_of_ble_eq_true rfl) ?_)); rfl)) ?_
 try simp only [opv, nZ, Value.cells]
 refine s_call en90 ?_
 try simp only [opv, nZ, Value.cells, List.map_toArray, List.map_cons, List.map_nil, List.append_toArray, List.cons_append, List.nil_append, Array.append_empty]
 refine CallR.mono (c_ref07Read _ g e A c xs hc hw hn ⟨1, 0, 0, nm0, none, 0, [], 0⟩ (by decide) (by decide) (hS.owns (by repeat (first | exact Spl.nil | (apply Spl.cons (by repeat (first | exact Del.head | apply Del.tail))))))) ?_
 rintro _ w2 ⟨Ba, ka, rfl, hQa, Aa, ca, hcpa, hRa, hCa⟩
 have hYa := RdIn.trans hM hS (by repeat (first | exact Spl.nil | (apply Spl.cons (by repeat (first | exact Del.head | apply Del.tail))))) hRa (by intro s hs q hb; simp only [List.mem_cons, List.not_mem_nil, or_false] at hs; rcases hs with rfl | rfl <;> first | (simp [Res.reads] at hb; done) | exact .inr ⟨_, List.mem_cons_of_mem _ (List.mem_cons_self ..), .inr hb⟩)
 replace hS := hS.frame (by repeat (first | exact Spl.nil | (apply Spl.cons (by repeat (first | exact Del.head | apply Del.tail))))) hCa (by intro r hr b hb; simp only [List.mem_cons, List.not_mem_nil, or_false] at hr; rcases hr with rfl | rfl | rfl <;> first | (simp [Res.reads] at hb; done) | exact hRa b hb | exact hQa b hb)
 replace hRa := hYa
 simp only [List.cons_append, List.nil_append] at hS
 simp only [rdS_b] at hS hcpa hRa ⊢
 try simp only [opv, nZ, Value.cells]
 refine s_go (s_field_one Tryz.underlying142 (hu := Tryz.underlying5) (hv := by rfl)) ?_
 try simp only [opv, nZ, Value.cells, List.getElem_toArray, List.getElem_cons_zero, List.getElem_cons_succ]
 refine s_go (s_build_struct (cells := #[_, .int .u16 0, .int .u8 0, .int .u8 0, .int .u8 0, .int .u8 0, .int .u8 0, .int .u8 0, .int .u8 0, .int .u8 0, .int .u8 0, .int .u32 0]) Tryz.underlying83 ti83 bp83 (hc := by simp only [List.map_toArray, List.map_cons, List.map_nil, opv, nZ, Value.cells, List.toList_toArray]; (repeat (refine fill_cons rfl rfl (Nat.le_of_ble_eq_true rfl) ?_)); rfl)) ?_
 try simp only [opv, nZ, Value.cells]
 rw [key_lit0 hav]
 have hkl : (mkKey (oneS e xs).1.toNat 0 nm0 0 0).length = 12 := rfl
 refine m_alloc ti83 hS (fun w3 g3 hS => ?_)
 try simp only [opv, nZ, Value.cells, Array.toArray_toList] at hS ⊢
 replace hS : St (OwnB [.obj g (.cells #[.slice A xs.length c, .int .i64 e] 140 (0, 0)), .rd A 1 xs.length (xs.map (Value.int .u8))]) w0 w3 (.obj _ (.cells (KA key0) 83 (0, 0)) :: _) := hS
 refine m_store_obj ti83 (hS := hS) (hc := by exact zi_whole (by omega) (by omega)) (hv := by rfl) (hfit := by (rw [zi_size (by omega)]; decide)) (h1 := by exact zi_one _ _) (h := fun w4 hS => ?_)
 try simp only [opv, nZ, Value.cells, Array.toArray_toList] at hS ⊢
 refine x_nil ?_
 refine hK2 _ _ ?_
 refine x_seq_j [9, 10, 11, 12, 13, 14, 15, 16, 17, 18, 19, 20, 21, 22, 23, 24, 25] (fun f w => ∃ (A1 : Option Addr) (c1 : Nat), (kS1 e xs).2.length ≤ c1 ∧ RdIn w0 [.obj g (.cells #[.slice A xs.length c, .int .i64 e] 140 (0, 0)), .rd A 1 xs.length (xs.map (Value.int .u8))] A1 (kS1 e xs).2.length ∧ St (OwnB [.obj g (.cells #[.slice A xs.length c, .int .i64 e] 140 (0, 0)), .rd A 1 xs.length (xs.map (Value.int .u8))]) w0 w [.obj g3 (.cells (KA (mkKey (oneS e xs).1.toNat 0 nm0 0 0)) 83 (0, 0)), .obj g (.cells #[.slice A1 (kS1 e xs).2.length c1, .int .i64 (kS1 e xs).1] 140 (0, 0)), .rd A1 1 (kS1 e xs).2.length ((kS1 e xs).2.map (Value.int .u8)), .obj g1 (.cells (KA key0) 83 (0, 0))]) ?jx1 ?jy1
 case jx1 =>
  refine x_seq fun K3 hK3 => ?_
  refine x_region ?_
  refine s_go (s_move) ?_
  try simp only [opv, nZ, Value.cells]
  refine s_go (s_nilCheck) ?_
  try simp only [opv, nZ, Value.cells]
  refine s_go (m_fieldAddr Tryz.underlying140 (hi := ti53)) ?_
  try simp only [opv, nZ, Value.cells, Nat.zero_add, Nat.add_zero, List.getElem_toArray, List.getElem_cons_zero, List.getElem_cons_succ]
  refine s_go (m_load_obj Tryz.underlying53 (hS := hS) (hv := by rfl)) ?_
  try simp only [opv, nZ, Value.cells, List.getElem_toArray, List.getElem_cons_zero, List.getElem_cons_succ]
  refine s_go (s_eql) ?_
  try simp only [opv, nZ, Value.cells]
  refine s_go (s_move) ?_
  try simp only [opv, nZ, Value.cells]
  refine s_part 14 rfl (fun hp1 => ?_) (fun hp1 => ?_)
  ·
   try simp only [n3, n4]
   try simp only [dZ, ne_eq] at hp1
   have hE1 : (oneS e xs).2.1 = 0 := hp1
   refine g_on (yi (t := 14) rfl rfl) ?_
   refine s_go (m_fieldAddr Tryz.underlying83 (hi := ti5)) ?_
   try simp only [opv, nZ, Value.cells, Nat.zero_add, Nat.add_zero, List.getElem_toArray, List.getElem_cons_zero, List.getElem_cons_succ]
   refine g_on (yi (t := 14) rfl rfl) ?_
   refine s_go (m_load_obj Tryz.underlying5 (hS := hS) (hv := (zi_get (k := .u8) (by rfl) (by omega)).trans (congrArg (fun x => some (Value.int .u8 x)) (mk_at0 hav)))) ?_
   try simp only [opv, nZ, Value.cells, List.getElem_toArray, List.getElem_cons_zero, List.getElem_cons_succ]
   refine g_on (yi (t := 14) rfl rfl) ?_
   refine s_go (s_lss) ?_
   try simp only [opv, nZ, Value.cells]
   refine g_on (yi (t := 14) rfl rfl) ?_
   refine s_go (s_move) ?_
   try simp only [opv, nZ, Value.cells]
   refine s_part 18 rfl (fun hp2 => ?_) (fun hp2 => ?_)
   ·
    try simp only [n3, n4]
    try simp only [dZ, ne_eq] at hp2
    refine g_off (yi (t := 18) rfl rfl) ?_
    try simp only [opv, nZ, Value.cells]
    refine g_off (yi (t := 18) rfl rfl) ?_
    try simp only [opv, nZ, Value.cells]
    refine g_off (yi (t := 18) rfl rfl) ?_
    try simp only [opv, nZ, Value.cells]
    refine g_on (yi (t := 14) rfl rfl) ?_
    refine s_go (s_pick_t) ?_
    try simp only [opv, nZ, Value.cells]
    refine s_go (s_pick_t) ?_
    try simp only [opv, nZ, Value.cells]
    refine x_nil ?_
    refine hK3 _ _ ?_
    refine x_cond_t (h := ?_)
    have h1n : kS1 e xs = (3, []) := askS_bad hE1 (by rw [decide_eq_false (show ¬ (1 ≤ (oneS e xs).1 ∧ (oneS e xs).1 ≤ 4) by omega)]; rfl)
    have hz : keyS e xs = (key0, 3, []) := by rw [keyS_1 (by rw [h1n]; decide), h1n]
    rw [hE1] at hS
    refine x_seq fun K4 hK4 => ?_
    refine x_region ?_
    refine s_go (s_move) ?_
    try simp only [opv, nZ, Value.cells]
    refine s_call en195 ?_
    try simp only [opv, nZ, Value.cells, List.map_toArray, List.map_cons, List.map_nil, List.append_toArray, List.cons_append, List.nil_append, Array.append_empty]
    refine CallR.mono (c_ref08Fail _ g Aa ca ((oneS e xs).2.2) hcpa 3 (hS.owns (by repeat (first | exact Spl.nil | (apply Spl.cons (by repeat (first | exact Del.head | apply Del.tail))))))) ?_
    rintro _ w5 ⟨rfl, Af, cf, hcpf, hRf, hCf⟩
    have hYf := RdIn.trans hM hS (by repeat (first | exact Spl.nil | (apply Spl.cons (by repeat (first | exact Del.head | apply Del.tail))))) hRf (by intro s hs q hb; simp only [List.mem_cons, List.not_mem_nil, or_false] at hs; rcases hs with rfl | rfl <;> first | (simp [Res.reads] at hb; done) | exact hRa q hb)
    replace hS := hS.frame (by repeat (first | exact Spl.nil | (apply Spl.cons (by repeat (first | exact Del.head | apply Del.tail))))) hCf (by intro r hr b hb; simp only [List.mem_cons, List.not_mem_nil, or_false] at hr; rcases hr with rfl | rfl <;> (simp [Res.reads] at hb; done))
    replace hRf := hYf
    simp only [List.cons_append, List.nil_append] at hS
    try simp only [opv, nZ, Value.cells]
    refine m_store_obj ti83 (hS := hS) (hc := by exact zi_whole (by omega) (by omega)) (hv := by rfl) (hfit := by (rw [zi_size (by omega)]; decide)) (h1 := by exact zi_one _ _) (h := fun w6 hS => ?_)
    try simp only [opv, nZ, Value.cells, Array.toArray_toList] at hS ⊢
    refine x_nil ?_
    refine hK4 _ _ ?_
    refine x_ret ?_
    refine r_cell_agg rfl Tryz.underlying83 ti83 (hS := hS) (hfit := by (rw [zi_size (by omega)]; rfl)) (hR := ?_)
    exact ⟨by rw [hz] <;> first | rfl | (rw [h4]; rfl) | (rw [h6]; rfl), _, _, by rw [hz]; assumption, by rw [hz]; assumption, by rw [hz]; exact hS.sel (by repeat (first | exact Sel.nil | (refine Sel.cons (by repeat (exact Del.head)) ?_)))⟩
   ·
    try simp only [n3, n4]
    try simp only [dZ, ne_eq] at hp2
    refine g_on (yi (t := 18) rfl rfl) ?_
    refine s_go (m_fieldAddr Tryz.underlying83 (hi := ti5)) ?_
    try simp only [opv, nZ, Value.cells, Nat.zero_add, Nat.add_zero, List.getElem_toArray, List.getElem_cons_zero, List.getElem_cons_succ]
    refine g_on (yi (t := 18) rfl rfl) ?_
    refine s_go (m_load_obj Tryz.underlying5 (hS := hS) (hv := (zi_get (k := .u8) (by rfl) (by omega)).trans (congrArg (fun x => some (Value.int .u8 x)) (mk_at0 hav)))) ?_
    try simp only [opv, nZ, Value.cells, List.getElem_toArray, List.getElem_cons_zero, List.getElem_cons_succ]
    refine g_on (yi (t := 18) rfl rfl) ?_
    refine s_go (s_gtr) ?_
    try simp only [opv, nZ, Value.cells]
    refine g_on (yi (t := 14) rfl rfl) ?_
    refine s_go (s_pick_f) ?_
    try simp only [opv, nZ, Value.cells]
    refine s_go (s_pick_t) ?_
    try simp only [opv, nZ, Value.cells]
    refine x_nil ?_
    refine hK3 _ _ ?_
    refine x_cond (ht := fun hc2 => ?_) (hf := fun hc2 => ?_)
    ·
     try simp only [dZ, ne_eq, bne_iff_ne, beq_iff_eq] at hc2
     have h1n : kS1 e xs = (3, []) := askS_bad hE1 (by rw [decide_eq_false (show ¬ (1 ≤ (oneS e xs).1 ∧ (oneS e xs).1 ≤ 4) by omega)]; rfl)
     have hz : keyS e xs = (key0, 3, []) := by rw [keyS_1 (by rw [h1n]; decide), h1n]
     rw [hE1] at hS
     refine x_seq fun K5 hK5 => ?_
     refine x_region ?_
     refine s_go (s_move) ?_
     try simp only [opv, nZ, Value.cells]
     refine s_call en195 ?_
     try simp only [opv, nZ, Value.cells, List.map_toArray, List.map_cons, List.map_nil, List.append_toArray, List.cons_append, List.nil_append, Array.append_empty]
     refine CallR.mono (c_ref08Fail _ g Aa ca ((oneS e xs).2.2) hcpa 3 (hS.owns (by repeat (first | exact Spl.nil | (apply Spl.cons (by repeat (first | exact Del.head | apply Del.tail))))))) ?_
     rintro _ w7 ⟨rfl, Af, cf, hcpf, hRf, hCf⟩
     have hYf := RdIn.trans hM hS (by repeat (first | exact Spl.nil | (apply Spl.cons (by repeat (first | exact Del.head | apply Del.tail))))) hRf (by intro s hs q hb; simp only [List.mem_cons, List.not_mem_nil, or_false] at hs; rcases hs with rfl | rfl <;> first | (simp [Res.reads] at hb; done) | exact hRa q hb)
     replace hS := hS.frame (by repeat (first | exact Spl.nil | (apply Spl.cons (by repeat (first | exact Del.head | apply Del.tail))))) hCf (by intro r hr b hb; simp only [List.mem_cons, List.not_mem_nil, or_false] at hr; rcases hr with rfl | rfl <;> (simp [Res.reads] at hb; done))
     replace hRf := hYf
     simp only [List.cons_append, List.nil_append] at hS
     try simp only [opv, nZ, Value.cells]
     refine m_store_obj ti83 (hS := hS) (hc := by exact zi_whole (by omega) (by omega)) (hv := by rfl) (hfit := by (rw [zi_size (by omega)]; decide)) (h1 := by exact zi_one _ _) (h := fun w8 hS => ?_)
     try simp only [opv, nZ, Value.cells, Array.toArray_toList] at hS ⊢
     refine x_nil ?_
     refine hK5 _ _ ?_
     refine x_ret ?_
     refine r_cell_agg rfl Tryz.underlying83 ti83 (hS := hS) (hfit := by (rw [zi_size (by omega)]; rfl)) (hR := ?_)
     exact ⟨by rw [hz] <;> first | rfl | (rw [h4]; rfl) | (rw [h6]; rfl), _, _, by rw [hz]; assumption, by rw [hz]; assumption, by rw [hz]; exact hS.sel (by repeat (first | exact Sel.nil | (refine Sel.cons (by repeat (exact Del.head)) ?_)))⟩
    ·
     try simp only [dZ, ne_eq, bne_iff_ne, beq_iff_eq] at hc2
     have hs1 : (oneS e xs).2 = kS1 e xs := by exact (askS_good (by rw [decide_eq_true (show 1 ≤ (oneS e xs).1 ∧ (oneS e xs).1 ≤ 4 by omega)]; rfl)).symm
     have hsp1 := congrArg Prod.fst hs1
     rw [hs1] at hS hcpa hRa
     refine x_skip ?_
     refine mix_leaf (by simp only [clob, List.foldl, nZ]) ?_
     try simp only [n1, n2]
     exact ⟨_, _, by assumption, by assumption, hS.selA⟩
  ·
   try simp only [n3, n4]
   try simp only [dZ, ne_eq] at hp1
   have hE1 : ¬ (oneS e xs).2.1 = 0 := hp1
   refine g_off (yi (t := 14) rfl rfl) ?_
   try simp only [opv, nZ, Value.cells]
   refine g_off (yi (t := 14) rfl rfl) ?_
   try simp only [opv, nZ, Value.cells]
   refine g_off (yi (t := 14) rfl rfl) ?_
   try simp only [opv, nZ, Value.cells]
   refine g_off (yi (t := 14) rfl rfl) ?_
   try simp only [opv, nZ, Value.cells]
   refine g_un (yn (t := 18) rfl rfl) ?_
   try simp only [opv, nZ, Value.cells]
   refine g_un (yn (t := 18) rfl rfl) ?_
   try simp only [opv, nZ, Value.cells]
   refine g_un (yn (t := 18) rfl rfl) ?_
   try simp only [opv, nZ, Value.cells]
   refine g_off (yi (t := 14) rfl rfl) ?_
   try simp only [opv, nZ, Value.cells]
   refine s_go (s_pick_f) ?_
   try simp only [opv, nZ, Value.cells]
   refine x_nil ?_
   refine hK3 _ _ ?_
   refine x_cond_f (h := ?_)
   have hs1 : (oneS e xs).2 = kS1 e xs := by exact (askS_err hE1).symm
   have hsp1 := congrArg Prod.fst hs1
   rw [hs1] at hS hcpa hRa
   refine x_skip ?_
   refine mix_leaf (by simp only [clob, List.foldl, nZ]) ?_
   try simp only [n1, n2]
   exact ⟨_, _, by assumption, by assumption, hS.selA⟩
 intro fm1 w9 hM
 simp only [clob, List.foldl, n3, n4]
 obtain ⟨Aa, ca, hcpa, hRa, hS⟩ := hM
 refine x_seq fun K6 hK6 => ?_
 refine x_region ?_
 refine s_go (s_move) ?_
 try simp only [opv, nZ, Value.cells]
 refine s_go (s_build_struct (cells := #[.int .i64 0, _, .int .u8 0, .int .u8 0, .int .u8 0, .int .u8 0, .int .u8 0, .int .u8 0, .int .u8 0, .int .u8 0, .int .u8 0, .slice none 0 0, .int .i64 0]) Tryz.underlying142 ti142 bp142 (hc := by simp only [List.map_toArray, List.map_cons, List.map_nil, opv, nZ, Value.cells, List.toList_toArray]; (repeat (refine fill_cons rfl rfl (Nat.le_of_ble_eq_true rfl) ?_)); rfl)) ?_
 try simp only [opv, nZ, Value.cells]
 refine s_call en90 ?_
 try simp only [opv, nZ, Value.cells, List.map_toArray, List.map_cons, List.map_nil, List.append_toArray, List.cons_append, List.nil_append, Array.append_empty]
 refine CallR.mono (c_ref07Read _ g (kS1 e xs).1 Aa ca (kS1 e xs).2 hcpa hw1 (by omega) ⟨0, 65535, 0, nm0, none, 0, [], 0⟩ (by decide) (by decide) (hS.owns (by repeat (first | exact Spl.nil | (apply Spl.cons (by repeat (first | exact Del.head | apply Del.tail))))))) ?_
 rintro _ w10 ⟨Bb, kb, rfl, hQb, Ab, cb, hcpb, hRb, hCb⟩
 have hYb := RdIn.trans hM hS (by repeat (first | exact Spl.nil | (apply Spl.cons (by repeat (first | exact Del.head | apply Del.tail))))) hRb (by intro s hs q hb; simp only [List.mem_cons, List.not_mem_nil, or_false] at hs; rcases hs with rfl | rfl <;> first | (simp [Res.reads] at hb; done) | exact hRa q hb)
 replace hS := hS.frame (by repeat (first | exact Spl.nil | (apply Spl.cons (by repeat (first | exact Del.head | apply Del.tail))))) hCb (by intro r hr b hb; simp only [List.mem_cons, List.not_mem_nil, or_false] at hr; rcases hr with rfl | rfl | rfl <;> first | (simp [Res.reads] at hb; done) | exact hRb b hb | exact hQb b hb)
 replace hRb := hYb
 simp only [List.cons_append, List.nil_append] at hS
 simp only [rdS_u] at hS hcpb hRb ⊢
 replace hcpb : (kS2 e xs).2.length ≤ cb := hcpb
 replace hS : St (OwnB [.obj g (.cells #[.slice A xs.length c, .int .i64 e] 140 (0, 0)), .rd A 1 xs.length (xs.map (Value.int .u8))]) w0 w10 (.obj g (.cells #[.slice Ab (kS2 e xs).2.length cb, .int .i64 (kS2 e xs).1] 140 (0, 0)) :: .rd Ab 1 (kS2 e xs).2.length ((kS2 e xs).2.map (Value.int .u8)) :: _) := hS
 try simp only [opv, nZ, Value.cells]
 refine s_go (s_field_one Tryz.underlying142 (hu := Tryz.underlying84) (hv := by rfl)) ?_
 try simp only [opv, nZ, Value.cells, List.getElem_toArray, List.getElem_cons_zero, List.getElem_cons_succ]
 refine s_go (s_conv Tryz.underlying84 Tryz.underlying39 (hc := by exact wr_u16 (by omega) (by omega))) ?_
 try simp only [opv, nZ, Value.cells]
 refine s_go (m_fieldAddr Tryz.underlying83 (hi := ti39)) ?_
 try simp only [opv, nZ, Value.cells, Nat.zero_add, Nat.add_zero, List.getElem_toArray, List.getElem_cons_zero, List.getElem_cons_succ]
 refine m_store_obj ti39 (hS := hS) (hc := by exact zi_set rfl (by omega)) (hv := by rfl) (hfit := by (rw [zi_size (by omega)]; decide)) (h1 := by simp [opv, Value.cells, Value.oneCell']) (h := fun w11 hS => ?_)
 try simp only [opv, nZ, Value.cells, Array.toArray_toList] at hS ⊢
 rw [mk_set1] at hS
 have hkl2 : (mkKey (oneS e xs).1.toNat (numS 65535 (kS1 e xs).1 (kS1 e xs).2).1 nm0 0 0).length = 12 := rfl
 refine x_nil ?_
 refine hK6 _ _ ?_
 refine x_seq_j [32, 33, 34, 35, 36, 37, 38, 39, 40, 41, 42, 43, 44, 45, 46, 47, 48, 49, 50, 51, 52, 53, 54, 55, 56, 57, 58, 59, 60, 61, 62, 63, 64, 65, 66, 67, 68, 69] (fun f w => ∃ (st : Int × List Int) (key : List Int) (A1 : Option Addr) (c1 : Nat), ((oneS e xs).1 = 4 ∧ st = kS2 e xs ∧ key = (mkKey (oneS e xs).1.toNat (numS 65535 (kS1 e xs).1 (kS1 e xs).2).1 nm0 0 0) ∨ ¬ (oneS e xs).1 = 4 ∧ st = kS4 e xs ∧ key = (mkKey (oneS e xs).1.toNat (numS 65535 (kS1 e xs).1 (kS1 e xs).2).1 (namS (kS2 e xs).1 (kS2 e xs).2).1 (oneS (kS3 e xs).1 (kS3 e xs).2).1.toNat 0)) ∧ st.2.length ≤ c1 ∧ RdIn w0 [.obj g (.cells #[.slice A xs.length c, .int .i64 e] 140 (0, 0)), .rd A 1 xs.length (xs.map (Value.int .u8))] A1 st.2.length ∧ St (OwnB [.obj g (.cells #[.slice A xs.length c, .int .i64 e] 140 (0, 0)), .rd A 1 xs.length (xs.map (Value.int .u8))]) w0 w [.obj g3 (.cells (KA key) 83 (0, 0)), .obj g (.cells #[.slice A1 st.2.length c1, .int .i64 st.1] 140 (0, 0)), .rd A1 1 st.2.length (st.2.map (Value.int .u8)), .obj g1 (.cells (KA key0) 83 (0, 0))]) ?jx2 ?jy2
 case jx2 =>
  refine x_seq fun K7 hK7 => ?_
  refine x_region ?_
  refine s_go (m_fieldAddr Tryz.underlying83 (hi := ti5)) ?_
  try simp only [opv, nZ, Value.cells, Nat.zero_add, Nat.add_zero, List.getElem_toArray, List.getElem_cons_zero, List.getElem_cons_succ]
  refine s_go (m_load_obj Tryz.underlying5 (hS := hS) (hv := (zi_get (k := .u8) (by rfl) (by omega)).trans (congrArg (fun x => some (Value.int .u8 x)) (mk_at0 hav)))) ?_
  try simp only [opv, nZ, Value.cells, List.getElem_toArray, List.getElem_cons_zero, List.getElem_cons_succ]
  refine s_go (s_neq) ?_
  try simp only [opv, nZ, Value.cells]
  refine x_nil ?_
  refine hK7 _ _ ?_
  refine x_cond (ht := fun hc4 => ?_) (hf := fun hc4 => ?_)
  ·
   try simp only [dZ, ne_eq, bne_iff_ne, beq_iff_eq] at hc4
   have h4 : ¬ (oneS e xs).1 = 4 := hc4
   refine x_seq fun K8 hK8 => ?_
   refine x_region ?_
   refine s_go (s_move) ?_
   try simp only [opv, nZ, Value.cells]
   refine s_go (s_build_struct (cells := #[_, .int .u64 0, .int .u8 0, .int .u8 0, .int .u8 0, .int .u8 0, .int .u8 0, .int .u8 0, .int .u8 0, .int .u8 0, .int .u8 0, .slice none 0 0, .int .i64 0]) Tryz.underlying142 ti142 bp142 (hc := by simp only [List.map_toArray, List.map_cons, List.map_nil, opv, nZ, Value.cells, List.toList_toArray]; (repeat (refine fill_cons rfl rfl (Nat.le_of_ble_eq_true rfl) ?_)); rfl)) ?_
   try simp only [opv, nZ, Value.cells]
   refine s_call en90 ?_
   try simp only [opv, nZ, Value.cells, List.map_toArray, List.map_cons, List.map_nil, List.append_toArray, List.cons_append, List.nil_append, Array.append_empty]
   refine CallR.mono (c_ref07Read _ g (kS2 e xs).1 Ab cb (kS2 e xs).2 hcpb hw2 (by omega) ⟨2, 0, 0, nm0, none, 0, [], 0⟩ (by decide) (by decide) (hS.owns (by repeat (first | exact Spl.nil | (apply Spl.cons (by repeat (exact Del.head))))))) ?_
   rintro _ w12 ⟨Bc, kc, rfl, hQc, Ac, cc, hcpc, hRc, hCc⟩
   have hYc := RdIn.trans hM hS (by repeat (first | exact Spl.nil | (apply Spl.cons (by repeat (exact Del.head))))) hRc (by intro s hs q hb; simp only [List.mem_cons, List.not_mem_nil, or_false] at hs; rcases hs with rfl | rfl <;> first | (simp [Res.reads] at hb; done) | exact hRb q hb)
   replace hS := hS.frame (by repeat (first | exact Spl.nil | (apply Spl.cons (by repeat (exact Del.head))))) hCc (by intro r hr b hb; simp only [List.mem_cons, List.not_mem_nil, or_false] at hr; rcases hr with rfl | rfl | rfl <;> first | (simp [Res.reads] at hb; done) | exact hRc b hb | exact hQc b hb)
   replace hRc := hYc
   simp only [List.cons_append, List.nil_append] at hS
   simp only [rdS_n] at hS hcpc hRc ⊢
   try simp only [opv, nZ, Value.cells]
   refine s_go (s_field_agg Tryz.underlying142 (hu := Tryz.underlying41) (hi := ti41)) ?_
   try simp only [opv, nZ, Value.cells, List.getElem_toArray, List.getElem_cons_zero, List.getElem_cons_succ]
   rw [pA_x hnl]
   refine s_go (m_fieldAddr Tryz.underlying83 (hi := ti41)) ?_
   try simp only [opv, nZ, Value.cells, Nat.zero_add, Nat.add_zero, List.getElem_toArray, List.getElem_cons_zero, List.getElem_cons_succ]
   refine m_store_obj ti41 (hS := hS) (hc := mk_item_put rfl hnl) (hv := by (show (ic .u8 _).size = 8; rw [ic_size]; exact hnl)) (hfit := by (rw [zi_size (by omega)]; decide)) (h1 := by exact ic_one _ _) (h := fun w13 hS => ?_)
   try simp only [opv, nZ, Value.cells, Array.toArray_toList] at hS ⊢
   have hkl3 : (mkKey (oneS e xs).1.toNat (numS 65535 (kS1 e xs).1 (kS1 e xs).2).1 (namS (kS2 e xs).1 (kS2 e xs).2).1 0 0).length = 12 := mkKey_len hnl
   refine x_nil ?_
   refine hK8 _ _ ?_
   refine x_seq_j [40, 41, 42, 43, 44, 45, 46, 47, 48, 49, 50, 51, 52] (fun f w => ∃ (A1 : Option Addr) (c1 : Nat), (kS3 e xs).2.length ≤ c1 ∧ RdIn w0 [.obj g (.cells #[.slice A xs.length c, .int .i64 e] 140 (0, 0)), .rd A 1 xs.length (xs.map (Value.int .u8))] A1 (kS3 e xs).2.length ∧ St (OwnB [.obj g (.cells #[.slice A xs.length c, .int .i64 e] 140 (0, 0)), .rd A 1 xs.length (xs.map (Value.int .u8))]) w0 w [.obj g3 (.cells (KA (mkKey (oneS e xs).1.toNat (numS 65535 (kS1 e xs).1 (kS1 e xs).2).1 (namS (kS2 e xs).1 (kS2 e xs).2).1 0 0)) 83 (0, 0)), .obj g (.cells #[.slice A1 (kS3 e xs).2.length c1, .int .i64 (kS3 e xs).1] 140 (0, 0)), .rd A1 1 (kS3 e xs).2.length ((kS3 e xs).2.map (Value.int .u8)), .obj g1 (.cells (KA key0) 83 (0, 0))]) ?jx3 ?jy3
   case jx3 =>
    refine x_seq fun K9 hK9 => ?_
    refine x_region ?_
    refine s_go (s_move) ?_
    try simp only [opv, nZ, Value.cells]
    refine s_go (s_nilCheck) ?_
    try simp only [opv, nZ, Value.cells]
    refine s_go (m_fieldAddr Tryz.underlying140 (hi := ti53)) ?_
    try simp only [opv, nZ, Value.cells, Nat.zero_add, Nat.add_zero, List.getElem_toArray, List.getElem_cons_zero, List.getElem_cons_succ]
    refine s_go (m_load_obj Tryz.underlying53 (hS := hS) (hv := by rfl)) ?_
    try simp only [opv, nZ, Value.cells, List.getElem_toArray, List.getElem_cons_zero, List.getElem_cons_succ]
    refine s_go (s_eql) ?_
    try simp only [opv, nZ, Value.cells]
    refine s_go (s_move) ?_
    try simp only [opv, nZ, Value.cells]
    refine s_part 45 rfl (fun hp3 => ?_) (fun hp3 => ?_)
    ·
     try simp only [n3, n4]
     try simp only [dZ, ne_eq] at hp3
     have hE3 : (namS (kS2 e xs).1 (kS2 e xs).2).2.1 = 0 := hp3
     refine g_on (yi (t := 45) rfl rfl) ?_
     refine s_go (m_fieldAddr Tryz.underlying83 (hi := ti41)) ?_
     try simp only [opv, nZ, Value.cells, Nat.zero_add, Nat.add_zero, List.getElem_toArray, List.getElem_cons_zero, List.getElem_cons_succ]
     refine g_on (yi (t := 45) rfl rfl) ?_
     refine s_go (m_loada_obj Tryz.underlying41 (hi := ti41) (hS := hS) (hfit := by (rw [zi_size (by omega)]; decide))) ?_
     try simp only [opv, nZ, Value.cells, List.getElem_toArray, List.getElem_cons_zero, List.getElem_cons_succ]
     rw [key_item hkl3, mk_item hnl]
     refine g_on (yi (t := 45) rfl rfl) ?_
     refine s_go (s_build_arr (cells := #[.int .u8 0, .int .u8 0, .int .u8 0, .int .u8 0, .int .u8 0, .int .u8 0, .int .u8 0, .int .u8 0]) Tryz.underlying41 ti41 ti5 (hc := by simp only [List.map_toArray, List.map_cons, List.map_nil, opv, nZ, Value.cells, List.toList_toArray]; (repeat (refine fill_cons rfl rfl (Nat.le_of_ble_eq_true rfl) ?_)); rfl)) ?_
     try simp only [opv, nZ, Value.cells]
     rw [show (#[.int .u8 0, .int .u8 0, .int .u8 0, .int .u8 0, .int .u8 0, .int .u8 0, .int .u8 0, .int .u8 0] : Array Value) = ic .u8 nm0 from rfl]
     refine g_on (yi (t := 45) rfl rfl) ?_
     refine s_go (s_eql_agg eqv41 (hg := eg41) (hX := zi_ic (by assumption)) (hY := zi_ic (by rfl)) (h1 := by assumption) (h2 := by rfl)) ?_
     try simp only [opv, nZ, Value.cells]
     refine s_go (s_pick_t) ?_
     try simp only [opv, nZ, Value.cells]
     refine x_nil ?_
     refine hK9 _ _ ?_
     refine x_cond (ht := fun hc5 => ?_) (hf := fun hc5 => ?_)
     ·
      try simp only [dZ, ne_eq, bne_iff_ne, beq_iff_eq] at hc5
      have h3n : kS3 e xs = (3, []) := askS_bad hE3 (decide_eq_true hc5)
      have hz : keyS e xs = (key0, 3, []) := by rw [keyS_e4 h4 (by rw [kS4_err (by rw [h3n]; decide), h3n]; decide), kS4_err (by rw [h3n]; decide), h3n]
      rw [hE3] at hS
      refine x_seq fun K10 hK10 => ?_
      refine x_region ?_
      refine s_go (s_move) ?_
      try simp only [opv, nZ, Value.cells]
      refine s_call en195 ?_
      try simp only [opv, nZ, Value.cells, List.map_toArray, List.map_cons, List.map_nil, List.append_toArray, List.cons_append, List.nil_append, Array.append_empty]
      refine CallR.mono (c_ref08Fail _ g Ac cc ((namS (kS2 e xs).1 (kS2 e xs).2).2.2) hcpc 3 (hS.owns (by repeat (first | exact Spl.nil | (apply Spl.cons (by repeat (exact Del.head))))))) ?_
      rintro _ w14 ⟨rfl, Af, cf, hcpf, hRf, hCf⟩
      have hYf := RdIn.trans hM hS (by repeat (first | exact Spl.nil | (apply Spl.cons (by repeat (exact Del.head))))) hRf (by intro s hs q hb; simp only [List.mem_cons, List.not_mem_nil, or_false] at hs; rcases hs with rfl | rfl <;> first | (simp [Res.reads] at hb; done) | exact hRc q hb)
      replace hS := hS.frame (by repeat (first | exact Spl.nil | (apply Spl.cons (by repeat (exact Del.head))))) hCf (by intro r hr b hb; simp only [List.mem_cons, List.not_mem_nil, or_false] at hr; rcases hr with rfl | rfl <;> (simp [Res.reads] at hb; done))
      replace hRf := hYf
      simp only [List.cons_append, List.nil_append] at hS
      try simp only [opv, nZ, Value.cells]
      refine m_store_obj ti83 (hS := hS) (hc := by exact zi_whole (by omega) (by omega)) (hv := by rfl) (hfit := by (rw [zi_size (by omega)]; decide)) (h1 := by exact zi_one _ _) (h := fun w15 hS => ?_)
      try simp only [opv, nZ, Value.cells, Array.toArray_toList] at hS ⊢
      refine x_nil ?_
      refine hK10 _ _ ?_
      refine x_ret ?_
      refine r_cell_agg rfl Tryz.underlying83 ti83 (hS := hS) (hfit := by (rw [zi_size (by omega)]; rfl)) (hR := ?_)
      exact ⟨by rw [hz] <;> first | rfl | (rw [h4]; rfl) | (rw [h6]; rfl), _, _, by rw [hz]; assumption, by rw [hz]; assumption, by rw [hz]; exact hS.sel (by repeat (first | exact Sel.nil | (refine Sel.cons (by repeat (exact Del.head)) ?_)))⟩
     ·
      try simp only [dZ, ne_eq, bne_iff_ne, beq_iff_eq] at hc5
      have hne := hc5
      have hs3 : (namS (kS2 e xs).1 (kS2 e xs).2).2 = kS3 e xs := by exact (askS_good (by exact decide_eq_false (by assumption))).symm
      have hsp3 := congrArg Prod.fst hs3
      rw [hs3] at hS hcpc hRc
      refine x_skip ?_
      refine mix_leaf (by simp only [clob, List.foldl, nZ]) ?_
      try simp only [n1, n2]
      exact ⟨_, _, by assumption, by assumption, hS.selA⟩
    ·
     try simp only [n3, n4]
     try simp only [dZ, ne_eq] at hp3
     have hE3 : ¬ (namS (kS2 e xs).1 (kS2 e xs).2).2.1 = 0 := hp3
     refine g_off (yi (t := 45) rfl rfl) ?_
     try simp only [opv, nZ, Value.cells]
     refine g_off (yi (t := 45) rfl rfl) ?_
     try simp only [opv, nZ, Value.cells]
     refine g_off (yi (t := 45) rfl rfl) ?_
     try simp only [opv, nZ, Value.cells]
     refine g_off (yi (t := 45) rfl rfl) ?_
     try simp only [opv, nZ, Value.cells]
     refine s_go (s_pick_f) ?_
     try simp only [opv, nZ, Value.cells]
     refine x_nil ?_
     refine hK9 _ _ ?_
     refine x_cond_f (h := ?_)
     have hne := @c
     have hs3 : (namS (kS2 e xs).1 (kS2 e xs).2).2 = kS3 e xs := by exact (askS_err hE3).symm
     have hsp3 := congrArg Prod.fst hs3
     rw [hs3] at hS hcpc hRc
     refine x_skip ?_
     refine mix_leaf (by simp only [clob, List.foldl, nZ]) ?_
     try simp only [n1, n2]
     exact ⟨_, _, by assumption, by assumption, hS.selA⟩
   intro fm2 w16 hM
   simp only [clob, List.foldl, n3, n4]
   obtain ⟨Ac, cc, hcpc, hRc, hS⟩ := hM
   refine x_seq fun K11 hK11 => ?_
   refine x_region ?_
   refine s_go (s_move) ?_
   try simp only [opv, nZ, Value.cells]
   refine s_go (s_build_struct (cells := #[_, .int .u64 0, .int .u8 0, .int .u8 0, .int .u8 0, .int .u8 0, .int .u8 0, .int .u8 0, .int .u8 0, .int .u8 0, .int .u8 0, .slice none 0 0, .int .i64 0]) Tryz.underlying142 ti142 bp142 (hc := by simp only [List.map_toArray, List.map_cons, List.map_nil, opv, nZ, Value.cells, List.toList_toArray]; (repeat (refine fill_cons rfl rfl (Nat.le_of_ble_eq_true rfl) ?_)); rfl)) ?_
   try simp only [opv, nZ, Value.cells]
   refine s_call en90 ?_
   try simp only [opv, nZ, Value.cells, List.map_toArray, List.map_cons, List.map_nil, List.append_toArray, List.cons_append, List.nil_append, Array.append_empty]
   refine CallR.mono (c_ref07Read _ g (kS3 e xs).1 Ac cc (kS3 e xs).2 hcpc hw3 (by omega) ⟨1, 0, 0, nm0, none, 0, [], 0⟩ (by decide) (by decide) (hS.owns (by repeat (first | exact Spl.nil | (apply Spl.cons (by repeat (first | exact Del.head | apply Del.tail))))))) ?_
   rintro _ w17 ⟨Bd, kd, rfl, hQd, Ad, cd, hcpd, hRd, hCd⟩
   have hYd := RdIn.trans hM hS (by repeat (first | exact Spl.nil | (apply Spl.cons (by repeat (first | exact Del.head | apply Del.tail))))) hRd (by intro s hs q hb; simp only [List.mem_cons, List.not_mem_nil, or_false] at hs; rcases hs with rfl | rfl <;> first | (simp [Res.reads] at hb; done) | exact hRc q hb)
   replace hS := hS.frame (by repeat (first | exact Spl.nil | (apply Spl.cons (by repeat (first | exact Del.head | apply Del.tail))))) hCd (by intro r hr b hb; simp only [List.mem_cons, List.not_mem_nil, or_false] at hr; rcases hr with rfl | rfl | rfl <;> first | (simp [Res.reads] at hb; done) | exact hRd b hb | exact hQd b hb)
   replace hRd := hYd
   simp only [List.cons_append, List.nil_append] at hS
   simp only [rdS_b] at hS hcpd hRd ⊢
   try simp only [opv, nZ, Value.cells]
   refine s_go (s_field_one Tryz.underlying142 (hu := Tryz.underlying5) (hv := by rfl)) ?_
   try simp only [opv, nZ, Value.cells, List.getElem_toArray, List.getElem_cons_zero, List.getElem_cons_succ]
   refine s_go (m_fieldAddr Tryz.underlying83 (hi := ti5)) ?_
   try simp only [opv, nZ, Value.cells, Nat.zero_add, Nat.add_zero, List.getElem_toArray, List.getElem_cons_zero, List.getElem_cons_succ]
   refine m_store_obj ti5 (hS := hS) (hc := by exact zi_set rfl (by omega)) (hv := by rfl) (hfit := by (rw [zi_size (by omega)]; decide)) (h1 := by simp [opv, Value.cells, Value.oneCell']) (h := fun w18 hS => ?_)
   try simp only [opv, nZ, Value.cells, Array.toArray_toList] at hS ⊢
   rw [mk_set10i hnl hrv] at hS
   have hkl4 : (mkKey (oneS e xs).1.toNat (numS 65535 (kS1 e xs).1 (kS1 e xs).2).1 (namS (kS2 e xs).1 (kS2 e xs).2).1 (oneS (kS3 e xs).1 (kS3 e xs).2).1.toNat 0).length = 12 := mkKey_len hnl
   refine x_nil ?_
   refine hK11 _ _ ?_
   refine x_seq fun K12 hK12 => ?_
   refine x_region ?_
   refine s_go (s_move) ?_
   try simp only [opv, nZ, Value.cells]
   refine s_go (s_nilCheck) ?_
   try simp only [opv, nZ, Value.cells]
   refine s_go (m_fieldAddr Tryz.underlying140 (hi := ti53)) ?_
   try simp only [opv, nZ, Value.cells, Nat.zero_add, Nat.add_zero, List.getElem_toArray, List.getElem_cons_zero, List.getElem_cons_succ]
   refine s_go (m_load_obj Tryz.underlying53 (hS := hS) (hv := by rfl)) ?_
   try simp only [opv, nZ, Value.cells, List.getElem_toArray, List.getElem_cons_zero, List.getElem_cons_succ]
   refine s_go (s_eql) ?_
   try simp only [opv, nZ, Value.cells]
   refine s_go (s_move) ?_
   try simp only [opv, nZ, Value.cells]
   refine s_part 63 rfl (fun hp4 => ?_) (fun hp4 => ?_)
   ·
    try simp only [n3, n4]
    try simp only [dZ, ne_eq] at hp4
    have hE4 : (oneS (kS3 e xs).1 (kS3 e xs).2).2.1 = 0 := hp4
    refine g_on (yi (t := 63) rfl rfl) ?_
    refine s_go (m_fieldAddr Tryz.underlying83 (hi := ti5)) ?_
    try simp only [opv, nZ, Value.cells, Nat.zero_add, Nat.add_zero, List.getElem_toArray, List.getElem_cons_zero, List.getElem_cons_succ]
    refine g_on (yi (t := 63) rfl rfl) ?_
    refine s_go (m_load_obj Tryz.underlying5 (hS := hS) (hv := (zi_get (k := .u8) (by rfl) (by omega)).trans (congrArg (fun x => some (Value.int .u8 x)) (mk_at10i hnl hrv)))) ?_
    try simp only [opv, nZ, Value.cells, List.getElem_toArray, List.getElem_cons_zero, List.getElem_cons_succ]
    refine g_on (yi (t := 63) rfl rfl) ?_
    refine s_go (s_geq) ?_
    try simp only [opv, nZ, Value.cells]
    refine s_go (s_pick_t) ?_
    try simp only [opv, nZ, Value.cells]
    refine x_nil ?_
    refine hK12 _ _ ?_
    refine x_cond (ht := fun hc7 => ?_) (hf := fun hc7 => ?_)
    ·
     try simp only [dZ, ne_eq, bne_iff_ne, beq_iff_eq] at hc7
     have h4n : kS4 e xs = (2, []) := askS_bad hE4 (by rw [decide_eq_false (show ¬ (oneS (kS3 e xs).1 (kS3 e xs).2).1 < 16 by omega)]; rfl)
     have hz : keyS e xs = (key0, 2, []) := by rw [keyS_e4 h4 (by rw [h4n]; decide), h4n]
     rw [hE4] at hS
     refine x_seq fun K13 hK13 => ?_
     refine x_region ?_
     refine s_go (s_move) ?_
     try simp only [opv, nZ, Value.cells]
     refine s_call en195 ?_
     try simp only [opv, nZ, Value.cells, List.map_toArray, List.map_cons, List.map_nil, List.append_toArray, List.cons_append, List.nil_append, Array.append_empty]
     refine CallR.mono (c_ref08Fail _ g Ad cd ((oneS (kS3 e xs).1 (kS3 e xs).2).2.2) hcpd 2 (hS.owns (by repeat (first | exact Spl.nil | (apply Spl.cons (by repeat (exact Del.head))))))) ?_
     rintro _ w19 ⟨rfl, Af, cf, hcpf, hRf, hCf⟩
     have hYf := RdIn.trans hM hS (by repeat (first | exact Spl.nil | (apply Spl.cons (by repeat (exact Del.head))))) hRf (by intro s hs q hb; simp only [List.mem_cons, List.not_mem_nil, or_false] at hs; rcases hs with rfl | rfl <;> first | (simp [Res.reads] at hb; done) | exact hRd q hb)
     replace hS := hS.frame (by repeat (first | exact Spl.nil | (apply Spl.cons (by repeat (exact Del.head))))) hCf (by intro r hr b hb; simp only [List.mem_cons, List.not_mem_nil, or_false] at hr; rcases hr with rfl | rfl <;> (simp [Res.reads] at hb; done))
     replace hRf := hYf
     simp only [List.cons_append, List.nil_append] at hS
     try simp only [opv, nZ, Value.cells]
     refine m_store_obj ti83 (hS := hS) (hc := by exact zi_whole (by omega) (by omega)) (hv := by rfl) (hfit := by (rw [zi_size (by omega)]; decide)) (h1 := by exact zi_one _ _) (h := fun w20 hS => ?_)
     try simp only [opv, nZ, Value.cells, Array.toArray_toList] at hS ⊢
     refine x_nil ?_
     refine hK13 _ _ ?_
     refine x_ret ?_
     refine r_cell_agg rfl Tryz.underlying83 ti83 (hS := hS) (hfit := by (rw [zi_size (by omega)]; rfl)) (hR := ?_)
     exact ⟨by rw [hz] <;> first | rfl | (rw [h4]; rfl) | (rw [h6]; rfl), _, _, by rw [hz]; assumption, by rw [hz]; assumption, by rw [hz]; exact hS.sel (by repeat (first | exact Sel.nil | (refine Sel.cons (by repeat (exact Del.head)) ?_)))⟩
    ·
     try simp only [dZ, ne_eq, bne_iff_ne, beq_iff_eq] at hc7
     have hs4 : (oneS (kS3 e xs).1 (kS3 e xs).2).2 = kS4 e xs := by exact (askS_good (by rw [decide_eq_true (show (oneS (kS3 e xs).1 (kS3 e xs).2).1 < 16 by omega)]; rfl)).symm
     have hsp4 := congrArg Prod.fst hs4
     rw [hs4] at hS hcpd hRd
     refine x_skip ?_
     refine mix_leaf (by simp only [clob, List.foldl, nZ]) ?_
     try simp only [n1, n2]
     exact ⟨kS4 e xs, _, _, _, .inr ⟨h4, rfl, rfl⟩, by assumption, by assumption, hS.selA⟩
   ·
    try simp only [n3, n4]
    try simp only [dZ, ne_eq] at hp4
    have hE4 : ¬ (oneS (kS3 e xs).1 (kS3 e xs).2).2.1 = 0 := hp4
    refine g_off (yi (t := 63) rfl rfl) ?_
    try simp only [opv, nZ, Value.cells]
    refine g_off (yi (t := 63) rfl rfl) ?_
    try simp only [opv, nZ, Value.cells]
    refine g_off (yi (t := 63) rfl rfl) ?_
    try simp only [opv, nZ, Value.cells]
    refine s_go (s_pick_f) ?_
    try simp only [opv, nZ, Value.cells]
    refine x_nil ?_
    refine hK12 _ _ ?_
    refine x_cond_f (h := ?_)
    have hs4 : (oneS (kS3 e xs).1 (kS3 e xs).2).2 = kS4 e xs := by exact (askS_err hE4).symm
    have hsp4 := congrArg Prod.fst hs4
    rw [hs4] at hS hcpd hRd
    refine x_skip ?_
    refine mix_leaf (by simp only [clob, List.foldl, nZ]) ?_
    try simp only [n1, n2]
    exact ⟨kS4 e xs, _, _, _, .inr ⟨h4, rfl, rfl⟩, by assumption, by assumption, hS.selA⟩
  ·
   try simp only [dZ, ne_eq, bne_iff_ne, beq_iff_eq] at hc4
   have h4 : (oneS e xs).1 = 4 := hc4
   refine x_skip ?_
   refine mix_leaf (by simp only [clob, List.foldl, nZ]) ?_
   try simp only [n1, n2]
   exact ⟨kS2 e xs, _, _, _, .inl ⟨h4, rfl, rfl⟩, by assumption, by assumption, hS.selA⟩
 intro fm3 w21 hM
 simp only [clob, List.foldl, n3, n4]
 obtain ⟨st, key, Ad, cd, hd, hcpd, hRd, hS⟩ := hM
 have hkl2 : (mkKey (oneS e xs).1.toNat (numS 65535 (kS1 e xs).1 (kS1 e xs).2).1 nm0 0 0).length = 12 := rfl
 have hkl4 : (mkKey (oneS e xs).1.toNat (numS 65535 (kS1 e xs).1 (kS1 e xs).2).1 (namS (kS2 e xs).1 (kS2 e xs).2).1 (oneS (kS3 e xs).1 (kS3 e xs).2).1.toNat 0).length = 12 := mkKey_len hnl
 rcases hd with ⟨h4, rfl, rfl⟩ | ⟨h4, rfl, rfl⟩
 ·
  refine x_seq_j [70, 71, 72, 73, 74, 75, 76, 77, 78, 79, 80, 81, 82, 83, 84, 85, 86, 87, 88, 89, 90] (fun f w => ∃ (st : Int × List Int) (key : List Int) (A1 : Option Addr) (c1 : Nat), ((oneS e xs).1 = 4 ∧ st = kS2 e xs ∧ key = (mkKey (oneS e xs).1.toNat (numS 65535 (kS1 e xs).1 (kS1 e xs).2).1 nm0 0 0) ∨ (¬ (oneS e xs).1 = 4 ∧ ¬ (oneS e xs).1 = 1) ∧ st = kS4 e xs ∧ key = (mkKey (oneS e xs).1.toNat (numS 65535 (kS1 e xs).1 (kS1 e xs).2).1 (namS (kS2 e xs).1 (kS2 e xs).2).1 (oneS (kS3 e xs).1 (kS3 e xs).2).1.toNat 0) ∨ (oneS e xs).1 = 1 ∧ st = kS5 e xs ∧ key = (mkKey (oneS e xs).1.toNat (numS 65535 (kS1 e xs).1 (kS1 e xs).2).1 (namS (kS2 e xs).1 (kS2 e xs).2).1 (oneS (kS3 e xs).1 (kS3 e xs).2).1.toNat (numS 4294967295 (kS4 e xs).1 (kS4 e xs).2).1)) ∧ st.2.length ≤ c1 ∧ RdIn w0 [.obj g (.cells #[.slice A xs.length c, .int .i64 e] 140 (0, 0)), .rd A 1 xs.length (xs.map (Value.int .u8))] A1 st.2.length ∧ St (OwnB [.obj g (.cells #[.slice A xs.length c, .int .i64 e] 140 (0, 0)), .rd A 1 xs.length (xs.map (Value.int .u8))]) w0 w [.obj g3 (.cells (KA key) 83 (0, 0)), .obj g (.cells #[.slice A1 st.2.length c1, .int .i64 st.1] 140 (0, 0)), .rd A1 1 st.2.length (st.2.map (Value.int .u8)), .obj g1 (.cells (KA key0) 83 (0, 0))]) ?jx4 ?jy4
  case jx4 =>
   refine x_seq fun K14 hK14 => ?_
   refine x_region ?_
   refine s_go (m_fieldAddr Tryz.underlying83 (hi := ti5)) ?_
   try simp only [opv, nZ, Value.cells, Nat.zero_add, Nat.add_zero, List.getElem_toArray, List.getElem_cons_zero, List.getElem_cons_succ]
   refine s_go (m_load_obj Tryz.underlying5 (hS := hS) (hv := (zi_get (k := .u8) (by rfl) (by omega)).trans (congrArg (fun x => some (Value.int .u8 x)) (mk_at0 hav)))) ?_
   try simp only [opv, nZ, Value.cells, List.getElem_toArray, List.getElem_cons_zero, List.getElem_cons_succ]
   refine s_go (s_eql) ?_
   try simp only [opv, nZ, Value.cells]
   refine x_nil ?_
   refine hK14 _ _ ?_
   refine x_cond (ht := fun hc9 => ?_) (hf := fun hc9 => ?_)
   ·
    try simp only [dZ, ne_eq, bne_iff_ne, beq_iff_eq] at hc9
    (exfalso; omega)
   ·
    try simp only [dZ, ne_eq, bne_iff_ne, beq_iff_eq] at hc9
    have h6 : ¬ (oneS e xs).1 = 1 := hc9
    refine x_skip ?_
    refine mix_leaf (by simp only [clob, List.foldl, nZ]) ?_
    try simp only [n1, n2]
    exact ⟨kS2 e xs, _, _, _, .inl ⟨h4, rfl, rfl⟩, by assumption, by assumption, hS.sel (by repeat (first | exact Sel.nil | (refine Sel.cons (by repeat (exact Del.head)) ?_)))⟩
  intro fm4 w26 hM
  simp only [clob, List.foldl, n3, n4]
  obtain ⟨st, key, Af, cf, hd, hcpf, hRf, hS⟩ := hM
  have hkl2 : (mkKey (oneS e xs).1.toNat (numS 65535 (kS1 e xs).1 (kS1 e xs).2).1 nm0 0 0).length = 12 := rfl
  have hkl4 : (mkKey (oneS e xs).1.toNat (numS 65535 (kS1 e xs).1 (kS1 e xs).2).1 (namS (kS2 e xs).1 (kS2 e xs).2).1 (oneS (kS3 e xs).1 (kS3 e xs).2).1.toNat 0).length = 12 := mkKey_len hnl
  have hkl5 : (mkKey (oneS e xs).1.toNat (numS 65535 (kS1 e xs).1 (kS1 e xs).2).1 (namS (kS2 e xs).1 (kS2 e xs).2).1 (oneS (kS3 e xs).1 (kS3 e xs).2).1.toNat (numS 4294967295 (kS4 e xs).1 (kS4 e xs).2).1).length = 12 := mkKey_len hnl
  rcases hd with ⟨h4, rfl, rfl⟩ | ⟨⟨h4, h6⟩, rfl, rfl⟩ | ⟨h6, rfl, rfl⟩
  ·
   refine x_seq fun K18 hK18 => ?_
   refine x_seq fun K19 hK19 => ?_
   refine x_region ?_
   refine s_go (s_move) ?_
   try simp only [opv, nZ, Value.cells]
   refine s_go (s_nilCheck) ?_
   try simp only [opv, nZ, Value.cells]
   refine s_go (m_fieldAddr Tryz.underlying140 (hi := ti53)) ?_
   try simp only [opv, nZ, Value.cells, Nat.zero_add, Nat.add_zero, List.getElem_toArray, List.getElem_cons_zero, List.getElem_cons_succ]
   refine s_go (m_load_obj Tryz.underlying53 (hS := hS) (hv := by rfl)) ?_
   try simp only [opv, nZ, Value.cells, List.getElem_toArray, List.getElem_cons_zero, List.getElem_cons_succ]
   refine s_go (s_neq) ?_
   try simp only [opv, nZ, Value.cells]
   refine x_nil ?_
   refine hK19 _ _ ?_
   refine x_cond (ht := fun hc12 => ?_) (hf := fun hc12 => ?_)
   ·
    try simp only [dZ, ne_eq, bne_iff_ne, beq_iff_eq] at hc12
    have hz := keyS_e2 hc12
    refine x_seq fun K20 hK20 => ?_
    refine x_region ?_
    refine s_go (s_build_struct (cells := #[.int .u8 0, .int .u16 0, .int .u8 0, .int .u8 0, .int .u8 0, .int .u8 0, .int .u8 0, .int .u8 0, .int .u8 0, .int .u8 0, .int .u8 0, .int .u32 0]) Tryz.underlying83 ti83 bp83 (hc := by simp only [List.map_toArray, List.map_cons, List.map_nil, opv, nZ, Value.cells, List.toList_toArray]; (repeat (refine fill_cons rfl rfl (Nat.le_of_ble_eq_true rfl) ?_)); rfl)) ?_
    try simp only [opv, nZ, Value.cells]
    rw [show (#[.int .u8 0, .int .u16 0, .int .u8 0, .int .u8 0, .int .u8 0, .int .u8 0, .int .u8 0, .int .u8 0, .int .u8 0, .int .u8 0, .int .u8 0, .int .u32 0] : Array Value) = KA key0 from rfl]
    refine m_store_obj ti83 (hS := hS) (hc := by exact zi_whole (by omega) (by omega)) (hv := by rfl) (hfit := by (rw [zi_size (by omega)]; decide)) (h1 := by exact zi_one _ _) (h := fun w27 hS => ?_)
    try simp only [opv, nZ, Value.cells, Array.toArray_toList] at hS ⊢
    refine x_nil ?_
    refine hK20 _ _ ?_
    refine x_ret ?_
    refine r_cell_agg rfl Tryz.underlying83 ti83 (hS := hS) (hfit := by (rw [zi_size (by omega)]; rfl)) (hR := ?_)
    exact ⟨by rw [hz] <;> first | rfl | (rw [h4]; rfl) | (rw [h6]; rfl), _, _, by rw [hz]; assumption, by rw [hz]; assumption, by rw [hz]; exact hS.selA⟩
   ·
    try simp only [dZ, ne_eq, bne_iff_ne, beq_iff_eq] at hc12
    have hz := keyS_3 (kS2_0 hc12) hc12 h4
    refine x_skip ?_
    refine hK18 _ _ ?_
    refine x_seq fun K21 hK21 => ?_
    refine x_region ?_
    refine s_go (m_load_row Tryz.underlying83 (hi := ti83) (hS := hS) (hfit := by (rw [zi_size (by omega)]; rfl))) ?_
    try simp only [opv, nZ, Value.cells, List.getElem_toArray, List.getElem_cons_zero, List.getElem_cons_succ]
    refine m_store_obj ti83 (hS := hS) (hc := by exact zi_whole (by omega) (by omega)) (hv := by rfl) (hfit := by (rw [zi_size (by omega)]; decide)) (h1 := by exact zi_one _ _) (h := fun w28 hS => ?_)
    try simp only [opv, nZ, Value.cells, Array.toArray_toList] at hS ⊢
    refine x_nil ?_
    refine hK21 _ _ ?_
    refine x_ret ?_
    refine r_cell_agg rfl Tryz.underlying83 ti83 (hS := hS) (hfit := by (rw [zi_size (by omega)]; rfl)) (hR := ?_)
    exact ⟨by rw [hz] <;> (rw [h4]; rfl), _, _, by rw [hz]; assumption, by rw [hz]; assumption, by rw [hz]; exact hS.selA⟩
  ·
   refine x_seq fun K22 hK22 => ?_
   refine x_seq fun K23 hK23 => ?_
   refine x_region ?_
   refine s_go (s_move) ?_
   try simp only [opv, nZ, Value.cells]
   refine s_go (s_nilCheck) ?_
   try simp only [opv, nZ, Value.cells]
   refine s_go (m_fieldAddr Tryz.underlying140 (hi := ti53)) ?_
   try simp only [opv, nZ, Value.cells, Nat.zero_add, Nat.add_zero, List.getElem_toArray, List.getElem_cons_zero, List.getElem_cons_succ]
   refine s_go (m_load_obj Tryz.underlying53 (hS := hS) (hv := by rfl)) ?_
   try simp only [opv, nZ, Value.cells, List.getElem_toArray, List.getElem_cons_zero, List.getElem_cons_succ]
   refine s_go (s_neq) ?_
   try simp only [opv, nZ, Value.cells]
   refine x_nil ?_
   refine hK23 _ _ ?_
   refine x_cond (ht := fun hc13 => ?_) (hf := fun hc13 => ?_)
   ·
    try simp only [dZ, ne_eq, bne_iff_ne, beq_iff_eq] at hc13
    (exfalso; omega)
   ·
    try simp only [dZ, ne_eq, bne_iff_ne, beq_iff_eq] at hc13
    (exfalso; omega)
  ·
   refine x_seq fun K26 hK26 => ?_
   refine x_seq fun K27 hK27 => ?_
   refine x_region ?_
   refine s_go (s_move) ?_
   try simp only [opv, nZ, Value.cells]
   refine s_go (s_nilCheck) ?_
   try simp only [opv, nZ, Value.cells]
   refine s_go (m_fieldAddr Tryz.underlying140 (hi := ti53)) ?_
   try simp only [opv, nZ, Value.cells, Nat.zero_add, Nat.add_zero, List.getElem_toArray, List.getElem_cons_zero, List.getElem_cons_succ]
   refine s_go (m_load_obj Tryz.underlying53 (hS := hS) (hv := by rfl)) ?_
   try simp only [opv, nZ, Value.cells, List.getElem_toArray, List.getElem_cons_zero, List.getElem_cons_succ]
   refine s_go (s_neq) ?_
   try simp only [opv, nZ, Value.cells]
   refine x_nil ?_
   refine hK27 _ _ ?_
   refine x_cond (ht := fun hc14 => ?_) (hf := fun hc14 => ?_)
   ·
    try simp only [dZ, ne_eq, bne_iff_ne, beq_iff_eq] at hc14
    (exfalso; omega)
   ·
    try simp only [dZ, ne_eq, bne_iff_ne, beq_iff_eq] at hc14
    (exfalso; omega)
 ·
  refine x_seq fun K30 hK30 => ?_
  refine x_seq fun K31 hK31 => ?_
  refine x_region ?_
  refine s_go (m_fieldAddr Tryz.underlying83 (hi := ti5)) ?_
  try simp only [opv, nZ, Value.cells, Nat.zero_add, Nat.add_zero, List.getElem_toArray, List.getElem_cons_zero, List.getElem_cons_succ]
  refine s_go (m_load_obj Tryz.underlying5 (hS := hS) (hv := (zi_get (k := .u8) (by rfl) (by omega)).trans (congrArg (fun x => some (Value.int .u8 x)) (mk_at0 hav)))) ?_
  try simp only [opv, nZ, Value.cells, List.getElem_toArray, List.getElem_cons_zero, List.getElem_cons_succ]
  refine s_go (s_eql) ?_
  try simp only [opv, nZ, Value.cells]
  refine x_nil ?_
  refine hK31 _ _ ?_
  refine x_cond (ht := fun hc15 => ?_) (hf := fun hc15 => ?_)
  ·
   try simp only [dZ, ne_eq, bne_iff_ne, beq_iff_eq] at hc15
   have h6 : (oneS e xs).1 = 1 := hc15
   refine x_seq fun K32 hK32 => ?_
   refine x_region ?_
   refine s_go (s_move) ?_
   try simp only [opv, nZ, Value.cells]
   refine s_go (s_build_struct (cells := #[.int .i64 0, _, .int .u8 0, .int .u8 0, .int .u8 0, .int .u8 0, .int .u8 0, .int .u8 0, .int .u8 0, .int .u8 0, .int .u8 0, .slice none 0 0, .int .i64 0]) Tryz.underlying142 ti142 bp142 (hc := by simp only [List.map_toArray, List.map_cons, List.map_nil, opv, nZ, Value.cells, List.toList_toArray]; (repeat (refine fill_cons rfl rfl (Nat.le_of_ble_eq_true rfl) ?_)); rfl)) ?_
   try simp only [opv, nZ, Value.cells]
   refine s_call en90 ?_
   try simp only [opv, nZ, Value.cells, List.map_toArray, List.map_cons, List.map_nil, List.append_toArray, List.cons_append, List.nil_append, Array.append_empty]
   refine CallR.mono (c_ref07Read _ g (kS4 e xs).1 Ad cd (kS4 e xs).2 hcpd hw4 (by omega) ⟨0, 4294967295, 0, nm0, none, 0, [], 0⟩ (by decide) (by decide) (hS.owns (by repeat (first | exact Spl.nil | (apply Spl.cons (by repeat (first | exact Del.head | apply Del.tail))))))) ?_
   rintro _ w33 ⟨Be, ke, rfl, hQe, Ae, ce, hcpe, hRe, hCe⟩
   have hYe := RdIn.trans hM hS (by repeat (first | exact Spl.nil | (apply Spl.cons (by repeat (first | exact Del.head | apply Del.tail))))) hRe (by intro s hs q hb; simp only [List.mem_cons, List.not_mem_nil, or_false] at hs; rcases hs with rfl | rfl <;> first | (simp [Res.reads] at hb; done) | exact hRd q hb)
   replace hS := hS.frame (by repeat (first | exact Spl.nil | (apply Spl.cons (by repeat (first | exact Del.head | apply Del.tail))))) hCe (by intro r hr b hb; simp only [List.mem_cons, List.not_mem_nil, or_false] at hr; rcases hr with rfl | rfl | rfl <;> first | (simp [Res.reads] at hb; done) | exact hRe b hb | exact hQe b hb)
   replace hRe := hYe
   simp only [List.cons_append, List.nil_append] at hS
   simp only [rdS_u] at hS hcpe hRe ⊢
   try simp only [opv, nZ, Value.cells]
   refine s_go (s_field_one Tryz.underlying142 (hu := Tryz.underlying84) (hv := by rfl)) ?_
   try simp only [opv, nZ, Value.cells, List.getElem_toArray, List.getElem_cons_zero, List.getElem_cons_succ]
   refine s_go (s_conv Tryz.underlying84 Tryz.underlying24 (hc := by exact wr_u32 (by omega) (by omega))) ?_
   try simp only [opv, nZ, Value.cells]
   refine s_go (m_fieldAddr Tryz.underlying83 (hi := ti24)) ?_
   try simp only [opv, nZ, Value.cells, Nat.zero_add, Nat.add_zero, List.getElem_toArray, List.getElem_cons_zero, List.getElem_cons_succ]
   refine m_store_obj ti24 (hS := hS) (hc := by exact zi_set rfl (by omega)) (hv := by rfl) (hfit := by (rw [zi_size (by omega)]; decide)) (h1 := by simp [opv, Value.cells, Value.oneCell']) (h := fun w34 hS => ?_)
   try simp only [opv, nZ, Value.cells, Array.toArray_toList] at hS ⊢
   rw [mk_set11 hnl] at hS
   have hkl5 : (mkKey (oneS e xs).1.toNat (numS 65535 (kS1 e xs).1 (kS1 e xs).2).1 (namS (kS2 e xs).1 (kS2 e xs).2).1 (oneS (kS3 e xs).1 (kS3 e xs).2).1.toNat (numS 4294967295 (kS4 e xs).1 (kS4 e xs).2).1).length = 12 := mkKey_len hnl
   refine x_nil ?_
   refine hK32 _ _ ?_
   refine x_seq fun K33 hK33 => ?_
   refine x_region ?_
   refine s_go (s_move) ?_
   try simp only [opv, nZ, Value.cells]
   refine s_go (s_nilCheck) ?_
   try simp only [opv, nZ, Value.cells]
   refine s_go (m_fieldAddr Tryz.underlying140 (hi := ti53)) ?_
   try simp only [opv, nZ, Value.cells, Nat.zero_add, Nat.add_zero, List.getElem_toArray, List.getElem_cons_zero, List.getElem_cons_succ]
   refine s_go (m_load_obj Tryz.underlying53 (hS := hS) (hv := by rfl)) ?_
   try simp only [opv, nZ, Value.cells, List.getElem_toArray, List.getElem_cons_zero, List.getElem_cons_succ]
   refine s_go (s_eql) ?_
   try simp only [opv, nZ, Value.cells]
   refine s_go (s_move) ?_
   try simp only [opv, nZ, Value.cells]
   refine s_part 84 rfl (fun hp6 => ?_) (fun hp6 => ?_)
   ·
    try simp only [n3, n4]
    try simp only [dZ, ne_eq] at hp6
    have hE5 : (numS 4294967295 (kS4 e xs).1 (kS4 e xs).2).2.1 = 0 := hp6
    refine g_on (yi (t := 84) rfl rfl) ?_
    refine s_go (m_fieldAddr Tryz.underlying83 (hi := ti24)) ?_
    try simp only [opv, nZ, Value.cells, Nat.zero_add, Nat.add_zero, List.getElem_toArray, List.getElem_cons_zero, List.getElem_cons_succ]
    refine g_on (yi (t := 84) rfl rfl) ?_
    refine s_go (m_load_obj Tryz.underlying24 (hS := hS) (hv := (zi_get (k := .u32) (by rfl) (by omega)).trans (congrArg (fun x => some (Value.int .u32 x)) (mk_at11 hnl)))) ?_
    try simp only [opv, nZ, Value.cells, List.getElem_toArray, List.getElem_cons_zero, List.getElem_cons_succ]
    refine g_on (yi (t := 84) rfl rfl) ?_
    refine s_go (s_eql) ?_
    try simp only [opv, nZ, Value.cells]
    refine s_go (s_pick_t) ?_
    try simp only [opv, nZ, Value.cells]
    refine x_nil ?_
    refine hK33 _ _ ?_
    refine x_cond (ht := fun hc16 => ?_) (hf := fun hc16 => ?_)
    ·
     try simp only [dZ, ne_eq, bne_iff_ne, beq_iff_eq] at hc16
     have h5n : kS5 e xs = (3, []) := askS_bad hE5 (decide_eq_true (show (numS 4294967295 (kS4 e xs).1 (kS4 e xs).2).1 = 0 by omega))
     have hz : keyS e xs = (key0, 3, []) := by rw [keyS_e5 h6 (by rw [h5n]; decide), h5n]
     rw [hE5] at hS
     refine x_seq fun K34 hK34 => ?_
     refine x_region ?_
     refine s_go (s_move) ?_
     try simp only [opv, nZ, Value.cells]
     refine s_call en195 ?_
     try simp only [opv, nZ, Value.cells, List.map_toArray, List.map_cons, List.map_nil, List.append_toArray, List.cons_append, List.nil_append, Array.append_empty]
     refine CallR.mono (c_ref08Fail _ g Ae ce ((numS 4294967295 (kS4 e xs).1 (kS4 e xs).2).2.2) hcpe 3 (hS.owns (by repeat (first | exact Spl.nil | (apply Spl.cons (by repeat (exact Del.head))))))) ?_
     rintro _ w35 ⟨rfl, Af, cf, hcpf, hRf, hCf⟩
     have hYf := RdIn.trans hM hS (by repeat (first | exact Spl.nil | (apply Spl.cons (by repeat (exact Del.head))))) hRf (by intro s hs q hb; simp only [List.mem_cons, List.not_mem_nil, or_false] at hs; rcases hs with rfl | rfl <;> first | (simp [Res.reads] at hb; done) | exact hRe q hb)
     replace hS := hS.frame (by repeat (first | exact Spl.nil | (apply Spl.cons (by repeat (exact Del.head))))) hCf (by intro r hr b hb; simp only [List.mem_cons, List.not_mem_nil, or_false] at hr; rcases hr with rfl | rfl <;> (simp [Res.reads] at hb; done))
     replace hRf := hYf
     simp only [List.cons_append, List.nil_append] at hS
     try simp only [opv, nZ, Value.cells]
     refine m_store_obj ti83 (hS := hS) (hc := by exact zi_whole (by omega) (by omega)) (hv := by rfl) (hfit := by (rw [zi_size (by omega)]; decide)) (h1 := by exact zi_one _ _) (h := fun w36 hS => ?_)
     try simp only [opv, nZ, Value.cells, Array.toArray_toList] at hS ⊢
     refine x_nil ?_
     refine hK34 _ _ ?_
     refine x_ret ?_
     refine r_cell_agg rfl Tryz.underlying83 ti83 (hS := hS) (hfit := by (rw [zi_size (by omega)]; rfl)) (hR := ?_)
     exact ⟨by rw [hz] <;> first | rfl | (rw [h4]; rfl) | (rw [h6]; rfl), _, _, by rw [hz]; assumption, by rw [hz]; assumption, by rw [hz]; exact hS.sel (by repeat (first | exact Sel.nil | (refine Sel.cons (by repeat (exact Del.head)) ?_)))⟩
    ·
     try simp only [dZ, ne_eq, bne_iff_ne, beq_iff_eq] at hc16
     have hne5 : ¬ (numS 4294967295 (kS4 e xs).1 (kS4 e xs).2).1 = 0 := by omega
     have hs5 : (numS 4294967295 (kS4 e xs).1 (kS4 e xs).2).2 = kS5 e xs := by exact (askS_good (by exact decide_eq_false (by assumption))).symm
     have hsp5 := congrArg Prod.fst hs5
     rw [hs5] at hS hcpe hRe
     refine x_skip ?_
     refine hK30 _ _ ?_
     refine x_seq fun K35 hK35 => ?_
     refine x_seq fun K36 hK36 => ?_
     refine x_region ?_
     refine s_go (s_move) ?_
     try simp only [opv, nZ, Value.cells]
     refine s_go (s_nilCheck) ?_
     try simp only [opv, nZ, Value.cells]
     refine s_go (m_fieldAddr Tryz.underlying140 (hi := ti53)) ?_
     try simp only [opv, nZ, Value.cells, Nat.zero_add, Nat.add_zero, List.getElem_toArray, List.getElem_cons_zero, List.getElem_cons_succ]
     refine s_go (m_load_obj Tryz.underlying53 (hS := hS) (hv := by rfl)) ?_
     try simp only [opv, nZ, Value.cells, List.getElem_toArray, List.getElem_cons_zero, List.getElem_cons_succ]
     refine s_go (s_neq) ?_
     try simp only [opv, nZ, Value.cells]
     refine x_nil ?_
     refine hK36 _ _ ?_
     refine x_cond (ht := fun hc17 => ?_) (hf := fun hc17 => ?_)
     ·
      try simp only [dZ, ne_eq, bne_iff_ne, beq_iff_eq] at hc17
      (exfalso; omega)
     ·
      try simp only [dZ, ne_eq, bne_iff_ne, beq_iff_eq] at hc17
      have hz := keyS_7 (kS4_0 (kS5_4 hc17)).1 (kS4_0 (kS5_4 hc17)).2.1 (kS5_4 hc17) h6 hc17
      refine x_skip ?_
      refine hK35 _ _ ?_
      refine x_seq fun K38 hK38 => ?_
      refine x_region ?_
      refine s_go (m_load_row Tryz.underlying83 (hi := ti83) (hS := hS) (hfit := by (rw [zi_size (by omega)]; rfl))) ?_
      try simp only [opv, nZ, Value.cells, List.getElem_toArray, List.getElem_cons_zero, List.getElem_cons_succ]
      refine m_store_obj ti83 (hS := hS) (hc := by exact zi_whole (by omega) (by omega)) (hv := by (show (zi _ _).toArray.size = _; rw [zi_size (by omega)]; rfl)) (hfit := by (rw [zi_size (by omega)]; decide)) (h1 := by exact zi_one _ _) (h := fun w38 hS => ?_)
      try simp only [opv, nZ, Value.cells, Array.toArray_toList] at hS ⊢
      refine x_nil ?_
      refine hK38 _ _ ?_
      refine x_ret ?_
      refine r_cell_agg rfl Tryz.underlying83 ti83 (hS := hS) (hfit := by (rw [zi_size (by omega)]; rfl)) (hR := ?_)
      exact ⟨by rw [hz] <;> (rw [h6]; rfl), _, _, by rw [hz]; assumption, by rw [hz]; assumption, by rw [hz]; exact hS.sel (by repeat (first | exact Sel.nil | (refine Sel.cons (by repeat (exact Del.head)) ?_)))⟩
   ·
    try simp only [n3, n4]
    try simp only [dZ, ne_eq] at hp6
    have hE5 : ¬ (numS 4294967295 (kS4 e xs).1 (kS4 e xs).2).2.1 = 0 := hp6
    refine g_off (yi (t := 84) rfl rfl) ?_
    try simp only [opv, nZ, Value.cells]
    refine g_off (yi (t := 84) rfl rfl) ?_
    try simp only [opv, nZ, Value.cells]
    refine g_off (yi (t := 84) rfl rfl) ?_
    try simp only [opv, nZ, Value.cells]
    refine s_go (s_pick_f) ?_
    try simp only [opv, nZ, Value.cells]
    refine x_nil ?_
    refine hK33 _ _ ?_
    refine x_cond_f (h := ?_)
    skip
    have hs5 : (numS 4294967295 (kS4 e xs).1 (kS4 e xs).2).2 = kS5 e xs := by exact (askS_err hE5).symm
    have hsp5 := congrArg Prod.fst hs5
    rw [hs5] at hS hcpe hRe
    refine x_skip ?_
    refine hK30 _ _ ?_
    refine x_seq fun K39 hK39 => ?_
    refine x_seq fun K40 hK40 => ?_
    refine x_region ?_
    refine s_go (s_move) ?_
    try simp only [opv, nZ, Value.cells]
    refine s_go (s_nilCheck) ?_
    try simp only [opv, nZ, Value.cells]
    refine s_go (m_fieldAddr Tryz.underlying140 (hi := ti53)) ?_
    try simp only [opv, nZ, Value.cells, Nat.zero_add, Nat.add_zero, List.getElem_toArray, List.getElem_cons_zero, List.getElem_cons_succ]
    refine s_go (m_load_obj Tryz.underlying53 (hS := hS) (hv := by rfl)) ?_
    try simp only [opv, nZ, Value.cells, List.getElem_toArray, List.getElem_cons_zero, List.getElem_cons_succ]
    refine s_go (s_neq) ?_
    try simp only [opv, nZ, Value.cells]
    refine x_nil ?_
    refine hK40 _ _ ?_
    refine x_cond (ht := fun hc19 => ?_) (hf := fun hc19 => ?_)
    ·
     try simp only [dZ, ne_eq, bne_iff_ne, beq_iff_eq] at hc19
     have hz := keyS_e5 h6 hc19
     refine x_seq fun K41 hK41 => ?_
     refine x_region ?_
     refine s_go (s_build_struct (cells := #[.int .u8 0, .int .u16 0, .int .u8 0, .int .u8 0, .int .u8 0, .int .u8 0, .int .u8 0, .int .u8 0, .int .u8 0, .int .u8 0, .int .u8 0, .int .u32 0]) Tryz.underlying83 ti83 bp83 (hc := by simp only [List.map_toArray, List.map_cons, List.map_nil, opv, nZ, Value.cells, List.toList_toArray]; (repeat (refine fill_cons rfl rfl (Nat.le_of_ble_eq_true rfl) ?_)); rfl)) ?_
     try simp only [opv, nZ, Value.cells]
     rw [show (#[.int .u8 0, .int .u16 0, .int .u8 0, .int .u8 0, .int .u8 0, .int .u8 0, .int .u8 0, .int .u8 0, .int .u8 0, .int .u8 0, .int .u8 0, .int .u32 0] : Array Value) = KA key0 from rfl]
     refine m_store_obj ti83 (hS := hS) (hc := by exact zi_whole (by omega) (by omega)) (hv := by rfl) (hfit := by (rw [zi_size (by omega)]; decide)) (h1 := by exact zi_one _ _) (h := fun w39 hS => ?_)
     try simp only [opv, nZ, Value.cells, Array.toArray_toList] at hS ⊢
     refine x_nil ?_
     refine hK41 _ _ ?_
     refine x_ret ?_
     refine r_cell_agg rfl Tryz.underlying83 ti83 (hS := hS) (hfit := by (rw [zi_size (by omega)]; rfl)) (hR := ?_)
     exact ⟨by rw [hz] <;> first | rfl | (rw [h4]; rfl) | (rw [h6]; rfl), _, _, by rw [hz]; assumption, by rw [hz]; assumption, by rw [hz]; exact hS.sel (by repeat (first | exact Sel.nil | (refine Sel.cons (by repeat (exact Del.head)) ?_)))⟩
    ·
     try simp only [dZ, ne_eq, bne_iff_ne, beq_iff_eq] at hc19
     (exfalso; omega)
  ·
   try simp only [dZ, ne_eq, bne_iff_ne, beq_iff_eq] at hc15
   have h6 : ¬ (oneS e xs).1 = 1 := hc15
   refine x_skip ?_
   refine hK30 _ _ ?_
   refine x_seq fun K43 hK43 => ?_
   refine x_seq fun K44 hK44 => ?_
   refine x_region ?_
   refine s_go (s_move) ?_
   try simp only [opv, nZ, Value.cells]
   refine s_go (s_nilCheck) ?_
   try simp only [opv, nZ, Value.cells]
   refine s_go (m_fieldAddr Tryz.underlying140 (hi := ti53)) ?_
   try simp only [opv, nZ, Value.cells, Nat.zero_add, Nat.add_zero, List.getElem_toArray, List.getElem_cons_zero, List.getElem_cons_succ]
   refine s_go (m_load_obj Tryz.underlying53 (hS := hS) (hv := by rfl)) ?_
   try simp only [opv, nZ, Value.cells, List.getElem_toArray, List.getElem_cons_zero, List.getElem_cons_succ]
   refine s_go (s_neq) ?_
   try simp only [opv, nZ, Value.cells]
   refine x_nil ?_
   refine hK44 _ _ ?_
   refine x_cond (ht := fun hc20 => ?_) (hf := fun hc20 => ?_)
   ·
    try simp only [dZ, ne_eq, bne_iff_ne, beq_iff_eq] at hc20
    have hz := keyS_e4 h4 hc20
    refine x_seq fun K45 hK45 => ?_
    refine x_region ?_
    refine s_go (s_build_struct (cells := #[.int .u8 0, .int .u16 0, .int .u8 0, .int .u8 0, .int .u8 0, .int .u8 0, .int .u8 0, .int .u8 0, .int .u8 0, .int .u8 0, .int .u8 0, .int .u32 0]) Tryz.underlying83 ti83 bp83 (hc := by simp only [List.map_toArray, List.map_cons, List.map_nil, opv, nZ, Value.cells, List.toList_toArray]; (repeat (refine fill_cons rfl rfl (Nat.le_of_ble_eq_true rfl) ?_)); rfl)) ?_
    try simp only [opv, nZ, Value.cells]
    rw [show (#[.int .u8 0, .int .u16 0, .int .u8 0, .int .u8 0, .int .u8 0, .int .u8 0, .int .u8 0, .int .u8 0, .int .u8 0, .int .u8 0, .int .u8 0, .int .u32 0] : Array Value) = KA key0 from rfl]
    refine m_store_obj ti83 (hS := hS) (hc := by exact zi_whole (by omega) (by omega)) (hv := by rfl) (hfit := by (rw [zi_size (by omega)]; decide)) (h1 := by exact zi_one _ _) (h := fun w41 hS => ?_)
    try simp only [opv, nZ, Value.cells, Array.toArray_toList] at hS ⊢
    refine x_nil ?_
    refine hK45 _ _ ?_
    refine x_ret ?_
    refine r_cell_agg rfl Tryz.underlying83 ti83 (hS := hS) (hfit := by (rw [zi_size (by omega)]; rfl)) (hR := ?_)
    exact ⟨by rw [hz] <;> first | rfl | (rw [h4]; rfl) | (rw [h6]; rfl), _, _, by rw [hz]; assumption, by rw [hz]; assumption, by rw [hz]; exact hS.selA⟩
   ·
    try simp only [dZ, ne_eq, bne_iff_ne, beq_iff_eq] at hc20
    have hz := keyS_5 (kS4_0 hc20).1 (kS4_0 hc20).2.1 h4 hc20 h6
    refine x_skip ?_
    refine hK43 _ _ ?_
    refine x_seq fun K46 hK46 => ?_
    refine x_region ?_
    refine s_go (m_load_row Tryz.underlying83 (hi := ti83) (hS := hS) (hfit := by (rw [zi_size (by omega)]; rfl))) ?_
    try simp only [opv, nZ, Value.cells, List.getElem_toArray, List.getElem_cons_zero, List.getElem_cons_succ]
    refine m_store_obj ti83 (hS := hS) (hc := by exact zi_whole (by omega) (by omega)) (hv := by (show (zi _ _).toArray.size = _; rw [zi_size (by omega)]; rfl)) (hfit := by (rw [zi_size (by omega)]; decide)) (h1 := by exact zi_one _ _) (h := fun w42 hS => ?_)
    try simp only [opv, nZ, Value.cells, Array.toArray_toList] at hS ⊢
    refine x_nil ?_
    refine hK46 _ _ ?_
    refine x_ret ?_
    refine r_cell_agg rfl Tryz.underlying83 ti83 (hS := hS) (hfit := by (rw [zi_size (by omega)]; rfl)) (hR := ?_)
    exact ⟨by rw [hz] <;> first | rfl | (rw [h4]; rfl) | (rw [h6]; rfl), _, _, by rw [hz]; assumption, by rw [hz]; assumption, by rw [hz]; exact hS.selA⟩
end Go.Proofs.YtffmanidnlbjjaaGreat
