/-
  More rules: structs and arrays built of parts. No program here.
-/
import Derived.Test.YtpjpaipkkcengaaVm
namespace Go.Proofs.Ytpjpaipkkcengaa
open Go.RowKit

def Places (P : Program) (fs : Array Field) (pl : Array (Nat × Nat)) : Prop := ∀ w : World, (fs.mapM fun f => do pure (f.offset, ← sizeOf f.type) : Sem (Array (Nat × Nat))).run P w = .ok pl w

theorem foldl_set_splice (vs : List Value) : ∀ (cells : Array Value) (off k : Nat), off + k + vs.length ≤ cells.size →
    (vs.zipIdx k).foldl (fun (cs : Array Value) (p : Value × Nat) => cs.setIfInBounds (off + p.2) p.1) cells = (splice cells.toList (off + k) vs).toArray := by
  induction vs with
  | nil => intro cells off k _; simp [splice]
  | cons v vs ih =>
    intro cells off k h
    rw [List.zipIdx_cons, List.foldl_cons, ih _ _ _ (by simp at h ⊢; omega)]
    simp only [List.length_cons] at h
    congr 1
    unfold splice
    simp only [Array.toList_setIfInBounds, List.length_cons]
    rw [List.set_eq_take_append_cons_drop, if_pos (by simp; omega)]
    have h1 : (cells.toList.take (off + k)).length = off + k := by simp; omega
    rw [← Nat.add_assoc, List.take_append, List.drop_append, h1]
    simp only [List.take_take, Nat.add_sub_cancel_left, List.take_succ_cons, List.take_zero, List.append_assoc]
    rw [Nat.min_eq_right (by omega), List.drop_eq_nil_of_le (by simp; omega)]
    simp only [List.cons_append, List.nil_append]
    rw [show off + k + 1 + vs.length - (off + k) = (vs.length) + 1 by omega, List.drop_succ_cons, List.drop_drop]
    congr 4
    omega
theorem fill_nil {pl : Nat → Option (Nat × Nat)} {cells : Array Value} : Instr.fill pl cells [] = some cells := rfl
theorem fill_cons {pl : Nat → Option (Nat × Nat)} {cells : Array Value} {i off size : Nat} {v : Value} {rest : List (Nat × Value)} {r : Array Value} (hp : pl i = some (off, size)) (hs : v.cells.size = size) (hf : off + size ≤ cells.size)
    (h : Instr.fill pl (splice cells.toList off v.cells.toList).toArray rest = some r) : Instr.fill pl cells ((i, v) :: rest) = some r := by
  subst hs
  simp only [Instr.fill, hp]
  rw [if_neg (by simp; omega)]
  have := foldl_set_splice v.cells.toList cells off 0 (by simpa using hf)
  rw [← h]
  congr 1
  rw [Nat.add_zero] at this
  rw [← this, ← Array.foldl_toList, Array.toList_zipIdx]

theorem zrow_eq (z : List Value) (hz : 0 < z.length) : ∀ n, (List.range (n * z.length)).map (fun j => z.toArray[j % z.length]!) = (List.replicate n z).flatten
  | 0 => by simp
  | n + 1 => by
    rw [List.replicate_succ', List.flatten_append, Nat.succ_mul, List.range_add, List.map_append, zrow_eq z hz n]
    congr 1
    simp only [List.map_map, List.flatten_cons, List.flatten_nil, List.append_nil]
    apply List.ext_getElem (by simp)
    intro i h1 h2
    simp only [List.getElem_map, List.getElem_range, Function.comp]
    rw [Nat.add_comm, Nat.add_mul_mod_self_right, Nat.mod_eq_of_lt h2]
    simp [h2]
section
variable {P : Program} {ops : Array Oper} {Q : Exit → Act → World → Prop} {rest : List Oper} {l : List Value} {w : World} {d : Nat} {ty : TypeId} {pos : String} {aft : Array Edge} {S : Nat → Prop} {w0 : World} {L L' : List Res}
theorem m_buildRow {T e : TypeId} {n : Nat} {parts : Array (Nat × Operand)} {sz by' : Nat} {z : Value} {cells : Array Value} (hT : P.underlying T = some (.slice e)) (hi : TI P e sz by' z) (hzs : 0 < sz ∧ z.cells.size = sz := by decide) (hsm : n * sz ≤ 2 ^ 24 := by decide)
    (hc : Instr.fill (fun i => some (i * sz, sz)) (List.replicate n z.cells.toList).flatten.toArray (parts.map fun (i, x) => (i, opv l x)).toList = some cells) (hS : St S w0 w L)
    (h : ∀ w' g, St S w0 w' (.obj g (.cells cells e (0, 0)) :: L) → WL P ops Q rest (fr (l.set d (.slice (some ⟨g, 0, none⟩) n n))) w') : WL P ops Q (⟨some d, .buildSlice T n parts, ty, pos, aft, none⟩ :: rest) (fr l) w := by
  refine m_buildSlice hT hi hsm ?_ hS h
  rw [← hc]
  congr 1
  have hz := zrow_eq z.cells.toList (by simpa [hzs.2] using hzs.1) n
  rw [← hz]
  apply Array.ext'
  simp [hzs.2]
end
section
variable {P : Program} {l : List Value} {w : World} {d : Nat} {ty : TypeId} {pos : String} {aft : Array Edge}
theorem s_build_arr {T e : TypeId} {n : Nat} {parts : Array (Nat × Operand)} {tz tb sz by' : Nat} {z ez : Value} {cells : Array Value} (hT : P.underlying T = some (.array n e)) (hi : TI P T tz tb z) (he : TI P e sz by' ez)
    (hc : Instr.fill (fun i => some (i * sz, sz)) z.cells (parts.map fun (i, x) => (i, opv l x)).toList = some cells) : Go1 P l w ⟨some d, .build T parts, ty, pos, aft, none⟩ (.agg cells) := by
  obtain ⟨i, hi, _, _, hz⟩ := hi
  obtain ⟨j, hj, rfl, _, _⟩ := he
  unfold Go1
  simp [execOp, Instr.build, zeroValue, typeInfo, hi, hz, run_underlying hT, sizeOf, hj] at hc ⊢
  rw [hc]; rfl
theorem s_build_struct {T : TypeId} {fs : Array Field} {parts : Array (Nat × Operand)} {tz tb : Nat} {z : Value} {pl : Array (Nat × Nat)} {cells : Array Value} (hT : P.underlying T = some (.struct fs)) (hi : TI P T tz tb z) (hp : Places P fs pl)
    (hc : Instr.fill (pl[·]?) z.cells (parts.map fun (i, x) => (i, opv l x)).toList = some cells) : Go1 P l w ⟨some d, .build T parts, ty, pos, aft, none⟩ (.agg cells) := by
  obtain ⟨i, hi, _, _, hz⟩ := hi
  have hp' := hp w
  unfold Go1
  simp only [execOp, Instr.build, Sem.run_bind, zeroValue, typeInfo, Sem.run_pure, run_underlying hT, Result.andThen_ok] at hc hp' ⊢
  have hti : (program).run P w = .ok P w := rfl
  simp only [hti, Result.andThen_ok, hi, hz, Sem.run_pure]
  rw [hp']
  simp only [Result.andThen_ok]
  rw [hc]; rfl
end
end Go.Proofs.Ytpjpaipkkcengaa
