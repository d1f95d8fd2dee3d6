/-
  More rules: an array looked at as a whole, a text copied onto it. No program here.
-/
import Derived.Test.YtpjpaipkkcengaaVn
import Derived.Test.YtpjpaipkkcengaaVk
import Derived.Lib.AppendStr
namespace Go.Proofs.Ytpjpaipkkcengaa
open Go.RowKit
section
variable {P : Program} {ops : Array Oper} {Q : Exit → Act → World → Prop} {rest : List Oper} {l : List Value} {w : World} {d : Nat} {ty : TypeId} {pos : String} {aft : Array Edge}
variable {S : Nat → Prop} {w0 : World} {L L' : List Res}
theorem s_slice_whole {T e : TypeId} {x : Operand} {g N sz by' : Nat} {z : Value} (hT : P.underlying T = some (.array N e)) (hi0 : TI P e sz by' z) (hx : opv l x = .pointer (some ⟨g, 0, none⟩) := by rfl) (hN : 0 < N := by decide) : Go1 P l w ⟨some d, .slice T x none none none, ty, pos, aft, none⟩ (.slice (some ⟨g, 0, none⟩) N N) := by
  obtain ⟨i, hi0, rfl, _, _⟩ := hi0
  unfold Go1
  simp [execOp, hx, Instr.sliceAt, run_underlying hT, Instr.sureAddr, Instr.sliceBounds, sizeOf, typeInfo, hi0, add_at, Nat.ne_of_gt hN]
theorem m_copy_str {T sT e : TypeId} {x y : Operand} {by' N : Nat} {z : Value} {g : Nat} {cs ns : List Int} {t : TypeId} (hT : P.underlying T = some (.slice e)) (hi : TI P e 1 by' z) (hx : opv l x = .slice (some ⟨g, 0, none⟩) N N := by rfl) (hy : opv l y = .string (strOf ns) := by rfl) (hw : Byt ns) (hl : ns.length ≤ N) (hc : cs.length = N) (hS : St S w0 w L)
    (hu : Upd L (.obj g (.cells (ic .u8 cs) t (0, 0))) (.obj g (.cells (ic .u8 (ns ++ cs.drop ns.length)) t (0, 0))) L' := by repeat (first | exact Upd.head | apply Upd.tail))
    (h : ∀ w', St S w0 w' L' → WL P ops Q rest (fr (l.set d (.int .i64 (ns.length : Int)))) w') : WL P ops Q (⟨some d, .call { callee := .builtin .copy, args := #[x, y], argTypes := #[T, sT] }, ty, pos, aft, none⟩ :: rest) (fr l) w := by
  obtain ⟨i, hi, hsz, _, _⟩ := hi
  have hg : w.heap[g]? = some (.cells (ic .u8 cs) t (0, 0)) := hS.holds _ hu.mem
  have hcells : ((strOf ns).extract 0 ns.length).data.map (fun b => Value.int .u8 (b.toNat : Int)) = (ns.map (Value.int .u8)).toArray := by
    have h1 : (strOf ns).extract 0 ns.length = strOf ns := by
      conv => lhs; rw [← strOf_size ns]
      exact ByteArray.extract_zero_size
    rw [h1]
    have h2 := byL_strOf hw
    apply Array.ext'
    rw [Array.toList_map]
    conv => rhs; rw [List.toList_toArray, ← h2]
    simp [byL, Function.comp_def]
  have hfc : (Builtin.firstCells 1 ns.length (.string (strOf ns))).run P w = .ok (ns.map (Value.int .u8)).toArray w := by simp only [Builtin.firstCells, hcells, Sem.run_pure]
  have hst := run_storeCells_at P g 0 t (ns.map (Value.int .u8)) 0 (ic .u8 cs) w hg (by simp; omega) (il_one _ _)
  have hmin : Nat.min ns.length N = ns.length := Nat.min_eq_left hl
  have hrow : ((ic .u8 cs).toList.take (0 + 0) ++ ns.map (Value.int .u8) ++ (ic .u8 cs).toList.drop (0 + 0 + (ns.map (Value.int .u8)).length)).toArray = ic .u8 (ns ++ cs.drop ns.length) := by
    simp [ic, List.map_drop]
  rw [hrow] at hst
  have hsz' : (sizeOf e).run P w = .ok 1 w := by simp [sizeOf, typeInfo, hi, hsz]
  refine s_val (v := .int .i64 (ns.length : Int)) (w' := w.setRow g (ic .u8 (ns ++ cs.drop ns.length))) ?_ (h _ (hS.turn hu (setRow_keep w g _) (setRow_heap w g _ _ t (0, 0) hg) (fun k hk => .inl hk) (fun k hk => by simp [Res.reads] at hk)))
  simp [execOp, resolve, invoke, builtin, Builtin.copy_, hx, hy, run_underlying hT, Builtin.lenOf, strOf_size, hmin, hsz', hfc, hst, goInt]
theorem strCells_of {ns : List Int} (hw : Byt ns) : Lib.strCells (strOf ns) = ns.map (Value.int .u8) := by
  have h2 := byL_strOf hw
  conv => rhs; rw [← h2]
  simp [byL, Lib.strCells, Function.comp_def]
theorem run_append_str {t u ty e : TypeId} (ht : P.underlying t = some (.slice e)) (hu : P.underlying u = some .string) (hi : TI P e 1 1 (.int .u8 0)) {A : Option Addr} {n c : Nat} {xs : List Value} (hown : w.ownsRow 0 e 1 (.slice A n c) n xs) {ns : List Int} (hw : Byt ns) (hb : n + ns.length ≤ 140737488355328) :
    ∃ A' c' w', (Builtin.append_ #[t, u] ty #[.slice A n c, .string (strOf ns)]).run P w = .ok (.slice A' (n + ns.length) c') w' ∧ w'.ownsRow 0 e 1 (.slice A' (n + ns.length) c') (n + ns.length) (xs ++ ns.map (Value.int .u8)) ∧ Keep (fun k => A.map (·.block) = some k) w w' ∧ (∀ g, A'.map (·.block) = some g → A.map (·.block) = some g ∨ w.heap.size ≤ g) := by
  obtain ⟨i, hi, hsz, hby, hz⟩ := hi
  have hss := strOf_size ns
  obtain ⟨v', w', hrun, hown', hgrow, _⟩ := Lib.run_append_own_string (P := P) w 0 t u ty e i ht hu hi hz hsz hby _ n xs hown (strOf ns) (by simp only [maxLen]; omega) (by omega) (Nat.zero_le _)
  rw [hss, strCells_of hw] at hown'
  have hloc : ∀ A' c', v' = .slice A' (n + ns.length) c' → ∀ g, A'.map (·.block) = some g → A.map (·.block) = some g ∨ w.heap.size ≤ g := by
    rintro A' c' rfl g hg
    rcases hown.2 with ⟨hv, rfl⟩ | ⟨g0, cap, cur, hv, _, hg0, hnc, hcm, hcs, _⟩
    · simp only [Value.slice.injEq] at hv
      obtain ⟨rfl, _, rfl⟩ := hv
      by_cases h0 : (strOf ns).size = 0
      · have hr := Lib.run_firstCells_string (P := P) w 1 (strOf ns)
        rw [h0] at hr
        simp [Builtin.append_, run_underlying ht, run_underlying hu, sizeOf, typeInfo, hi, hsz, Builtin.lenOf, h0, hr] at hrun
        obtain ⟨⟨rfl, _⟩, _⟩ := hrun
        simp at hg
      · have hr := run_append_nil_string (P := P) w t u ty e i (.int .u8 0) ht hu hi hz (strOf ns) (by omega) (by omega) (by rw [hby]; omega)
        rw [hr] at hrun
        simp only [Result.ok.injEq, Value.slice.injEq] at hrun
        rw [← hrun.1.1] at hg
        simp at hg; right; omega
    · simp only [Value.slice.injEq] at hv
      obtain ⟨rfl, _, rfl⟩ := hv
      by_cases hroom : n + (strOf ns).size ≤ c
      · have hr := Lib.run_append_room_string (P := P) w t u ty e i ht hu hi hsz g0 n c cur hg0 (strOf ns) hroom (by have : cur.size = c := by { simpa using hcs }; omega)
        rw [hr] at hrun
        simp only [Result.ok.injEq, Value.slice.injEq] at hrun
        rw [← hrun.1.1] at hg
        exact .inl hg
      · have holds : ∀ j u, xs[j]? = some u → w.cell? ((⟨g0, 0, none⟩ : Addr).add j) = some u := hown.cells (g := g0) rfl
        have hr := Lib.run_append_grow_string (P := P) w t u ty e i (.int .u8 0) ht hu hi hz ⟨g0, 0, none⟩ n c xs (by rw [hsz]; exact hown.1) holds (strOf ns) (by omega) (by omega) (by rw [hby]; exact growslice_fits (by omega) (by omega))
        rw [hr] at hrun
        simp only [Result.ok.injEq, Value.slice.injEq] at hrun
        rw [← hrun.1.1] at hg
        simp at hg; right; omega
  rcases hown'.2 with ⟨hv, h0⟩ | ⟨g', cap, cur, hv, _⟩
  · obtain ⟨rfl⟩ := hv
    have h1 : n + ns.length = 0 := h0
    have hv' : Value.slice none 0 0 = .slice none (n + ns.length) 0 := by rw [h1]
    rw [hv'] at hown' hrun hloc
    exact ⟨none, 0, w', hrun, hown', keep_of_grown rfl hgrow, hloc _ _ rfl⟩
  · obtain ⟨rfl⟩ := hv
    exact ⟨_, _, w', hrun, hown', keep_of_grown rfl hgrow, hloc _ _ rfl⟩
theorem m_append_str {T U e : TypeId} {x y : Operand} {A : Option Addr} {n c : Nat} {xs : List Value} {ns : List Int} (hT : P.underlying T = some (.slice e)) (hU : P.underlying U = some .string) (hi : TI P e 1 1 (.int .u8 0)) (hx : opv l x = .slice A n c := by rfl) (hy : opv l y = .string (strOf ns) := by rfl) (hw : Byt ns) (hS : St S w0 w L)
    (hd : Del L (.vec A c e 1 n xs) L' := by repeat (first | exact Del.head | apply Del.tail)) (hb : n + ns.length ≤ 140737488355328 := by omega)
    (h : ∀ w' A' c', St S w0 w' (.vec A' c' e 1 (n + ns.length) (xs ++ ns.map (Value.int .u8)) :: L') → WL P ops Q rest (fr (l.set d (.slice A' (n + ns.length) c'))) w') : WL P ops Q (⟨some d, .call { callee := .builtin .append, args := #[x, y], argTypes := #[T, U] }, ty, pos, aft, none⟩ :: rest) (fr l) w := by
  obtain ⟨A', c', w', hrun, hown', hk, hat⟩ := run_append_str (ty := ty) hT hU hi (hS.holds _ hd.mem) hw hb
  refine s_val (v := .slice A' (n + ns.length) c') (w' := w') (by simp [execOp, resolve, invoke, builtin, hx, hy, hrun]) (h w' A' c' ?_)
  exact hS.turn_front hd hk hown' (fun g hg => hat g hg) (by intro g hg; simp [Res.reads] at hg)
end
section
variable {P : Program} {n r : Act → World → Prop} {ex : List (Nat × (Act → World → Prop))} {w : World} {l : List Value} {S : Nat → Prop} {w0 : World} {L : List Res} {A : Option Addr}
/-- a region that draws its order, whose quiet operations lean on some of what is owned alone -/
theorem x_mixed_c {id : Nat} {ops : List Oper} {Lc : List Res} (lt : List Nat) (m : Nat) (V : List Nat) (R : (Nat → Value) → World → Prop) (hm : P.follows .mixedOrders = true) (hs : Region.noSelect ops.toArray = true) (hB : preB .any ops.toArray lt m 0 (Array.replicate ops.length false) = true) (hml : m ≤ ops.length)
    (hS : St S w0 w L) (h : ∀ w', St S w0 w' L → wpPre P ops.toArray (fun w => St S w0 w Lc) (fun a' => AnyE P .any ops.toArray (fun w => St S w0 w Lc) lt (Qx (MixM l V R) r ex) (ops.length - m) (setAll m 0 (Array.replicate ops.length false)) a' w') (ops.take m) (fr l))
    (hM : ∀ f w', R f w' → n (fr (clob l V f)) w') : (Code.region id ops.toArray true).wp P (Qx n r ex) (fr l) w := by
  refine wp_mono ?_ (fun e a w q => ?_) (Q := Qx (MixM l V R) r ex)
  · refine wp_region_any hm (AnyE.any (C := fun w => St S w0 w Lc) (lt := lt) _ ?_)
    have hlen : (ops.take m).length = m := by simp; omega
    have := AnyE.pre (P := P) (md := .any) (ops := ops.toArray) (C := fun w => St S w0 w Lc) (lt := lt) (Q := Qx (MixM l V R) r ex) hs (fun _ _ _ => Qx_panic) (ops.length - m) w.drew (ops.take m) 0 (Array.replicate ops.length false) (fr l) (fun k _ => by simp [Array.getD_eq_getD_getElem?, Array.getElem?_replicate]; split <;> rfl) (fun j hj => by
      rw [List.getElem?_take, if_pos (by omega)]; simp) (by rw [hlen]; exact hB) (by rw [hlen]; exact h _ (hS.ext (Ext.drew w)))
    rw [hlen, show ops.length - m + m = ops.length by omega] at this
    simpa using this
  · cases e with
    | normal => obtain ⟨f, e, hR⟩ := q; subst e; exact hM f _ hR
    | _ => exact q
/-- ways meet -/
theorem x_seq_j {x y : Code} (V : List Nat) (R : (Nat → Value) → World → Prop) (h : x.wp P (Qx (MixM l V R) r ex) (fr l) w) (hj : ∀ f w', R f w' → y.wp P (Qx n r ex) (fr (clob l V f)) w') : (Code.seq x y).wp P (Qx n r ex) (fr l) w :=
  wp_seq (wp_mono h fun e a w q => by
    cases e with
    | normal => obtain ⟨f, e, hR⟩ := q; subst e; exact hj f _ hR
    | _ => exact q)
theorem St.rd_piece {xs : List Int} (h : St S w0 w L) (hm : Has L (.rd A 1 xs.length (xs.map (Value.int .u8)))) (j q : Nat) (hj : j + q ≤ xs.length) (B : Option Addr) (hB : 0 < q → B = A.map (·.add j)) : St S w0 w (.rd B 1 ((xs.drop j).take q).length (((xs.drop j).take q).map (Value.int .u8)) :: L) := by
  have := h.rd_sub hm j (j + q) (by omega) hj B (fun h => by rw [Nat.mul_one]; exact hB (by omega))
  have e : ((xs.drop j).take q).length = j + q - j := by simp; omega
  rw [e]
  simpa [List.map_drop, List.map_take] using this
theorem St.rd_drop {xs : List Int} (h : St S w0 w L) (hm : Has L (.rd A 1 xs.length (xs.map (Value.int .u8)))) (j : Nat) (hj : j ≤ xs.length) (B : Option Addr) (hB : j < xs.length → B = A.map (·.add j)) : St S w0 w (.rd B 1 (xs.drop j).length ((xs.drop j).map (Value.int .u8)) :: L) := by
  have := h.rd_piece hm j (xs.length - j) (by omega) B (fun h => hB (by omega))
  rwa [List.take_of_length_le (by simp)] at this
end
end Go.Proofs.Ytpjpaipkkcengaa
