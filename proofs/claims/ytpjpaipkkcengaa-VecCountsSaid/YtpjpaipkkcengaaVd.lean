/-
  One rule for each kind of operation; the second lot: those that read or turn memory, over the list of what is owned. No program here.
-/
import Derived.Test.YtpjpaipkkcengaaVc
namespace Go.Proofs.Ytpjpaipkkcengaa
open Go.RowKit

theorem add_at (g o k : Nat) : (⟨g, o, none⟩ : Addr).add k = ⟨g, o + k, none⟩ := by unfold Addr.add; split <;> simp_all

theorem Upd.has {L L' : List Res} {r r' : Res} (h : Upd L r r' L') : Has L' r' := by
  induction h with
  | head => exact .head
  | tail _ ih => exact .tail ih

/-- cells that lie at a place -/
def At (w : World) (g o : Nat) (cs : List Value) : Prop := ∀ j u, cs[j]? = some u → w.cell? ⟨g, o + j, none⟩ = some u

theorem At.of_obj {w : World} {g : Nat} {cs : Array Value} {t : TypeId} {f : Nat × Nat} (h : w.heap[g]? = some (.cells cs t f)) : At w g 0 cs.toList := fun j u hu => by
  rw [cell_of_row w g (0 + j) cs t f h]; simpa using hu
theorem At.drop {w : World} {g o : Nat} {cs : List Value} (h : At w g o cs) (k : Nat) : At w g (o + k) (cs.drop k) := fun j u hu => by
  rw [Nat.add_assoc]; exact h (k + j) u (by simpa [List.getElem?_drop] using hu)
theorem At.take {w : World} {g o : Nat} {cs : List Value} (h : At w g o cs) (k : Nat) : At w g o (cs.take k) := fun j u hu => by
  refine h j u ?_
  rw [List.getElem?_take] at hu
  split at hu
  · exact hu
  · cases hu

theorem loads_one {P : Program} {w : World} {T : TypeId} {dsc : TypeDesc} {p : Addr} {v : Value} (hu : P.underlying T = some dsc) (hd : isAggD dsc = false) (hv : w.cell? p = some v) : (loadVar T p).run P w = .ok v w := by
  simp [loadVar, run_isAgg_no hu hd, load, Sem.run, hv]
theorem loads_agg {P : Program} {w : World} {T : TypeId} {dsc : TypeDesc} {g o sz by' : Nat} {z : Value} {cs : List Value} (hu : P.underlying T = some dsc) (hd : isAggD dsc = true) (hi : TI P T sz by' z) (hl : cs.length = sz) (hc : At w g o cs) : (loadVar T ⟨g, o, none⟩).run P w = .ok (.agg cs.toArray) w := by
  obtain ⟨i, hi, rfl, _, _⟩ := hi
  have h := run_loadCells_list (P := P) w ⟨g, o, none⟩ cs (fun j v hv => by rw [add_at]; exact hc j v hv)
  rw [hl] at h
  simp [loadVar, run_isAgg_yes hu hd, sizeOf, typeInfo, hi, h]

def splice (cur : List Value) (o : Nat) (vs : List Value) : List Value := cur.take o ++ vs ++ cur.drop (o + vs.length)
theorem length_splice' {cur vs : List Value} {o : Nat} (h : o + vs.length ≤ cur.length) : (splice cur o vs).length = cur.length := by simp [splice]; omega
theorem splice_one {cur : List Value} {o : Nat} {v : Value} (h : o < cur.length) : splice cur o [v] = cur.set o v := by
  unfold splice
  rw [List.set_eq_take_append_cons_drop, if_pos h]
  simp
theorem splice_all {cur vs : List Value} (h : vs.length = cur.length) : splice cur 0 vs = vs := by
  simp [splice, h]

theorem splice_il {k : IntKind} {l : List Int} {i : Nat} {v : Int} (h : i < l.length) : splice (l.map (Value.int k)) i [.int k v] = (l.set i v).map (Value.int k) := by
  rw [splice_one (by simpa using h), List.map_set]
theorem splice_ic {k : IntKind} {l : List Int} {i : Nat} {v : Int} (h : i < l.length) : splice (ic k l).toList i [.int k v] = (l.set i v).map (Value.int k) := splice_il h

theorem splice_whole {cur : Array Value} {vs : List Value} (h : vs.length = cur.size) : splice cur.toList 0 vs = vs := splice_all (by simpa using h)

theorem stores {P : Program} {w : World} {T : TypeId} {g o sz by' : Nat} {z : Value} {cur : Array Value} {t : TypeId} {v : Value} (hi : TI P T sz by' z) (hv : v.cells.size = sz) (h1 : ∀ u ∈ v.cells.toList, u.oneCell' = true) (hg : w.heap[g]? = some (.cells cur t (0, 0))) (hfit : o + sz ≤ cur.size) :
    (storeVar T ⟨g, o, none⟩ v).run P w = .ok () (w.setRow g (splice cur.toList o v.cells.toList).toArray) := by
  obtain ⟨i, hi, rfl, _, _⟩ := hi
  have h := run_storeCells_at P g o t v.cells.toList 0 cur w hg (by simpa [hv] using hfit) h1
  simp only [Nat.add_zero] at h
  simp [storeVar, sizeOf, typeInfo, hi, hv, splice, h]

theorem setRow_keep (w : World) (g : Nat) (cs : Array Value) : Keep (fun k => some g = some k) w (w.setRow g cs) :=
  ⟨rfl, rfl, rfl, by simp, fun k _ hk => setRow_other w g k cs (fun e => hk (by rw [e]))⟩

section
variable {S : Nat → Prop} {w0 w w' : World} {L L' : List Res}

theorem St.obj_at {g : Nat} {cs : Array Value} {t : TypeId} {f : Nat × Nat} (h : St S w0 w L) (hm : Has L (.obj g (.cells cs t f))) : At w g 0 cs.toList := At.of_obj (h.has hm)
theorem St.rd_at {A : Option Addr} {sz n : Nat} {xs : List Value} (h : St S w0 w L) (hm : Has L (.rd A sz n xs)) (hn : 0 < n) : ∃ g o, A = some ⟨g, o, none⟩ ∧ At w g o xs := by
  obtain ⟨_, h2⟩ := h.has hm
  obtain ⟨g, o, e, _, h3⟩ := h2 hn
  exact ⟨g, o, e, h3⟩
theorem vec_at {A : Option Addr} {c : Nat} {e : TypeId} {sz n : Nat} {xs : List Value} (h : w.ownsRow 0 e sz (.slice A n c) n xs) (hn : 0 < n) : ∃ g, A = some ⟨g, 0, none⟩ ∧ At w g 0 xs := by
  obtain ⟨hl, h2⟩ := h
  rcases h2 with ⟨hv, h0⟩ | ⟨g, cap, cur, hv, _, hg, hnc, hcm, hcs, ht⟩
  · omega
  · simp only [Value.slice.injEq] at hv
    refine ⟨g, hv.1, fun j u hu => ?_⟩
    rw [cell_of_row w g (0 + j) cur e (0, 0) hg]
    rw [← ht, List.getElem?_take] at hu
    split at hu
    · simpa using hu
    · cases hu
theorem St.vec_at {A : Option Addr} {c : Nat} {e : TypeId} {sz n : Nat} {xs : List Value} (h : St S w0 w L) (hm : Has L (.vec A c e sz n xs)) (hn : 0 < n) : ∃ g o, A = some ⟨g, o, none⟩ ∧ At w g o xs := by
  obtain ⟨g, e, hc⟩ := Go.Proofs.Ytpjpaipkkcengaa.vec_at (h.has hm) hn
  exact ⟨g, 0, e, hc⟩

/-- what is owned may be given up and only read from then on -/
theorem St.vec_rd {A : Option Addr} {c : Nat} {e : TypeId} {sz n : Nat} {xs : List Value} (h : St S w0 w L) (hu : Upd L (.vec A c e sz n xs) (.rd A sz n xs) L') : St S w0 w L' := by
  have hv := h.holds _ hu.mem
  refine h.weaken hu ⟨hv.1, fun hn => ?_⟩ (by intro g hg; simp [Res.own] at hg) ?_
  · obtain ⟨g, e', hc⟩ := Go.Proofs.Ytpjpaipkkcengaa.vec_at hv hn
    exact ⟨g, 0, e', own_lt hv (by simp [Res.own, e']), hc⟩
  · intro g hg
    simp only [Res.reads] at hg
    split at hg
    · cases hg
    · exact .inl hg
theorem St.obj_rd {g : Nat} {cs : Array Value} {t : TypeId} {f : Nat × Nat} {sz n : Nat} (h : St S w0 w L) (hn : cs.size = n * sz) (hu : Upd L (.obj g (.cells cs t f)) (.rd (some ⟨g, 0, none⟩) sz n cs.toList) L') : St S w0 w L' := by
  have hv := h.holds _ hu.mem
  refine h.weaken hu ⟨by simpa using hn, fun _ => ⟨g, 0, rfl, own_lt hv rfl, At.of_obj hv⟩⟩ (by intro k hk; simp [Res.own] at hk) ?_
  intro k hk
  simp only [Res.reads] at hk
  split at hk
  · cases hk
  · exact .inl (by simpa [Res.own] using hk)
theorem St.obj_vec {g : Nat} {cs : Array Value} {t : TypeId} {sz n : Nat} (h : St S w0 w L) (hn : cs.size = n * sz) (hm : n ≤ maxLen) (hu : Upd L (.obj g (.cells cs t (0, 0))) (.vec (some ⟨g, 0, none⟩) n t sz n cs.toList) L') : St S w0 w L' := by
  have hv := h.holds _ hu.mem
  refine h.weaken hu ⟨by simpa using hn, .inr ⟨g, n, cs, rfl, Nat.zero_le _, hv, Nat.le_refl _, hm, hn, by rw [← hn]; exact List.take_of_length_le (by simp)⟩⟩ (by intro k hk; simpa [Res.own] using hk) (by intro k hk; simp [Res.reads] at hk)
/-- the nil slice is owned by whoever wants it -/
theorem St.nil_vec (h : St S w0 w L) (e : TypeId) (sz : Nat) : St S w0 w (.vec none 0 e sz 0 [] :: L) :=
  h.add Ext.rfl' (World.ownsRow_nil w 0 e sz) (by intro g hg; rcases hg with hg | hg <;> simp [Res.own, Res.reads] at hg)
/-- nothing is read of an empty slice -/
theorem St.rd_none (h : St S w0 w L) (A : Option Addr) (sz : Nat) : St S w0 w (.rd A sz 0 [] :: L) :=
  h.add_rd ⟨by simp, fun hn => absurd hn (by omega)⟩ (by intro r _ g _; simp [Res.reads])
/-- a piece of what may be read may be read -/
theorem St.rd_sub {A : Option Addr} {sz n : Nat} {xs : List Value} (h : St S w0 w L) (hm : Has L (.rd A sz n xs)) (lo hi : Nat) (h1 : lo ≤ hi) (h2 : hi ≤ n) (A' : Option Addr) (hA : lo < hi → A' = A.map (·.add (lo * sz))) :
    St S w0 w (.rd A' sz (hi - lo) ((xs.drop (lo * sz)).take ((hi - lo) * sz)) :: L) := by
  have hr := h.has hm
  obtain ⟨hl, hc⟩ := hr
  refine h.add_rd ⟨?_, fun hn => ?_⟩ ?_
  · rw [List.length_take, List.length_drop, hl, ← Nat.sub_mul]
    exact Nat.min_eq_left (Nat.mul_le_mul_right _ (by omega))
  · obtain ⟨g, o, rfl, hlt, hcc⟩ := hc (by omega)
    have hcc' : At w g o xs := hcc
    refine ⟨g, o + lo * sz, by rw [hA (by omega)]; simp [add_at], hlt, ?_⟩
    exact (hcc'.drop (lo * sz)).take _
  · intro r hr g hg e
    simp only [Res.reads] at e
    split at e
    · cases e
    · have hn : 0 < n := by omega
      obtain ⟨g', o, rfl, hlt, hcc⟩ := hc hn
      rw [hA (by omega)] at e
      simp [add_at] at e
      subst e
      -- r owns what is read in L: they are apart
      have hmem := hm.mem
      have hap : ∀ {M : List Res}, M.Pairwise Res.compat → r ∈ M → Res.rd (some ⟨g', o, none⟩) sz n xs ∈ M → r.own = some g' → False := by
        intro M hp
        induction hp with
        | nil => intro h1; cases h1
        | cons hhd _ ih =>
          intro hr1 hr2 hg'
          have hread : (Res.rd (some ⟨g', o, none⟩) sz n xs).reads = some g' := by simp [Res.reads, Nat.ne_of_gt hn]
          rcases List.mem_cons.1 hr1 with rfl | hr1
          · rcases List.mem_cons.1 hr2 with e | hr2
            · rw [← e] at hg'; simp [Res.own] at hg'
            · exact ((hhd _ hr2 g').1 hg').2 hread
          · rcases List.mem_cons.1 hr2 with e | hr2
            · rw [← e] at hhd; exact ((hhd _ hr1 g').2 hg').2 hread
            · exact ih hr1 hr2 hg'
      exact hap h.apart hr hmem hg

end

section
variable {P : Program} {ops : Array Oper} {Q : Exit → Act → World → Prop} {rest : List Oper} {l : List Value} {w : World} {d : Nat} {ty : TypeId} {pos : String} {aft : Array Edge}
variable {S : Nat → Prop} {w0 : World} {L L' : List Res}

theorem m_box {elem : TypeId} {x : Operand} (hS : St S w0 w L) (h : ∀ w' g, St S w0 w' (.obj g (.cells (opv l x).cells elem (0, 0)) :: L) → WL P ops Q rest (fr (l.set d (.pointer (some ⟨g, 0, none⟩)))) w') : WL P ops Q (⟨some d, .box elem x, ty, pos, aft, none⟩ :: rest) (fr l) w :=
  s_val (w' := w.alloc (.cells (opv l x).cells elem)) (by simp [execOp, Instr.box, newVar, newRow]) (h _ _ (hS.alloc _))
theorem m_alloc {elem : TypeId} {sz by' : Nat} {z : Value} (hi : TI P elem sz by' z) (hS : St S w0 w L) (h : ∀ w' g, St S w0 w' (.obj g (.cells z.cells elem (0, 0)) :: L) → WL P ops Q rest (fr (l.set d (.pointer (some ⟨g, 0, none⟩)))) w') : WL P ops Q (⟨some d, .alloc elem, ty, pos, aft, none⟩ :: rest) (fr l) w := by
  obtain ⟨i, hi, _, _, hz⟩ := hi
  exact s_val (w' := w.alloc (.cells z.cells elem)) (by simp [execOp, Instr.alloc, newVar, newRow, zeroValue, typeInfo, hi, hz]) (h _ _ (hS.alloc _))

/-- a load of one cell -/
theorem m_load {T : TypeId} {x : Operand} {dsc : TypeDesc} {p : Addr} {v : Value} (hu : P.underlying T = some dsc) (hd : isAggD dsc = false := by rfl) (hx : opv l x = .pointer (some p) := by rfl) (hv : w.cell? p = some v) : Go1 P l w ⟨some d, .load T x, ty, pos, aft, none⟩ v :=
  (by unfold Go1; simp [execOp, Instr.loadAt, hx, Instr.sureAddr, loads_one hu hd hv])
theorem m_load_obj {T : TypeId} {x : Operand} {dsc : TypeDesc} {g o : Nat} {cs : Array Value} {t : TypeId} {f : Nat × Nat} {v : Value} (hu : P.underlying T = some dsc) (hd : isAggD dsc = false := by rfl) (hx : opv l x = .pointer (some ⟨g, o, none⟩) := by rfl) (hS : St S w0 w L) (hm : Has L (.obj g (.cells cs t f)) := by repeat (first | exact Has.head | apply Has.tail)) (hv : cs[o]? = some v := by first | rfl | exact ic_get (by first | omega | (simp [*]; done) | (simp [*]; omega)) | exact il_get (by first | omega | (simp [*]; done) | (simp [*]; omega))) : Go1 P l w ⟨some d, .load T x, ty, pos, aft, none⟩ v :=
  m_load hu hd hx (by have := hS.obj_at hm o v (by simpa using hv); simpa using this)
theorem m_load_rd {T : TypeId} {x : Operand} {dsc : TypeDesc} {k : Nat} {A : Option Addr} {sz n : Nat} {xs : List Value} {v : Value} (hu : P.underlying T = some dsc) (hd : isAggD dsc = false := by rfl) (hx : opv l x = .pointer (A.map (·.add k)) := by rfl) (hS : St S w0 w L) (hm : Has L (.rd A sz n xs) := by repeat (first | exact Has.head | apply Has.tail)) (hn : 0 < n := by omega) (hv : xs[k]? = some v := by first | rfl | exact ic_get (by first | omega | (simp [*]; done) | (simp [*]; omega)) | exact il_get (by first | omega | (simp [*]; done) | (simp [*]; omega))) : Go1 P l w ⟨some d, .load T x, ty, pos, aft, none⟩ v := by
  obtain ⟨g, o, rfl, hc⟩ := hS.rd_at hm hn
  exact m_load hu hd (p := ⟨g, o + k, none⟩) (by rw [hx]; simp [add_at]) (hc k v hv)
theorem m_load_vec {T : TypeId} {x : Operand} {dsc : TypeDesc} {k : Nat} {A : Option Addr} {c : Nat} {e : TypeId} {sz n : Nat} {xs : List Value} {v : Value} (hu : P.underlying T = some dsc) (hd : isAggD dsc = false := by rfl) (hx : opv l x = .pointer (A.map (·.add k)) := by rfl) (hS : St S w0 w L) (hm : Has L (.vec A c e sz n xs) := by repeat (first | exact Has.head | apply Has.tail)) (hn : 0 < n := by omega) (hv : xs[k]? = some v := by first | rfl | exact ic_get (by first | omega | (simp [*]; done) | (simp [*]; omega)) | exact il_get (by first | omega | (simp [*]; done) | (simp [*]; omega))) : Go1 P l w ⟨some d, .load T x, ty, pos, aft, none⟩ v := by
  obtain ⟨g, o, rfl, hc⟩ := hS.vec_at hm hn
  exact m_load hu hd (p := ⟨g, o + k, none⟩) (by rw [hx]; simp [add_at]) (hc k v hv)

/-- a load of a struct or an array -/
theorem m_loada {T : TypeId} {x : Operand} {dsc : TypeDesc} {g o sz by' : Nat} {z : Value} {cs : List Value} (hu : P.underlying T = some dsc) (hd : isAggD dsc = true := by rfl) (hi : TI P T sz by' z) (hx : opv l x = .pointer (some ⟨g, o, none⟩) := by rfl) (hl : cs.length = sz) (hc : At w g o cs) : Go1 P l w ⟨some d, .load T x, ty, pos, aft, none⟩ (.agg cs.toArray) :=
  (by unfold Go1; simp [execOp, Instr.loadAt, hx, Instr.sureAddr, loads_agg hu hd hi hl hc])
theorem m_loada_obj {T : TypeId} {x : Operand} {dsc : TypeDesc} {g o sz by' : Nat} {z : Value} {cs : Array Value} {t : TypeId} {f : Nat × Nat} (hu : P.underlying T = some dsc) (hd : isAggD dsc = true := by rfl) (hi : TI P T sz by' z) (hx : opv l x = .pointer (some ⟨g, o, none⟩) := by rfl) (hS : St S w0 w L) (hm : Has L (.obj g (.cells cs t f)) := by repeat (first | exact Has.head | apply Has.tail)) (hfit : o + sz ≤ cs.size := by first | omega | (simp only [ic_size, List.length_map, List.size_toArray]; omega) | (simp [*]; done) | rfl | (simp [*]; omega)) : Go1 P l w ⟨some d, .load T x, ty, pos, aft, none⟩ (.agg ((cs.toList.drop o).take sz).toArray) :=
  m_loada hu hd hi hx (by simp; omega) (by have := ((hS.obj_at hm).drop o).take sz; rwa [Nat.zero_add] at this)
/-- the whole row -/
theorem m_load_row {T : TypeId} {x : Operand} {dsc : TypeDesc} {g sz by' : Nat} {z : Value} {cs : Array Value} {t : TypeId} {f : Nat × Nat} (hu : P.underlying T = some dsc) (hd : isAggD dsc = true := by rfl) (hi : TI P T sz by' z) (hx : opv l x = .pointer (some ⟨g, 0, none⟩) := by rfl) (hS : St S w0 w L) (hm : Has L (.obj g (.cells cs t f)) := by repeat (first | exact Has.head | apply Has.tail)) (hfit : cs.size = sz := by first | omega | (simp only [ic_size, List.length_map, List.size_toArray]; omega) | (simp [*]; done) | rfl | (simp [*]; omega)) : Go1 P l w ⟨some d, .load T x, ty, pos, aft, none⟩ (.agg cs) :=
  by simpa using m_loada (d := d) (ty := ty) (pos := pos) (aft := aft) hu hd hi hx (cs := cs.toList) (by simpa using hfit) (hS.obj_at hm)
theorem m_loada_rd {T : TypeId} {x : Operand} {dsc : TypeDesc} {k sz by' : Nat} {z : Value} {A : Option Addr} {esz n : Nat} {xs : List Value} (hu : P.underlying T = some dsc) (hd : isAggD dsc = true := by rfl) (hi : TI P T sz by' z) (hx : opv l x = .pointer (A.map (·.add k)) := by rfl) (hS : St S w0 w L) (hm : Has L (.rd A esz n xs) := by repeat (first | exact Has.head | apply Has.tail)) (hn : 0 < n := by omega) (hfit : k + sz ≤ xs.length := by first | omega | (simp only [ic_size, List.length_map, List.size_toArray]; omega) | (simp [*]; done) | rfl | (simp [*]; omega)) : Go1 P l w ⟨some d, .load T x, ty, pos, aft, none⟩ (.agg ((xs.drop k).take sz).toArray) := by
  obtain ⟨g, o, rfl, hc⟩ := hS.rd_at hm hn
  exact m_loada hu hd hi (g := g) (o := o + k) (by rw [hx]; simp [add_at]) (by simp; omega) ((hc.drop k).take sz)
theorem m_loada_vec {T : TypeId} {x : Operand} {dsc : TypeDesc} {k sz by' : Nat} {z : Value} {A : Option Addr} {c : Nat} {e : TypeId} {esz n : Nat} {xs : List Value} (hu : P.underlying T = some dsc) (hd : isAggD dsc = true := by rfl) (hi : TI P T sz by' z) (hx : opv l x = .pointer (A.map (·.add k)) := by rfl) (hS : St S w0 w L) (hm : Has L (.vec A c e esz n xs) := by repeat (first | exact Has.head | apply Has.tail)) (hn : 0 < n := by omega) (hfit : k + sz ≤ xs.length := by first | omega | (simp only [ic_size, List.length_map, List.size_toArray]; omega) | (simp [*]; done) | rfl | (simp [*]; omega)) : Go1 P l w ⟨some d, .load T x, ty, pos, aft, none⟩ (.agg ((xs.drop k).take sz).toArray) := by
  obtain ⟨g, o, rfl, hc⟩ := hS.vec_at hm hn
  exact m_loada hu hd hi (g := g) (o := o + k) (by rw [hx]; simp [add_at]) (by simp; omega) ((hc.drop k).take sz)

/-- a store into an owned row -/
theorem m_store_obj {T : TypeId} {x y : Operand} {g o sz by' : Nat} {z : Value} {cs : Array Value} {t : TypeId} {cs' : List Value} (hi : TI P T sz by' z) (hx : opv l x = .pointer (some ⟨g, o, none⟩) := by rfl) (hv : (opv l y).cells.size = sz := by first | (simp [opv, Value.cells, *]; done) | rfl) (h1 : ∀ u ∈ (opv l y).cells.toList, u.oneCell' = true := by first | exact ic_one _ _ | simp [opv, Value.cells, Value.oneCell']) (hS : St S w0 w L) (_hm : Has L (.obj g (.cells cs t (0, 0))) := by repeat (first | exact Has.head | apply Has.tail)) (hc : splice cs.toList o (opv l y).cells.toList = cs' := by first | exact splice_ic (by first | omega | (simp [*]; done) | (simp [*]; omega)) | exact splice_il (by first | omega | (simp [*]; done) | (simp [*]; omega)) | exact splice_whole (by first | (simp [opv, Value.cells, *]; done) | rfl) | (simp only [opv, n1, n2, Value.cells, splice, List.take_succ_cons, List.take_zero, List.drop_succ_cons, List.drop_zero, List.length_cons, List.length_nil, Nat.zero_add, Nat.reduceAdd, List.append_assoc, List.cons_append, List.nil_append]; rfl)) (hu : Upd L (.obj g (.cells cs t (0, 0))) (.obj g (.cells cs'.toArray t (0, 0))) L' := by repeat (first | exact Upd.head | apply Upd.tail)) (hfit : o + sz ≤ cs.size := by first | omega | (simp only [ic_size, List.length_map, List.size_toArray]; omega) | (simp [*]; done) | rfl | (simp [*]; omega))
    (h : ∀ w', St S w0 w' L' → WL P ops Q rest (fr l) w') : WL P ops Q (⟨none, .store T x y, ty, pos, aft, none⟩ :: rest) (fr l) w := by
  have hg := hS.holds _ hu.mem
  subst hc
  refine s_unit (w' := w.setRow g (splice cs.toList o (opv l y).cells.toList).toArray) (by simp [execOp, Instr.storeAt, hx, Instr.sureAddr, stores hi hv h1 hg hfit]) (h _ ?_)
  exact hS.turn hu (setRow_keep _ _ _) (setRow_heap w g cs _ t (0, 0) hg) (by intro k hk; exact .inl hk) (by intro k hk; simp [Res.reads] at hk)
theorem m_store_vec {T : TypeId} {x y : Operand} {k sz by' : Nat} {z : Value} {A : Option Addr} {c : Nat} {e : TypeId} {esz n : Nat} {xs xs' : List Value} (hi : TI P T sz by' z) (hx : opv l x = .pointer (A.map (·.add k)) := by rfl) (hv : (opv l y).cells.size = sz := by first | (simp [opv, Value.cells, *]; done) | rfl) (h1 : ∀ u ∈ (opv l y).cells.toList, u.oneCell' = true := by first | exact ic_one _ _ | simp [opv, Value.cells, Value.oneCell']) (hS : St S w0 w L) (_hm : Has L (.vec A c e esz n xs) := by repeat (first | exact Has.head | apply Has.tail)) (hc : splice xs k (opv l y).cells.toList = xs' := by first | exact splice_ic (by first | omega | (simp [*]; done) | (simp [*]; omega)) | exact splice_il (by first | omega | (simp [*]; done) | (simp [*]; omega)) | exact splice_whole (by first | (simp [opv, Value.cells, *]; done) | rfl) | (simp only [opv, n1, n2, Value.cells, splice, List.take_succ_cons, List.take_zero, List.drop_succ_cons, List.drop_zero, List.length_cons, List.length_nil, Nat.zero_add, Nat.reduceAdd, List.append_assoc, List.cons_append, List.nil_append]; rfl)) (hu : Upd L (.vec A c e esz n xs) (.vec A c e esz n xs') L' := by repeat (first | exact Upd.head | apply Upd.tail)) (hn : 0 < n := by omega) (hfit : k + sz ≤ xs.length := by first | omega | (simp only [ic_size, List.length_map, List.size_toArray]; omega) | (simp [*]; done) | rfl | (simp [*]; omega))
    (h : ∀ w', St S w0 w' L' → WL P ops Q rest (fr l) w') : WL P ops Q (⟨none, .store T x y, ty, pos, aft, none⟩ :: rest) (fr l) w := by
  have hg := hS.holds _ hu.mem
  subst hc
  obtain ⟨hl, h2⟩ := hg
  rcases h2 with ⟨_, h0⟩ | ⟨g, cap, cur, hvv, _, hg, hnc, hcm, hcs, ht⟩
  · omega
  · simp only [Value.slice.injEq] at hvv
    obtain ⟨rfl, _, rfl⟩ := hvv
    have hlen : xs.length ≤ cur.size := by rw [hl, hcs]; exact Nat.mul_le_mul_right _ hnc
    refine s_unit (w' := w.setRow g (splice cur.toList k (opv l y).cells.toList).toArray) (by
      have hx' : opv l x = .pointer (some ⟨g, k, none⟩) := by rw [hx]; simp [add_at]
      simp [execOp, Instr.storeAt, hx', Instr.sureAddr, stores hi hv h1 hg (o := k) (by omega)]) (h _ ?_)
    have hsz : (splice cur.toList k (opv l y).cells.toList).length = cur.size := by
      rw [length_splice' (by simp [hv]; omega)]; simp
    refine hS.turn hu (setRow_keep _ _ _) ⟨?_, .inr ⟨g, c, _, rfl, Nat.zero_le _, setRow_heap w g cur _ e (0, 0) hg, hnc, hcm, by simpa using hsz.trans hcs, ?_⟩⟩ (by intro k hk; exact .inl hk) (by intro k hk; simp [Res.reads] at hk)
    · rw [length_splice' (by simp [hv]; omega)]; exact hl
    · -- the first cells of the spliced row are the spliced cells
      have hcells : (opv l y).cells.toList.length = sz := by simp [hv]
      unfold splice
      rw [← ht, hcells]
      have hkl : k + sz ≤ n * esz := by omega
      rw [List.take_append, List.take_append]
      have e1 : ((cur.toList.take k).take (n * esz)) = (cur.toList.take (n * esz)).take k := by rw [List.take_take, List.take_take, Nat.min_comm]
      have hkc : (cur.toList.take k).length = k := by simp; omega
      rw [hkc, e1]
      congr 1
      · congr 1
        exact List.take_of_length_le (by rw [hcells]; omega)
      · simp only [List.length_append, hkc, hcells]
        rw [List.drop_take]

/-! results that lie in boxes -/
theorem obj_loads_agg {T : TypeId} {dsc : TypeDesc} {g sz by' : Nat} {z : Value} {cs : Array Value} {t : TypeId} {f : Nat × Nat} (hu : P.underlying T = some dsc) (hd : isAggD dsc = true) (hi : TI P T sz by' z) (hS : St S w0 w L) (hm : Has L (.obj g (.cells cs t f))) (hfit : cs.size = sz) : (loadVar T ⟨g, 0, none⟩).run P w = .ok (.agg cs) w := by
  have := loads_agg (P := P) hu hd hi (g := g) (o := 0) (cs := cs.toList) (by simpa using hfit) (hS.obj_at hm)
  simpa using this
theorem obj_loads_one {T : TypeId} {dsc : TypeDesc} {g : Nat} {cs : Array Value} {t : TypeId} {f : Nat × Nat} {v : Value} (hu : P.underlying T = some dsc) (hd : isAggD dsc = false) (hS : St S w0 w L) (hm : Has L (.obj g (.cells cs t f))) (hv : cs[0]? = some v) : (loadVar T ⟨g, 0, none⟩).run P w = .ok v w :=
  loads_one hu hd (by have := hS.obj_at hm 0 v (by simpa using hv); simpa using this)
section
variable {fn : Func} {t u : Nat} {T U : TypeId} {dsc : TypeDesc} {g sz by' : Nat} {z : Value} {cs : Array Value} {ct : TypeId} {f : Nat × Nat} {R : Value → World → Prop} {v : Value}
theorem r_cell_agg (h : fn.results = #[.cell t T]) (hu : P.underlying T = some dsc) (hi : TI P T sz by' z) (hd : isAggD dsc = true := by rfl) (hp : l.getD t undef = .pointer (some ⟨g, 0, none⟩) := by rfl) (hS : St S w0 w L) (hm : Has L (.obj g (.cells cs ct f)) := by repeat (first | exact Has.head | apply Has.tail)) (hfit : cs.size = sz := by first | omega | (simp only [ic_size, List.length_map, List.size_toArray]; omega) | (simp [*]; done) | rfl) (hR : R (.agg cs) w) : Rt P fn R (fr l) w := r_cell h hp (obj_loads_agg hu hd hi hS hm hfit) hR
theorem r_cell_one (h : fn.results = #[.cell t T]) (hu : P.underlying T = some dsc) (hd : isAggD dsc = false := by rfl) (hp : l.getD t undef = .pointer (some ⟨g, 0, none⟩) := by rfl) (hS : St S w0 w L) (hm : Has L (.obj g (.cells cs ct f)) := by repeat (first | exact Has.head | apply Has.tail)) (hv : cs[0]? = some v := by rfl) (hR : R v w) : Rt P fn R (fr l) w := r_cell h hp (obj_loads_one hu hd hS hm hv) hR
theorem r_cell_tmp_agg (h : fn.results = #[.cell t T, .tmp u]) (hu : P.underlying T = some dsc) (hi : TI P T sz by' z) (hd : isAggD dsc = true := by rfl) (hp : l.getD t undef = .pointer (some ⟨g, 0, none⟩) := by rfl) (hS : St S w0 w L) (hm : Has L (.obj g (.cells cs ct f)) := by repeat (first | exact Has.head | apply Has.tail)) (hfit : cs.size = sz := by first | omega | (simp only [ic_size, List.length_map, List.size_toArray]; omega) | (simp [*]; done) | rfl) (hR : R (.tuple #[.agg cs, l.getD u undef]) w) : Rt P fn R (fr l) w := r_cell_tmp h hp (obj_loads_agg hu hd hi hS hm hfit) hR
theorem r_cell_tmp_one (h : fn.results = #[.cell t T, .tmp u]) (hu : P.underlying T = some dsc) (hd : isAggD dsc = false := by rfl) (hp : l.getD t undef = .pointer (some ⟨g, 0, none⟩) := by rfl) (hS : St S w0 w L) (hm : Has L (.obj g (.cells cs ct f)) := by repeat (first | exact Has.head | apply Has.tail)) (hv : cs[0]? = some v := by rfl) (hR : R (.tuple #[v, l.getD u undef]) w) : Rt P fn R (fr l) w := r_cell_tmp h hp (obj_loads_one hu hd hS hm hv) hR
end

/-! addresses -/
theorem m_fieldAddr {T : TypeId} {x : Operand} {j g o : Nat} {fs : Array Field} {f : Field} {sz by' : Nat} {z : Value} (hT : P.underlying T = some (.struct fs)) (hf : fs[j]? = some f := by rfl) (hi : TI P f.type sz by' z) (h0 : 0 < sz := by decide) (hx : opv l x = .pointer (some ⟨g, o, none⟩) := by rfl) : Go1 P l w ⟨some d, .fieldAddr T x j, ty, pos, aft, none⟩ (.pointer (some ⟨g, o + f.offset, none⟩)) := by
  obtain ⟨i, hi, rfl, _, _⟩ := hi
  exact (by unfold Go1; simp [execOp, Instr.fieldAt, run_underlying hT, hf, hx, Instr.sureAddr, fieldPlace, sizeOf, typeInfo, hi, Nat.ne_of_gt h0, add_at])
theorem m_fieldAddr_at {T : TypeId} {x : Operand} {j k : Nat} {A : Option Addr} {g o : Nat} {fs : Array Field} {f : Field} {sz by' : Nat} {z : Value} (hT : P.underlying T = some (.struct fs)) (hf : fs[j]? = some f := by rfl) (hi : TI P f.type sz by' z) (h0 : 0 < sz := by decide) (hx : opv l x = .pointer (A.map (·.add k)) := by rfl) (hA : A = some ⟨g, o, none⟩) : Go1 P l w ⟨some d, .fieldAddr T x j, ty, pos, aft, none⟩ (.pointer (A.map (·.add (k + f.offset)))) := by
  subst hA
  have := m_fieldAddr (w := w) (d := d) (ty := ty) (pos := pos) (aft := aft) hT hf hi h0 (g := g) (o := o + k) (by rw [hx]; simp [add_at])
  simpa [add_at, Nat.add_assoc] using this
theorem m_fieldAddr_rd {T : TypeId} {x : Operand} {j k : Nat} {A : Option Addr} {esz n : Nat} {xs : List Value} {fs : Array Field} {f : Field} {sz by' : Nat} {z : Value} (hT : P.underlying T = some (.struct fs)) (hf : fs[j]? = some f := by rfl) (hi : TI P f.type sz by' z) (h0 : 0 < sz := by decide) (hx : opv l x = .pointer (A.map (·.add k)) := by rfl) (hS : St S w0 w L) (hm : Has L (.rd A esz n xs) := by repeat (first | exact Has.head | apply Has.tail)) (hn : 0 < n := by omega) : Go1 P l w ⟨some d, .fieldAddr T x j, ty, pos, aft, none⟩ (.pointer (A.map (·.add (k + f.offset)))) := by
  obtain ⟨g, o, e, _⟩ := hS.rd_at hm hn
  exact m_fieldAddr_at hT hf hi h0 hx e
theorem m_fieldAddr_vec {T : TypeId} {x : Operand} {j k : Nat} {A : Option Addr} {c : Nat} {e : TypeId} {esz n : Nat} {xs : List Value} {fs : Array Field} {f : Field} {sz by' : Nat} {z : Value} (hT : P.underlying T = some (.struct fs)) (hf : fs[j]? = some f := by rfl) (hi : TI P f.type sz by' z) (h0 : 0 < sz := by decide) (hx : opv l x = .pointer (A.map (·.add k)) := by rfl) (hS : St S w0 w L) (hm : Has L (.vec A c e esz n xs) := by repeat (first | exact Has.head | apply Has.tail)) (hn : 0 < n := by omega) : Go1 P l w ⟨some d, .fieldAddr T x j, ty, pos, aft, none⟩ (.pointer (A.map (·.add (k + f.offset)))) := by
  obtain ⟨g, o, e, _⟩ := hS.vec_at hm hn
  exact m_fieldAddr_at hT hf hi h0 hx e
theorem m_indexAddr_arr {T e : TypeId} {x y : Operand} {n g o : Nat} {sz by' : Nat} {z : Value} {k : IntKind} {i : Int} (hT : P.underlying T = some (.array n e)) (hi : TI P e sz by' z) (hx : opv l x = .pointer (some ⟨g, o, none⟩) := by rfl) (hy : opv l y = .int k i := by rfl) (h0 : 0 ≤ i := by omega) (h1 : i < n := by omega) : Go1 P l w ⟨some d, .indexAddr T x y, ty, pos, aft, none⟩ (.pointer (some ⟨g, o + i.toNat * sz, none⟩)) := by
  obtain ⟨i', hi, rfl, _, _⟩ := hi
  exact (by unfold Go1; simp [execOp, Instr.indexAt, run_underlying hT, hx, hy, asIntOf, Instr.sureAddr, h0, h1, sizeOf, typeInfo, hi, add_at])
theorem m_indexAddr_sl {T e : TypeId} {x y : Operand} {n c g o : Nat} {A : Option Addr} {sz by' : Nat} {z : Value} {k : IntKind} {i : Int} (hT : P.underlying T = some (.slice e)) (hi : TI P e sz by' z) (hx : opv l x = .slice A n c := by rfl) (hy : opv l y = .int k i := by rfl) (h0 : 0 ≤ i := by omega) (h1 : i < n := by omega) (hA : A = some ⟨g, o, none⟩) : Go1 P l w ⟨some d, .indexAddr T x y, ty, pos, aft, none⟩ (.pointer (A.map (·.add (i.toNat * sz)))) := by
  obtain ⟨i', hi, rfl, _, _⟩ := hi
  subst hA
  exact (by unfold Go1; simp [execOp, Instr.indexAt, run_underlying hT, hx, hy, asIntOf, h0, h1, sizeOf, typeInfo, hi, add_at])
theorem m_indexAddr_rd {T e : TypeId} {x y : Operand} {n c : Nat} {A : Option Addr} {esz : Nat} {xs : List Value} {sz by' : Nat} {z : Value} {k : IntKind} {i : Int} (hT : P.underlying T = some (.slice e)) (hi : TI P e sz by' z) (hx : opv l x = .slice A n c := by rfl) (hy : opv l y = .int k i := by rfl) (hS : St S w0 w L) (hm : Has L (.rd A esz n xs) := by repeat (first | exact Has.head | apply Has.tail)) (h0 : 0 ≤ i := by omega) (h1 : i < n := by omega) : Go1 P l w ⟨some d, .indexAddr T x y, ty, pos, aft, none⟩ (.pointer (A.map (·.add (i.toNat * sz)))) := by
  obtain ⟨g, o, e, _⟩ := hS.rd_at hm (by omega)
  exact m_indexAddr_sl hT hi hx hy h0 h1 e
theorem m_indexAddr_vec {T e : TypeId} {x y : Operand} {n c : Nat} {A : Option Addr} {e' : TypeId} {esz : Nat} {xs : List Value} {sz by' : Nat} {z : Value} {k : IntKind} {i : Int} (hT : P.underlying T = some (.slice e)) (hi : TI P e sz by' z) (hx : opv l x = .slice A n c := by rfl) (hy : opv l y = .int k i := by rfl) (hS : St S w0 w L) (hm : Has L (.vec A c e' esz n xs) := by repeat (first | exact Has.head | apply Has.tail)) (h0 : 0 ≤ i := by omega) (h1 : i < n := by omega) : Go1 P l w ⟨some d, .indexAddr T x y, ty, pos, aft, none⟩ (.pointer (A.map (·.add (i.toNat * sz)))) := by
  obtain ⟨g, o, e, _⟩ := hS.vec_at hm (by omega)
  exact m_indexAddr_sl hT hi hx hy h0 h1 e

/-! slices made, cut, appended to -/
theorem m_buildSlice {T e : TypeId} {n : Nat} {parts : Array (Nat × Operand)} {sz by' : Nat} {z : Value} {cells : Array Value} (hT : P.underlying T = some (.slice e)) (hi : TI P e sz by' z) (hsm : n * sz ≤ 2 ^ 24 := by decide)
    (hc : Instr.fill (fun i => some (i * sz, sz)) ((Array.range (n * sz)).map (fun j => z.cells[j % z.cells.size]!)) (parts.map fun (i, x) => (i, opv l x)).toList = some cells) (hS : St S w0 w L)
    (h : ∀ w' g, St S w0 w' (.obj g (.cells cells e (0, 0)) :: L) → WL P ops Q rest (fr (l.set d (.slice (some ⟨g, 0, none⟩) n n))) w') : WL P ops Q (⟨some d, .buildSlice T n parts, ty, pos, aft, none⟩ :: rest) (fr l) w := by
  obtain ⟨i, hi, rfl, _, hz⟩ := hi
  refine s_val (w' := w.alloc (.cells cells e)) ?_ (h _ _ (hS.alloc _))
  have h24 : ¬ (2 ^ 24 < n * i.size) := by omega
  by_cases h0 : n * i.size = 0
  · have hc' : Instr.fill (fun j => some (j * i.size, i.size)) ((Array.range (n * i.size)).map (fun j => (#[] : Array Value)[j % (#[] : Array Value).size]!)) (parts.map fun (j, x) => (j, opv l x)).toList = some cells := by
      have e0 : ∀ f : Nat → Value, (Array.range 0).map f = #[] := fun f => by simp
      rw [← hc, h0, e0, e0]
    simp [execOp, Instr.buildSlice, run_underlying hT, sizeOf, typeInfo, hi, newRow, h0] at hc' ⊢
    rw [hc']
    rfl
  · simp [execOp, Instr.buildSlice, run_underlying hT, sizeOf, typeInfo, hi, newRow, h0, zeroValue, hz, h24] at hc ⊢
    rw [hc]
    rfl
theorem m_slice {T e : TypeId} {x : Operand} {A : Option Addr} {n c : Nat} {sz by' : Nat} {z : Value} {lo hi : Nat} {lo' hi' mx' : Option Operand} (hT : P.underlying T = some (.slice e)) (hi0 : TI P e sz by' z) (hx : opv l x = .slice A n c := by rfl)
    (hlo : (match lo' with | none => lo = 0 | some q => ∃ k, opv l q = .int k (lo : Int))) (hhi : (match hi' with | none => hi = n ∧ mx' = none | some q => ∃ k, opv l q = .int k (hi : Int)))
    {m : Nat} (hmx : (match mx' with | none => m = c | some q => ∃ k, opv l q = .int k (m : Int))) (h1 : lo ≤ hi := by omega) (h2 : hi ≤ m := by omega) (h3 : m ≤ c := by omega) : Go1 P l w ⟨some d, .slice T x lo' hi' mx', ty, pos, aft, none⟩ (.slice (if m = lo then A else A.map (·.add (lo * sz))) (hi - lo) (m - lo)) := by
  obtain ⟨i, hi0, rfl, _, _⟩ := hi0
  have hb : ∀ (k : IntKind) (a b : Nat) (code : BoundsCode), a ≤ b → (Instr.sliceBound (.int k (a : Int)) b code).run P w = .ok a w := fun k a b code hab => by
    simp [Instr.sliceBound, asIntOf, hab]
  unfold Go1
  have hU : ∀ q : Value, (Instr.sliceAt T (.slice A n c) q none none).run P w = (Instr.slice T (.slice A n c) q none none).run P w := fun q => by simp [Instr.sliceAt, run_underlying hT]
  have hU' : ∀ (q r s : Option Value), (Instr.sliceAt T (.slice A n c) q r s).run P w = (Instr.slice T (.slice A n c) q r s).run P w := fun q r s => by simp [Instr.sliceAt, run_underlying hT]
  have hm' : m = c → hi ≤ c := fun e => by omega
  cases lo' with
  | none =>
    subst hlo
    cases hi' with
    | none =>
      obtain ⟨rfl, rfl⟩ := hhi
      simp only at hmx
      subst hmx
      simp [execOp, hx, hU', Instr.slice, run_underlying hT, Instr.sliceBounds, sizeOf, typeInfo, hi0]
    | some q =>
      obtain ⟨k, hk⟩ := hhi
      cases mx' with
      | none =>
        simp only at hmx
        subst hmx
        simp [execOp, hx, hk, hU', Instr.slice, run_underlying hT, Instr.sliceBounds, hb k hi m _ h2, sizeOf, typeInfo, hi0]
      | some q2 =>
        obtain ⟨k2, hk2⟩ := hmx
        simp [execOp, hx, hk, hk2, hU', Instr.slice, run_underlying hT, Instr.sliceBounds, hb k hi m _ h2, hb k2 m c _ h3, sizeOf, typeInfo, hi0]
  | some p =>
    obtain ⟨kl, hkl⟩ := hlo
    cases hi' with
    | none =>
      obtain ⟨rfl, rfl⟩ := hhi
      simp only at hmx
      subst hmx
      simp [execOp, hx, hkl, hU', Instr.slice, run_underlying hT, Instr.sliceBounds, hb kl lo hi _ h1, sizeOf, typeInfo, hi0]
    | some q =>
      obtain ⟨k, hk⟩ := hhi
      cases mx' with
      | none =>
        simp only at hmx
        subst hmx
        simp [execOp, hx, hkl, hk, hU', Instr.slice, run_underlying hT, Instr.sliceBounds, hb k hi m _ h2, hb kl lo hi _ h1, sizeOf, typeInfo, hi0]
      | some q2 =>
        obtain ⟨k2, hk2⟩ := hmx
        simp [execOp, hx, hkl, hk, hk2, hU', Instr.slice, run_underlying hT, Instr.sliceBounds, hb k hi m _ h2, hb kl lo hi _ h1, hb k2 m c _ h3, sizeOf, typeInfo, hi0]
/-- a piece of what may be read: the piece may be read -/
theorem m_slice_rd {T e : TypeId} {x : Operand} {A : Option Addr} {n c : Nat} {sz by' : Nat} {z : Value} {lo hi : Nat} {lo' hi' mx' : Option Operand} {xs : List Value} (hT : P.underlying T = some (.slice e)) (hi0 : TI P e sz by' z) (hx : opv l x = .slice A n c := by rfl)
    (hlo : (match lo' with | none => lo = 0 | some q => ∃ k, opv l q = .int k (lo : Int))) (hhi : (match hi' with | none => hi = n ∧ mx' = none | some q => ∃ k, opv l q = .int k (hi : Int)))
    {m : Nat} (hmx : (match mx' with | none => m = c | some q => ∃ k, opv l q = .int k (m : Int))) (h1 : lo ≤ hi := by omega) (h2 : hi ≤ m := by omega) (h3 : m ≤ c := by omega) (hS : St S w0 w L) (hm : Has L (.rd A sz n xs) := by repeat (first | exact Has.head | apply Has.tail)) (hn : hi ≤ n := by omega)
    (h : ∀ A', (lo < hi → A' = A.map (·.add (lo * sz))) → St S w0 w (.rd A' sz (hi - lo) ((xs.drop (lo * sz)).take ((hi - lo) * sz)) :: L) → WL P ops Q rest (fr (l.set d (.slice A' (hi - lo) (m - lo)))) w) : WL P ops Q (⟨some d, .slice T x lo' hi' mx', ty, pos, aft, none⟩ :: rest) (fr l) w :=
  s_go (m_slice hT hi0 hx hlo hhi hmx h1 h2 h3) (h _ (fun hlt => by rw [if_neg (by omega)]) (hS.rd_sub hm lo hi h1 hn _ (fun hlt => by rw [if_neg (by omega)])))
/-- a piece of an array that lies in a box that is only read -/
theorem m_slice_bx {T e : TypeId} {x : Operand} {g : Nat} {N : Nat} {sz by' : Nat} {z : Value} {lo hi : Nat} {lo' hi' : Option Operand} {xs : List Value} (hT : P.underlying T = some (.array N e)) (hi0 : TI P e sz by' z) (hx : opv l x = .pointer (some ⟨g, 0, none⟩) := by rfl)
    (hlo : (match lo' with | none => lo = 0 | some q => ∃ k, opv l q = .int k (lo : Int))) (hhi : (match hi' with | none => hi = N | some q => ∃ k, opv l q = .int k (hi : Int)))
    (h1 : lo ≤ hi := by omega) (h2 : hi ≤ N := by omega) (hS : St S w0 w L) (hm : Has L (.rd (some ⟨g, 0, none⟩) sz N xs) := by repeat (first | exact Has.head | apply Has.tail))
    (h : ∀ A', St S w0 w (.rd A' sz (hi - lo) ((xs.drop (lo * sz)).take ((hi - lo) * sz)) :: L) → WL P ops Q rest (fr (l.set d (.slice A' (hi - lo) (N - lo)))) w) : WL P ops Q (⟨some d, .slice T x lo' hi' none, ty, pos, aft, none⟩ :: rest) (fr l) w := by
  have hsub := hS.rd_sub hm lo hi h1 h2 (some (if N = lo then ⟨g, 0, none⟩ else ⟨g, lo * sz, none⟩)) (fun hlt => by rw [if_neg (by omega)]; simp [add_at])
  obtain ⟨i, hi0, rfl, _, _⟩ := hi0
  have hb : ∀ (k : IntKind) (a b : Nat) (code : BoundsCode), a ≤ b → (Instr.sliceBound (.int k (a : Int)) b code).run P w = .ok a w := fun k a b code hab => by
    simp [Instr.sliceBound, asIntOf, hab]
  refine s_val (w' := w) ?_ (h _ hsub)
  cases lo' with
  | none =>
    subst hlo
    cases hi' with
    | none =>
      simp only at hhi
      subst hhi
      simp [execOp, hx, Instr.sliceAt, run_underlying hT, Instr.sureAddr, Instr.sliceBounds, sizeOf, typeInfo, hi0, add_at]
    | some q =>
      obtain ⟨k, hk⟩ := hhi
      simp [execOp, hx, hk, Instr.sliceAt, run_underlying hT, Instr.sureAddr, Instr.sliceBounds, hb k hi N _ h2, sizeOf, typeInfo, hi0, add_at]
  | some p =>
    obtain ⟨kl, hkl⟩ := hlo
    cases hi' with
    | none =>
      simp only at hhi
      subst hhi
      simp [execOp, hx, hkl, Instr.sliceAt, run_underlying hT, Instr.sureAddr, Instr.sliceBounds, hb kl lo hi _ h1, sizeOf, typeInfo, hi0, add_at]
    | some q =>
      obtain ⟨k, hk⟩ := hhi
      simp [execOp, hx, hkl, hk, Instr.sliceAt, run_underlying hT, Instr.sureAddr, Instr.sliceBounds, hb k hi N _ h2, hb kl lo hi _ h1, sizeOf, typeInfo, hi0, add_at]
/-- a piece of an array that lies in a box that is only read from then on -/
theorem m_slice_arr {T e : TypeId} {x : Operand} {g : Nat} {N : Nat} {sz by' : Nat} {z : Value} {lo hi : Nat} {lo' hi' : Option Operand} {cs : Array Value} {t : TypeId} {f : Nat × Nat} (hT : P.underlying T = some (.array N e)) (hi0 : TI P e sz by' z) (hx : opv l x = .pointer (some ⟨g, 0, none⟩) := by rfl)
    (hlo : (match lo' with | none => lo = 0 | some q => ∃ k, opv l q = .int k (lo : Int))) (hhi : (match hi' with | none => hi = N | some q => ∃ k, opv l q = .int k (hi : Int)))
    (h1 : lo ≤ hi := by omega) (h2 : hi ≤ N := by omega) (hS : St S w0 w L) (_hm : Has L (.obj g (.cells cs t f)) := by repeat (first | exact Has.head | apply Has.tail)) (hN : cs.size = N * sz := by first | omega | (simp only [ic_size, List.length_map, List.size_toArray]; omega) | (simp [*]; done) | rfl | (simp [*]; omega)) (hu : Upd L (.obj g (.cells cs t f)) (.rd (some ⟨g, 0, none⟩) sz N cs.toList) L' := by repeat (first | exact Upd.head | apply Upd.tail))
    (h : ∀ A', St S w0 w (.rd A' sz (hi - lo) ((cs.toList.drop (lo * sz)).take ((hi - lo) * sz)) :: L') → WL P ops Q rest (fr (l.set d (.slice A' (hi - lo) (N - lo)))) w) : WL P ops Q (⟨some d, .slice T x lo' hi' none, ty, pos, aft, none⟩ :: rest) (fr l) w := by
  exact m_slice_bx hT hi0 hx hlo hhi h1 h2 (hS.obj_rd hN hu) hu.has h
end
end Go.Proofs.Ytpjpaipkkcengaa
