/-
  More rules: bytes made of texts. No program here.
-/
import Derived.Test.YtpjpaipkkcengaaVh
import Derived.Lib.ConvBytes
namespace Go.Proofs.Ytpjpaipkkcengaa
open Go.RowKit

def byL (s : ByteArray) : List Int := s.data.toList.map fun b => ((b.toNat : Nat) : Int)
theorem byL_len (s : ByteArray) : (byL s).length = s.size := by simp [byL]
theorem byL_byt (s : ByteArray) : Byt (byL s) := fun x hx => by
  simp only [byL, List.mem_map] at hx
  obtain ⟨b, _, rfl⟩ := hx
  have := b.toNat_lt
  omega

section
variable {P : Program} {ops : Array Oper} {Q : Exit → Act → World → Prop} {rest : List Oper} {l : List Value} {w : World} {d : Nat} {ty : TypeId} {pos : String} {aft : Array Edge}
variable {S : Nat → Prop} {w0 : World} {L L' : List Res}

theorem m_str_bytes {U D e : TypeId} {x : Operand} {s : ByteArray} (hU : P.underlying U = some .string) (hD : P.underlying D = some (.slice e)) (he : P.underlying e = some (.int .u8)) (hx : opv l x = .string s := by rfl) (hS : St S w0 w L)
    (h : ∀ w' A' c', St S w0 w' (.rd A' 1 s.size ((byL s).map (Value.int .u8)) :: L) → WL P ops Q rest (fr (l.set d (.slice A' s.size c'))) w') : WL P ops Q (⟨some d, .convert U D x, ty, pos, aft, none⟩ :: rest) (fr l) w := by
  have hr := Lib.run_convert_string_bytes (P := P) w U D e s hU hD he
  refine s_val (v := .slice (some ⟨w.heap.size, 0, none⟩) s.size (grownCap w s.size 0 e)) (w' := Lib.bytesWorld w e s) (by simp [execOp, hx, hr]) (h _ _ _ ?_)
  have hE : Ext w (Lib.bytesWorld w e s) := ⟨rfl, rfl, rfl, by rw [Lib.bytesWorld_size]; omega, fun k hk _ => Lib.bytesWorld_at_old w e s k hk⟩
  refine hS.add hE ⟨by simp [byL_len], fun hn => ⟨w.heap.size, 0, rfl, by rw [Lib.bytesWorld_size]; omega, fun j u hu => ?_⟩⟩ ?_
  · rw [Nat.zero_add]
    have hj : j < s.size := by
      have := (List.getElem?_eq_some_iff.1 hu).1
      simpa [byL_len] using this
    rw [Lib.bytesWorld_cell w e s j hj, ← hu]
    have hj' : j < s.data.toList.length := hj
    simp [byL, List.getD_eq_getElem?_getD, List.getElem?_eq_getElem hj']
  · intro g hg
    rcases hg with hg | hg
    · simp [Res.own] at hg
    · simp only [Res.reads] at hg
      split at hg
      · cases hg
      · simp at hg; omega

theorem St.vec_cap {A : Option Addr} {c : Nat} {e : TypeId} {sz n : Nat} {xs : List Value} (h : St S w0 w L) (hm : Has L (.vec A c e sz n xs)) : n ≤ c := by
  rcases (h.has hm).2 with ⟨hv, h0⟩ | ⟨g, cap, cur, hv, _, _, hnc, _⟩
  · omega
  · simp only [Value.slice.injEq] at hv; omega
theorem St.vecRd {A : Option Addr} {c : Nat} {e : TypeId} {sz n : Nat} {xs : List Value} (h : St S w0 w L) (hm : Has L (.vec A c e sz n xs)) : Rd w A sz n xs := by
  have hv := h.has hm
  refine ⟨hv.1, fun hn => ?_⟩
  obtain ⟨g, e', hc⟩ := Go.Proofs.Ytpjpaipkkcengaa.vec_at hv hn
  exact ⟨g, 0, e', own_lt hv (by simp [Res.own, e']), hc⟩
/-- a literal's bytes, converted: only read from then on -/
theorem m_mark {D e : TypeId} {x : Operand} {g n : Nat} {cs : Array Value} (hD : P.underlying D = some (.slice e)) (he : P.underlying e = some (.int .u8)) (hx : opv l x = .slice (some ⟨g, 0, none⟩) n n := by rfl) (hS : St S w0 w L)
    (hu : Upd L (.obj g (.cells cs e (0, 0))) (.rd (some ⟨g, 0, none⟩) 1 n cs.toList) L' := by repeat (first | exact Upd.head | apply Upd.tail)) (hn : cs.size = n * 1 := by rfl)
    (h : ∀ w', St S w0 w' L' → WL P ops Q rest (fr (l.set d (.slice (some ⟨g, 0, none⟩) n n))) w') : WL P ops Q (⟨some d, .convert D D x, ty, pos, aft, none⟩ :: rest) (fr l) w := by
  have hg : w.heap[g]? = some (.cells cs e (0, 0)) := hS.holds _ hu.mem
  have hlt : g < w.heap.size := (Array.getElem?_eq_some_iff.1 hg).1
  have hsh : w.shape? g = some (e, cs.size) := by unfold World.shape?; rw [hg]
  have hr : (convert D D (.slice (some ⟨g, 0, none⟩) n n)).run P w = .ok (.slice (some ⟨g, 0, none⟩) n n) (w.freeze ⟨g, cs.size, none⟩ 1) := by
    simp [convert, run_underlying hD, run_underlying he, markStringish, hsh]
  have hnew : (w.freeze ⟨g, cs.size, none⟩ 1).heap[g]? = some (.cells cs e (cs.size, cs.size + 1)) := by
    simp [World.freeze, Array.getElem?_modify, hg]
  have hk : Keep (fun k => (Res.obj g (.cells cs e (0, 0))).own = some k) w (w.freeze ⟨g, cs.size, none⟩ 1) := by
    refine ⟨by simp [World.freeze], by simp [World.freeze], by simp [World.freeze], by simp [World.freeze], fun k _ hne => ?_⟩
    have : g ≠ k := fun e => hne (by simp [Res.own, e])
    simp [World.freeze, Array.getElem?_modify, this]
  refine s_val (v := .slice (some ⟨g, 0, none⟩) n n) (w' := w.freeze ⟨g, cs.size, none⟩ 1) (by simp [execOp, hx, hr]) (h _ ?_)
  refine hS.turn hu hk ⟨by simpa using hn, fun _ => ⟨g, 0, rfl, (Array.getElem?_eq_some_iff.1 hnew).1, At.of_obj hnew⟩⟩ (by intro k hk; simp [Res.own] at hk) ?_
  intro k hk
  simp only [Res.reads] at hk
  split at hk
  · cases hk
  · exact .inl (by simpa [Res.own] using hk)
end
end Go.Proofs.Ytpjpaipkkcengaa
