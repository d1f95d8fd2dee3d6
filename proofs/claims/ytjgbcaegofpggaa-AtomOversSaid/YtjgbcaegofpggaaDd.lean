/- Contracts of functions, printed by a program of this seat (wip/tools/gen.py) out of its specs. -/
import Derived.Test.YtjgbcaegofpggaaDc
set_option linter.unusedSimpArgs false
set_option linter.unusedVariables false
set_option maxHeartbeats 800000
set_option maxRecDepth 100000
namespace Go.Proofs.Ytjgbcaegofpggaa
open Go.RowKit

theorem c_atomOver (x y : List Int) (hx : ValOk x) (hy : ValOk y)  (w0 : World) :
    CallR Try.prog 100 #[.agg (VA x), .agg (VA y)] w0 fun v w' => v = .bool (overV x y) ∧ Ext w0 w' := by
  have hS : St NoB w0 w0 [] := St.start w0
  refine c_enter (l := [.agg (VA x), .agg (VA y), undef, undef, undef, undef, undef, undef, undef, undef, undef, undef, undef, undef, undef, undef, undef, undef, undef, undef, undef, undef, undef, undef, undef]) Try.func100 rfl (by simp only [Try.ntmps100, List.size_toArray, List.length_cons, List.length_nil, Nat.reduceAdd, Nat.reduceSub, Array.replicate_succ, Array.replicate_zero, List.push_toArray, List.append_toArray, List.nil_append, List.cons_append]) ?_
  refine x_seq fun K1 hK1 => ?_
  refine x_region ?_
  have hxl := hx.len
  have hyl := hy.len
  have hxt := vtext_len hxl
  have hyt := vtext_len hyl
  have hxb := hx.text
  have hyb := hy.text
  refine m_box hS (fun w1 g1 hS => ?_)
  try simp only [opv, n1, n2, n3, n4, Value.cells, Array.toArray_toList] at hS ⊢
  refine m_box hS (fun w2 g2 hS => ?_)
  try simp only [opv, n1, n2, n3, n4, Value.cells, Array.toArray_toList] at hS ⊢
  refine s_go (s_assign) ?_
  try simp only [opv, n1, n2, n3, n4, Value.cells]
  refine x_nil ?_
  refine hK1 _ _ ?_
  refine x_seq fun K2 hK2 => ?_
  refine x_region ?_
  first | refine s_go (m_fieldAddr Try.underlying112 (hi := ti53)) ?_ | refine s_go (m_fieldAddr_rd Try.underlying112 (hi := ti53) (hS := hS)) ?_ | refine s_go (m_fieldAddr_vec Try.underlying112 (hi := ti53) (hS := hS)) ?_
  try simp only [opv, n1, n2, n3, n4, Value.cells, Nat.zero_add, Nat.add_zero, List.getElem_toArray, List.getElem_cons_zero, List.getElem_cons_succ]
  first | refine s_go (m_load_obj Try.underlying53 (hS := hS) (hv := by first | rfl | exact zi_get rfl (by omega) | exact ic_get (by omega) | exact il_get (by omega))) ?_ | refine s_go (m_load_bx Try.underlying53 (hS := hS) (hv := by first | rfl | exact zi_get rfl (by omega) | exact ic_get (by omega) | exact il_get (by omega))) ?_ | refine s_go (m_load_rd Try.underlying53 (hS := hS) (hv := by first | rfl | exact zi_get rfl (by omega) | exact ic_get (by omega) | exact il_get (by omega))) ?_ | refine s_go (m_load_vec Try.underlying53 (hS := hS) (hv := by first | rfl | exact zi_get rfl (by omega) | exact ic_get (by omega) | exact il_get (by omega))) ?_
  try simp only [opv, n1, n2, n3, n4, Value.cells, List.getElem_toArray, List.getElem_cons_zero, List.getElem_cons_succ]
  rw [hx.e0]
  first | refine s_go (m_fieldAddr Try.underlying112 (hi := ti53)) ?_ | refine s_go (m_fieldAddr_rd Try.underlying112 (hi := ti53) (hS := hS)) ?_ | refine s_go (m_fieldAddr_vec Try.underlying112 (hi := ti53) (hS := hS)) ?_
  try simp only [opv, n1, n2, n3, n4, Value.cells, Nat.zero_add, Nat.add_zero, List.getElem_toArray, List.getElem_cons_zero, List.getElem_cons_succ]
  first | refine s_go (m_load_obj Try.underlying53 (hS := hS) (hv := by first | rfl | exact zi_get rfl (by omega) | exact ic_get (by omega) | exact il_get (by omega))) ?_ | refine s_go (m_load_bx Try.underlying53 (hS := hS) (hv := by first | rfl | exact zi_get rfl (by omega) | exact ic_get (by omega) | exact il_get (by omega))) ?_ | refine s_go (m_load_rd Try.underlying53 (hS := hS) (hv := by first | rfl | exact zi_get rfl (by omega) | exact ic_get (by omega) | exact il_get (by omega))) ?_ | refine s_go (m_load_vec Try.underlying53 (hS := hS) (hv := by first | rfl | exact zi_get rfl (by omega) | exact ic_get (by omega) | exact il_get (by omega))) ?_
  try simp only [opv, n1, n2, n3, n4, Value.cells, List.getElem_toArray, List.getElem_cons_zero, List.getElem_cons_succ]
  rw [hy.e0]
  refine s_go (s_gtr) ?_
  try simp only [opv, n1, n2, n3, n4, Value.cells]
  refine s_go (s_move) ?_
  try simp only [opv, n1, n2, n3, n4, Value.cells]
  refine s_part 10 rfl (fun hp1 => ?_) (fun hp1 => ?_)
  ·
    try simp only [n3, n4]
    try simp only [decide_eq_true_eq, decide_eq_false_iff_not, Bool.not_eq_true', Bool.not_eq_false', Int.not_lt, Int.not_le, ne_eq, Decidable.not_not] at hp1
    first
    | (exfalso; omega)
    | skip
      refine g_off (yi (t := 10) rfl rfl) ?_
      try simp only [opv, n1, n2, n3, n4, Value.cells]
      refine g_off (yi (t := 10) rfl rfl) ?_
      try simp only [opv, n1, n2, n3, n4, Value.cells]
      refine g_off (yi (t := 10) rfl rfl) ?_
      try simp only [opv, n1, n2, n3, n4, Value.cells]
      refine g_off (yi (t := 10) rfl rfl) ?_
      try simp only [opv, n1, n2, n3, n4, Value.cells]
      refine g_off (yi (t := 10) rfl rfl) ?_
      try simp only [opv, n1, n2, n3, n4, Value.cells]
      refine g_off (yi (t := 10) rfl rfl) ?_
      try simp only [opv, n1, n2, n3, n4, Value.cells]
      refine g_un (yn (t := 16) rfl rfl) ?_
      try simp only [opv, n1, n2, n3, n4, Value.cells]
      refine g_un (yn (t := 16) rfl rfl) ?_
      try simp only [opv, n1, n2, n3, n4, Value.cells]
      refine g_un (yn (t := 16) rfl rfl) ?_
      try simp only [opv, n1, n2, n3, n4, Value.cells]
      refine g_un (yn (t := 16) rfl rfl) ?_
      try simp only [opv, n1, n2, n3, n4, Value.cells]
      refine g_un (yn (t := 16) rfl rfl) ?_
      try simp only [opv, n1, n2, n3, n4, Value.cells]
      refine g_un (yn (t := 16) rfl rfl) ?_
      try simp only [opv, n1, n2, n3, n4, Value.cells]
      refine g_off (yi (t := 10) rfl rfl) ?_
      try simp only [opv, n1, n2, n3, n4, Value.cells]
      first | refine s_go (s_pick_t) ?_ | refine s_go (s_pick_f) ?_
      try simp only [opv, n1, n2, n3, n4, Value.cells]
      refine s_go (s_assign) ?_
      try simp only [opv, n1, n2, n3, n4, Value.cells]
      refine x_nil ?_
      refine hK2 _ _ ?_
      refine x_ret ?_
      refine r_tmp rfl ?_
      first | exact ⟨congrArg Value.bool (by unfold overV; rw [decide_eq_true (show kn y 0 < kn x 0 by omega), Bool.true_or]), hS.ext_of⟩ | exact ⟨congrArg Value.bool (by unfold overV; rw [decide_eq_false (show ¬ kn y 0 < kn x 0 by omega), Bool.false_or, decide_eq_false (show ¬ kn x 0 = kn y 0 by omega), Bool.false_and]), hS.ext_of⟩ | exact ⟨congrArg Value.bool (by unfold overV; rw [decide_eq_false (show ¬ kn y 0 < kn x 0 by omega), Bool.false_or, decide_eq_true (show kn x 0 = kn y 0 by omega), Bool.true_and, ← decide_not]; exact decide_eq_decide.2 (by omega)), hS.ext_of⟩ | exact ⟨congrArg Value.bool (by unfold overV; rw [decide_eq_false (show ¬ kn y 0 < kn x 0 by omega), Bool.false_or, decide_eq_true (show kn x 0 = kn y 0 by omega), Bool.true_and]), hS.ext_of⟩ | exact ⟨congrArg Value.bool (by unfold overV; rw [decide_eq_false (show ¬ kn x 0 = kn y 0 by omega), Bool.false_and, Bool.or_false]; exact decide_eq_decide.2 (by omega)), hS.ext_of⟩
  ·
    try simp only [n3, n4]
    try simp only [decide_eq_true_eq, decide_eq_false_iff_not, Bool.not_eq_true', Bool.not_eq_false', Int.not_lt, Int.not_le, ne_eq, Decidable.not_not] at hp1
    first
    | (exfalso; omega)
    | skip
      refine g_on (yi (t := 10) rfl rfl) ?_
      first | refine s_go (m_fieldAddr Try.underlying112 (hi := ti53)) ?_ | refine s_go (m_fieldAddr_rd Try.underlying112 (hi := ti53) (hS := hS)) ?_ | refine s_go (m_fieldAddr_vec Try.underlying112 (hi := ti53) (hS := hS)) ?_
      try simp only [opv, n1, n2, n3, n4, Value.cells, Nat.zero_add, Nat.add_zero, List.getElem_toArray, List.getElem_cons_zero, List.getElem_cons_succ]
      refine g_on (yi (t := 10) rfl rfl) ?_
      first | refine s_go (m_load_obj Try.underlying53 (hS := hS) (hv := by first | rfl | exact zi_get rfl (by omega) | exact ic_get (by omega) | exact il_get (by omega))) ?_ | refine s_go (m_load_bx Try.underlying53 (hS := hS) (hv := by first | rfl | exact zi_get rfl (by omega) | exact ic_get (by omega) | exact il_get (by omega))) ?_ | refine s_go (m_load_rd Try.underlying53 (hS := hS) (hv := by first | rfl | exact zi_get rfl (by omega) | exact ic_get (by omega) | exact il_get (by omega))) ?_ | refine s_go (m_load_vec Try.underlying53 (hS := hS) (hv := by first | rfl | exact zi_get rfl (by omega) | exact ic_get (by omega) | exact il_get (by omega))) ?_
      try simp only [opv, n1, n2, n3, n4, Value.cells, List.getElem_toArray, List.getElem_cons_zero, List.getElem_cons_succ]
      rw [hx.e0]
      refine g_on (yi (t := 10) rfl rfl) ?_
      first | refine s_go (m_fieldAddr Try.underlying112 (hi := ti53)) ?_ | refine s_go (m_fieldAddr_rd Try.underlying112 (hi := ti53) (hS := hS)) ?_ | refine s_go (m_fieldAddr_vec Try.underlying112 (hi := ti53) (hS := hS)) ?_
      try simp only [opv, n1, n2, n3, n4, Value.cells, Nat.zero_add, Nat.add_zero, List.getElem_toArray, List.getElem_cons_zero, List.getElem_cons_succ]
      refine g_on (yi (t := 10) rfl rfl) ?_
      first | refine s_go (m_load_obj Try.underlying53 (hS := hS) (hv := by first | rfl | exact zi_get rfl (by omega) | exact ic_get (by omega) | exact il_get (by omega))) ?_ | refine s_go (m_load_bx Try.underlying53 (hS := hS) (hv := by first | rfl | exact zi_get rfl (by omega) | exact ic_get (by omega) | exact il_get (by omega))) ?_ | refine s_go (m_load_rd Try.underlying53 (hS := hS) (hv := by first | rfl | exact zi_get rfl (by omega) | exact ic_get (by omega) | exact il_get (by omega))) ?_ | refine s_go (m_load_vec Try.underlying53 (hS := hS) (hv := by first | rfl | exact zi_get rfl (by omega) | exact ic_get (by omega) | exact il_get (by omega))) ?_
      try simp only [opv, n1, n2, n3, n4, Value.cells, List.getElem_toArray, List.getElem_cons_zero, List.getElem_cons_succ]
      rw [hy.e0]
      refine g_on (yi (t := 10) rfl rfl) ?_
      refine s_go (s_eql) ?_
      try simp only [opv, n1, n2, n3, n4, Value.cells]
      refine g_on (yi (t := 10) rfl rfl) ?_
      refine s_go (s_move) ?_
      try simp only [opv, n1, n2, n3, n4, Value.cells]
      refine s_part 16 rfl (fun hp2 => ?_) (fun hp2 => ?_)
      ·
        try simp only [n3, n4]
        try simp only [decide_eq_true_eq, decide_eq_false_iff_not, Bool.not_eq_true', Bool.not_eq_false', Int.not_lt, Int.not_le, ne_eq, Decidable.not_not] at hp2
        first
        | (exfalso; omega)
        | skip
          refine g_on (yi (t := 16) rfl rfl) ?_
          first | refine s_go (m_fieldAddr Try.underlying112 (hi := ti70)) ?_ | refine s_go (m_fieldAddr_rd Try.underlying112 (hi := ti70) (hS := hS)) ?_ | refine s_go (m_fieldAddr_vec Try.underlying112 (hi := ti70) (hS := hS)) ?_
          try simp only [opv, n1, n2, n3, n4, Value.cells, Nat.zero_add, Nat.add_zero, List.getElem_toArray, List.getElem_cons_zero, List.getElem_cons_succ]
          refine g_on (yi (t := 16) rfl rfl) ?_
          first | refine s_go (m_load_row Try.underlying70 (hi := ti70) (hS := hS) (hfit := by first | omega | (rw [zi_size (by omega)]; first | rfl | decide) | (simp only [ic_size, List.length_map, List.size_toArray]; first | omega | decide) | rfl | (simp [*]; done) | (simp [*]; omega))) ?_ | refine s_go (m_loada_obj Try.underlying70 (hi := ti70) (hS := hS) (hfit := by first | omega | (rw [zi_size (by omega)]; first | rfl | decide) | (simp only [ic_size, List.length_map, List.size_toArray]; first | omega | decide) | rfl | (simp [*]; done) | (simp [*]; omega))) ?_ | refine s_go (m_loada_bx Try.underlying70 (hi := ti70) (hS := hS) (hfit := by first | omega | (rw [zi_size (by omega)]; first | rfl | decide) | (simp only [ic_size, List.length_map, List.size_toArray]; first | omega | decide) | rfl | (simp [*]; done) | (simp [*]; omega))) ?_ | refine s_go (m_loada_rd Try.underlying70 (hi := ti70) (hS := hS) (hfit := by first | omega | (rw [zi_size (by omega)]; first | rfl | decide) | (simp only [ic_size, List.length_map, List.size_toArray]; first | omega | decide) | rfl | (simp [*]; done) | (simp [*]; omega))) ?_ | refine s_go (m_loada_vec Try.underlying70 (hi := ti70) (hS := hS) (hfit := by first | omega | (rw [zi_size (by omega)]; first | rfl | decide) | (simp only [ic_size, List.length_map, List.size_toArray]; first | omega | decide) | rfl | (simp [*]; done) | (simp [*]; omega))) ?_
          try simp only [opv, n1, n2, n3, n4, Value.cells, List.getElem_toArray, List.getElem_cons_zero, List.getElem_cons_succ]
          rw [val_text hxl]
          refine g_on (yi (t := 16) rfl rfl) ?_
          first | refine s_go (m_fieldAddr Try.underlying112 (hi := ti70)) ?_ | refine s_go (m_fieldAddr_rd Try.underlying112 (hi := ti70) (hS := hS)) ?_ | refine s_go (m_fieldAddr_vec Try.underlying112 (hi := ti70) (hS := hS)) ?_
          try simp only [opv, n1, n2, n3, n4, Value.cells, Nat.zero_add, Nat.add_zero, List.getElem_toArray, List.getElem_cons_zero, List.getElem_cons_succ]
          refine g_on (yi (t := 16) rfl rfl) ?_
          first | refine s_go (m_load_row Try.underlying70 (hi := ti70) (hS := hS) (hfit := by first | omega | (rw [zi_size (by omega)]; first | rfl | decide) | (simp only [ic_size, List.length_map, List.size_toArray]; first | omega | decide) | rfl | (simp [*]; done) | (simp [*]; omega))) ?_ | refine s_go (m_loada_obj Try.underlying70 (hi := ti70) (hS := hS) (hfit := by first | omega | (rw [zi_size (by omega)]; first | rfl | decide) | (simp only [ic_size, List.length_map, List.size_toArray]; first | omega | decide) | rfl | (simp [*]; done) | (simp [*]; omega))) ?_ | refine s_go (m_loada_bx Try.underlying70 (hi := ti70) (hS := hS) (hfit := by first | omega | (rw [zi_size (by omega)]; first | rfl | decide) | (simp only [ic_size, List.length_map, List.size_toArray]; first | omega | decide) | rfl | (simp [*]; done) | (simp [*]; omega))) ?_ | refine s_go (m_loada_rd Try.underlying70 (hi := ti70) (hS := hS) (hfit := by first | omega | (rw [zi_size (by omega)]; first | rfl | decide) | (simp only [ic_size, List.length_map, List.size_toArray]; first | omega | decide) | rfl | (simp [*]; done) | (simp [*]; omega))) ?_ | refine s_go (m_loada_vec Try.underlying70 (hi := ti70) (hS := hS) (hfit := by first | omega | (rw [zi_size (by omega)]; first | rfl | decide) | (simp only [ic_size, List.length_map, List.size_toArray]; first | omega | decide) | rfl | (simp [*]; done) | (simp [*]; omega))) ?_
          try simp only [opv, n1, n2, n3, n4, Value.cells, List.getElem_toArray, List.getElem_cons_zero, List.getElem_cons_succ]
          rw [val_text hyl]
          refine g_on (yi (t := 16) rfl rfl) ?_
          refine s_call en186 ?_
          try simp only [opv, n1, n2, n3, n4, Value.cells, List.map_toArray, List.map_cons, List.map_nil, List.append_toArray, List.cons_append, List.nil_append, Array.append_empty]
          refine CallR.mono (c_nameLess _ _ hxt hyt hxb hyb _) ?_
          rintro _ w3 ⟨rfl, hE3⟩
          replace hS := hS.ext hE3
          try simp only [opv, n1, n2, n3, n4, Value.cells]
          refine g_on (yi (t := 16) rfl rfl) ?_
          refine s_go (s_not) ?_
          try simp only [opv, n1, n2, n3, n4, Value.cells]
          refine g_on (yi (t := 10) rfl rfl) ?_
          first | refine s_go (s_pick_t) ?_ | refine s_go (s_pick_f) ?_
          try simp only [opv, n1, n2, n3, n4, Value.cells]
          first | refine s_go (s_pick_t) ?_ | refine s_go (s_pick_f) ?_
          try simp only [opv, n1, n2, n3, n4, Value.cells]
          refine s_go (s_assign) ?_
          try simp only [opv, n1, n2, n3, n4, Value.cells]
          refine x_nil ?_
          refine hK2 _ _ ?_
          refine x_ret ?_
          refine r_tmp rfl ?_
          first | exact ⟨congrArg Value.bool (by unfold overV; rw [decide_eq_true (show kn y 0 < kn x 0 by omega), Bool.true_or]), hS.ext_of⟩ | exact ⟨congrArg Value.bool (by unfold overV; rw [decide_eq_false (show ¬ kn y 0 < kn x 0 by omega), Bool.false_or, decide_eq_false (show ¬ kn x 0 = kn y 0 by omega), Bool.false_and]), hS.ext_of⟩ | exact ⟨congrArg Value.bool (by unfold overV; rw [decide_eq_false (show ¬ kn y 0 < kn x 0 by omega), Bool.false_or, decide_eq_true (show kn x 0 = kn y 0 by omega), Bool.true_and, ← decide_not]; exact decide_eq_decide.2 (by omega)), hS.ext_of⟩ | exact ⟨congrArg Value.bool (by unfold overV; rw [decide_eq_false (show ¬ kn y 0 < kn x 0 by omega), Bool.false_or, decide_eq_true (show kn x 0 = kn y 0 by omega), Bool.true_and]), hS.ext_of⟩ | exact ⟨congrArg Value.bool (by unfold overV; rw [decide_eq_false (show ¬ kn x 0 = kn y 0 by omega), Bool.false_and, Bool.or_false]; exact decide_eq_decide.2 (by omega)), hS.ext_of⟩
      ·
        try simp only [n3, n4]
        try simp only [decide_eq_true_eq, decide_eq_false_iff_not, Bool.not_eq_true', Bool.not_eq_false', Int.not_lt, Int.not_le, ne_eq, Decidable.not_not] at hp2
        first
        | (exfalso; omega)
        | skip
          refine g_off (yi (t := 16) rfl rfl) ?_
          try simp only [opv, n1, n2, n3, n4, Value.cells]
          refine g_off (yi (t := 16) rfl rfl) ?_
          try simp only [opv, n1, n2, n3, n4, Value.cells]
          refine g_off (yi (t := 16) rfl rfl) ?_
          try simp only [opv, n1, n2, n3, n4, Value.cells]
          refine g_off (yi (t := 16) rfl rfl) ?_
          try simp only [opv, n1, n2, n3, n4, Value.cells]
          refine g_off (yi (t := 16) rfl rfl) ?_
          try simp only [opv, n1, n2, n3, n4, Value.cells]
          refine g_off (yi (t := 16) rfl rfl) ?_
          try simp only [opv, n1, n2, n3, n4, Value.cells]
          refine g_on (yi (t := 10) rfl rfl) ?_
          first | refine s_go (s_pick_t) ?_ | refine s_go (s_pick_f) ?_
          try simp only [opv, n1, n2, n3, n4, Value.cells]
          first | refine s_go (s_pick_t) ?_ | refine s_go (s_pick_f) ?_
          try simp only [opv, n1, n2, n3, n4, Value.cells]
          refine s_go (s_assign) ?_
          try simp only [opv, n1, n2, n3, n4, Value.cells]
          refine x_nil ?_
          refine hK2 _ _ ?_
          refine x_ret ?_
          refine r_tmp rfl ?_
          first | exact ⟨congrArg Value.bool (by unfold overV; rw [decide_eq_true (show kn y 0 < kn x 0 by omega), Bool.true_or]), hS.ext_of⟩ | exact ⟨congrArg Value.bool (by unfold overV; rw [decide_eq_false (show ¬ kn y 0 < kn x 0 by omega), Bool.false_or, decide_eq_false (show ¬ kn x 0 = kn y 0 by omega), Bool.false_and]), hS.ext_of⟩ | exact ⟨congrArg Value.bool (by unfold overV; rw [decide_eq_false (show ¬ kn y 0 < kn x 0 by omega), Bool.false_or, decide_eq_true (show kn x 0 = kn y 0 by omega), Bool.true_and, ← decide_not]; exact decide_eq_decide.2 (by omega)), hS.ext_of⟩ | exact ⟨congrArg Value.bool (by unfold overV; rw [decide_eq_false (show ¬ kn y 0 < kn x 0 by omega), Bool.false_or, decide_eq_true (show kn x 0 = kn y 0 by omega), Bool.true_and]), hS.ext_of⟩ | exact ⟨congrArg Value.bool (by unfold overV; rw [decide_eq_false (show ¬ kn x 0 = kn y 0 by omega), Bool.false_and, Bool.or_false]; exact decide_eq_decide.2 (by omega)), hS.ext_of⟩

theorem c_ref09Over (x y : List Int) (hx : ValOk x) (hy : ValOk y)  (w0 : World) :
    CallR Try.prog 101 #[.agg (VA x), .agg (VA y)] w0 fun v w' => v = .bool (overV x y) ∧ Ext w0 w' := by
  have hS : St NoB w0 w0 [] := St.start w0
  refine c_enter (l := [.agg (VA x), .agg (VA y), undef, undef, undef, undef, undef, undef, undef, undef, undef, undef, undef, undef, undef, undef, undef, undef, undef, undef, undef, undef]) Try.func101 rfl (by simp only [Try.ntmps101, List.size_toArray, List.length_cons, List.length_nil, Nat.reduceAdd, Nat.reduceSub, Array.replicate_succ, Array.replicate_zero, List.push_toArray, List.append_toArray, List.nil_append, List.cons_append]) ?_
  refine x_seq fun K1 hK1 => ?_
  refine x_region ?_
  have hxl := hx.len
  have hyl := hy.len
  have hxt := vtext_len hxl
  have hyt := vtext_len hyl
  have hxb := hx.text
  have hyb := hy.text
  refine m_box hS (fun w1 g1 hS => ?_)
  try simp only [opv, n1, n2, n3, n4, Value.cells, Array.toArray_toList] at hS ⊢
  refine m_box hS (fun w2 g2 hS => ?_)
  try simp only [opv, n1, n2, n3, n4, Value.cells, Array.toArray_toList] at hS ⊢
  refine s_go (s_assign) ?_
  try simp only [opv, n1, n2, n3, n4, Value.cells]
  refine x_nil ?_
  refine hK1 _ _ ?_
  refine x_seq fun K2 hK2 => ?_
  refine x_seq fun K3 hK3 => ?_
  refine x_region ?_
  first | refine s_go (m_fieldAddr Try.underlying112 (hi := ti53)) ?_ | refine s_go (m_fieldAddr_rd Try.underlying112 (hi := ti53) (hS := hS)) ?_ | refine s_go (m_fieldAddr_vec Try.underlying112 (hi := ti53) (hS := hS)) ?_
  try simp only [opv, n1, n2, n3, n4, Value.cells, Nat.zero_add, Nat.add_zero, List.getElem_toArray, List.getElem_cons_zero, List.getElem_cons_succ]
  first | refine s_go (m_load_obj Try.underlying53 (hS := hS) (hv := by first | rfl | exact zi_get rfl (by omega) | exact ic_get (by omega) | exact il_get (by omega))) ?_ | refine s_go (m_load_bx Try.underlying53 (hS := hS) (hv := by first | rfl | exact zi_get rfl (by omega) | exact ic_get (by omega) | exact il_get (by omega))) ?_ | refine s_go (m_load_rd Try.underlying53 (hS := hS) (hv := by first | rfl | exact zi_get rfl (by omega) | exact ic_get (by omega) | exact il_get (by omega))) ?_ | refine s_go (m_load_vec Try.underlying53 (hS := hS) (hv := by first | rfl | exact zi_get rfl (by omega) | exact ic_get (by omega) | exact il_get (by omega))) ?_
  try simp only [opv, n1, n2, n3, n4, Value.cells, List.getElem_toArray, List.getElem_cons_zero, List.getElem_cons_succ]
  rw [hx.e0]
  first | refine s_go (m_fieldAddr Try.underlying112 (hi := ti53)) ?_ | refine s_go (m_fieldAddr_rd Try.underlying112 (hi := ti53) (hS := hS)) ?_ | refine s_go (m_fieldAddr_vec Try.underlying112 (hi := ti53) (hS := hS)) ?_
  try simp only [opv, n1, n2, n3, n4, Value.cells, Nat.zero_add, Nat.add_zero, List.getElem_toArray, List.getElem_cons_zero, List.getElem_cons_succ]
  first | refine s_go (m_load_obj Try.underlying53 (hS := hS) (hv := by first | rfl | exact zi_get rfl (by omega) | exact ic_get (by omega) | exact il_get (by omega))) ?_ | refine s_go (m_load_bx Try.underlying53 (hS := hS) (hv := by first | rfl | exact zi_get rfl (by omega) | exact ic_get (by omega) | exact il_get (by omega))) ?_ | refine s_go (m_load_rd Try.underlying53 (hS := hS) (hv := by first | rfl | exact zi_get rfl (by omega) | exact ic_get (by omega) | exact il_get (by omega))) ?_ | refine s_go (m_load_vec Try.underlying53 (hS := hS) (hv := by first | rfl | exact zi_get rfl (by omega) | exact ic_get (by omega) | exact il_get (by omega))) ?_
  try simp only [opv, n1, n2, n3, n4, Value.cells, List.getElem_toArray, List.getElem_cons_zero, List.getElem_cons_succ]
  rw [hy.e0]
  refine s_go (s_neq) ?_
  try simp only [opv, n1, n2, n3, n4, Value.cells]
  refine x_nil ?_
  refine hK3 _ _ ?_
  refine x_cond (ht := fun hc1 => ?_) (hf := fun hc1 => ?_)
  ·
    try simp only [decide_eq_true_eq, decide_eq_false_iff_not, Bool.not_eq_true', Bool.not_eq_false', Int.not_lt, Int.not_le, ne_eq, Decidable.not_not, bne_iff_ne, beq_iff_eq, not_true_eq_false, not_false_eq_true] at hc1
    first
    | (exfalso; omega)
    | skip
      refine x_seq fun K4 hK4 => ?_
      refine x_region ?_
      first | refine s_go (m_fieldAddr Try.underlying112 (hi := ti53)) ?_ | refine s_go (m_fieldAddr_rd Try.underlying112 (hi := ti53) (hS := hS)) ?_ | refine s_go (m_fieldAddr_vec Try.underlying112 (hi := ti53) (hS := hS)) ?_
      try simp only [opv, n1, n2, n3, n4, Value.cells, Nat.zero_add, Nat.add_zero, List.getElem_toArray, List.getElem_cons_zero, List.getElem_cons_succ]
      first | refine s_go (m_load_obj Try.underlying53 (hS := hS) (hv := by first | rfl | exact zi_get rfl (by omega) | exact ic_get (by omega) | exact il_get (by omega))) ?_ | refine s_go (m_load_bx Try.underlying53 (hS := hS) (hv := by first | rfl | exact zi_get rfl (by omega) | exact ic_get (by omega) | exact il_get (by omega))) ?_ | refine s_go (m_load_rd Try.underlying53 (hS := hS) (hv := by first | rfl | exact zi_get rfl (by omega) | exact ic_get (by omega) | exact il_get (by omega))) ?_ | refine s_go (m_load_vec Try.underlying53 (hS := hS) (hv := by first | rfl | exact zi_get rfl (by omega) | exact ic_get (by omega) | exact il_get (by omega))) ?_
      try simp only [opv, n1, n2, n3, n4, Value.cells, List.getElem_toArray, List.getElem_cons_zero, List.getElem_cons_succ]
      rw [hx.e0]
      first | refine s_go (m_fieldAddr Try.underlying112 (hi := ti53)) ?_ | refine s_go (m_fieldAddr_rd Try.underlying112 (hi := ti53) (hS := hS)) ?_ | refine s_go (m_fieldAddr_vec Try.underlying112 (hi := ti53) (hS := hS)) ?_
      try simp only [opv, n1, n2, n3, n4, Value.cells, Nat.zero_add, Nat.add_zero, List.getElem_toArray, List.getElem_cons_zero, List.getElem_cons_succ]
      first | refine s_go (m_load_obj Try.underlying53 (hS := hS) (hv := by first | rfl | exact zi_get rfl (by omega) | exact ic_get (by omega) | exact il_get (by omega))) ?_ | refine s_go (m_load_bx Try.underlying53 (hS := hS) (hv := by first | rfl | exact zi_get rfl (by omega) | exact ic_get (by omega) | exact il_get (by omega))) ?_ | refine s_go (m_load_rd Try.underlying53 (hS := hS) (hv := by first | rfl | exact zi_get rfl (by omega) | exact ic_get (by omega) | exact il_get (by omega))) ?_ | refine s_go (m_load_vec Try.underlying53 (hS := hS) (hv := by first | rfl | exact zi_get rfl (by omega) | exact ic_get (by omega) | exact il_get (by omega))) ?_
      try simp only [opv, n1, n2, n3, n4, Value.cells, List.getElem_toArray, List.getElem_cons_zero, List.getElem_cons_succ]
      rw [hy.e0]
      refine s_go (s_gtr) ?_
      try simp only [opv, n1, n2, n3, n4, Value.cells]
      refine s_go (s_assign) ?_
      try simp only [opv, n1, n2, n3, n4, Value.cells]
      refine x_nil ?_
      refine hK4 _ _ ?_
      refine x_ret ?_
      refine r_tmp rfl ?_
      first | exact ⟨congrArg Value.bool (by unfold overV; rw [decide_eq_true (show kn y 0 < kn x 0 by omega), Bool.true_or]), hS.ext_of⟩ | exact ⟨congrArg Value.bool (by unfold overV; rw [decide_eq_false (show ¬ kn y 0 < kn x 0 by omega), Bool.false_or, decide_eq_false (show ¬ kn x 0 = kn y 0 by omega), Bool.false_and]), hS.ext_of⟩ | exact ⟨congrArg Value.bool (by unfold overV; rw [decide_eq_false (show ¬ kn y 0 < kn x 0 by omega), Bool.false_or, decide_eq_true (show kn x 0 = kn y 0 by omega), Bool.true_and, ← decide_not]; exact decide_eq_decide.2 (by omega)), hS.ext_of⟩ | exact ⟨congrArg Value.bool (by unfold overV; rw [decide_eq_false (show ¬ kn y 0 < kn x 0 by omega), Bool.false_or, decide_eq_true (show kn x 0 = kn y 0 by omega), Bool.true_and]), hS.ext_of⟩ | exact ⟨congrArg Value.bool (by unfold overV; rw [decide_eq_false (show ¬ kn x 0 = kn y 0 by omega), Bool.false_and, Bool.or_false]; exact decide_eq_decide.2 (by omega)), hS.ext_of⟩
  ·
    try simp only [decide_eq_true_eq, decide_eq_false_iff_not, Bool.not_eq_true', Bool.not_eq_false', Int.not_lt, Int.not_le, ne_eq, Decidable.not_not, bne_iff_ne, beq_iff_eq, not_true_eq_false, not_false_eq_true] at hc1
    first
    | (exfalso; omega)
    | skip
      refine x_skip ?_
      refine hK2 _ _ ?_
      refine x_seq fun K5 hK5 => ?_
      refine x_quiet (by kernel_rfl) (by kernel_rfl) hS ?_
      first | refine q_go (fun w hS => m_fieldAddr Try.underlying112 (hi := ti70)) ?_ | refine q_go (fun w hS => m_fieldAddr_rd Try.underlying112 (hi := ti70) (hS := hS)) ?_ | refine q_go (fun w hS => m_fieldAddr_vec Try.underlying112 (hi := ti70) (hS := hS)) ?_
      try simp only [opv, n1, n2, n3, n4, Value.cells, Nat.zero_add, Nat.add_zero, List.getElem_toArray, List.getElem_cons_zero, List.getElem_cons_succ]
      first | refine q_go (fun w hS => m_load_row Try.underlying70 (hi := ti70) (hS := hS) (hfit := by first | omega | (rw [zi_size (by omega)]; first | rfl | decide) | (simp only [ic_size, List.length_map, List.size_toArray]; first | omega | decide) | rfl | (simp [*]; done) | (simp [*]; omega))) ?_ | refine q_go (fun w hS => m_loada_obj Try.underlying70 (hi := ti70) (hS := hS) (hfit := by first | omega | (rw [zi_size (by omega)]; first | rfl | decide) | (simp only [ic_size, List.length_map, List.size_toArray]; first | omega | decide) | rfl | (simp [*]; done) | (simp [*]; omega))) ?_ | refine q_go (fun w hS => m_loada_bx Try.underlying70 (hi := ti70) (hS := hS) (hfit := by first | omega | (rw [zi_size (by omega)]; first | rfl | decide) | (simp only [ic_size, List.length_map, List.size_toArray]; first | omega | decide) | rfl | (simp [*]; done) | (simp [*]; omega))) ?_ | refine q_go (fun w hS => m_loada_rd Try.underlying70 (hi := ti70) (hS := hS) (hfit := by first | omega | (rw [zi_size (by omega)]; first | rfl | decide) | (simp only [ic_size, List.length_map, List.size_toArray]; first | omega | decide) | rfl | (simp [*]; done) | (simp [*]; omega))) ?_ | refine q_go (fun w hS => m_loada_vec Try.underlying70 (hi := ti70) (hS := hS) (hfit := by first | omega | (rw [zi_size (by omega)]; first | rfl | decide) | (simp only [ic_size, List.length_map, List.size_toArray]; first | omega | decide) | rfl | (simp [*]; done) | (simp [*]; omega))) ?_
      try simp only [opv, n1, n2, n3, n4, Value.cells, List.getElem_toArray, List.getElem_cons_zero, List.getElem_cons_succ]
      rw [val_text hxl]
      apply q_call en171
      case H =>
        intro w hS
        try simp only [opv, n1, n2, n3, n4, List.map_toArray, List.map_cons, List.map_nil, List.append_toArray, List.cons_append, List.nil_append, Array.append_empty]
        refine CallR.mono (c_ref06Number _ hxt hxb _) ?_
        rintro _ w1 ⟨rfl, hE⟩; exact ⟨rfl, hS.ext hE⟩
      try simp only [opv, n1, n2, n3, n4, Value.cells]
      first | refine q_go (fun w hS => m_fieldAddr Try.underlying112 (hi := ti70)) ?_ | refine q_go (fun w hS => m_fieldAddr_rd Try.underlying112 (hi := ti70) (hS := hS)) ?_ | refine q_go (fun w hS => m_fieldAddr_vec Try.underlying112 (hi := ti70) (hS := hS)) ?_
      try simp only [opv, n1, n2, n3, n4, Value.cells, Nat.zero_add, Nat.add_zero, List.getElem_toArray, List.getElem_cons_zero, List.getElem_cons_succ]
      first | refine q_go (fun w hS => m_load_row Try.underlying70 (hi := ti70) (hS := hS) (hfit := by first | omega | (rw [zi_size (by omega)]; first | rfl | decide) | (simp only [ic_size, List.length_map, List.size_toArray]; first | omega | decide) | rfl | (simp [*]; done) | (simp [*]; omega))) ?_ | refine q_go (fun w hS => m_loada_obj Try.underlying70 (hi := ti70) (hS := hS) (hfit := by first | omega | (rw [zi_size (by omega)]; first | rfl | decide) | (simp only [ic_size, List.length_map, List.size_toArray]; first | omega | decide) | rfl | (simp [*]; done) | (simp [*]; omega))) ?_ | refine q_go (fun w hS => m_loada_bx Try.underlying70 (hi := ti70) (hS := hS) (hfit := by first | omega | (rw [zi_size (by omega)]; first | rfl | decide) | (simp only [ic_size, List.length_map, List.size_toArray]; first | omega | decide) | rfl | (simp [*]; done) | (simp [*]; omega))) ?_ | refine q_go (fun w hS => m_loada_rd Try.underlying70 (hi := ti70) (hS := hS) (hfit := by first | omega | (rw [zi_size (by omega)]; first | rfl | decide) | (simp only [ic_size, List.length_map, List.size_toArray]; first | omega | decide) | rfl | (simp [*]; done) | (simp [*]; omega))) ?_ | refine q_go (fun w hS => m_loada_vec Try.underlying70 (hi := ti70) (hS := hS) (hfit := by first | omega | (rw [zi_size (by omega)]; first | rfl | decide) | (simp only [ic_size, List.length_map, List.size_toArray]; first | omega | decide) | rfl | (simp [*]; done) | (simp [*]; omega))) ?_
      try simp only [opv, n1, n2, n3, n4, Value.cells, List.getElem_toArray, List.getElem_cons_zero, List.getElem_cons_succ]
      rw [val_text hyl]
      apply q_call en171
      case H =>
        intro w hS
        try simp only [opv, n1, n2, n3, n4, List.map_toArray, List.map_cons, List.map_nil, List.append_toArray, List.cons_append, List.nil_append, Array.append_empty]
        refine CallR.mono (c_ref06Number _ hyt hyb _) ?_
        rintro _ w1 ⟨rfl, hE⟩; exact ⟨rfl, hS.ext hE⟩
      try simp only [opv, n1, n2, n3, n4, Value.cells]
      refine q_go (fun w hS => s_geq) ?_
      try simp only [opv, n1, n2, n3, n4, Value.cells]
      refine q_go (fun w hS => s_assign) ?_
      try simp only [opv, n1, n2, n3, n4, Value.cells]
      clear hS
      refine q_nil fun w3 hS => ?_
      refine hK5 _ _ ?_
      refine x_ret ?_
      refine r_tmp rfl ?_
      first | exact ⟨congrArg Value.bool (by unfold overV; rw [decide_eq_true (show kn y 0 < kn x 0 by omega), Bool.true_or]), hS.ext_of⟩ | exact ⟨congrArg Value.bool (by unfold overV; rw [decide_eq_false (show ¬ kn y 0 < kn x 0 by omega), Bool.false_or, decide_eq_false (show ¬ kn x 0 = kn y 0 by omega), Bool.false_and]), hS.ext_of⟩ | exact ⟨congrArg Value.bool (by unfold overV; rw [decide_eq_false (show ¬ kn y 0 < kn x 0 by omega), Bool.false_or, decide_eq_true (show kn x 0 = kn y 0 by omega), Bool.true_and, ← decide_not]; exact decide_eq_decide.2 (by omega)), hS.ext_of⟩ | exact ⟨congrArg Value.bool (by unfold overV; rw [decide_eq_false (show ¬ kn y 0 < kn x 0 by omega), Bool.false_or, decide_eq_true (show kn x 0 = kn y 0 by omega), Bool.true_and]), hS.ext_of⟩ | exact ⟨congrArg Value.bool (by unfold overV; rw [decide_eq_false (show ¬ kn x 0 = kn y 0 by omega), Bool.false_and, Bool.or_false]; exact decide_eq_decide.2 (by omega)), hS.ext_of⟩

theorem c_atomMore (x y : List Int) (hx : ValOk x) (hy : ValOk y)  (w0 : World) :
    CallR Try.prog 102 #[.agg (VA x), .agg (VA y)] w0 fun v w' => v = .agg (VA (moreV x y)) ∧ Ext w0 w' := by
  have hS : St NoB w0 w0 [] := St.start w0
  refine c_enter (l := [.agg (VA x), .agg (VA y), undef, undef, undef, undef, undef, undef, undef, undef]) Try.func102 rfl (by simp only [Try.ntmps102, List.size_toArray, List.length_cons, List.length_nil, Nat.reduceAdd, Nat.reduceSub, Array.replicate_succ, Array.replicate_zero, List.push_toArray, List.append_toArray, List.nil_append, List.cons_append]) ?_
  refine x_seq fun K1 hK1 => ?_
  refine x_region ?_
  have hxl := hx.len
  have hyl := hy.len
  have hxt := vtext_len hxl
  have hyt := vtext_len hyl
  have hxb := hx.text
  have hyb := hy.text
  have h0l : (List.replicate 9 (0 : Int)).length = 9 := rfl
  refine m_box hS (fun w1 g1 hS => ?_)
  try simp only [opv, n1, n2, n3, n4, Value.cells, Array.toArray_toList] at hS ⊢
  refine m_box hS (fun w2 g2 hS => ?_)
  try simp only [opv, n1, n2, n3, n4, Value.cells, Array.toArray_toList] at hS ⊢
  refine m_alloc ti112 hS (fun w3 g3 hS => ?_)
  try simp only [opv, n1, n2, n3, n4, Value.cells, Array.toArray_toList] at hS ⊢
  have hS : St NoB w0 w3 [.obj g3 (.cells (VA (List.replicate 9 0)) 112 (0, 0)), .obj g2 (.cells (VA y) 112 (0, 0)), .obj g1 (.cells (VA x) 112 (0, 0))] := hS
  refine x_nil ?_
  refine hK1 _ _ ?_
  refine x_seq fun K2 hK2 => ?_
  refine x_seq fun K3 hK3 => ?_
  refine x_region ?_
  first | refine s_go (m_load_row Try.underlying112 (hi := ti112) (hS := hS) (hfit := by first | omega | (rw [zi_size (by omega)]; first | rfl | decide) | (simp only [ic_size, List.length_map, List.size_toArray]; first | omega | decide) | rfl | (simp [*]; done) | (simp [*]; omega))) ?_ | refine s_go (m_loada_obj Try.underlying112 (hi := ti112) (hS := hS) (hfit := by first | omega | (rw [zi_size (by omega)]; first | rfl | decide) | (simp only [ic_size, List.length_map, List.size_toArray]; first | omega | decide) | rfl | (simp [*]; done) | (simp [*]; omega))) ?_ | refine s_go (m_loada_bx Try.underlying112 (hi := ti112) (hS := hS) (hfit := by first | omega | (rw [zi_size (by omega)]; first | rfl | decide) | (simp only [ic_size, List.length_map, List.size_toArray]; first | omega | decide) | rfl | (simp [*]; done) | (simp [*]; omega))) ?_ | refine s_go (m_loada_rd Try.underlying112 (hi := ti112) (hS := hS) (hfit := by first | omega | (rw [zi_size (by omega)]; first | rfl | decide) | (simp only [ic_size, List.length_map, List.size_toArray]; first | omega | decide) | rfl | (simp [*]; done) | (simp [*]; omega))) ?_ | refine s_go (m_loada_vec Try.underlying112 (hi := ti112) (hS := hS) (hfit := by first | omega | (rw [zi_size (by omega)]; first | rfl | decide) | (simp only [ic_size, List.length_map, List.size_toArray]; first | omega | decide) | rfl | (simp [*]; done) | (simp [*]; omega))) ?_
  try simp only [opv, n1, n2, n3, n4, Value.cells, List.getElem_toArray, List.getElem_cons_zero, List.getElem_cons_succ]
  first | refine s_go (m_load_row Try.underlying112 (hi := ti112) (hS := hS) (hfit := by first | omega | (rw [zi_size (by omega)]; first | rfl | decide) | (simp only [ic_size, List.length_map, List.size_toArray]; first | omega | decide) | rfl | (simp [*]; done) | (simp [*]; omega))) ?_ | refine s_go (m_loada_obj Try.underlying112 (hi := ti112) (hS := hS) (hfit := by first | omega | (rw [zi_size (by omega)]; first | rfl | decide) | (simp only [ic_size, List.length_map, List.size_toArray]; first | omega | decide) | rfl | (simp [*]; done) | (simp [*]; omega))) ?_ | refine s_go (m_loada_bx Try.underlying112 (hi := ti112) (hS := hS) (hfit := by first | omega | (rw [zi_size (by omega)]; first | rfl | decide) | (simp only [ic_size, List.length_map, List.size_toArray]; first | omega | decide) | rfl | (simp [*]; done) | (simp [*]; omega))) ?_ | refine s_go (m_loada_rd Try.underlying112 (hi := ti112) (hS := hS) (hfit := by first | omega | (rw [zi_size (by omega)]; first | rfl | decide) | (simp only [ic_size, List.length_map, List.size_toArray]; first | omega | decide) | rfl | (simp [*]; done) | (simp [*]; omega))) ?_ | refine s_go (m_loada_vec Try.underlying112 (hi := ti112) (hS := hS) (hfit := by first | omega | (rw [zi_size (by omega)]; first | rfl | decide) | (simp only [ic_size, List.length_map, List.size_toArray]; first | omega | decide) | rfl | (simp [*]; done) | (simp [*]; omega))) ?_
  try simp only [opv, n1, n2, n3, n4, Value.cells, List.getElem_toArray, List.getElem_cons_zero, List.getElem_cons_succ]
  refine s_call en100 ?_
  try simp only [opv, n1, n2, n3, n4, Value.cells, List.map_toArray, List.map_cons, List.map_nil, List.append_toArray, List.cons_append, List.nil_append, Array.append_empty]
  refine CallR.mono (c_atomOver x y hx hy _) ?_
  rintro _ w4 ⟨rfl, hE4⟩
  replace hS := hS.ext hE4
  try simp only [opv, n1, n2, n3, n4, Value.cells]
  refine x_nil ?_
  refine hK3 _ _ ?_
  refine x_cond (ht := fun hc1 => ?_) (hf := fun hc1 => ?_)
  ·
    try simp only [decide_eq_true_eq, decide_eq_false_iff_not, Bool.not_eq_true', Bool.not_eq_false', Int.not_lt, Int.not_le, ne_eq, Decidable.not_not, bne_iff_ne, beq_iff_eq, not_true_eq_false, not_false_eq_true] at hc1
    have hM : moreV x y = x := by simp [moreV, hc1]
    refine x_seq fun K4 hK4 => ?_
    refine x_region ?_
    first | refine s_go (m_load_row Try.underlying112 (hi := ti112) (hS := hS) (hfit := by first | omega | (rw [zi_size (by omega)]; first | rfl | decide) | (simp only [ic_size, List.length_map, List.size_toArray]; first | omega | decide) | rfl | (simp [*]; done) | (simp [*]; omega))) ?_ | refine s_go (m_loada_obj Try.underlying112 (hi := ti112) (hS := hS) (hfit := by first | omega | (rw [zi_size (by omega)]; first | rfl | decide) | (simp only [ic_size, List.length_map, List.size_toArray]; first | omega | decide) | rfl | (simp [*]; done) | (simp [*]; omega))) ?_ | refine s_go (m_loada_bx Try.underlying112 (hi := ti112) (hS := hS) (hfit := by first | omega | (rw [zi_size (by omega)]; first | rfl | decide) | (simp only [ic_size, List.length_map, List.size_toArray]; first | omega | decide) | rfl | (simp [*]; done) | (simp [*]; omega))) ?_ | refine s_go (m_loada_rd Try.underlying112 (hi := ti112) (hS := hS) (hfit := by first | omega | (rw [zi_size (by omega)]; first | rfl | decide) | (simp only [ic_size, List.length_map, List.size_toArray]; first | omega | decide) | rfl | (simp [*]; done) | (simp [*]; omega))) ?_ | refine s_go (m_loada_vec Try.underlying112 (hi := ti112) (hS := hS) (hfit := by first | omega | (rw [zi_size (by omega)]; first | rfl | decide) | (simp only [ic_size, List.length_map, List.size_toArray]; first | omega | decide) | rfl | (simp [*]; done) | (simp [*]; omega))) ?_
    try simp only [opv, n1, n2, n3, n4, Value.cells, List.getElem_toArray, List.getElem_cons_zero, List.getElem_cons_succ]
    first | refine m_store_obj ti112 (hS := hS) (hc := by first | exact zi_set rfl (by omega) | exact zi_whole (by omega) (by omega) | (first | exact splice_ic (by first | omega | (simp [*]; done) | (simp [*]; omega)) | exact splice_il (by first | omega | (simp [*]; done) | (simp [*]; omega)) | exact splice_whole (by first | (simp [opv, Value.cells, *]; done) | rfl) | (simp only [opv, n1, n2, Value.cells, splice, List.take_succ_cons, List.take_zero, List.drop_succ_cons, List.drop_zero, List.length_cons, List.length_nil, Nat.zero_add, Nat.reduceAdd, List.append_assoc, List.cons_append, List.nil_append]; rfl))) (hv := by first | rfl | (show (zi _ _).toArray.size = _; rw [zi_size (by omega)]; rfl) | (simp [opv, Value.cells, *]; done)) (hfit := by first | omega | (rw [zi_size (by omega)]; first | rfl | decide) | (simp only [ic_size, List.length_map, List.size_toArray]; first | omega | decide) | rfl | (simp [*]; done) | (simp [*]; omega)) (h1 := by first | exact zi_one _ _ | exact ic_one _ _ | simp [opv, Value.cells, Value.oneCell']) (h := fun w5 hS => ?_) | refine m_store_vec ti112 (hS := hS) (hc := by first | exact zi_set rfl (by omega) | exact zi_whole (by omega) (by omega) | (first | exact splice_ic (by first | omega | (simp [*]; done) | (simp [*]; omega)) | exact splice_il (by first | omega | (simp [*]; done) | (simp [*]; omega)) | exact splice_whole (by first | (simp [opv, Value.cells, *]; done) | rfl) | (simp only [opv, n1, n2, Value.cells, splice, List.take_succ_cons, List.take_zero, List.drop_succ_cons, List.drop_zero, List.length_cons, List.length_nil, Nat.zero_add, Nat.reduceAdd, List.append_assoc, List.cons_append, List.nil_append]; rfl))) (hv := by first | rfl | (show (zi _ _).toArray.size = _; rw [zi_size (by omega)]; rfl) | (simp [opv, Value.cells, *]; done)) (hfit := by first | omega | (rw [zi_size (by omega)]; first | rfl | decide) | (simp only [ic_size, List.length_map, List.size_toArray]; first | omega | decide) | rfl | (simp [*]; done) | (simp [*]; omega)) (h1 := by first | exact zi_one _ _ | exact ic_one _ _ | simp [opv, Value.cells, Value.oneCell']) (h := fun w5 hS => ?_)
    try simp only [opv, n1, n2, n3, n4, Value.cells, Array.toArray_toList] at hS ⊢
    refine x_nil ?_
    refine hK4 _ _ ?_
    refine x_ret ?_
    refine r_cell_agg rfl Try.underlying112 ti112 (hS := hS) (hfit := by first | omega | (rw [zi_size (by omega)]; first | rfl | decide) | (simp only [ic_size, List.length_map, List.size_toArray]; first | omega | decide) | rfl | (simp [*]; done) | (simp [*]; omega)) (hR := ?_)
    exact ⟨by rw [hM], hS.ext_of⟩
  ·
    try simp only [decide_eq_true_eq, decide_eq_false_iff_not, Bool.not_eq_true', Bool.not_eq_false', Int.not_lt, Int.not_le, ne_eq, Decidable.not_not, bne_iff_ne, beq_iff_eq, not_true_eq_false, not_false_eq_true] at hc1
    have hM : moreV x y = y := by simp [moreV, hc1]
    refine x_skip ?_
    refine hK2 _ _ ?_
    refine x_seq fun K5 hK5 => ?_
    refine x_region ?_
    first | refine s_go (m_load_row Try.underlying112 (hi := ti112) (hS := hS) (hfit := by first | omega | (rw [zi_size (by omega)]; first | rfl | decide) | (simp only [ic_size, List.length_map, List.size_toArray]; first | omega | decide) | rfl | (simp [*]; done) | (simp [*]; omega))) ?_ | refine s_go (m_loada_obj Try.underlying112 (hi := ti112) (hS := hS) (hfit := by first | omega | (rw [zi_size (by omega)]; first | rfl | decide) | (simp only [ic_size, List.length_map, List.size_toArray]; first | omega | decide) | rfl | (simp [*]; done) | (simp [*]; omega))) ?_ | refine s_go (m_loada_bx Try.underlying112 (hi := ti112) (hS := hS) (hfit := by first | omega | (rw [zi_size (by omega)]; first | rfl | decide) | (simp only [ic_size, List.length_map, List.size_toArray]; first | omega | decide) | rfl | (simp [*]; done) | (simp [*]; omega))) ?_ | refine s_go (m_loada_rd Try.underlying112 (hi := ti112) (hS := hS) (hfit := by first | omega | (rw [zi_size (by omega)]; first | rfl | decide) | (simp only [ic_size, List.length_map, List.size_toArray]; first | omega | decide) | rfl | (simp [*]; done) | (simp [*]; omega))) ?_ | refine s_go (m_loada_vec Try.underlying112 (hi := ti112) (hS := hS) (hfit := by first | omega | (rw [zi_size (by omega)]; first | rfl | decide) | (simp only [ic_size, List.length_map, List.size_toArray]; first | omega | decide) | rfl | (simp [*]; done) | (simp [*]; omega))) ?_
    try simp only [opv, n1, n2, n3, n4, Value.cells, List.getElem_toArray, List.getElem_cons_zero, List.getElem_cons_succ]
    first | refine m_store_obj ti112 (hS := hS) (hc := by first | exact zi_set rfl (by omega) | exact zi_whole (by omega) (by omega) | (first | exact splice_ic (by first | omega | (simp [*]; done) | (simp [*]; omega)) | exact splice_il (by first | omega | (simp [*]; done) | (simp [*]; omega)) | exact splice_whole (by first | (simp [opv, Value.cells, *]; done) | rfl) | (simp only [opv, n1, n2, Value.cells, splice, List.take_succ_cons, List.take_zero, List.drop_succ_cons, List.drop_zero, List.length_cons, List.length_nil, Nat.zero_add, Nat.reduceAdd, List.append_assoc, List.cons_append, List.nil_append]; rfl))) (hv := by first | rfl | (show (zi _ _).toArray.size = _; rw [zi_size (by omega)]; rfl) | (simp [opv, Value.cells, *]; done)) (hfit := by first | omega | (rw [zi_size (by omega)]; first | rfl | decide) | (simp only [ic_size, List.length_map, List.size_toArray]; first | omega | decide) | rfl | (simp [*]; done) | (simp [*]; omega)) (h1 := by first | exact zi_one _ _ | exact ic_one _ _ | simp [opv, Value.cells, Value.oneCell']) (h := fun w6 hS => ?_) | refine m_store_vec ti112 (hS := hS) (hc := by first | exact zi_set rfl (by omega) | exact zi_whole (by omega) (by omega) | (first | exact splice_ic (by first | omega | (simp [*]; done) | (simp [*]; omega)) | exact splice_il (by first | omega | (simp [*]; done) | (simp [*]; omega)) | exact splice_whole (by first | (simp [opv, Value.cells, *]; done) | rfl) | (simp only [opv, n1, n2, Value.cells, splice, List.take_succ_cons, List.take_zero, List.drop_succ_cons, List.drop_zero, List.length_cons, List.length_nil, Nat.zero_add, Nat.reduceAdd, List.append_assoc, List.cons_append, List.nil_append]; rfl))) (hv := by first | rfl | (show (zi _ _).toArray.size = _; rw [zi_size (by omega)]; rfl) | (simp [opv, Value.cells, *]; done)) (hfit := by first | omega | (rw [zi_size (by omega)]; first | rfl | decide) | (simp only [ic_size, List.length_map, List.size_toArray]; first | omega | decide) | rfl | (simp [*]; done) | (simp [*]; omega)) (h1 := by first | exact zi_one _ _ | exact ic_one _ _ | simp [opv, Value.cells, Value.oneCell']) (h := fun w6 hS => ?_)
    try simp only [opv, n1, n2, n3, n4, Value.cells, Array.toArray_toList] at hS ⊢
    refine x_nil ?_
    refine hK5 _ _ ?_
    refine x_ret ?_
    refine r_cell_agg rfl Try.underlying112 ti112 (hS := hS) (hfit := by first | omega | (rw [zi_size (by omega)]; first | rfl | decide) | (simp only [ic_size, List.length_map, List.size_toArray]; first | omega | decide) | rfl | (simp [*]; done) | (simp [*]; omega)) (hR := ?_)
    exact ⟨by rw [hM], hS.ext_of⟩

theorem c_ref09More (x y : List Int) (hx : ValOk x) (hy : ValOk y)  (w0 : World) :
    CallR Try.prog 103 #[.agg (VA x), .agg (VA y)] w0 fun v w' => v = .agg (VA (moreV x y)) ∧ Ext w0 w' := by
  have hS : St NoB w0 w0 [] := St.start w0
  refine c_enter (l := [.agg (VA x), .agg (VA y), undef, undef, undef, undef, undef, undef, undef, undef]) Try.func103 rfl (by simp only [Try.ntmps103, List.size_toArray, List.length_cons, List.length_nil, Nat.reduceAdd, Nat.reduceSub, Array.replicate_succ, Array.replicate_zero, List.push_toArray, List.append_toArray, List.nil_append, List.cons_append]) ?_
  refine x_seq fun K1 hK1 => ?_
  refine x_region ?_
  have hxl := hx.len
  have hyl := hy.len
  have hxt := vtext_len hxl
  have hyt := vtext_len hyl
  have hxb := hx.text
  have hyb := hy.text
  have h0l : (List.replicate 9 (0 : Int)).length = 9 := rfl
  refine m_box hS (fun w1 g1 hS => ?_)
  try simp only [opv, n1, n2, n3, n4, Value.cells, Array.toArray_toList] at hS ⊢
  refine m_box hS (fun w2 g2 hS => ?_)
  try simp only [opv, n1, n2, n3, n4, Value.cells, Array.toArray_toList] at hS ⊢
  refine m_alloc ti112 hS (fun w3 g3 hS => ?_)
  try simp only [opv, n1, n2, n3, n4, Value.cells, Array.toArray_toList] at hS ⊢
  have hS : St NoB w0 w3 [.obj g3 (.cells (VA (List.replicate 9 0)) 112 (0, 0)), .obj g2 (.cells (VA y) 112 (0, 0)), .obj g1 (.cells (VA x) 112 (0, 0))] := hS
  refine x_nil ?_
  refine hK1 _ _ ?_
  refine x_seq fun K2 hK2 => ?_
  refine x_seq fun K3 hK3 => ?_
  refine x_region ?_
  first | refine s_go (m_load_row Try.underlying112 (hi := ti112) (hS := hS) (hfit := by first | omega | (rw [zi_size (by omega)]; first | rfl | decide) | (simp only [ic_size, List.length_map, List.size_toArray]; first | omega | decide) | rfl | (simp [*]; done) | (simp [*]; omega))) ?_ | refine s_go (m_loada_obj Try.underlying112 (hi := ti112) (hS := hS) (hfit := by first | omega | (rw [zi_size (by omega)]; first | rfl | decide) | (simp only [ic_size, List.length_map, List.size_toArray]; first | omega | decide) | rfl | (simp [*]; done) | (simp [*]; omega))) ?_ | refine s_go (m_loada_bx Try.underlying112 (hi := ti112) (hS := hS) (hfit := by first | omega | (rw [zi_size (by omega)]; first | rfl | decide) | (simp only [ic_size, List.length_map, List.size_toArray]; first | omega | decide) | rfl | (simp [*]; done) | (simp [*]; omega))) ?_ | refine s_go (m_loada_rd Try.underlying112 (hi := ti112) (hS := hS) (hfit := by first | omega | (rw [zi_size (by omega)]; first | rfl | decide) | (simp only [ic_size, List.length_map, List.size_toArray]; first | omega | decide) | rfl | (simp [*]; done) | (simp [*]; omega))) ?_ | refine s_go (m_loada_vec Try.underlying112 (hi := ti112) (hS := hS) (hfit := by first | omega | (rw [zi_size (by omega)]; first | rfl | decide) | (simp only [ic_size, List.length_map, List.size_toArray]; first | omega | decide) | rfl | (simp [*]; done) | (simp [*]; omega))) ?_
  try simp only [opv, n1, n2, n3, n4, Value.cells, List.getElem_toArray, List.getElem_cons_zero, List.getElem_cons_succ]
  first | refine s_go (m_load_row Try.underlying112 (hi := ti112) (hS := hS) (hfit := by first | omega | (rw [zi_size (by omega)]; first | rfl | decide) | (simp only [ic_size, List.length_map, List.size_toArray]; first | omega | decide) | rfl | (simp [*]; done) | (simp [*]; omega))) ?_ | refine s_go (m_loada_obj Try.underlying112 (hi := ti112) (hS := hS) (hfit := by first | omega | (rw [zi_size (by omega)]; first | rfl | decide) | (simp only [ic_size, List.length_map, List.size_toArray]; first | omega | decide) | rfl | (simp [*]; done) | (simp [*]; omega))) ?_ | refine s_go (m_loada_bx Try.underlying112 (hi := ti112) (hS := hS) (hfit := by first | omega | (rw [zi_size (by omega)]; first | rfl | decide) | (simp only [ic_size, List.length_map, List.size_toArray]; first | omega | decide) | rfl | (simp [*]; done) | (simp [*]; omega))) ?_ | refine s_go (m_loada_rd Try.underlying112 (hi := ti112) (hS := hS) (hfit := by first | omega | (rw [zi_size (by omega)]; first | rfl | decide) | (simp only [ic_size, List.length_map, List.size_toArray]; first | omega | decide) | rfl | (simp [*]; done) | (simp [*]; omega))) ?_ | refine s_go (m_loada_vec Try.underlying112 (hi := ti112) (hS := hS) (hfit := by first | omega | (rw [zi_size (by omega)]; first | rfl | decide) | (simp only [ic_size, List.length_map, List.size_toArray]; first | omega | decide) | rfl | (simp [*]; done) | (simp [*]; omega))) ?_
  try simp only [opv, n1, n2, n3, n4, Value.cells, List.getElem_toArray, List.getElem_cons_zero, List.getElem_cons_succ]
  refine s_call en101 ?_
  try simp only [opv, n1, n2, n3, n4, Value.cells, List.map_toArray, List.map_cons, List.map_nil, List.append_toArray, List.cons_append, List.nil_append, Array.append_empty]
  refine CallR.mono (c_ref09Over x y hx hy _) ?_
  rintro _ w4 ⟨rfl, hE4⟩
  replace hS := hS.ext hE4
  try simp only [opv, n1, n2, n3, n4, Value.cells]
  refine x_nil ?_
  refine hK3 _ _ ?_
  refine x_cond (ht := fun hc1 => ?_) (hf := fun hc1 => ?_)
  ·
    try simp only [decide_eq_true_eq, decide_eq_false_iff_not, Bool.not_eq_true', Bool.not_eq_false', Int.not_lt, Int.not_le, ne_eq, Decidable.not_not, bne_iff_ne, beq_iff_eq, not_true_eq_false, not_false_eq_true] at hc1
    have hM : moreV x y = x := by simp [moreV, hc1]
    refine x_seq fun K4 hK4 => ?_
    refine x_region ?_
    first | refine s_go (m_load_row Try.underlying112 (hi := ti112) (hS := hS) (hfit := by first | omega | (rw [zi_size (by omega)]; first | rfl | decide) | (simp only [ic_size, List.length_map, List.size_toArray]; first | omega | decide) | rfl | (simp [*]; done) | (simp [*]; omega))) ?_ | refine s_go (m_loada_obj Try.underlying112 (hi := ti112) (hS := hS) (hfit := by first | omega | (rw [zi_size (by omega)]; first | rfl | decide) | (simp only [ic_size, List.length_map, List.size_toArray]; first | omega | decide) | rfl | (simp [*]; done) | (simp [*]; omega))) ?_ | refine s_go (m_loada_bx Try.underlying112 (hi := ti112) (hS := hS) (hfit := by first | omega | (rw [zi_size (by omega)]; first | rfl | decide) | (simp only [ic_size, List.length_map, List.size_toArray]; first | omega | decide) | rfl | (simp [*]; done) | (simp [*]; omega))) ?_ | refine s_go (m_loada_rd Try.underlying112 (hi := ti112) (hS := hS) (hfit := by first | omega | (rw [zi_size (by omega)]; first | rfl | decide) | (simp only [ic_size, List.length_map, List.size_toArray]; first | omega | decide) | rfl | (simp [*]; done) | (simp [*]; omega))) ?_ | refine s_go (m_loada_vec Try.underlying112 (hi := ti112) (hS := hS) (hfit := by first | omega | (rw [zi_size (by omega)]; first | rfl | decide) | (simp only [ic_size, List.length_map, List.size_toArray]; first | omega | decide) | rfl | (simp [*]; done) | (simp [*]; omega))) ?_
    try simp only [opv, n1, n2, n3, n4, Value.cells, List.getElem_toArray, List.getElem_cons_zero, List.getElem_cons_succ]
    first | refine m_store_obj ti112 (hS := hS) (hc := by first | exact zi_set rfl (by omega) | exact zi_whole (by omega) (by omega) | (first | exact splice_ic (by first | omega | (simp [*]; done) | (simp [*]; omega)) | exact splice_il (by first | omega | (simp [*]; done) | (simp [*]; omega)) | exact splice_whole (by first | (simp [opv, Value.cells, *]; done) | rfl) | (simp only [opv, n1, n2, Value.cells, splice, List.take_succ_cons, List.take_zero, List.drop_succ_cons, List.drop_zero, List.length_cons, List.length_nil, Nat.zero_add, Nat.reduceAdd, List.append_assoc, List.cons_append, List.nil_append]; rfl))) (hv := by first | rfl | (show (zi _ _).toArray.size = _; rw [zi_size (by omega)]; rfl) | (simp [opv, Value.cells, *]; done)) (hfit := by first | omega | (rw [zi_size (by omega)]; first | rfl | decide) | (simp only [ic_size, List.length_map, List.size_toArray]; first | omega | decide) | rfl | (simp [*]; done) | (simp [*]; omega)) (h1 := by first | exact zi_one _ _ | exact ic_one _ _ | simp [opv, Value.cells, Value.oneCell']) (h := fun w5 hS => ?_) | refine m_store_vec ti112 (hS := hS) (hc := by first | exact zi_set rfl (by omega) | exact zi_whole (by omega) (by omega) | (first | exact splice_ic (by first | omega | (simp [*]; done) | (simp [*]; omega)) | exact splice_il (by first | omega | (simp [*]; done) | (simp [*]; omega)) | exact splice_whole (by first | (simp [opv, Value.cells, *]; done) | rfl) | (simp only [opv, n1, n2, Value.cells, splice, List.take_succ_cons, List.take_zero, List.drop_succ_cons, List.drop_zero, List.length_cons, List.length_nil, Nat.zero_add, Nat.reduceAdd, List.append_assoc, List.cons_append, List.nil_append]; rfl))) (hv := by first | rfl | (show (zi _ _).toArray.size = _; rw [zi_size (by omega)]; rfl) | (simp [opv, Value.cells, *]; done)) (hfit := by first | omega | (rw [zi_size (by omega)]; first | rfl | decide) | (simp only [ic_size, List.length_map, List.size_toArray]; first | omega | decide) | rfl | (simp [*]; done) | (simp [*]; omega)) (h1 := by first | exact zi_one _ _ | exact ic_one _ _ | simp [opv, Value.cells, Value.oneCell']) (h := fun w5 hS => ?_)
    try simp only [opv, n1, n2, n3, n4, Value.cells, Array.toArray_toList] at hS ⊢
    refine x_nil ?_
    refine hK4 _ _ ?_
    refine x_ret ?_
    refine r_cell_agg rfl Try.underlying112 ti112 (hS := hS) (hfit := by first | omega | (rw [zi_size (by omega)]; first | rfl | decide) | (simp only [ic_size, List.length_map, List.size_toArray]; first | omega | decide) | rfl | (simp [*]; done) | (simp [*]; omega)) (hR := ?_)
    exact ⟨by rw [hM], hS.ext_of⟩
  ·
    try simp only [decide_eq_true_eq, decide_eq_false_iff_not, Bool.not_eq_true', Bool.not_eq_false', Int.not_lt, Int.not_le, ne_eq, Decidable.not_not, bne_iff_ne, beq_iff_eq, not_true_eq_false, not_false_eq_true] at hc1
    have hM : moreV x y = y := by simp [moreV, hc1]
    refine x_skip ?_
    refine hK2 _ _ ?_
    refine x_seq fun K5 hK5 => ?_
    refine x_region ?_
    first | refine s_go (m_load_row Try.underlying112 (hi := ti112) (hS := hS) (hfit := by first | omega | (rw [zi_size (by omega)]; first | rfl | decide) | (simp only [ic_size, List.length_map, List.size_toArray]; first | omega | decide) | rfl | (simp [*]; done) | (simp [*]; omega))) ?_ | refine s_go (m_loada_obj Try.underlying112 (hi := ti112) (hS := hS) (hfit := by first | omega | (rw [zi_size (by omega)]; first | rfl | decide) | (simp only [ic_size, List.length_map, List.size_toArray]; first | omega | decide) | rfl | (simp [*]; done) | (simp [*]; omega))) ?_ | refine s_go (m_loada_bx Try.underlying112 (hi := ti112) (hS := hS) (hfit := by first | omega | (rw [zi_size (by omega)]; first | rfl | decide) | (simp only [ic_size, List.length_map, List.size_toArray]; first | omega | decide) | rfl | (simp [*]; done) | (simp [*]; omega))) ?_ | refine s_go (m_loada_rd Try.underlying112 (hi := ti112) (hS := hS) (hfit := by first | omega | (rw [zi_size (by omega)]; first | rfl | decide) | (simp only [ic_size, List.length_map, List.size_toArray]; first | omega | decide) | rfl | (simp [*]; done) | (simp [*]; omega))) ?_ | refine s_go (m_loada_vec Try.underlying112 (hi := ti112) (hS := hS) (hfit := by first | omega | (rw [zi_size (by omega)]; first | rfl | decide) | (simp only [ic_size, List.length_map, List.size_toArray]; first | omega | decide) | rfl | (simp [*]; done) | (simp [*]; omega))) ?_
    try simp only [opv, n1, n2, n3, n4, Value.cells, List.getElem_toArray, List.getElem_cons_zero, List.getElem_cons_succ]
    first | refine m_store_obj ti112 (hS := hS) (hc := by first | exact zi_set rfl (by omega) | exact zi_whole (by omega) (by omega) | (first | exact splice_ic (by first | omega | (simp [*]; done) | (simp [*]; omega)) | exact splice_il (by first | omega | (simp [*]; done) | (simp [*]; omega)) | exact splice_whole (by first | (simp [opv, Value.cells, *]; done) | rfl) | (simp only [opv, n1, n2, Value.cells, splice, List.take_succ_cons, List.take_zero, List.drop_succ_cons, List.drop_zero, List.length_cons, List.length_nil, Nat.zero_add, Nat.reduceAdd, List.append_assoc, List.cons_append, List.nil_append]; rfl))) (hv := by first | rfl | (show (zi _ _).toArray.size = _; rw [zi_size (by omega)]; rfl) | (simp [opv, Value.cells, *]; done)) (hfit := by first | omega | (rw [zi_size (by omega)]; first | rfl | decide) | (simp only [ic_size, List.length_map, List.size_toArray]; first | omega | decide) | rfl | (simp [*]; done) | (simp [*]; omega)) (h1 := by first | exact zi_one _ _ | exact ic_one _ _ | simp [opv, Value.cells, Value.oneCell']) (h := fun w6 hS => ?_) | refine m_store_vec ti112 (hS := hS) (hc := by first | exact zi_set rfl (by omega) | exact zi_whole (by omega) (by omega) | (first | exact splice_ic (by first | omega | (simp [*]; done) | (simp [*]; omega)) | exact splice_il (by first | omega | (simp [*]; done) | (simp [*]; omega)) | exact splice_whole (by first | (simp [opv, Value.cells, *]; done) | rfl) | (simp only [opv, n1, n2, Value.cells, splice, List.take_succ_cons, List.take_zero, List.drop_succ_cons, List.drop_zero, List.length_cons, List.length_nil, Nat.zero_add, Nat.reduceAdd, List.append_assoc, List.cons_append, List.nil_append]; rfl))) (hv := by first | rfl | (show (zi _ _).toArray.size = _; rw [zi_size (by omega)]; rfl) | (simp [opv, Value.cells, *]; done)) (hfit := by first | omega | (rw [zi_size (by omega)]; first | rfl | decide) | (simp only [ic_size, List.length_map, List.size_toArray]; first | omega | decide) | rfl | (simp [*]; done) | (simp [*]; omega)) (h1 := by first | exact zi_one _ _ | exact ic_one _ _ | simp [opv, Value.cells, Value.oneCell']) (h := fun w6 hS => ?_)
    try simp only [opv, n1, n2, n3, n4, Value.cells, Array.toArray_toList] at hS ⊢
    refine x_nil ?_
    refine hK5 _ _ ?_
    refine x_ret ?_
    refine r_cell_agg rfl Try.underlying112 ti112 (hS := hS) (hfit := by first | omega | (rw [zi_size (by omega)]; first | rfl | decide) | (simp only [ic_size, List.length_map, List.size_toArray]; first | omega | decide) | rfl | (simp [*]; done) | (simp [*]; omega)) (hR := ?_)
    exact ⟨by rw [hM], hS.ext_of⟩

theorem c_ref09Right (a : List Int) (ha : AtomOk a)  (w0 : World) :
    CallR Try.prog 99 #[.agg (AA a)] w0 fun v w' => v = .bool (atomR a) ∧ Ext w0 w' := by
  have hS : St NoB w0 w0 [] := St.start w0
  refine c_enter (l := [.agg (AA a), undef, undef, undef, undef, undef, undef, undef, undef, undef, undef, undef, undef, undef, undef, undef, undef, undef, undef, undef, undef, undef, undef, undef, undef, undef, undef, undef, undef, undef, undef, undef, undef, undef, undef, undef, undef, undef, undef, undef, undef, undef, undef, undef, undef, undef, undef, undef, undef, undef, undef, undef, undef, undef, undef, undef, undef, undef, undef, undef, undef, undef, undef, undef, undef, undef, undef, undef, undef, undef, undef, undef, undef, undef, undef]) Try.func99 rfl (by simp only [Try.ntmps99, List.size_toArray, List.length_cons, List.length_nil, Nat.reduceAdd, Nat.reduceSub, Array.replicate_succ, Array.replicate_zero, List.push_toArray, List.append_toArray, List.nil_append, List.cons_append]) ?_
  refine x_seq fun K1 hK1 => ?_
  refine x_region ?_
  have hal := ha.len
  have hk := ha.key
  have hv := ha.val
  have hvl := hv.len
  have hkl := hk.len
  have h00 := akey_0 hal
  have htl := vtext_len hvl
  have htb := hv.text
  have hvb := hv.b0
  refine m_box hS (fun w1 g1 hS => ?_)
  try simp only [opv, n1, n2, n3, n4, Value.cells, Array.toArray_toList] at hS ⊢
  refine s_go (s_assign) ?_
  try simp only [opv, n1, n2, n3, n4, Value.cells]
  refine x_nil ?_
  refine hK1 _ _ ?_
  refine x_seq fun K2 hK2 => ?_
  refine x_seq fun K3 hK3 => ?_
  refine x_region ?_
  first | refine s_go (m_fieldAddr Try.underlying114 (hi := ti89)) ?_ | refine s_go (m_fieldAddr_rd Try.underlying114 (hi := ti89) (hS := hS)) ?_ | refine s_go (m_fieldAddr_vec Try.underlying114 (hi := ti89) (hS := hS)) ?_
  try simp only [opv, n1, n2, n3, n4, Value.cells, Nat.zero_add, Nat.add_zero, List.getElem_toArray, List.getElem_cons_zero, List.getElem_cons_succ]
  first | refine s_go (m_load_row Try.underlying89 (hi := ti89) (hS := hS) (hfit := by first | omega | (rw [zi_size (by omega)]; first | rfl | decide) | (simp only [ic_size, List.length_map, List.size_toArray]; first | omega | decide) | rfl | (simp [*]; done) | (simp [*]; omega))) ?_ | refine s_go (m_loada_obj Try.underlying89 (hi := ti89) (hS := hS) (hfit := by first | omega | (rw [zi_size (by omega)]; first | rfl | decide) | (simp only [ic_size, List.length_map, List.size_toArray]; first | omega | decide) | rfl | (simp [*]; done) | (simp [*]; omega))) ?_ | refine s_go (m_loada_bx Try.underlying89 (hi := ti89) (hS := hS) (hfit := by first | omega | (rw [zi_size (by omega)]; first | rfl | decide) | (simp only [ic_size, List.length_map, List.size_toArray]; first | omega | decide) | rfl | (simp [*]; done) | (simp [*]; omega))) ?_ | refine s_go (m_loada_rd Try.underlying89 (hi := ti89) (hS := hS) (hfit := by first | omega | (rw [zi_size (by omega)]; first | rfl | decide) | (simp only [ic_size, List.length_map, List.size_toArray]; first | omega | decide) | rfl | (simp [*]; done) | (simp [*]; omega))) ?_ | refine s_go (m_loada_vec Try.underlying89 (hi := ti89) (hS := hS) (hfit := by first | omega | (rw [zi_size (by omega)]; first | rfl | decide) | (simp only [ic_size, List.length_map, List.size_toArray]; first | omega | decide) | rfl | (simp [*]; done) | (simp [*]; omega))) ?_
  try simp only [opv, n1, n2, n3, n4, Value.cells, List.getElem_toArray, List.getElem_cons_zero, List.getElem_cons_succ]
  rw [atom_key hal]
  refine s_call en87 ?_
  try simp only [opv, n1, n2, n3, n4, Value.cells, List.map_toArray, List.map_cons, List.map_nil, List.append_toArray, List.cons_append, List.nil_append, Array.append_empty]
  refine CallR.mono (c_ref08Right _ hk _) ?_
  rintro _ w2 ⟨rfl, hE2⟩
  replace hS := hS.ext hE2
  try simp only [opv, n1, n2, n3, n4, Value.cells]
  refine s_go (s_not) ?_
  try simp only [opv, n1, n2, n3, n4, Value.cells]
  refine x_nil ?_
  refine hK3 _ _ ?_
  refine x_cond (ht := fun hc1 => ?_) (hf := fun hc1 => ?_)
  ·
    try simp only [decide_eq_true_eq, decide_eq_false_iff_not, Bool.not_eq_true', Bool.not_eq_false', Int.not_lt, Int.not_le, ne_eq, Decidable.not_not, bne_iff_ne, beq_iff_eq, not_true_eq_false, not_false_eq_true] at hc1
    first
    | (exfalso; omega)
    | skip
      have hV : atomR a = false := by simp only [atomR, hc1, Bool.false_and]
      refine x_seq fun K4 hK4 => ?_
      refine x_region ?_
      refine s_go (s_assign) ?_
      try simp only [opv, n1, n2, n3, n4, Value.cells]
      refine x_nil ?_
      refine hK4 _ _ ?_
      refine x_ret ?_
      refine r_tmp rfl ?_
      first | exact ⟨by rw [hV]; rfl, hS.ext_of⟩ | exact ⟨congrArg Value.bool (by rw [hV, hV1, hba, Bool.false_and]), hS.ext_of⟩ | exact ⟨congrArg Value.bool (by rw [hV, hV1, hba, Bool.true_and]; first | rfl | exact (decide_eq_true (by omega)).symm | exact (decide_eq_false (by omega)).symm | exact decide_eq_decide.2 (by omega)), hS.ext_of⟩ | exact ⟨congrArg Value.bool (by rw [hV, hV1, decide_eq_false (fun h => by have := stampE_0.1 h; omega), Bool.false_and]), hS.ext_of⟩ | exact ⟨congrArg Value.bool (by rw [hV, hV1, decide_eq_true (stampE_0.2 (by omega)), Bool.true_and, hba]; simp), hS.ext_of⟩
  ·
    try simp only [decide_eq_true_eq, decide_eq_false_iff_not, Bool.not_eq_true', Bool.not_eq_false', Int.not_lt, Int.not_le, ne_eq, Decidable.not_not, bne_iff_ne, beq_iff_eq, not_true_eq_false, not_false_eq_true] at hc1
    first
    | (exfalso; omega)
    | skip
      have hV : atomR a = valR (kn a 0) (aval a) := by simp only [atomR, hc1, Bool.true_and]
      have hs := keyR_sort hc1
      rw [← h00.2] at hs
      refine x_skip ?_
      refine hK2 _ _ ?_
      refine x_seq fun K5 hK5 => ?_
      refine x_region ?_
      first | refine s_go (m_fieldAddr Try.underlying114 (hi := ti112)) ?_ | refine s_go (m_fieldAddr_rd Try.underlying114 (hi := ti112) (hS := hS)) ?_ | refine s_go (m_fieldAddr_vec Try.underlying114 (hi := ti112) (hS := hS)) ?_
      try simp only [opv, n1, n2, n3, n4, Value.cells, Nat.zero_add, Nat.add_zero, List.getElem_toArray, List.getElem_cons_zero, List.getElem_cons_succ]
      first | refine s_go (m_fieldAddr Try.underlying112 (hi := ti70)) ?_ | refine s_go (m_fieldAddr_rd Try.underlying112 (hi := ti70) (hS := hS)) ?_ | refine s_go (m_fieldAddr_vec Try.underlying112 (hi := ti70) (hS := hS)) ?_
      try simp only [opv, n1, n2, n3, n4, Value.cells, Nat.zero_add, Nat.add_zero, List.getElem_toArray, List.getElem_cons_zero, List.getElem_cons_succ]
      first | refine s_go (m_load_row Try.underlying70 (hi := ti70) (hS := hS) (hfit := by first | omega | (rw [zi_size (by omega)]; first | rfl | decide) | (simp only [ic_size, List.length_map, List.size_toArray]; first | omega | decide) | rfl | (simp [*]; done) | (simp [*]; omega))) ?_ | refine s_go (m_loada_obj Try.underlying70 (hi := ti70) (hS := hS) (hfit := by first | omega | (rw [zi_size (by omega)]; first | rfl | decide) | (simp only [ic_size, List.length_map, List.size_toArray]; first | omega | decide) | rfl | (simp [*]; done) | (simp [*]; omega))) ?_ | refine s_go (m_loada_bx Try.underlying70 (hi := ti70) (hS := hS) (hfit := by first | omega | (rw [zi_size (by omega)]; first | rfl | decide) | (simp only [ic_size, List.length_map, List.size_toArray]; first | omega | decide) | rfl | (simp [*]; done) | (simp [*]; omega))) ?_ | refine s_go (m_loada_rd Try.underlying70 (hi := ti70) (hS := hS) (hfit := by first | omega | (rw [zi_size (by omega)]; first | rfl | decide) | (simp only [ic_size, List.length_map, List.size_toArray]; first | omega | decide) | rfl | (simp [*]; done) | (simp [*]; omega))) ?_ | refine s_go (m_loada_vec Try.underlying70 (hi := ti70) (hS := hS) (hfit := by first | omega | (rw [zi_size (by omega)]; first | rfl | decide) | (simp only [ic_size, List.length_map, List.size_toArray]; first | omega | decide) | rfl | (simp [*]; done) | (simp [*]; omega))) ?_
      try simp only [opv, n1, n2, n3, n4, Value.cells, List.getElem_toArray, List.getElem_cons_zero, List.getElem_cons_succ]
      rw [atom_text hal]
      refine s_go (s_build_arr (cells := #[.int .u8 0, .int .u8 0, .int .u8 0, .int .u8 0, .int .u8 0, .int .u8 0, .int .u8 0, .int .u8 0]) Try.underlying70 ti70 ti5 (hc := by simp only [List.map_toArray, List.map_cons, List.map_nil, opv, n1, n2, n3, n4, Value.cells, List.toList_toArray]; (repeat (refine fill_cons rfl rfl (Nat.le_of_ble_eq_true rfl) ?_)); rfl)) ?_
      try simp only [opv, n1, n2, n3, n4, Value.cells]
      rw [show (#[.int .u8 0, .int .u8 0, .int .u8 0, .int .u8 0, .int .u8 0, .int .u8 0, .int .u8 0, .int .u8 0] : Array Value) = ic .u8 nm0 from rfl]
      refine s_go (s_eql_agg eqv70 (hg := eg70) (hX := zi_ic (by first | assumption | rfl)) (hY := zi_ic (by first | assumption | rfl)) (h1 := by first | assumption | rfl) (h2 := by first | assumption | rfl)) ?_
      try simp only [opv, n1, n2, n3, n4, Value.cells]
      rw [show decide (vtext (aval a) = nm0) = bareV (aval a) from rfl]
      refine s_go (s_assign) ?_
      try simp only [opv, n1, n2, n3, n4, Value.cells]
      refine x_nil ?_
      refine hK5 _ _ ?_
      refine x_seq fun K6 hK6 => ?_
      refine x_seq fun K7 hK7 => ?_
      refine x_region ?_
      first | refine s_go (m_fieldAddr Try.underlying114 (hi := ti89)) ?_ | refine s_go (m_fieldAddr_rd Try.underlying114 (hi := ti89) (hS := hS)) ?_ | refine s_go (m_fieldAddr_vec Try.underlying114 (hi := ti89) (hS := hS)) ?_
      try simp only [opv, n1, n2, n3, n4, Value.cells, Nat.zero_add, Nat.add_zero, List.getElem_toArray, List.getElem_cons_zero, List.getElem_cons_succ]
      first | refine s_go (m_fieldAddr Try.underlying89 (hi := ti5)) ?_ | refine s_go (m_fieldAddr_rd Try.underlying89 (hi := ti5) (hS := hS)) ?_ | refine s_go (m_fieldAddr_vec Try.underlying89 (hi := ti5) (hS := hS)) ?_
      try simp only [opv, n1, n2, n3, n4, Value.cells, Nat.zero_add, Nat.add_zero, List.getElem_toArray, List.getElem_cons_zero, List.getElem_cons_succ]
      first | refine s_go (m_load_obj Try.underlying5 (hS := hS) (hv := by first | rfl | exact zi_get rfl (by omega) | exact ic_get (by omega) | exact il_get (by omega))) ?_ | refine s_go (m_load_bx Try.underlying5 (hS := hS) (hv := by first | rfl | exact zi_get rfl (by omega) | exact ic_get (by omega) | exact il_get (by omega))) ?_ | refine s_go (m_load_rd Try.underlying5 (hS := hS) (hv := by first | rfl | exact zi_get rfl (by omega) | exact ic_get (by omega) | exact il_get (by omega))) ?_ | refine s_go (m_load_vec Try.underlying5 (hS := hS) (hv := by first | rfl | exact zi_get rfl (by omega) | exact ic_get (by omega) | exact il_get (by omega))) ?_
      try simp only [opv, n1, n2, n3, n4, Value.cells, List.getElem_toArray, List.getElem_cons_zero, List.getElem_cons_succ]
      rw [h00.1, hk.e0, ← h00.2]
      refine x_nil ?_
      refine hK7 _ _ ?_
      refine x_block ?_
      refine x_seq fun K8 hK8 => ?_
      refine x_region ?_
      refine s_go (s_eql) ?_
      try simp only [opv, n1, n2, n3, n4, Value.cells]
      refine s_go (s_assign) ?_
      try simp only [opv, n1, n2, n3, n4, Value.cells]
      refine x_nil ?_
      refine hK8 _ _ ?_
      refine x_cond (ht := fun hc2 => ?_) (hf := fun hc2 => ?_)
      ·
        try simp only [decide_eq_true_eq, decide_eq_false_iff_not, Bool.not_eq_true', Bool.not_eq_false', Int.not_lt, Int.not_le, ne_eq, Decidable.not_not, bne_iff_ne, beq_iff_eq, not_true_eq_false, not_false_eq_true] at hc2
        first
        | (exfalso; omega)
        | skip
          have hV1 : valR (kn a 0) (aval a) = (bareV (aval a) && decide (kn (aval a) 0 = 1 ∨ kn (aval a) 0 = 2)) := by rw [valR, if_pos (by omega)]
          refine x_seq fun K9 hK9 => ?_
          refine x_region ?_
          refine s_go (s_move) ?_
          try simp only [opv, n1, n2, n3, n4, Value.cells]
          refine s_go (s_move) ?_
          try simp only [opv, n1, n2, n3, n4, Value.cells]
          refine s_part 19 rfl (fun hp1 => ?_) (fun hp1 => ?_)
          ·
            try simp only [n3, n4]
            try simp only [decide_eq_true_eq, decide_eq_false_iff_not, Bool.not_eq_true', Bool.not_eq_false', Int.not_lt, Int.not_le, ne_eq, Decidable.not_not] at hp1
            first
            | (exfalso; omega)
            | skip
              have hba := hp1
              refine g_on (yi (t := 19) rfl rfl) ?_
              first | refine s_go (m_fieldAddr Try.underlying114 (hi := ti112)) ?_ | refine s_go (m_fieldAddr_rd Try.underlying114 (hi := ti112) (hS := hS)) ?_ | refine s_go (m_fieldAddr_vec Try.underlying114 (hi := ti112) (hS := hS)) ?_
              try simp only [opv, n1, n2, n3, n4, Value.cells, Nat.zero_add, Nat.add_zero, List.getElem_toArray, List.getElem_cons_zero, List.getElem_cons_succ]
              refine g_on (yi (t := 19) rfl rfl) ?_
              first | refine s_go (m_fieldAddr Try.underlying112 (hi := ti53)) ?_ | refine s_go (m_fieldAddr_rd Try.underlying112 (hi := ti53) (hS := hS)) ?_ | refine s_go (m_fieldAddr_vec Try.underlying112 (hi := ti53) (hS := hS)) ?_
              try simp only [opv, n1, n2, n3, n4, Value.cells, Nat.zero_add, Nat.add_zero, List.getElem_toArray, List.getElem_cons_zero, List.getElem_cons_succ]
              refine g_on (yi (t := 19) rfl rfl) ?_
              first | refine s_go (m_load_obj Try.underlying53 (hS := hS) (hv := by first | rfl | exact zi_get rfl (by omega) | exact ic_get (by omega) | exact il_get (by omega))) ?_ | refine s_go (m_load_bx Try.underlying53 (hS := hS) (hv := by first | rfl | exact zi_get rfl (by omega) | exact ic_get (by omega) | exact il_get (by omega))) ?_ | refine s_go (m_load_rd Try.underlying53 (hS := hS) (hv := by first | rfl | exact zi_get rfl (by omega) | exact ic_get (by omega) | exact il_get (by omega))) ?_ | refine s_go (m_load_vec Try.underlying53 (hS := hS) (hv := by first | rfl | exact zi_get rfl (by omega) | exact ic_get (by omega) | exact il_get (by omega))) ?_
              try simp only [opv, n1, n2, n3, n4, Value.cells, List.getElem_toArray, List.getElem_cons_zero, List.getElem_cons_succ]
              rw [aval_0 hal, hv.e0]
              refine g_on (yi (t := 19) rfl rfl) ?_
              refine s_go (s_eql) ?_
              try simp only [opv, n1, n2, n3, n4, Value.cells]
              refine g_on (yi (t := 19) rfl rfl) ?_
              refine s_go (s_move) ?_
              try simp only [opv, n1, n2, n3, n4, Value.cells]
              refine s_part 24 rfl (fun hp2 => ?_) (fun hp2 => ?_)
              ·
                try simp only [n3, n4]
                try simp only [decide_eq_true_eq, decide_eq_false_iff_not, Bool.not_eq_true', Bool.not_eq_false', Int.not_lt, Int.not_le, ne_eq, Decidable.not_not] at hp2
                first
                | (exfalso; omega)
                | skip
                  refine g_off (yi (t := 24) rfl rfl) ?_
                  try simp only [opv, n1, n2, n3, n4, Value.cells]
                  refine g_off (yi (t := 24) rfl rfl) ?_
                  try simp only [opv, n1, n2, n3, n4, Value.cells]
                  refine g_off (yi (t := 24) rfl rfl) ?_
                  try simp only [opv, n1, n2, n3, n4, Value.cells]
                  refine g_off (yi (t := 24) rfl rfl) ?_
                  try simp only [opv, n1, n2, n3, n4, Value.cells]
                  refine g_on (yi (t := 19) rfl rfl) ?_
                  first | refine s_go (s_pick_t) ?_ | refine s_go (s_pick_f) ?_
                  try simp only [opv, n1, n2, n3, n4, Value.cells]
                  first | refine s_go (s_pick_t) ?_ | refine s_go (s_pick_f) ?_
                  try simp only [opv, n1, n2, n3, n4, Value.cells]
                  refine s_go (s_assign) ?_
                  try simp only [opv, n1, n2, n3, n4, Value.cells]
                  refine x_nil ?_
                  refine hK9 _ _ ?_
                  refine x_ret ?_
                  refine r_tmp rfl ?_
                  first | exact ⟨by rw [hV]; rfl, hS.ext_of⟩ | exact ⟨congrArg Value.bool (by rw [hV, hV1, hba, Bool.false_and]), hS.ext_of⟩ | exact ⟨congrArg Value.bool (by rw [hV, hV1, hba, Bool.true_and]; first | rfl | exact (decide_eq_true (by omega)).symm | exact (decide_eq_false (by omega)).symm | exact decide_eq_decide.2 (by omega)), hS.ext_of⟩ | exact ⟨congrArg Value.bool (by rw [hV, hV1, decide_eq_false (fun h => by have := stampE_0.1 h; omega), Bool.false_and]), hS.ext_of⟩ | exact ⟨congrArg Value.bool (by rw [hV, hV1, decide_eq_true (stampE_0.2 (by omega)), Bool.true_and, hba]; simp), hS.ext_of⟩
              ·
                try simp only [n3, n4]
                try simp only [decide_eq_true_eq, decide_eq_false_iff_not, Bool.not_eq_true', Bool.not_eq_false', Int.not_lt, Int.not_le, ne_eq, Decidable.not_not] at hp2
                first
                | (exfalso; omega)
                | skip
                  refine g_on (yi (t := 24) rfl rfl) ?_
                  first | refine s_go (m_fieldAddr Try.underlying114 (hi := ti112)) ?_ | refine s_go (m_fieldAddr_rd Try.underlying114 (hi := ti112) (hS := hS)) ?_ | refine s_go (m_fieldAddr_vec Try.underlying114 (hi := ti112) (hS := hS)) ?_
                  try simp only [opv, n1, n2, n3, n4, Value.cells, Nat.zero_add, Nat.add_zero, List.getElem_toArray, List.getElem_cons_zero, List.getElem_cons_succ]
                  refine g_on (yi (t := 24) rfl rfl) ?_
                  first | refine s_go (m_fieldAddr Try.underlying112 (hi := ti53)) ?_ | refine s_go (m_fieldAddr_rd Try.underlying112 (hi := ti53) (hS := hS)) ?_ | refine s_go (m_fieldAddr_vec Try.underlying112 (hi := ti53) (hS := hS)) ?_
                  try simp only [opv, n1, n2, n3, n4, Value.cells, Nat.zero_add, Nat.add_zero, List.getElem_toArray, List.getElem_cons_zero, List.getElem_cons_succ]
                  refine g_on (yi (t := 24) rfl rfl) ?_
                  first | refine s_go (m_load_obj Try.underlying53 (hS := hS) (hv := by first | rfl | exact zi_get rfl (by omega) | exact ic_get (by omega) | exact il_get (by omega))) ?_ | refine s_go (m_load_bx Try.underlying53 (hS := hS) (hv := by first | rfl | exact zi_get rfl (by omega) | exact ic_get (by omega) | exact il_get (by omega))) ?_ | refine s_go (m_load_rd Try.underlying53 (hS := hS) (hv := by first | rfl | exact zi_get rfl (by omega) | exact ic_get (by omega) | exact il_get (by omega))) ?_ | refine s_go (m_load_vec Try.underlying53 (hS := hS) (hv := by first | rfl | exact zi_get rfl (by omega) | exact ic_get (by omega) | exact il_get (by omega))) ?_
                  try simp only [opv, n1, n2, n3, n4, Value.cells, List.getElem_toArray, List.getElem_cons_zero, List.getElem_cons_succ]
                  rw [aval_0 hal, hv.e0]
                  refine g_on (yi (t := 24) rfl rfl) ?_
                  refine s_go (s_eql) ?_
                  try simp only [opv, n1, n2, n3, n4, Value.cells]
                  refine g_on (yi (t := 19) rfl rfl) ?_
                  first | refine s_go (s_pick_t) ?_ | refine s_go (s_pick_f) ?_
                  try simp only [opv, n1, n2, n3, n4, Value.cells]
                  first | refine s_go (s_pick_t) ?_ | refine s_go (s_pick_f) ?_
                  try simp only [opv, n1, n2, n3, n4, Value.cells]
                  refine s_go (s_assign) ?_
                  try simp only [opv, n1, n2, n3, n4, Value.cells]
                  refine x_nil ?_
                  refine hK9 _ _ ?_
                  refine x_ret ?_
                  refine r_tmp rfl ?_
                  first | exact ⟨by rw [hV]; rfl, hS.ext_of⟩ | exact ⟨congrArg Value.bool (by rw [hV, hV1, hba, Bool.false_and]), hS.ext_of⟩ | exact ⟨congrArg Value.bool (by rw [hV, hV1, hba, Bool.true_and]; first | rfl | exact (decide_eq_true (by omega)).symm | exact (decide_eq_false (by omega)).symm | exact decide_eq_decide.2 (by omega)), hS.ext_of⟩ | exact ⟨congrArg Value.bool (by rw [hV, hV1, decide_eq_false (fun h => by have := stampE_0.1 h; omega), Bool.false_and]), hS.ext_of⟩ | exact ⟨congrArg Value.bool (by rw [hV, hV1, decide_eq_true (stampE_0.2 (by omega)), Bool.true_and, hba]; simp), hS.ext_of⟩
          ·
            try simp only [n3, n4]
            try simp only [decide_eq_true_eq, decide_eq_false_iff_not, Bool.not_eq_true', Bool.not_eq_false', Int.not_lt, Int.not_le, ne_eq, Decidable.not_not] at hp1
            first
            | (exfalso; omega)
            | skip
              have hba := hp1
              refine g_off (yi (t := 19) rfl rfl) ?_
              try simp only [opv, n1, n2, n3, n4, Value.cells]
              refine g_off (yi (t := 19) rfl rfl) ?_
              try simp only [opv, n1, n2, n3, n4, Value.cells]
              refine g_off (yi (t := 19) rfl rfl) ?_
              try simp only [opv, n1, n2, n3, n4, Value.cells]
              refine g_off (yi (t := 19) rfl rfl) ?_
              try simp only [opv, n1, n2, n3, n4, Value.cells]
              refine g_off (yi (t := 19) rfl rfl) ?_
              try simp only [opv, n1, n2, n3, n4, Value.cells]
              refine g_un (yn (t := 24) rfl rfl) ?_
              try simp only [opv, n1, n2, n3, n4, Value.cells]
              refine g_un (yn (t := 24) rfl rfl) ?_
              try simp only [opv, n1, n2, n3, n4, Value.cells]
              refine g_un (yn (t := 24) rfl rfl) ?_
              try simp only [opv, n1, n2, n3, n4, Value.cells]
              refine g_un (yn (t := 24) rfl rfl) ?_
              try simp only [opv, n1, n2, n3, n4, Value.cells]
              refine g_off (yi (t := 19) rfl rfl) ?_
              try simp only [opv, n1, n2, n3, n4, Value.cells]
              first | refine s_go (s_pick_t) ?_ | refine s_go (s_pick_f) ?_
              try simp only [opv, n1, n2, n3, n4, Value.cells]
              refine s_go (s_assign) ?_
              try simp only [opv, n1, n2, n3, n4, Value.cells]
              refine x_nil ?_
              refine hK9 _ _ ?_
              refine x_ret ?_
              refine r_tmp rfl ?_
              first | exact ⟨by rw [hV]; rfl, hS.ext_of⟩ | exact ⟨congrArg Value.bool (by rw [hV, hV1, hba, Bool.false_and]), hS.ext_of⟩ | exact ⟨congrArg Value.bool (by rw [hV, hV1, hba, Bool.true_and]; first | rfl | exact (decide_eq_true (by omega)).symm | exact (decide_eq_false (by omega)).symm | exact decide_eq_decide.2 (by omega)), hS.ext_of⟩ | exact ⟨congrArg Value.bool (by rw [hV, hV1, decide_eq_false (fun h => by have := stampE_0.1 h; omega), Bool.false_and]), hS.ext_of⟩ | exact ⟨congrArg Value.bool (by rw [hV, hV1, decide_eq_true (stampE_0.2 (by omega)), Bool.true_and, hba]; simp), hS.ext_of⟩
      ·
        try simp only [decide_eq_true_eq, decide_eq_false_iff_not, Bool.not_eq_true', Bool.not_eq_false', Int.not_lt, Int.not_le, ne_eq, Decidable.not_not, bne_iff_ne, beq_iff_eq, not_true_eq_false, not_false_eq_true] at hc2
        first
        | (exfalso; omega)
        | skip
          refine x_seq fun K10 hK10 => ?_
          refine x_seq fun K11 hK11 => ?_
          refine x_region ?_
          refine s_go (s_eql) ?_
          try simp only [opv, n1, n2, n3, n4, Value.cells]
          refine s_go (s_assign) ?_
          try simp only [opv, n1, n2, n3, n4, Value.cells]
          refine x_nil ?_
          refine hK11 _ _ ?_
          refine x_cond (ht := fun hc3 => ?_) (hf := fun hc3 => ?_)
          ·
            try simp only [decide_eq_true_eq, decide_eq_false_iff_not, Bool.not_eq_true', Bool.not_eq_false', Int.not_lt, Int.not_le, ne_eq, Decidable.not_not, bne_iff_ne, beq_iff_eq, not_true_eq_false, not_false_eq_true] at hc3
            first
            | (exfalso; omega)
            | skip
              try have hV1 : valR (kn a 0) (aval a) = (bareV (aval a) && decide (1 ≤ kn (aval a) 0 ∧ kn (aval a) 0 ≤ 4294967295)) := by rw [valR, if_neg (by omega), if_pos (by omega)]
              refine x_skip ?_
              refine hK10 _ _ ?_
              refine x_cond (ht := fun hc4 => ?_) (hf := fun hc4 => ?_)
              ·
                try simp only [decide_eq_true_eq, decide_eq_false_iff_not, Bool.not_eq_true', Bool.not_eq_false', Int.not_lt, Int.not_le, ne_eq, Decidable.not_not, bne_iff_ne, beq_iff_eq, not_true_eq_false, not_false_eq_true] at hc4
                first
                | (exfalso; omega)
                | skip
                  try have hV1 : valR (kn a 0) (aval a) = (bareV (aval a) && decide (1 ≤ kn (aval a) 0 ∧ kn (aval a) 0 ≤ 4294967295)) := by rw [valR, if_neg (by omega), if_pos (by omega)]
                  refine x_seq fun K12 hK12 => ?_
                  refine x_region ?_
                  refine s_go (s_move) ?_
                  try simp only [opv, n1, n2, n3, n4, Value.cells]
                  refine s_go (s_move) ?_
                  try simp only [opv, n1, n2, n3, n4, Value.cells]
                  refine s_part 35 rfl (fun hp3 => ?_) (fun hp3 => ?_)
                  ·
                    try simp only [n3, n4]
                    try simp only [decide_eq_true_eq, decide_eq_false_iff_not, Bool.not_eq_true', Bool.not_eq_false', Int.not_lt, Int.not_le, ne_eq, Decidable.not_not] at hp3
                    first
                    | (exfalso; omega)
                    | skip
                      have hba := hp3
                      refine g_on (yi (t := 35) rfl rfl) ?_
                      first | refine s_go (m_fieldAddr Try.underlying114 (hi := ti112)) ?_ | refine s_go (m_fieldAddr_rd Try.underlying114 (hi := ti112) (hS := hS)) ?_ | refine s_go (m_fieldAddr_vec Try.underlying114 (hi := ti112) (hS := hS)) ?_
                      try simp only [opv, n1, n2, n3, n4, Value.cells, Nat.zero_add, Nat.add_zero, List.getElem_toArray, List.getElem_cons_zero, List.getElem_cons_succ]
                      refine g_on (yi (t := 35) rfl rfl) ?_
                      first | refine s_go (m_fieldAddr Try.underlying112 (hi := ti53)) ?_ | refine s_go (m_fieldAddr_rd Try.underlying112 (hi := ti53) (hS := hS)) ?_ | refine s_go (m_fieldAddr_vec Try.underlying112 (hi := ti53) (hS := hS)) ?_
                      try simp only [opv, n1, n2, n3, n4, Value.cells, Nat.zero_add, Nat.add_zero, List.getElem_toArray, List.getElem_cons_zero, List.getElem_cons_succ]
                      refine g_on (yi (t := 35) rfl rfl) ?_
                      first | refine s_go (m_load_obj Try.underlying53 (hS := hS) (hv := by first | rfl | exact zi_get rfl (by omega) | exact ic_get (by omega) | exact il_get (by omega))) ?_ | refine s_go (m_load_bx Try.underlying53 (hS := hS) (hv := by first | rfl | exact zi_get rfl (by omega) | exact ic_get (by omega) | exact il_get (by omega))) ?_ | refine s_go (m_load_rd Try.underlying53 (hS := hS) (hv := by first | rfl | exact zi_get rfl (by omega) | exact ic_get (by omega) | exact il_get (by omega))) ?_ | refine s_go (m_load_vec Try.underlying53 (hS := hS) (hv := by first | rfl | exact zi_get rfl (by omega) | exact ic_get (by omega) | exact il_get (by omega))) ?_
                      try simp only [opv, n1, n2, n3, n4, Value.cells, List.getElem_toArray, List.getElem_cons_zero, List.getElem_cons_succ]
                      rw [aval_0 hal, hv.e0]
                      refine g_on (yi (t := 35) rfl rfl) ?_
                      refine s_go (s_geq) ?_
                      try simp only [opv, n1, n2, n3, n4, Value.cells]
                      first | refine s_go (s_pick_t) ?_ | refine s_go (s_pick_f) ?_
                      try simp only [opv, n1, n2, n3, n4, Value.cells]
                      refine s_go (s_move) ?_
                      try simp only [opv, n1, n2, n3, n4, Value.cells]
                      refine s_part 41 rfl (fun hp4 => ?_) (fun hp4 => ?_)
                      ·
                        try simp only [n3, n4]
                        try simp only [decide_eq_true_eq, decide_eq_false_iff_not, Bool.not_eq_true', Bool.not_eq_false', Int.not_lt, Int.not_le, ne_eq, Decidable.not_not] at hp4
                        first
                        | (exfalso; omega)
                        | skip
                          refine g_on (yi (t := 41) rfl rfl) ?_
                          first | refine s_go (m_fieldAddr Try.underlying114 (hi := ti112)) ?_ | refine s_go (m_fieldAddr_rd Try.underlying114 (hi := ti112) (hS := hS)) ?_ | refine s_go (m_fieldAddr_vec Try.underlying114 (hi := ti112) (hS := hS)) ?_
                          try simp only [opv, n1, n2, n3, n4, Value.cells, Nat.zero_add, Nat.add_zero, List.getElem_toArray, List.getElem_cons_zero, List.getElem_cons_succ]
                          refine g_on (yi (t := 41) rfl rfl) ?_
                          first | refine s_go (m_fieldAddr Try.underlying112 (hi := ti53)) ?_ | refine s_go (m_fieldAddr_rd Try.underlying112 (hi := ti53) (hS := hS)) ?_ | refine s_go (m_fieldAddr_vec Try.underlying112 (hi := ti53) (hS := hS)) ?_
                          try simp only [opv, n1, n2, n3, n4, Value.cells, Nat.zero_add, Nat.add_zero, List.getElem_toArray, List.getElem_cons_zero, List.getElem_cons_succ]
                          refine g_on (yi (t := 41) rfl rfl) ?_
                          first | refine s_go (m_load_obj Try.underlying53 (hS := hS) (hv := by first | rfl | exact zi_get rfl (by omega) | exact ic_get (by omega) | exact il_get (by omega))) ?_ | refine s_go (m_load_bx Try.underlying53 (hS := hS) (hv := by first | rfl | exact zi_get rfl (by omega) | exact ic_get (by omega) | exact il_get (by omega))) ?_ | refine s_go (m_load_rd Try.underlying53 (hS := hS) (hv := by first | rfl | exact zi_get rfl (by omega) | exact ic_get (by omega) | exact il_get (by omega))) ?_ | refine s_go (m_load_vec Try.underlying53 (hS := hS) (hv := by first | rfl | exact zi_get rfl (by omega) | exact ic_get (by omega) | exact il_get (by omega))) ?_
                          try simp only [opv, n1, n2, n3, n4, Value.cells, List.getElem_toArray, List.getElem_cons_zero, List.getElem_cons_succ]
                          rw [aval_0 hal, hv.e0]
                          refine g_on (yi (t := 41) rfl rfl) ?_
                          refine s_go (s_leq) ?_
                          try simp only [opv, n1, n2, n3, n4, Value.cells]
                          first | refine s_go (s_pick_t) ?_ | refine s_go (s_pick_f) ?_
                          try simp only [opv, n1, n2, n3, n4, Value.cells]
                          refine s_go (s_assign) ?_
                          try simp only [opv, n1, n2, n3, n4, Value.cells]
                          refine x_nil ?_
                          refine hK12 _ _ ?_
                          refine x_ret ?_
                          refine r_tmp rfl ?_
                          first | exact ⟨by rw [hV]; rfl, hS.ext_of⟩ | exact ⟨congrArg Value.bool (by rw [hV, hV1, hba, Bool.false_and]), hS.ext_of⟩ | exact ⟨congrArg Value.bool (by rw [hV, hV1, hba, Bool.true_and]; first | rfl | exact (decide_eq_true (by omega)).symm | exact (decide_eq_false (by omega)).symm | exact decide_eq_decide.2 (by omega)), hS.ext_of⟩ | exact ⟨congrArg Value.bool (by rw [hV, hV1, decide_eq_false (fun h => by have := stampE_0.1 h; omega), Bool.false_and]), hS.ext_of⟩ | exact ⟨congrArg Value.bool (by rw [hV, hV1, decide_eq_true (stampE_0.2 (by omega)), Bool.true_and, hba]; simp), hS.ext_of⟩
                      ·
                        try simp only [n3, n4]
                        try simp only [decide_eq_true_eq, decide_eq_false_iff_not, Bool.not_eq_true', Bool.not_eq_false', Int.not_lt, Int.not_le, ne_eq, Decidable.not_not] at hp4
                        first
                        | (exfalso; omega)
                        | skip
                          refine g_off (yi (t := 41) rfl rfl) ?_
                          try simp only [opv, n1, n2, n3, n4, Value.cells]
                          refine g_off (yi (t := 41) rfl rfl) ?_
                          try simp only [opv, n1, n2, n3, n4, Value.cells]
                          refine g_off (yi (t := 41) rfl rfl) ?_
                          try simp only [opv, n1, n2, n3, n4, Value.cells]
                          refine g_off (yi (t := 41) rfl rfl) ?_
                          try simp only [opv, n1, n2, n3, n4, Value.cells]
                          first | refine s_go (s_pick_t) ?_ | refine s_go (s_pick_f) ?_
                          try simp only [opv, n1, n2, n3, n4, Value.cells]
                          refine s_go (s_assign) ?_
                          try simp only [opv, n1, n2, n3, n4, Value.cells]
                          refine x_nil ?_
                          refine hK12 _ _ ?_
                          refine x_ret ?_
                          refine r_tmp rfl ?_
                          first | exact ⟨by rw [hV]; rfl, hS.ext_of⟩ | exact ⟨congrArg Value.bool (by rw [hV, hV1, hba, Bool.false_and]), hS.ext_of⟩ | exact ⟨congrArg Value.bool (by rw [hV, hV1, hba, Bool.true_and]; first | rfl | exact (decide_eq_true (by omega)).symm | exact (decide_eq_false (by omega)).symm | exact decide_eq_decide.2 (by omega)), hS.ext_of⟩ | exact ⟨congrArg Value.bool (by rw [hV, hV1, decide_eq_false (fun h => by have := stampE_0.1 h; omega), Bool.false_and]), hS.ext_of⟩ | exact ⟨congrArg Value.bool (by rw [hV, hV1, decide_eq_true (stampE_0.2 (by omega)), Bool.true_and, hba]; simp), hS.ext_of⟩
                  ·
                    try simp only [n3, n4]
                    try simp only [decide_eq_true_eq, decide_eq_false_iff_not, Bool.not_eq_true', Bool.not_eq_false', Int.not_lt, Int.not_le, ne_eq, Decidable.not_not] at hp3
                    first
                    | (exfalso; omega)
                    | skip
                      have hba := hp3
                      refine g_off (yi (t := 35) rfl rfl) ?_
                      try simp only [opv, n1, n2, n3, n4, Value.cells]
                      refine g_off (yi (t := 35) rfl rfl) ?_
                      try simp only [opv, n1, n2, n3, n4, Value.cells]
                      refine g_off (yi (t := 35) rfl rfl) ?_
                      try simp only [opv, n1, n2, n3, n4, Value.cells]
                      refine g_off (yi (t := 35) rfl rfl) ?_
                      try simp only [opv, n1, n2, n3, n4, Value.cells]
                      first | refine s_go (s_pick_t) ?_ | refine s_go (s_pick_f) ?_
                      try simp only [opv, n1, n2, n3, n4, Value.cells]
                      refine s_go (s_move) ?_
                      try simp only [opv, n1, n2, n3, n4, Value.cells]
                      refine g_off (yi (t := 41) rfl rfl) ?_
                      try simp only [opv, n1, n2, n3, n4, Value.cells]
                      refine g_off (yi (t := 41) rfl rfl) ?_
                      try simp only [opv, n1, n2, n3, n4, Value.cells]
                      refine g_off (yi (t := 41) rfl rfl) ?_
                      try simp only [opv, n1, n2, n3, n4, Value.cells]
                      refine g_off (yi (t := 41) rfl rfl) ?_
                      try simp only [opv, n1, n2, n3, n4, Value.cells]
                      first | refine s_go (s_pick_t) ?_ | refine s_go (s_pick_f) ?_
                      try simp only [opv, n1, n2, n3, n4, Value.cells]
                      refine s_go (s_assign) ?_
                      try simp only [opv, n1, n2, n3, n4, Value.cells]
                      refine x_nil ?_
                      refine hK12 _ _ ?_
                      refine x_ret ?_
                      refine r_tmp rfl ?_
                      first | exact ⟨by rw [hV]; rfl, hS.ext_of⟩ | exact ⟨congrArg Value.bool (by rw [hV, hV1, hba, Bool.false_and]), hS.ext_of⟩ | exact ⟨congrArg Value.bool (by rw [hV, hV1, hba, Bool.true_and]; first | rfl | exact (decide_eq_true (by omega)).symm | exact (decide_eq_false (by omega)).symm | exact decide_eq_decide.2 (by omega)), hS.ext_of⟩ | exact ⟨congrArg Value.bool (by rw [hV, hV1, decide_eq_false (fun h => by have := stampE_0.1 h; omega), Bool.false_and]), hS.ext_of⟩ | exact ⟨congrArg Value.bool (by rw [hV, hV1, decide_eq_true (stampE_0.2 (by omega)), Bool.true_and, hba]; simp), hS.ext_of⟩
              ·
                try simp only [decide_eq_true_eq, decide_eq_false_iff_not, Bool.not_eq_true', Bool.not_eq_false', Int.not_lt, Int.not_le, ne_eq, Decidable.not_not, bne_iff_ne, beq_iff_eq, not_true_eq_false, not_false_eq_true] at hc4
                first
                | (exfalso; omega)
                | skip
                  try have hV1 : valR (kn a 0) (aval a) = (decide (stampE (kn (aval a) 0) = 0) && (bareV (aval a) || nright (vtext (aval a)))) := by rw [valR, if_neg (by omega), if_neg (by omega), if_pos (by omega)]
                  refine x_skip ?_
                  refine hK6 _ _ ?_
                  refine x_seq fun K13 hK13 => ?_
                  refine x_region ?_
                  first | refine s_go (m_fieldAddr Try.underlying114 (hi := ti112)) ?_ | refine s_go (m_fieldAddr_rd Try.underlying114 (hi := ti112) (hS := hS)) ?_ | refine s_go (m_fieldAddr_vec Try.underlying114 (hi := ti112) (hS := hS)) ?_
                  try simp only [opv, n1, n2, n3, n4, Value.cells, Nat.zero_add, Nat.add_zero, List.getElem_toArray, List.getElem_cons_zero, List.getElem_cons_succ]
                  first | refine s_go (m_fieldAddr Try.underlying112 (hi := ti53)) ?_ | refine s_go (m_fieldAddr_rd Try.underlying112 (hi := ti53) (hS := hS)) ?_ | refine s_go (m_fieldAddr_vec Try.underlying112 (hi := ti53) (hS := hS)) ?_
                  try simp only [opv, n1, n2, n3, n4, Value.cells, Nat.zero_add, Nat.add_zero, List.getElem_toArray, List.getElem_cons_zero, List.getElem_cons_succ]
                  first | refine s_go (m_load_obj Try.underlying53 (hS := hS) (hv := by first | rfl | exact zi_get rfl (by omega) | exact ic_get (by omega) | exact il_get (by omega))) ?_ | refine s_go (m_load_bx Try.underlying53 (hS := hS) (hv := by first | rfl | exact zi_get rfl (by omega) | exact ic_get (by omega) | exact il_get (by omega))) ?_ | refine s_go (m_load_rd Try.underlying53 (hS := hS) (hv := by first | rfl | exact zi_get rfl (by omega) | exact ic_get (by omega) | exact il_get (by omega))) ?_ | refine s_go (m_load_vec Try.underlying53 (hS := hS) (hv := by first | rfl | exact zi_get rfl (by omega) | exact ic_get (by omega) | exact il_get (by omega))) ?_
                  try simp only [opv, n1, n2, n3, n4, Value.cells, List.getElem_toArray, List.getElem_cons_zero, List.getElem_cons_succ]
                  rw [aval_0 hal, hv.e0]
                  refine s_go (s_rem (hc := rem_nat)) ?_
                  try simp only [opv, n1, n2, n3, n4, Value.cells]
                  refine s_go (s_lss) ?_
                  try simp only [opv, n1, n2, n3, n4, Value.cells]
                  refine s_go (s_move) ?_
                  try simp only [opv, n1, n2, n3, n4, Value.cells]
                  refine s_part 52 rfl (fun hp5 => ?_) (fun hp5 => ?_)
                  ·
                    try simp only [n3, n4]
                    try simp only [decide_eq_true_eq, decide_eq_false_iff_not, Bool.not_eq_true', Bool.not_eq_false', Int.not_lt, Int.not_le, ne_eq, Decidable.not_not] at hp5
                    first
                    | (exfalso; omega)
                    | skip
                      refine g_on (yi (t := 52) rfl rfl) ?_
                      first | refine s_go (m_fieldAddr Try.underlying114 (hi := ti112)) ?_ | refine s_go (m_fieldAddr_rd Try.underlying114 (hi := ti112) (hS := hS)) ?_ | refine s_go (m_fieldAddr_vec Try.underlying114 (hi := ti112) (hS := hS)) ?_
                      try simp only [opv, n1, n2, n3, n4, Value.cells, Nat.zero_add, Nat.add_zero, List.getElem_toArray, List.getElem_cons_zero, List.getElem_cons_succ]
                      refine g_on (yi (t := 52) rfl rfl) ?_
                      first | refine s_go (m_fieldAddr Try.underlying112 (hi := ti53)) ?_ | refine s_go (m_fieldAddr_rd Try.underlying112 (hi := ti53) (hS := hS)) ?_ | refine s_go (m_fieldAddr_vec Try.underlying112 (hi := ti53) (hS := hS)) ?_
                      try simp only [opv, n1, n2, n3, n4, Value.cells, Nat.zero_add, Nat.add_zero, List.getElem_toArray, List.getElem_cons_zero, List.getElem_cons_succ]
                      refine g_on (yi (t := 52) rfl rfl) ?_
                      first | refine s_go (m_load_obj Try.underlying53 (hS := hS) (hv := by first | rfl | exact zi_get rfl (by omega) | exact ic_get (by omega) | exact il_get (by omega))) ?_ | refine s_go (m_load_bx Try.underlying53 (hS := hS) (hv := by first | rfl | exact zi_get rfl (by omega) | exact ic_get (by omega) | exact il_get (by omega))) ?_ | refine s_go (m_load_rd Try.underlying53 (hS := hS) (hv := by first | rfl | exact zi_get rfl (by omega) | exact ic_get (by omega) | exact il_get (by omega))) ?_ | refine s_go (m_load_vec Try.underlying53 (hS := hS) (hv := by first | rfl | exact zi_get rfl (by omega) | exact ic_get (by omega) | exact il_get (by omega))) ?_
                      try simp only [opv, n1, n2, n3, n4, Value.cells, List.getElem_toArray, List.getElem_cons_zero, List.getElem_cons_succ]
                      rw [aval_0 hal, hv.e0]
                      refine g_on (yi (t := 52) rfl rfl) ?_
                      refine s_go (s_quo (hc := quo_u64 (r := kn (aval a) 0) (p := 256) hvb)) ?_
                      try simp only [opv, n1, n2, n3, n4, Value.cells]
                      refine g_on (yi (t := 52) rfl rfl) ?_
                      refine s_go (s_geq) ?_
                      try simp only [opv, n1, n2, n3, n4, Value.cells]
                      first | refine s_go (s_pick_t) ?_ | refine s_go (s_pick_f) ?_
                      try simp only [opv, n1, n2, n3, n4, Value.cells]
                      refine s_go (s_move) ?_
                      try simp only [opv, n1, n2, n3, n4, Value.cells]
                      refine s_part 59 rfl (fun hp6 => ?_) (fun hp6 => ?_)
                      ·
                        try simp only [n3, n4]
                        try simp only [decide_eq_true_eq, decide_eq_false_iff_not, Bool.not_eq_true', Bool.not_eq_false', Int.not_lt, Int.not_le, ne_eq, Decidable.not_not] at hp6
                        first
                        | (exfalso; omega)
                        | skip
                          refine g_on (yi (t := 59) rfl rfl) ?_
                          first | refine s_go (m_fieldAddr Try.underlying114 (hi := ti112)) ?_ | refine s_go (m_fieldAddr_rd Try.underlying114 (hi := ti112) (hS := hS)) ?_ | refine s_go (m_fieldAddr_vec Try.underlying114 (hi := ti112) (hS := hS)) ?_
                          try simp only [opv, n1, n2, n3, n4, Value.cells, Nat.zero_add, Nat.add_zero, List.getElem_toArray, List.getElem_cons_zero, List.getElem_cons_succ]
                          refine g_on (yi (t := 59) rfl rfl) ?_
                          first | refine s_go (m_fieldAddr Try.underlying112 (hi := ti53)) ?_ | refine s_go (m_fieldAddr_rd Try.underlying112 (hi := ti53) (hS := hS)) ?_ | refine s_go (m_fieldAddr_vec Try.underlying112 (hi := ti53) (hS := hS)) ?_
                          try simp only [opv, n1, n2, n3, n4, Value.cells, Nat.zero_add, Nat.add_zero, List.getElem_toArray, List.getElem_cons_zero, List.getElem_cons_succ]
                          refine g_on (yi (t := 59) rfl rfl) ?_
                          first | refine s_go (m_load_obj Try.underlying53 (hS := hS) (hv := by first | rfl | exact zi_get rfl (by omega) | exact ic_get (by omega) | exact il_get (by omega))) ?_ | refine s_go (m_load_bx Try.underlying53 (hS := hS) (hv := by first | rfl | exact zi_get rfl (by omega) | exact ic_get (by omega) | exact il_get (by omega))) ?_ | refine s_go (m_load_rd Try.underlying53 (hS := hS) (hv := by first | rfl | exact zi_get rfl (by omega) | exact ic_get (by omega) | exact il_get (by omega))) ?_ | refine s_go (m_load_vec Try.underlying53 (hS := hS) (hv := by first | rfl | exact zi_get rfl (by omega) | exact ic_get (by omega) | exact il_get (by omega))) ?_
                          try simp only [opv, n1, n2, n3, n4, Value.cells, List.getElem_toArray, List.getElem_cons_zero, List.getElem_cons_succ]
                          rw [aval_0 hal, hv.e0]
                          refine g_on (yi (t := 59) rfl rfl) ?_
                          refine s_go (s_quo (hc := quo_u64 (r := kn (aval a) 0) (p := 256) hvb)) ?_
                          try simp only [opv, n1, n2, n3, n4, Value.cells]
                          refine g_on (yi (t := 59) rfl rfl) ?_
                          refine s_go (s_leq) ?_
                          try simp only [opv, n1, n2, n3, n4, Value.cells]
                          first | refine s_go (s_pick_t) ?_ | refine s_go (s_pick_f) ?_
                          try simp only [opv, n1, n2, n3, n4, Value.cells]
                          refine s_go (s_move) ?_
                          try simp only [opv, n1, n2, n3, n4, Value.cells]
                          refine s_part 66 rfl (fun hp7 => ?_) (fun hp7 => ?_)
                          ·
                            try simp only [n3, n4]
                            try simp only [decide_eq_true_eq, decide_eq_false_iff_not, Bool.not_eq_true', Bool.not_eq_false', Int.not_lt, Int.not_le, ne_eq, Decidable.not_not] at hp7
                            first
                            | (exfalso; omega)
                            | skip
                              refine g_on (yi (t := 66) rfl rfl) ?_
                              refine s_go (s_move) ?_
                              try simp only [opv, n1, n2, n3, n4, Value.cells]
                              refine g_on (yi (t := 66) rfl rfl) ?_
                              refine s_go (s_move) ?_
                              try simp only [opv, n1, n2, n3, n4, Value.cells]
                              refine s_part 68 rfl (fun hp8 => ?_) (fun hp8 => ?_)
                              ·
                                try simp only [n3, n4]
                                try simp only [decide_eq_true_eq, decide_eq_false_iff_not, Bool.not_eq_true', Bool.not_eq_false', Int.not_lt, Int.not_le, ne_eq, Decidable.not_not] at hp8
                                first
                                | (exfalso; omega)
                                | skip
                                  have hba := hp8
                                  refine g_off (yi (t := 68) rfl rfl) ?_
                                  try simp only [opv, n1, n2, n3, n4, Value.cells]
                                  refine g_off (yi (t := 68) rfl rfl) ?_
                                  try simp only [opv, n1, n2, n3, n4, Value.cells]
                                  refine g_off (yi (t := 68) rfl rfl) ?_
                                  try simp only [opv, n1, n2, n3, n4, Value.cells]
                                  refine g_off (yi (t := 68) rfl rfl) ?_
                                  try simp only [opv, n1, n2, n3, n4, Value.cells]
                                  refine g_on (yi (t := 66) rfl rfl) ?_
                                  first | refine s_go (s_pick_t) ?_ | refine s_go (s_pick_f) ?_
                                  try simp only [opv, n1, n2, n3, n4, Value.cells]
                                  first | refine s_go (s_pick_t) ?_ | refine s_go (s_pick_f) ?_
                                  try simp only [opv, n1, n2, n3, n4, Value.cells]
                                  refine s_go (s_assign) ?_
                                  try simp only [opv, n1, n2, n3, n4, Value.cells]
                                  refine x_nil ?_
                                  refine hK13 _ _ ?_
                                  refine x_ret ?_
                                  refine r_tmp rfl ?_
                                  first | exact ⟨by rw [hV]; rfl, hS.ext_of⟩ | exact ⟨congrArg Value.bool (by rw [hV, hV1, hba, Bool.false_and]), hS.ext_of⟩ | exact ⟨congrArg Value.bool (by rw [hV, hV1, hba, Bool.true_and]; first | rfl | exact (decide_eq_true (by omega)).symm | exact (decide_eq_false (by omega)).symm | exact decide_eq_decide.2 (by omega)), hS.ext_of⟩ | exact ⟨congrArg Value.bool (by rw [hV, hV1, decide_eq_false (fun h => by have := stampE_0.1 h; omega), Bool.false_and]), hS.ext_of⟩ | exact ⟨congrArg Value.bool (by rw [hV, hV1, decide_eq_true (stampE_0.2 (by omega)), Bool.true_and, hba]; simp), hS.ext_of⟩
                              ·
                                try simp only [n3, n4]
                                try simp only [decide_eq_true_eq, decide_eq_false_iff_not, Bool.not_eq_true', Bool.not_eq_false', Int.not_lt, Int.not_le, ne_eq, Decidable.not_not] at hp8
                                first
                                | (exfalso; omega)
                                | skip
                                  have hba := hp8
                                  refine g_on (yi (t := 68) rfl rfl) ?_
                                  first | refine s_go (m_fieldAddr Try.underlying114 (hi := ti112)) ?_ | refine s_go (m_fieldAddr_rd Try.underlying114 (hi := ti112) (hS := hS)) ?_ | refine s_go (m_fieldAddr_vec Try.underlying114 (hi := ti112) (hS := hS)) ?_
                                  try simp only [opv, n1, n2, n3, n4, Value.cells, Nat.zero_add, Nat.add_zero, List.getElem_toArray, List.getElem_cons_zero, List.getElem_cons_succ]
                                  refine g_on (yi (t := 68) rfl rfl) ?_
                                  first | refine s_go (m_fieldAddr Try.underlying112 (hi := ti70)) ?_ | refine s_go (m_fieldAddr_rd Try.underlying112 (hi := ti70) (hS := hS)) ?_ | refine s_go (m_fieldAddr_vec Try.underlying112 (hi := ti70) (hS := hS)) ?_
                                  try simp only [opv, n1, n2, n3, n4, Value.cells, Nat.zero_add, Nat.add_zero, List.getElem_toArray, List.getElem_cons_zero, List.getElem_cons_succ]
                                  refine g_on (yi (t := 68) rfl rfl) ?_
                                  first | refine s_go (m_load_row Try.underlying70 (hi := ti70) (hS := hS) (hfit := by first | omega | (rw [zi_size (by omega)]; first | rfl | decide) | (simp only [ic_size, List.length_map, List.size_toArray]; first | omega | decide) | rfl | (simp [*]; done) | (simp [*]; omega))) ?_ | refine s_go (m_loada_obj Try.underlying70 (hi := ti70) (hS := hS) (hfit := by first | omega | (rw [zi_size (by omega)]; first | rfl | decide) | (simp only [ic_size, List.length_map, List.size_toArray]; first | omega | decide) | rfl | (simp [*]; done) | (simp [*]; omega))) ?_ | refine s_go (m_loada_bx Try.underlying70 (hi := ti70) (hS := hS) (hfit := by first | omega | (rw [zi_size (by omega)]; first | rfl | decide) | (simp only [ic_size, List.length_map, List.size_toArray]; first | omega | decide) | rfl | (simp [*]; done) | (simp [*]; omega))) ?_ | refine s_go (m_loada_rd Try.underlying70 (hi := ti70) (hS := hS) (hfit := by first | omega | (rw [zi_size (by omega)]; first | rfl | decide) | (simp only [ic_size, List.length_map, List.size_toArray]; first | omega | decide) | rfl | (simp [*]; done) | (simp [*]; omega))) ?_ | refine s_go (m_loada_vec Try.underlying70 (hi := ti70) (hS := hS) (hfit := by first | omega | (rw [zi_size (by omega)]; first | rfl | decide) | (simp only [ic_size, List.length_map, List.size_toArray]; first | omega | decide) | rfl | (simp [*]; done) | (simp [*]; omega))) ?_
                                  try simp only [opv, n1, n2, n3, n4, Value.cells, List.getElem_toArray, List.getElem_cons_zero, List.getElem_cons_succ]
                                  rw [atom_text hal]
                                  refine g_on (yi (t := 68) rfl rfl) ?_
                                  refine s_call en78 ?_
                                  try simp only [opv, n1, n2, n3, n4, Value.cells, List.map_toArray, List.map_cons, List.map_nil, List.append_toArray, List.cons_append, List.nil_append, Array.append_empty]
                                  refine CallR.mono (c_ref06Right _ htl htb _) ?_
                                  rintro _ w3 ⟨rfl, hE3⟩
                                  replace hS := hS.ext hE3
                                  try simp only [opv, n1, n2, n3, n4, Value.cells]
                                  refine g_on (yi (t := 66) rfl rfl) ?_
                                  first | refine s_go (s_pick_t) ?_ | refine s_go (s_pick_f) ?_
                                  try simp only [opv, n1, n2, n3, n4, Value.cells]
                                  first | refine s_go (s_pick_t) ?_ | refine s_go (s_pick_f) ?_
                                  try simp only [opv, n1, n2, n3, n4, Value.cells]
                                  refine s_go (s_assign) ?_
                                  try simp only [opv, n1, n2, n3, n4, Value.cells]
                                  refine x_nil ?_
                                  refine hK13 _ _ ?_
                                  refine x_ret ?_
                                  refine r_tmp rfl ?_
                                  first | exact ⟨by rw [hV]; rfl, hS.ext_of⟩ | exact ⟨congrArg Value.bool (by rw [hV, hV1, hba, Bool.false_and]), hS.ext_of⟩ | exact ⟨congrArg Value.bool (by rw [hV, hV1, hba, Bool.true_and]; first | rfl | exact (decide_eq_true (by omega)).symm | exact (decide_eq_false (by omega)).symm | exact decide_eq_decide.2 (by omega)), hS.ext_of⟩ | exact ⟨congrArg Value.bool (by rw [hV, hV1, decide_eq_false (fun h => by have := stampE_0.1 h; omega), Bool.false_and]), hS.ext_of⟩ | exact ⟨congrArg Value.bool (by rw [hV, hV1, decide_eq_true (stampE_0.2 (by omega)), Bool.true_and, hba]; simp), hS.ext_of⟩
                          ·
                            try simp only [n3, n4]
                            try simp only [decide_eq_true_eq, decide_eq_false_iff_not, Bool.not_eq_true', Bool.not_eq_false', Int.not_lt, Int.not_le, ne_eq, Decidable.not_not] at hp7
                            first
                            | (exfalso; omega)
                            | skip
                              refine g_off (yi (t := 66) rfl rfl) ?_
                              try simp only [opv, n1, n2, n3, n4, Value.cells]
                              refine g_off (yi (t := 66) rfl rfl) ?_
                              try simp only [opv, n1, n2, n3, n4, Value.cells]
                              refine g_un (yn (t := 68) rfl rfl) ?_
                              try simp only [opv, n1, n2, n3, n4, Value.cells]
                              refine g_un (yn (t := 68) rfl rfl) ?_
                              try simp only [opv, n1, n2, n3, n4, Value.cells]
                              refine g_un (yn (t := 68) rfl rfl) ?_
                              try simp only [opv, n1, n2, n3, n4, Value.cells]
                              refine g_un (yn (t := 68) rfl rfl) ?_
                              try simp only [opv, n1, n2, n3, n4, Value.cells]
                              refine g_off (yi (t := 66) rfl rfl) ?_
                              try simp only [opv, n1, n2, n3, n4, Value.cells]
                              first | refine s_go (s_pick_t) ?_ | refine s_go (s_pick_f) ?_
                              try simp only [opv, n1, n2, n3, n4, Value.cells]
                              refine s_go (s_assign) ?_
                              try simp only [opv, n1, n2, n3, n4, Value.cells]
                              refine x_nil ?_
                              refine hK13 _ _ ?_
                              refine x_ret ?_
                              refine r_tmp rfl ?_
                              first | exact ⟨by rw [hV]; rfl, hS.ext_of⟩ | exact ⟨congrArg Value.bool (by rw [hV, hV1, hba, Bool.false_and]), hS.ext_of⟩ | exact ⟨congrArg Value.bool (by rw [hV, hV1, hba, Bool.true_and]; first | rfl | exact (decide_eq_true (by omega)).symm | exact (decide_eq_false (by omega)).symm | exact decide_eq_decide.2 (by omega)), hS.ext_of⟩ | exact ⟨congrArg Value.bool (by rw [hV, hV1, decide_eq_false (fun h => by have := stampE_0.1 h; omega), Bool.false_and]), hS.ext_of⟩ | exact ⟨congrArg Value.bool (by rw [hV, hV1, decide_eq_true (stampE_0.2 (by omega)), Bool.true_and, hba]; simp), hS.ext_of⟩
                      ·
                        try simp only [n3, n4]
                        try simp only [decide_eq_true_eq, decide_eq_false_iff_not, Bool.not_eq_true', Bool.not_eq_false', Int.not_lt, Int.not_le, ne_eq, Decidable.not_not] at hp6
                        first
                        | (exfalso; omega)
                        | skip
                          refine g_off (yi (t := 59) rfl rfl) ?_
                          try simp only [opv, n1, n2, n3, n4, Value.cells]
                          refine g_off (yi (t := 59) rfl rfl) ?_
                          try simp only [opv, n1, n2, n3, n4, Value.cells]
                          refine g_off (yi (t := 59) rfl rfl) ?_
                          try simp only [opv, n1, n2, n3, n4, Value.cells]
                          refine g_off (yi (t := 59) rfl rfl) ?_
                          try simp only [opv, n1, n2, n3, n4, Value.cells]
                          refine g_off (yi (t := 59) rfl rfl) ?_
                          try simp only [opv, n1, n2, n3, n4, Value.cells]
                          first | refine s_go (s_pick_t) ?_ | refine s_go (s_pick_f) ?_
                          try simp only [opv, n1, n2, n3, n4, Value.cells]
                          refine s_go (s_move) ?_
                          try simp only [opv, n1, n2, n3, n4, Value.cells]
                          refine g_off (yi (t := 66) rfl rfl) ?_
                          try simp only [opv, n1, n2, n3, n4, Value.cells]
                          refine g_off (yi (t := 66) rfl rfl) ?_
                          try simp only [opv, n1, n2, n3, n4, Value.cells]
                          refine g_un (yn (t := 68) rfl rfl) ?_
                          try simp only [opv, n1, n2, n3, n4, Value.cells]
                          refine g_un (yn (t := 68) rfl rfl) ?_
                          try simp only [opv, n1, n2, n3, n4, Value.cells]
                          refine g_un (yn (t := 68) rfl rfl) ?_
                          try simp only [opv, n1, n2, n3, n4, Value.cells]
                          refine g_un (yn (t := 68) rfl rfl) ?_
                          try simp only [opv, n1, n2, n3, n4, Value.cells]
                          refine g_off (yi (t := 66) rfl rfl) ?_
                          try simp only [opv, n1, n2, n3, n4, Value.cells]
                          first | refine s_go (s_pick_t) ?_ | refine s_go (s_pick_f) ?_
                          try simp only [opv, n1, n2, n3, n4, Value.cells]
                          refine s_go (s_assign) ?_
                          try simp only [opv, n1, n2, n3, n4, Value.cells]
                          refine x_nil ?_
                          refine hK13 _ _ ?_
                          refine x_ret ?_
                          refine r_tmp rfl ?_
                          first | exact ⟨by rw [hV]; rfl, hS.ext_of⟩ | exact ⟨congrArg Value.bool (by rw [hV, hV1, hba, Bool.false_and]), hS.ext_of⟩ | exact ⟨congrArg Value.bool (by rw [hV, hV1, hba, Bool.true_and]; first | rfl | exact (decide_eq_true (by omega)).symm | exact (decide_eq_false (by omega)).symm | exact decide_eq_decide.2 (by omega)), hS.ext_of⟩ | exact ⟨congrArg Value.bool (by rw [hV, hV1, decide_eq_false (fun h => by have := stampE_0.1 h; omega), Bool.false_and]), hS.ext_of⟩ | exact ⟨congrArg Value.bool (by rw [hV, hV1, decide_eq_true (stampE_0.2 (by omega)), Bool.true_and, hba]; simp), hS.ext_of⟩
                  ·
                    try simp only [n3, n4]
                    try simp only [decide_eq_true_eq, decide_eq_false_iff_not, Bool.not_eq_true', Bool.not_eq_false', Int.not_lt, Int.not_le, ne_eq, Decidable.not_not] at hp5
                    first
                    | (exfalso; omega)
                    | skip
                      refine g_off (yi (t := 52) rfl rfl) ?_
                      try simp only [opv, n1, n2, n3, n4, Value.cells]
                      refine g_off (yi (t := 52) rfl rfl) ?_
                      try simp only [opv, n1, n2, n3, n4, Value.cells]
                      refine g_off (yi (t := 52) rfl rfl) ?_
                      try simp only [opv, n1, n2, n3, n4, Value.cells]
                      refine g_off (yi (t := 52) rfl rfl) ?_
                      try simp only [opv, n1, n2, n3, n4, Value.cells]
                      refine g_off (yi (t := 52) rfl rfl) ?_
                      try simp only [opv, n1, n2, n3, n4, Value.cells]
                      first | refine s_go (s_pick_t) ?_ | refine s_go (s_pick_f) ?_
                      try simp only [opv, n1, n2, n3, n4, Value.cells]
                      refine s_go (s_move) ?_
                      try simp only [opv, n1, n2, n3, n4, Value.cells]
                      refine g_off (yi (t := 59) rfl rfl) ?_
                      try simp only [opv, n1, n2, n3, n4, Value.cells]
                      refine g_off (yi (t := 59) rfl rfl) ?_
                      try simp only [opv, n1, n2, n3, n4, Value.cells]
                      refine g_off (yi (t := 59) rfl rfl) ?_
                      try simp only [opv, n1, n2, n3, n4, Value.cells]
                      refine g_off (yi (t := 59) rfl rfl) ?_
                      try simp only [opv, n1, n2, n3, n4, Value.cells]
                      refine g_off (yi (t := 59) rfl rfl) ?_
                      try simp only [opv, n1, n2, n3, n4, Value.cells]
                      first | refine s_go (s_pick_t) ?_ | refine s_go (s_pick_f) ?_
                      try simp only [opv, n1, n2, n3, n4, Value.cells]
                      refine s_go (s_move) ?_
                      try simp only [opv, n1, n2, n3, n4, Value.cells]
                      refine g_off (yi (t := 66) rfl rfl) ?_
                      try simp only [opv, n1, n2, n3, n4, Value.cells]
                      refine g_off (yi (t := 66) rfl rfl) ?_
                      try simp only [opv, n1, n2, n3, n4, Value.cells]
                      refine g_un (yn (t := 68) rfl rfl) ?_
                      try simp only [opv, n1, n2, n3, n4, Value.cells]
                      refine g_un (yn (t := 68) rfl rfl) ?_
                      try simp only [opv, n1, n2, n3, n4, Value.cells]
                      refine g_un (yn (t := 68) rfl rfl) ?_
                      try simp only [opv, n1, n2, n3, n4, Value.cells]
                      refine g_un (yn (t := 68) rfl rfl) ?_
                      try simp only [opv, n1, n2, n3, n4, Value.cells]
                      refine g_off (yi (t := 66) rfl rfl) ?_
                      try simp only [opv, n1, n2, n3, n4, Value.cells]
                      first | refine s_go (s_pick_t) ?_ | refine s_go (s_pick_f) ?_
                      try simp only [opv, n1, n2, n3, n4, Value.cells]
                      refine s_go (s_assign) ?_
                      try simp only [opv, n1, n2, n3, n4, Value.cells]
                      refine x_nil ?_
                      refine hK13 _ _ ?_
                      refine x_ret ?_
                      refine r_tmp rfl ?_
                      first | exact ⟨by rw [hV]; rfl, hS.ext_of⟩ | exact ⟨congrArg Value.bool (by rw [hV, hV1, hba, Bool.false_and]), hS.ext_of⟩ | exact ⟨congrArg Value.bool (by rw [hV, hV1, hba, Bool.true_and]; first | rfl | exact (decide_eq_true (by omega)).symm | exact (decide_eq_false (by omega)).symm | exact decide_eq_decide.2 (by omega)), hS.ext_of⟩ | exact ⟨congrArg Value.bool (by rw [hV, hV1, decide_eq_false (fun h => by have := stampE_0.1 h; omega), Bool.false_and]), hS.ext_of⟩ | exact ⟨congrArg Value.bool (by rw [hV, hV1, decide_eq_true (stampE_0.2 (by omega)), Bool.true_and, hba]; simp), hS.ext_of⟩
          ·
            try simp only [decide_eq_true_eq, decide_eq_false_iff_not, Bool.not_eq_true', Bool.not_eq_false', Int.not_lt, Int.not_le, ne_eq, Decidable.not_not, bne_iff_ne, beq_iff_eq, not_true_eq_false, not_false_eq_true] at hc3
            first
            | (exfalso; omega)
            | skip
              try have hV1 : valR (kn a 0) (aval a) = (decide (stampE (kn (aval a) 0) = 0) && (bareV (aval a) || nright (vtext (aval a)))) := by rw [valR, if_neg (by omega), if_neg (by omega), if_pos (by omega)]
              refine x_region ?_
              refine s_go (s_eql) ?_
              try simp only [opv, n1, n2, n3, n4, Value.cells]
              refine s_go (s_assign) ?_
              try simp only [opv, n1, n2, n3, n4, Value.cells]
              refine x_nil ?_
              refine hK10 _ _ ?_
              refine x_cond (ht := fun hc5 => ?_) (hf := fun hc5 => ?_)
              ·
                try simp only [decide_eq_true_eq, decide_eq_false_iff_not, Bool.not_eq_true', Bool.not_eq_false', Int.not_lt, Int.not_le, ne_eq, Decidable.not_not, bne_iff_ne, beq_iff_eq, not_true_eq_false, not_false_eq_true] at hc5
                first
                | (exfalso; omega)
                | skip
                  try have hV1 : valR (kn a 0) (aval a) = (bareV (aval a) && decide (1 ≤ kn (aval a) 0 ∧ kn (aval a) 0 ≤ 4294967295)) := by rw [valR, if_neg (by omega), if_pos (by omega)]
                  refine x_seq fun K14 hK14 => ?_
                  refine x_region ?_
                  refine s_go (s_move) ?_
                  try simp only [opv, n1, n2, n3, n4, Value.cells]
                  refine s_go (s_move) ?_
                  try simp only [opv, n1, n2, n3, n4, Value.cells]
                  refine s_part 35 rfl (fun hp9 => ?_) (fun hp9 => ?_)
                  ·
                    try simp only [n3, n4]
                    try simp only [decide_eq_true_eq, decide_eq_false_iff_not, Bool.not_eq_true', Bool.not_eq_false', Int.not_lt, Int.not_le, ne_eq, Decidable.not_not] at hp9
                    first
                    | (exfalso; omega)
                    | skip
                      have hba := hp9
                      refine g_on (yi (t := 35) rfl rfl) ?_
                      first | refine s_go (m_fieldAddr Try.underlying114 (hi := ti112)) ?_ | refine s_go (m_fieldAddr_rd Try.underlying114 (hi := ti112) (hS := hS)) ?_ | refine s_go (m_fieldAddr_vec Try.underlying114 (hi := ti112) (hS := hS)) ?_
                      try simp only [opv, n1, n2, n3, n4, Value.cells, Nat.zero_add, Nat.add_zero, List.getElem_toArray, List.getElem_cons_zero, List.getElem_cons_succ]
                      refine g_on (yi (t := 35) rfl rfl) ?_
                      first | refine s_go (m_fieldAddr Try.underlying112 (hi := ti53)) ?_ | refine s_go (m_fieldAddr_rd Try.underlying112 (hi := ti53) (hS := hS)) ?_ | refine s_go (m_fieldAddr_vec Try.underlying112 (hi := ti53) (hS := hS)) ?_
                      try simp only [opv, n1, n2, n3, n4, Value.cells, Nat.zero_add, Nat.add_zero, List.getElem_toArray, List.getElem_cons_zero, List.getElem_cons_succ]
                      refine g_on (yi (t := 35) rfl rfl) ?_
                      first | refine s_go (m_load_obj Try.underlying53 (hS := hS) (hv := by first | rfl | exact zi_get rfl (by omega) | exact ic_get (by omega) | exact il_get (by omega))) ?_ | refine s_go (m_load_bx Try.underlying53 (hS := hS) (hv := by first | rfl | exact zi_get rfl (by omega) | exact ic_get (by omega) | exact il_get (by omega))) ?_ | refine s_go (m_load_rd Try.underlying53 (hS := hS) (hv := by first | rfl | exact zi_get rfl (by omega) | exact ic_get (by omega) | exact il_get (by omega))) ?_ | refine s_go (m_load_vec Try.underlying53 (hS := hS) (hv := by first | rfl | exact zi_get rfl (by omega) | exact ic_get (by omega) | exact il_get (by omega))) ?_
                      try simp only [opv, n1, n2, n3, n4, Value.cells, List.getElem_toArray, List.getElem_cons_zero, List.getElem_cons_succ]
                      rw [aval_0 hal, hv.e0]
                      refine g_on (yi (t := 35) rfl rfl) ?_
                      refine s_go (s_geq) ?_
                      try simp only [opv, n1, n2, n3, n4, Value.cells]
                      first | refine s_go (s_pick_t) ?_ | refine s_go (s_pick_f) ?_
                      try simp only [opv, n1, n2, n3, n4, Value.cells]
                      refine s_go (s_move) ?_
                      try simp only [opv, n1, n2, n3, n4, Value.cells]
                      refine s_part 41 rfl (fun hp10 => ?_) (fun hp10 => ?_)
                      ·
                        try simp only [n3, n4]
                        try simp only [decide_eq_true_eq, decide_eq_false_iff_not, Bool.not_eq_true', Bool.not_eq_false', Int.not_lt, Int.not_le, ne_eq, Decidable.not_not] at hp10
                        first
                        | (exfalso; omega)
                        | skip
                          refine g_on (yi (t := 41) rfl rfl) ?_
                          first | refine s_go (m_fieldAddr Try.underlying114 (hi := ti112)) ?_ | refine s_go (m_fieldAddr_rd Try.underlying114 (hi := ti112) (hS := hS)) ?_ | refine s_go (m_fieldAddr_vec Try.underlying114 (hi := ti112) (hS := hS)) ?_
                          try simp only [opv, n1, n2, n3, n4, Value.cells, Nat.zero_add, Nat.add_zero, List.getElem_toArray, List.getElem_cons_zero, List.getElem_cons_succ]
                          refine g_on (yi (t := 41) rfl rfl) ?_
                          first | refine s_go (m_fieldAddr Try.underlying112 (hi := ti53)) ?_ | refine s_go (m_fieldAddr_rd Try.underlying112 (hi := ti53) (hS := hS)) ?_ | refine s_go (m_fieldAddr_vec Try.underlying112 (hi := ti53) (hS := hS)) ?_
                          try simp only [opv, n1, n2, n3, n4, Value.cells, Nat.zero_add, Nat.add_zero, List.getElem_toArray, List.getElem_cons_zero, List.getElem_cons_succ]
                          refine g_on (yi (t := 41) rfl rfl) ?_
                          first | refine s_go (m_load_obj Try.underlying53 (hS := hS) (hv := by first | rfl | exact zi_get rfl (by omega) | exact ic_get (by omega) | exact il_get (by omega))) ?_ | refine s_go (m_load_bx Try.underlying53 (hS := hS) (hv := by first | rfl | exact zi_get rfl (by omega) | exact ic_get (by omega) | exact il_get (by omega))) ?_ | refine s_go (m_load_rd Try.underlying53 (hS := hS) (hv := by first | rfl | exact zi_get rfl (by omega) | exact ic_get (by omega) | exact il_get (by omega))) ?_ | refine s_go (m_load_vec Try.underlying53 (hS := hS) (hv := by first | rfl | exact zi_get rfl (by omega) | exact ic_get (by omega) | exact il_get (by omega))) ?_
                          try simp only [opv, n1, n2, n3, n4, Value.cells, List.getElem_toArray, List.getElem_cons_zero, List.getElem_cons_succ]
                          rw [aval_0 hal, hv.e0]
                          refine g_on (yi (t := 41) rfl rfl) ?_
                          refine s_go (s_leq) ?_
                          try simp only [opv, n1, n2, n3, n4, Value.cells]
                          first | refine s_go (s_pick_t) ?_ | refine s_go (s_pick_f) ?_
                          try simp only [opv, n1, n2, n3, n4, Value.cells]
                          refine s_go (s_assign) ?_
                          try simp only [opv, n1, n2, n3, n4, Value.cells]
                          refine x_nil ?_
                          refine hK14 _ _ ?_
                          refine x_ret ?_
                          refine r_tmp rfl ?_
                          first | exact ⟨by rw [hV]; rfl, hS.ext_of⟩ | exact ⟨congrArg Value.bool (by rw [hV, hV1, hba, Bool.false_and]), hS.ext_of⟩ | exact ⟨congrArg Value.bool (by rw [hV, hV1, hba, Bool.true_and]; first | rfl | exact (decide_eq_true (by omega)).symm | exact (decide_eq_false (by omega)).symm | exact decide_eq_decide.2 (by omega)), hS.ext_of⟩ | exact ⟨congrArg Value.bool (by rw [hV, hV1, decide_eq_false (fun h => by have := stampE_0.1 h; omega), Bool.false_and]), hS.ext_of⟩ | exact ⟨congrArg Value.bool (by rw [hV, hV1, decide_eq_true (stampE_0.2 (by omega)), Bool.true_and, hba]; simp), hS.ext_of⟩
                      ·
                        try simp only [n3, n4]
                        try simp only [decide_eq_true_eq, decide_eq_false_iff_not, Bool.not_eq_true', Bool.not_eq_false', Int.not_lt, Int.not_le, ne_eq, Decidable.not_not] at hp10
                        first
                        | (exfalso; omega)
                        | skip
                          refine g_off (yi (t := 41) rfl rfl) ?_
                          try simp only [opv, n1, n2, n3, n4, Value.cells]
                          refine g_off (yi (t := 41) rfl rfl) ?_
                          try simp only [opv, n1, n2, n3, n4, Value.cells]
                          refine g_off (yi (t := 41) rfl rfl) ?_
                          try simp only [opv, n1, n2, n3, n4, Value.cells]
                          refine g_off (yi (t := 41) rfl rfl) ?_
                          try simp only [opv, n1, n2, n3, n4, Value.cells]
                          first | refine s_go (s_pick_t) ?_ | refine s_go (s_pick_f) ?_
                          try simp only [opv, n1, n2, n3, n4, Value.cells]
                          refine s_go (s_assign) ?_
                          try simp only [opv, n1, n2, n3, n4, Value.cells]
                          refine x_nil ?_
                          refine hK14 _ _ ?_
                          refine x_ret ?_
                          refine r_tmp rfl ?_
                          first | exact ⟨by rw [hV]; rfl, hS.ext_of⟩ | exact ⟨congrArg Value.bool (by rw [hV, hV1, hba, Bool.false_and]), hS.ext_of⟩ | exact ⟨congrArg Value.bool (by rw [hV, hV1, hba, Bool.true_and]; first | rfl | exact (decide_eq_true (by omega)).symm | exact (decide_eq_false (by omega)).symm | exact decide_eq_decide.2 (by omega)), hS.ext_of⟩ | exact ⟨congrArg Value.bool (by rw [hV, hV1, decide_eq_false (fun h => by have := stampE_0.1 h; omega), Bool.false_and]), hS.ext_of⟩ | exact ⟨congrArg Value.bool (by rw [hV, hV1, decide_eq_true (stampE_0.2 (by omega)), Bool.true_and, hba]; simp), hS.ext_of⟩
                  ·
                    try simp only [n3, n4]
                    try simp only [decide_eq_true_eq, decide_eq_false_iff_not, Bool.not_eq_true', Bool.not_eq_false', Int.not_lt, Int.not_le, ne_eq, Decidable.not_not] at hp9
                    first
                    | (exfalso; omega)
                    | skip
                      have hba := hp9
                      refine g_off (yi (t := 35) rfl rfl) ?_
                      try simp only [opv, n1, n2, n3, n4, Value.cells]
                      refine g_off (yi (t := 35) rfl rfl) ?_
                      try simp only [opv, n1, n2, n3, n4, Value.cells]
                      refine g_off (yi (t := 35) rfl rfl) ?_
                      try simp only [opv, n1, n2, n3, n4, Value.cells]
                      refine g_off (yi (t := 35) rfl rfl) ?_
                      try simp only [opv, n1, n2, n3, n4, Value.cells]
                      first | refine s_go (s_pick_t) ?_ | refine s_go (s_pick_f) ?_
                      try simp only [opv, n1, n2, n3, n4, Value.cells]
                      refine s_go (s_move) ?_
                      try simp only [opv, n1, n2, n3, n4, Value.cells]
                      refine g_off (yi (t := 41) rfl rfl) ?_
                      try simp only [opv, n1, n2, n3, n4, Value.cells]
                      refine g_off (yi (t := 41) rfl rfl) ?_
                      try simp only [opv, n1, n2, n3, n4, Value.cells]
                      refine g_off (yi (t := 41) rfl rfl) ?_
                      try simp only [opv, n1, n2, n3, n4, Value.cells]
                      refine g_off (yi (t := 41) rfl rfl) ?_
                      try simp only [opv, n1, n2, n3, n4, Value.cells]
                      first | refine s_go (s_pick_t) ?_ | refine s_go (s_pick_f) ?_
                      try simp only [opv, n1, n2, n3, n4, Value.cells]
                      refine s_go (s_assign) ?_
                      try simp only [opv, n1, n2, n3, n4, Value.cells]
                      refine x_nil ?_
                      refine hK14 _ _ ?_
                      refine x_ret ?_
                      refine r_tmp rfl ?_
                      first | exact ⟨by rw [hV]; rfl, hS.ext_of⟩ | exact ⟨congrArg Value.bool (by rw [hV, hV1, hba, Bool.false_and]), hS.ext_of⟩ | exact ⟨congrArg Value.bool (by rw [hV, hV1, hba, Bool.true_and]; first | rfl | exact (decide_eq_true (by omega)).symm | exact (decide_eq_false (by omega)).symm | exact decide_eq_decide.2 (by omega)), hS.ext_of⟩ | exact ⟨congrArg Value.bool (by rw [hV, hV1, decide_eq_false (fun h => by have := stampE_0.1 h; omega), Bool.false_and]), hS.ext_of⟩ | exact ⟨congrArg Value.bool (by rw [hV, hV1, decide_eq_true (stampE_0.2 (by omega)), Bool.true_and, hba]; simp), hS.ext_of⟩
              ·
                try simp only [decide_eq_true_eq, decide_eq_false_iff_not, Bool.not_eq_true', Bool.not_eq_false', Int.not_lt, Int.not_le, ne_eq, Decidable.not_not, bne_iff_ne, beq_iff_eq, not_true_eq_false, not_false_eq_true] at hc5
                first
                | (exfalso; omega)
                | skip
                  try have hV1 : valR (kn a 0) (aval a) = (decide (stampE (kn (aval a) 0) = 0) && (bareV (aval a) || nright (vtext (aval a)))) := by rw [valR, if_neg (by omega), if_neg (by omega), if_pos (by omega)]
                  refine x_skip ?_
                  refine hK6 _ _ ?_
                  refine x_seq fun K15 hK15 => ?_
                  refine x_region ?_
                  first | refine s_go (m_fieldAddr Try.underlying114 (hi := ti112)) ?_ | refine s_go (m_fieldAddr_rd Try.underlying114 (hi := ti112) (hS := hS)) ?_ | refine s_go (m_fieldAddr_vec Try.underlying114 (hi := ti112) (hS := hS)) ?_
                  try simp only [opv, n1, n2, n3, n4, Value.cells, Nat.zero_add, Nat.add_zero, List.getElem_toArray, List.getElem_cons_zero, List.getElem_cons_succ]
                  first | refine s_go (m_fieldAddr Try.underlying112 (hi := ti53)) ?_ | refine s_go (m_fieldAddr_rd Try.underlying112 (hi := ti53) (hS := hS)) ?_ | refine s_go (m_fieldAddr_vec Try.underlying112 (hi := ti53) (hS := hS)) ?_
                  try simp only [opv, n1, n2, n3, n4, Value.cells, Nat.zero_add, Nat.add_zero, List.getElem_toArray, List.getElem_cons_zero, List.getElem_cons_succ]
                  first | refine s_go (m_load_obj Try.underlying53 (hS := hS) (hv := by first | rfl | exact zi_get rfl (by omega) | exact ic_get (by omega) | exact il_get (by omega))) ?_ | refine s_go (m_load_bx Try.underlying53 (hS := hS) (hv := by first | rfl | exact zi_get rfl (by omega) | exact ic_get (by omega) | exact il_get (by omega))) ?_ | refine s_go (m_load_rd Try.underlying53 (hS := hS) (hv := by first | rfl | exact zi_get rfl (by omega) | exact ic_get (by omega) | exact il_get (by omega))) ?_ | refine s_go (m_load_vec Try.underlying53 (hS := hS) (hv := by first | rfl | exact zi_get rfl (by omega) | exact ic_get (by omega) | exact il_get (by omega))) ?_
                  try simp only [opv, n1, n2, n3, n4, Value.cells, List.getElem_toArray, List.getElem_cons_zero, List.getElem_cons_succ]
                  rw [aval_0 hal, hv.e0]
                  refine s_go (s_rem (hc := rem_nat)) ?_
                  try simp only [opv, n1, n2, n3, n4, Value.cells]
                  refine s_go (s_lss) ?_
                  try simp only [opv, n1, n2, n3, n4, Value.cells]
                  refine s_go (s_move) ?_
                  try simp only [opv, n1, n2, n3, n4, Value.cells]
                  refine s_part 52 rfl (fun hp11 => ?_) (fun hp11 => ?_)
                  ·
                    try simp only [n3, n4]
                    try simp only [decide_eq_true_eq, decide_eq_false_iff_not, Bool.not_eq_true', Bool.not_eq_false', Int.not_lt, Int.not_le, ne_eq, Decidable.not_not] at hp11
                    first
                    | (exfalso; omega)
                    | skip
                      refine g_on (yi (t := 52) rfl rfl) ?_
                      first | refine s_go (m_fieldAddr Try.underlying114 (hi := ti112)) ?_ | refine s_go (m_fieldAddr_rd Try.underlying114 (hi := ti112) (hS := hS)) ?_ | refine s_go (m_fieldAddr_vec Try.underlying114 (hi := ti112) (hS := hS)) ?_
                      try simp only [opv, n1, n2, n3, n4, Value.cells, Nat.zero_add, Nat.add_zero, List.getElem_toArray, List.getElem_cons_zero, List.getElem_cons_succ]
                      refine g_on (yi (t := 52) rfl rfl) ?_
                      first | refine s_go (m_fieldAddr Try.underlying112 (hi := ti53)) ?_ | refine s_go (m_fieldAddr_rd Try.underlying112 (hi := ti53) (hS := hS)) ?_ | refine s_go (m_fieldAddr_vec Try.underlying112 (hi := ti53) (hS := hS)) ?_
                      try simp only [opv, n1, n2, n3, n4, Value.cells, Nat.zero_add, Nat.add_zero, List.getElem_toArray, List.getElem_cons_zero, List.getElem_cons_succ]
                      refine g_on (yi (t := 52) rfl rfl) ?_
                      first | refine s_go (m_load_obj Try.underlying53 (hS := hS) (hv := by first | rfl | exact zi_get rfl (by omega) | exact ic_get (by omega) | exact il_get (by omega))) ?_ | refine s_go (m_load_bx Try.underlying53 (hS := hS) (hv := by first | rfl | exact zi_get rfl (by omega) | exact ic_get (by omega) | exact il_get (by omega))) ?_ | refine s_go (m_load_rd Try.underlying53 (hS := hS) (hv := by first | rfl | exact zi_get rfl (by omega) | exact ic_get (by omega) | exact il_get (by omega))) ?_ | refine s_go (m_load_vec Try.underlying53 (hS := hS) (hv := by first | rfl | exact zi_get rfl (by omega) | exact ic_get (by omega) | exact il_get (by omega))) ?_
                      try simp only [opv, n1, n2, n3, n4, Value.cells, List.getElem_toArray, List.getElem_cons_zero, List.getElem_cons_succ]
                      rw [aval_0 hal, hv.e0]
                      refine g_on (yi (t := 52) rfl rfl) ?_
                      refine s_go (s_quo (hc := quo_u64 (r := kn (aval a) 0) (p := 256) hvb)) ?_
                      try simp only [opv, n1, n2, n3, n4, Value.cells]
                      refine g_on (yi (t := 52) rfl rfl) ?_
                      refine s_go (s_geq) ?_
                      try simp only [opv, n1, n2, n3, n4, Value.cells]
                      first | refine s_go (s_pick_t) ?_ | refine s_go (s_pick_f) ?_
                      try simp only [opv, n1, n2, n3, n4, Value.cells]
                      refine s_go (s_move) ?_
                      try simp only [opv, n1, n2, n3, n4, Value.cells]
                      refine s_part 59 rfl (fun hp12 => ?_) (fun hp12 => ?_)
                      ·
                        try simp only [n3, n4]
                        try simp only [decide_eq_true_eq, decide_eq_false_iff_not, Bool.not_eq_true', Bool.not_eq_false', Int.not_lt, Int.not_le, ne_eq, Decidable.not_not] at hp12
                        first
                        | (exfalso; omega)
                        | skip
                          refine g_on (yi (t := 59) rfl rfl) ?_
                          first | refine s_go (m_fieldAddr Try.underlying114 (hi := ti112)) ?_ | refine s_go (m_fieldAddr_rd Try.underlying114 (hi := ti112) (hS := hS)) ?_ | refine s_go (m_fieldAddr_vec Try.underlying114 (hi := ti112) (hS := hS)) ?_
                          try simp only [opv, n1, n2, n3, n4, Value.cells, Nat.zero_add, Nat.add_zero, List.getElem_toArray, List.getElem_cons_zero, List.getElem_cons_succ]
                          refine g_on (yi (t := 59) rfl rfl) ?_
                          first | refine s_go (m_fieldAddr Try.underlying112 (hi := ti53)) ?_ | refine s_go (m_fieldAddr_rd Try.underlying112 (hi := ti53) (hS := hS)) ?_ | refine s_go (m_fieldAddr_vec Try.underlying112 (hi := ti53) (hS := hS)) ?_
                          try simp only [opv, n1, n2, n3, n4, Value.cells, Nat.zero_add, Nat.add_zero, List.getElem_toArray, List.getElem_cons_zero, List.getElem_cons_succ]
                          refine g_on (yi (t := 59) rfl rfl) ?_
                          first | refine s_go (m_load_obj Try.underlying53 (hS := hS) (hv := by first | rfl | exact zi_get rfl (by omega) | exact ic_get (by omega) | exact il_get (by omega))) ?_ | refine s_go (m_load_bx Try.underlying53 (hS := hS) (hv := by first | rfl | exact zi_get rfl (by omega) | exact ic_get (by omega) | exact il_get (by omega))) ?_ | refine s_go (m_load_rd Try.underlying53 (hS := hS) (hv := by first | rfl | exact zi_get rfl (by omega) | exact ic_get (by omega) | exact il_get (by omega))) ?_ | refine s_go (m_load_vec Try.underlying53 (hS := hS) (hv := by first | rfl | exact zi_get rfl (by omega) | exact ic_get (by omega) | exact il_get (by omega))) ?_
                          try simp only [opv, n1, n2, n3, n4, Value.cells, List.getElem_toArray, List.getElem_cons_zero, List.getElem_cons_succ]
                          rw [aval_0 hal, hv.e0]
                          refine g_on (yi (t := 59) rfl rfl) ?_
                          refine s_go (s_quo (hc := quo_u64 (r := kn (aval a) 0) (p := 256) hvb)) ?_
                          try simp only [opv, n1, n2, n3, n4, Value.cells]
                          refine g_on (yi (t := 59) rfl rfl) ?_
                          refine s_go (s_leq) ?_
                          try simp only [opv, n1, n2, n3, n4, Value.cells]
                          first | refine s_go (s_pick_t) ?_ | refine s_go (s_pick_f) ?_
                          try simp only [opv, n1, n2, n3, n4, Value.cells]
                          refine s_go (s_move) ?_
                          try simp only [opv, n1, n2, n3, n4, Value.cells]
                          refine s_part 66 rfl (fun hp13 => ?_) (fun hp13 => ?_)
                          ·
                            try simp only [n3, n4]
                            try simp only [decide_eq_true_eq, decide_eq_false_iff_not, Bool.not_eq_true', Bool.not_eq_false', Int.not_lt, Int.not_le, ne_eq, Decidable.not_not] at hp13
                            first
                            | (exfalso; omega)
                            | skip
                              refine g_on (yi (t := 66) rfl rfl) ?_
                              refine s_go (s_move) ?_
                              try simp only [opv, n1, n2, n3, n4, Value.cells]
                              refine g_on (yi (t := 66) rfl rfl) ?_
                              refine s_go (s_move) ?_
                              try simp only [opv, n1, n2, n3, n4, Value.cells]
                              refine s_part 68 rfl (fun hp14 => ?_) (fun hp14 => ?_)
                              ·
                                try simp only [n3, n4]
                                try simp only [decide_eq_true_eq, decide_eq_false_iff_not, Bool.not_eq_true', Bool.not_eq_false', Int.not_lt, Int.not_le, ne_eq, Decidable.not_not] at hp14
                                first
                                | (exfalso; omega)
                                | skip
                                  have hba := hp14
                                  refine g_off (yi (t := 68) rfl rfl) ?_
                                  try simp only [opv, n1, n2, n3, n4, Value.cells]
                                  refine g_off (yi (t := 68) rfl rfl) ?_
                                  try simp only [opv, n1, n2, n3, n4, Value.cells]
                                  refine g_off (yi (t := 68) rfl rfl) ?_
                                  try simp only [opv, n1, n2, n3, n4, Value.cells]
                                  refine g_off (yi (t := 68) rfl rfl) ?_
                                  try simp only [opv, n1, n2, n3, n4, Value.cells]
                                  refine g_on (yi (t := 66) rfl rfl) ?_
                                  first | refine s_go (s_pick_t) ?_ | refine s_go (s_pick_f) ?_
                                  try simp only [opv, n1, n2, n3, n4, Value.cells]
                                  first | refine s_go (s_pick_t) ?_ | refine s_go (s_pick_f) ?_
                                  try simp only [opv, n1, n2, n3, n4, Value.cells]
                                  refine s_go (s_assign) ?_
                                  try simp only [opv, n1, n2, n3, n4, Value.cells]
                                  refine x_nil ?_
                                  refine hK15 _ _ ?_
                                  refine x_ret ?_
                                  refine r_tmp rfl ?_
                                  first | exact ⟨by rw [hV]; rfl, hS.ext_of⟩ | exact ⟨congrArg Value.bool (by rw [hV, hV1, hba, Bool.false_and]), hS.ext_of⟩ | exact ⟨congrArg Value.bool (by rw [hV, hV1, hba, Bool.true_and]; first | rfl | exact (decide_eq_true (by omega)).symm | exact (decide_eq_false (by omega)).symm | exact decide_eq_decide.2 (by omega)), hS.ext_of⟩ | exact ⟨congrArg Value.bool (by rw [hV, hV1, decide_eq_false (fun h => by have := stampE_0.1 h; omega), Bool.false_and]), hS.ext_of⟩ | exact ⟨congrArg Value.bool (by rw [hV, hV1, decide_eq_true (stampE_0.2 (by omega)), Bool.true_and, hba]; simp), hS.ext_of⟩
                              ·
                                try simp only [n3, n4]
                                try simp only [decide_eq_true_eq, decide_eq_false_iff_not, Bool.not_eq_true', Bool.not_eq_false', Int.not_lt, Int.not_le, ne_eq, Decidable.not_not] at hp14
                                first
                                | (exfalso; omega)
                                | skip
                                  have hba := hp14
                                  refine g_on (yi (t := 68) rfl rfl) ?_
                                  first | refine s_go (m_fieldAddr Try.underlying114 (hi := ti112)) ?_ | refine s_go (m_fieldAddr_rd Try.underlying114 (hi := ti112) (hS := hS)) ?_ | refine s_go (m_fieldAddr_vec Try.underlying114 (hi := ti112) (hS := hS)) ?_
                                  try simp only [opv, n1, n2, n3, n4, Value.cells, Nat.zero_add, Nat.add_zero, List.getElem_toArray, List.getElem_cons_zero, List.getElem_cons_succ]
                                  refine g_on (yi (t := 68) rfl rfl) ?_
                                  first | refine s_go (m_fieldAddr Try.underlying112 (hi := ti70)) ?_ | refine s_go (m_fieldAddr_rd Try.underlying112 (hi := ti70) (hS := hS)) ?_ | refine s_go (m_fieldAddr_vec Try.underlying112 (hi := ti70) (hS := hS)) ?_
                                  try simp only [opv, n1, n2, n3, n4, Value.cells, Nat.zero_add, Nat.add_zero, List.getElem_toArray, List.getElem_cons_zero, List.getElem_cons_succ]
                                  refine g_on (yi (t := 68) rfl rfl) ?_
                                  first | refine s_go (m_load_row Try.underlying70 (hi := ti70) (hS := hS) (hfit := by first | omega | (rw [zi_size (by omega)]; first | rfl | decide) | (simp only [ic_size, List.length_map, List.size_toArray]; first | omega | decide) | rfl | (simp [*]; done) | (simp [*]; omega))) ?_ | refine s_go (m_loada_obj Try.underlying70 (hi := ti70) (hS := hS) (hfit := by first | omega | (rw [zi_size (by omega)]; first | rfl | decide) | (simp only [ic_size, List.length_map, List.size_toArray]; first | omega | decide) | rfl | (simp [*]; done) | (simp [*]; omega))) ?_ | refine s_go (m_loada_bx Try.underlying70 (hi := ti70) (hS := hS) (hfit := by first | omega | (rw [zi_size (by omega)]; first | rfl | decide) | (simp only [ic_size, List.length_map, List.size_toArray]; first | omega | decide) | rfl | (simp [*]; done) | (simp [*]; omega))) ?_ | refine s_go (m_loada_rd Try.underlying70 (hi := ti70) (hS := hS) (hfit := by first | omega | (rw [zi_size (by omega)]; first | rfl | decide) | (simp only [ic_size, List.length_map, List.size_toArray]; first | omega | decide) | rfl | (simp [*]; done) | (simp [*]; omega))) ?_ | refine s_go (m_loada_vec Try.underlying70 (hi := ti70) (hS := hS) (hfit := by first | omega | (rw [zi_size (by omega)]; first | rfl | decide) | (simp only [ic_size, List.length_map, List.size_toArray]; first | omega | decide) | rfl | (simp [*]; done) | (simp [*]; omega))) ?_
                                  try simp only [opv, n1, n2, n3, n4, Value.cells, List.getElem_toArray, List.getElem_cons_zero, List.getElem_cons_succ]
                                  rw [atom_text hal]
                                  refine g_on (yi (t := 68) rfl rfl) ?_
                                  refine s_call en78 ?_
                                  try simp only [opv, n1, n2, n3, n4, Value.cells, List.map_toArray, List.map_cons, List.map_nil, List.append_toArray, List.cons_append, List.nil_append, Array.append_empty]
                                  refine CallR.mono (c_ref06Right _ htl htb _) ?_
                                  rintro _ w4 ⟨rfl, hE4⟩
                                  replace hS := hS.ext hE4
                                  try simp only [opv, n1, n2, n3, n4, Value.cells]
                                  refine g_on (yi (t := 66) rfl rfl) ?_
                                  first | refine s_go (s_pick_t) ?_ | refine s_go (s_pick_f) ?_
                                  try simp only [opv, n1, n2, n3, n4, Value.cells]
                                  first | refine s_go (s_pick_t) ?_ | refine s_go (s_pick_f) ?_
                                  try simp only [opv, n1, n2, n3, n4, Value.cells]
                                  refine s_go (s_assign) ?_
                                  try simp only [opv, n1, n2, n3, n4, Value.cells]
                                  refine x_nil ?_
                                  refine hK15 _ _ ?_
                                  refine x_ret ?_
                                  refine r_tmp rfl ?_
                                  first | exact ⟨by rw [hV]; rfl, hS.ext_of⟩ | exact ⟨congrArg Value.bool (by rw [hV, hV1, hba, Bool.false_and]), hS.ext_of⟩ | exact ⟨congrArg Value.bool (by rw [hV, hV1, hba, Bool.true_and]; first | rfl | exact (decide_eq_true (by omega)).symm | exact (decide_eq_false (by omega)).symm | exact decide_eq_decide.2 (by omega)), hS.ext_of⟩ | exact ⟨congrArg Value.bool (by rw [hV, hV1, decide_eq_false (fun h => by have := stampE_0.1 h; omega), Bool.false_and]), hS.ext_of⟩ | exact ⟨congrArg Value.bool (by rw [hV, hV1, decide_eq_true (stampE_0.2 (by omega)), Bool.true_and, hba]; simp), hS.ext_of⟩
                          ·
                            try simp only [n3, n4]
                            try simp only [decide_eq_true_eq, decide_eq_false_iff_not, Bool.not_eq_true', Bool.not_eq_false', Int.not_lt, Int.not_le, ne_eq, Decidable.not_not] at hp13
                            first
                            | (exfalso; omega)
                            | skip
                              refine g_off (yi (t := 66) rfl rfl) ?_
                              try simp only [opv, n1, n2, n3, n4, Value.cells]
                              refine g_off (yi (t := 66) rfl rfl) ?_
                              try simp only [opv, n1, n2, n3, n4, Value.cells]
                              refine g_un (yn (t := 68) rfl rfl) ?_
                              try simp only [opv, n1, n2, n3, n4, Value.cells]
                              refine g_un (yn (t := 68) rfl rfl) ?_
                              try simp only [opv, n1, n2, n3, n4, Value.cells]
                              refine g_un (yn (t := 68) rfl rfl) ?_
                              try simp only [opv, n1, n2, n3, n4, Value.cells]
                              refine g_un (yn (t := 68) rfl rfl) ?_
                              try simp only [opv, n1, n2, n3, n4, Value.cells]
                              refine g_off (yi (t := 66) rfl rfl) ?_
                              try simp only [opv, n1, n2, n3, n4, Value.cells]
                              first | refine s_go (s_pick_t) ?_ | refine s_go (s_pick_f) ?_
                              try simp only [opv, n1, n2, n3, n4, Value.cells]
                              refine s_go (s_assign) ?_
                              try simp only [opv, n1, n2, n3, n4, Value.cells]
                              refine x_nil ?_
                              refine hK15 _ _ ?_
                              refine x_ret ?_
                              refine r_tmp rfl ?_
                              first | exact ⟨by rw [hV]; rfl, hS.ext_of⟩ | exact ⟨congrArg Value.bool (by rw [hV, hV1, hba, Bool.false_and]), hS.ext_of⟩ | exact ⟨congrArg Value.bool (by rw [hV, hV1, hba, Bool.true_and]; first | rfl | exact (decide_eq_true (by omega)).symm | exact (decide_eq_false (by omega)).symm | exact decide_eq_decide.2 (by omega)), hS.ext_of⟩ | exact ⟨congrArg Value.bool (by rw [hV, hV1, decide_eq_false (fun h => by have := stampE_0.1 h; omega), Bool.false_and]), hS.ext_of⟩ | exact ⟨congrArg Value.bool (by rw [hV, hV1, decide_eq_true (stampE_0.2 (by omega)), Bool.true_and, hba]; simp), hS.ext_of⟩
                      ·
                        try simp only [n3, n4]
                        try simp only [decide_eq_true_eq, decide_eq_false_iff_not, Bool.not_eq_true', Bool.not_eq_false', Int.not_lt, Int.not_le, ne_eq, Decidable.not_not] at hp12
                        first
                        | (exfalso; omega)
                        | skip
                          refine g_off (yi (t := 59) rfl rfl) ?_
                          try simp only [opv, n1, n2, n3, n4, Value.cells]
                          refine g_off (yi (t := 59) rfl rfl) ?_
                          try simp only [opv, n1, n2, n3, n4, Value.cells]
                          refine g_off (yi (t := 59) rfl rfl) ?_
                          try simp only [opv, n1, n2, n3, n4, Value.cells]
                          refine g_off (yi (t := 59) rfl rfl) ?_
                          try simp only [opv, n1, n2, n3, n4, Value.cells]
                          refine g_off (yi (t := 59) rfl rfl) ?_
                          try simp only [opv, n1, n2, n3, n4, Value.cells]
                          first | refine s_go (s_pick_t) ?_ | refine s_go (s_pick_f) ?_
                          try simp only [opv, n1, n2, n3, n4, Value.cells]
                          refine s_go (s_move) ?_
                          try simp only [opv, n1, n2, n3, n4, Value.cells]
                          refine g_off (yi (t := 66) rfl rfl) ?_
                          try simp only [opv, n1, n2, n3, n4, Value.cells]
                          refine g_off (yi (t := 66) rfl rfl) ?_
                          try simp only [opv, n1, n2, n3, n4, Value.cells]
                          refine g_un (yn (t := 68) rfl rfl) ?_
                          try simp only [opv, n1, n2, n3, n4, Value.cells]
                          refine g_un (yn (t := 68) rfl rfl) ?_
                          try simp only [opv, n1, n2, n3, n4, Value.cells]
                          refine g_un (yn (t := 68) rfl rfl) ?_
                          try simp only [opv, n1, n2, n3, n4, Value.cells]
                          refine g_un (yn (t := 68) rfl rfl) ?_
                          try simp only [opv, n1, n2, n3, n4, Value.cells]
                          refine g_off (yi (t := 66) rfl rfl) ?_
                          try simp only [opv, n1, n2, n3, n4, Value.cells]
                          first | refine s_go (s_pick_t) ?_ | refine s_go (s_pick_f) ?_
                          try simp only [opv, n1, n2, n3, n4, Value.cells]
                          refine s_go (s_assign) ?_
                          try simp only [opv, n1, n2, n3, n4, Value.cells]
                          refine x_nil ?_
                          refine hK15 _ _ ?_
                          refine x_ret ?_
                          refine r_tmp rfl ?_
                          first | exact ⟨by rw [hV]; rfl, hS.ext_of⟩ | exact ⟨congrArg Value.bool (by rw [hV, hV1, hba, Bool.false_and]), hS.ext_of⟩ | exact ⟨congrArg Value.bool (by rw [hV, hV1, hba, Bool.true_and]; first | rfl | exact (decide_eq_true (by omega)).symm | exact (decide_eq_false (by omega)).symm | exact decide_eq_decide.2 (by omega)), hS.ext_of⟩ | exact ⟨congrArg Value.bool (by rw [hV, hV1, decide_eq_false (fun h => by have := stampE_0.1 h; omega), Bool.false_and]), hS.ext_of⟩ | exact ⟨congrArg Value.bool (by rw [hV, hV1, decide_eq_true (stampE_0.2 (by omega)), Bool.true_and, hba]; simp), hS.ext_of⟩
                  ·
                    try simp only [n3, n4]
                    try simp only [decide_eq_true_eq, decide_eq_false_iff_not, Bool.not_eq_true', Bool.not_eq_false', Int.not_lt, Int.not_le, ne_eq, Decidable.not_not] at hp11
                    first
                    | (exfalso; omega)
                    | skip
                      refine g_off (yi (t := 52) rfl rfl) ?_
                      try simp only [opv, n1, n2, n3, n4, Value.cells]
                      refine g_off (yi (t := 52) rfl rfl) ?_
                      try simp only [opv, n1, n2, n3, n4, Value.cells]
                      refine g_off (yi (t := 52) rfl rfl) ?_
                      try simp only [opv, n1, n2, n3, n4, Value.cells]
                      refine g_off (yi (t := 52) rfl rfl) ?_
                      try simp only [opv, n1, n2, n3, n4, Value.cells]
                      refine g_off (yi (t := 52) rfl rfl) ?_
                      try simp only [opv, n1, n2, n3, n4, Value.cells]
                      first | refine s_go (s_pick_t) ?_ | refine s_go (s_pick_f) ?_
                      try simp only [opv, n1, n2, n3, n4, Value.cells]
                      refine s_go (s_move) ?_
                      try simp only [opv, n1, n2, n3, n4, Value.cells]
                      refine g_off (yi (t := 59) rfl rfl) ?_
                      try simp only [opv, n1, n2, n3, n4, Value.cells]
                      refine g_off (yi (t := 59) rfl rfl) ?_
                      try simp only [opv, n1, n2, n3, n4, Value.cells]
                      refine g_off (yi (t := 59) rfl rfl) ?_
                      try simp only [opv, n1, n2, n3, n4, Value.cells]
                      refine g_off (yi (t := 59) rfl rfl) ?_
                      try simp only [opv, n1, n2, n3, n4, Value.cells]
                      refine g_off (yi (t := 59) rfl rfl) ?_
                      try simp only [opv, n1, n2, n3, n4, Value.cells]
                      first | refine s_go (s_pick_t) ?_ | refine s_go (s_pick_f) ?_
                      try simp only [opv, n1, n2, n3, n4, Value.cells]
                      refine s_go (s_move) ?_
                      try simp only [opv, n1, n2, n3, n4, Value.cells]
                      refine g_off (yi (t := 66) rfl rfl) ?_
                      try simp only [opv, n1, n2, n3, n4, Value.cells]
                      refine g_off (yi (t := 66) rfl rfl) ?_
                      try simp only [opv, n1, n2, n3, n4, Value.cells]
                      refine g_un (yn (t := 68) rfl rfl) ?_
                      try simp only [opv, n1, n2, n3, n4, Value.cells]
                      refine g_un (yn (t := 68) rfl rfl) ?_
                      try simp only [opv, n1, n2, n3, n4, Value.cells]
                      refine g_un (yn (t := 68) rfl rfl) ?_
                      try simp only [opv, n1, n2, n3, n4, Value.cells]
                      refine g_un (yn (t := 68) rfl rfl) ?_
                      try simp only [opv, n1, n2, n3, n4, Value.cells]
                      refine g_off (yi (t := 66) rfl rfl) ?_
                      try simp only [opv, n1, n2, n3, n4, Value.cells]
                      first | refine s_go (s_pick_t) ?_ | refine s_go (s_pick_f) ?_
                      try simp only [opv, n1, n2, n3, n4, Value.cells]
                      refine s_go (s_assign) ?_
                      try simp only [opv, n1, n2, n3, n4, Value.cells]
                      refine x_nil ?_
                      refine hK15 _ _ ?_
                      refine x_ret ?_
                      refine r_tmp rfl ?_
                      first | exact ⟨by rw [hV]; rfl, hS.ext_of⟩ | exact ⟨congrArg Value.bool (by rw [hV, hV1, hba, Bool.false_and]), hS.ext_of⟩ | exact ⟨congrArg Value.bool (by rw [hV, hV1, hba, Bool.true_and]; first | rfl | exact (decide_eq_true (by omega)).symm | exact (decide_eq_false (by omega)).symm | exact decide_eq_decide.2 (by omega)), hS.ext_of⟩ | exact ⟨congrArg Value.bool (by rw [hV, hV1, decide_eq_false (fun h => by have := stampE_0.1 h; omega), Bool.false_and]), hS.ext_of⟩ | exact ⟨congrArg Value.bool (by rw [hV, hV1, decide_eq_true (stampE_0.2 (by omega)), Bool.true_and, hba]; simp), hS.ext_of⟩

theorem c_AtomOvers (a : List Int) (ha : AtomOk a) (x y : List Int) (hx : ValOk x) (hy : ValOk y)  (w0 : World) :
    CallR Try.prog 19 #[.agg (AA a), .agg (VA x), .agg (VA y)] w0 fun v w' => v = .bool true ∧ Ext w0 w' := by
  have hS : St NoB w0 w0 [] := St.start w0
  refine c_enter (l := [.agg (AA a), .agg (VA x), .agg (VA y), undef, undef, undef, undef, undef, undef, undef, undef, undef, undef, undef, undef, undef, undef, undef, undef, undef, undef, undef, undef, undef, undef, undef, undef, undef, undef, undef, undef, undef, undef]) Try.func19 rfl (by simp only [Try.ntmps19, List.size_toArray, List.length_cons, List.length_nil, Nat.reduceAdd, Nat.reduceSub, Array.replicate_succ, Array.replicate_zero, List.push_toArray, List.append_toArray, List.nil_append, List.cons_append]) ?_
  refine x_seq fun K1 hK1 => ?_
  refine x_region ?_
  have hal := ha.len
  have hxl := hx.len
  have hyl := hy.len
  have hxt := vtext_len hxl
  have hyt := vtext_len hyl
  have hxb := hx.text
  have hyb := hy.text
  have hml : (moreV x y).length = 9 := by unfold moreV; split <;> assumption
  refine m_box hS (fun w1 g1 hS => ?_)
  try simp only [opv, n1, n2, n3, n4, Value.cells, Array.toArray_toList] at hS ⊢
  refine m_box hS (fun w2 g2 hS => ?_)
  try simp only [opv, n1, n2, n3, n4, Value.cells, Array.toArray_toList] at hS ⊢
  refine m_box hS (fun w3 g3 hS => ?_)
  try simp only [opv, n1, n2, n3, n4, Value.cells, Array.toArray_toList] at hS ⊢
  refine s_go (s_assign) ?_
  try simp only [opv, n1, n2, n3, n4, Value.cells]
  refine x_nil ?_
  refine hK1 _ _ ?_
  refine x_seq fun K2 hK2 => ?_
  refine x_quiet (by kernel_rfl) (by kernel_rfl) hS ?_
  first | refine q_go (fun w hS => m_load_row Try.underlying114 (hi := ti114) (hS := hS) (hfit := by first | omega | (rw [zi_size (by omega)]; first | rfl | decide) | (simp only [ic_size, List.length_map, List.size_toArray]; first | omega | decide) | rfl | (simp [*]; done) | (simp [*]; omega))) ?_ | refine q_go (fun w hS => m_loada_obj Try.underlying114 (hi := ti114) (hS := hS) (hfit := by first | omega | (rw [zi_size (by omega)]; first | rfl | decide) | (simp only [ic_size, List.length_map, List.size_toArray]; first | omega | decide) | rfl | (simp [*]; done) | (simp [*]; omega))) ?_ | refine q_go (fun w hS => m_loada_bx Try.underlying114 (hi := ti114) (hS := hS) (hfit := by first | omega | (rw [zi_size (by omega)]; first | rfl | decide) | (simp only [ic_size, List.length_map, List.size_toArray]; first | omega | decide) | rfl | (simp [*]; done) | (simp [*]; omega))) ?_ | refine q_go (fun w hS => m_loada_rd Try.underlying114 (hi := ti114) (hS := hS) (hfit := by first | omega | (rw [zi_size (by omega)]; first | rfl | decide) | (simp only [ic_size, List.length_map, List.size_toArray]; first | omega | decide) | rfl | (simp [*]; done) | (simp [*]; omega))) ?_ | refine q_go (fun w hS => m_loada_vec Try.underlying114 (hi := ti114) (hS := hS) (hfit := by first | omega | (rw [zi_size (by omega)]; first | rfl | decide) | (simp only [ic_size, List.length_map, List.size_toArray]; first | omega | decide) | rfl | (simp [*]; done) | (simp [*]; omega))) ?_
  try simp only [opv, n1, n2, n3, n4, Value.cells, List.getElem_toArray, List.getElem_cons_zero, List.getElem_cons_succ]
  apply q_call en98
  case H =>
    intro w hS
    try simp only [opv, n1, n2, n3, n4, List.map_toArray, List.map_cons, List.map_nil, List.append_toArray, List.cons_append, List.nil_append, Array.append_empty]
    refine CallR.mono (c_atomRight a ha _) ?_
    rintro _ w1 ⟨rfl, hE⟩; exact ⟨rfl, hS.ext hE⟩
  try simp only [opv, n1, n2, n3, n4, Value.cells]
  first | refine q_go (fun w hS => m_load_row Try.underlying114 (hi := ti114) (hS := hS) (hfit := by first | omega | (rw [zi_size (by omega)]; first | rfl | decide) | (simp only [ic_size, List.length_map, List.size_toArray]; first | omega | decide) | rfl | (simp [*]; done) | (simp [*]; omega))) ?_ | refine q_go (fun w hS => m_loada_obj Try.underlying114 (hi := ti114) (hS := hS) (hfit := by first | omega | (rw [zi_size (by omega)]; first | rfl | decide) | (simp only [ic_size, List.length_map, List.size_toArray]; first | omega | decide) | rfl | (simp [*]; done) | (simp [*]; omega))) ?_ | refine q_go (fun w hS => m_loada_bx Try.underlying114 (hi := ti114) (hS := hS) (hfit := by first | omega | (rw [zi_size (by omega)]; first | rfl | decide) | (simp only [ic_size, List.length_map, List.size_toArray]; first | omega | decide) | rfl | (simp [*]; done) | (simp [*]; omega))) ?_ | refine q_go (fun w hS => m_loada_rd Try.underlying114 (hi := ti114) (hS := hS) (hfit := by first | omega | (rw [zi_size (by omega)]; first | rfl | decide) | (simp only [ic_size, List.length_map, List.size_toArray]; first | omega | decide) | rfl | (simp [*]; done) | (simp [*]; omega))) ?_ | refine q_go (fun w hS => m_loada_vec Try.underlying114 (hi := ti114) (hS := hS) (hfit := by first | omega | (rw [zi_size (by omega)]; first | rfl | decide) | (simp only [ic_size, List.length_map, List.size_toArray]; first | omega | decide) | rfl | (simp [*]; done) | (simp [*]; omega))) ?_
  try simp only [opv, n1, n2, n3, n4, Value.cells, List.getElem_toArray, List.getElem_cons_zero, List.getElem_cons_succ]
  apply q_call en99
  case H =>
    intro w hS
    try simp only [opv, n1, n2, n3, n4, List.map_toArray, List.map_cons, List.map_nil, List.append_toArray, List.cons_append, List.nil_append, Array.append_empty]
    refine CallR.mono (c_ref09Right a ha _) ?_
    rintro _ w1 ⟨rfl, hE⟩; exact ⟨rfl, hS.ext hE⟩
  try simp only [opv, n1, n2, n3, n4, Value.cells]
  refine q_go (fun w hS => s_eql_bool Try.underlying4) ?_
  try simp only [opv, n1, n2, n3, n4, Value.cells]
  try simp only [eq_self, decide_true, beq_self_eq_true, Bool.and_self]
  refine q_go (fun w hS => s_move) ?_
  try simp only [opv, n1, n2, n3, n4, Value.cells]
  refine q_on (yi (t := 12) rfl rfl) ?_
  first | refine q_go (fun w hS => m_load_row Try.underlying112 (hi := ti112) (hS := hS) (hfit := by first | omega | (rw [zi_size (by omega)]; first | rfl | decide) | (simp only [ic_size, List.length_map, List.size_toArray]; first | omega | decide) | rfl | (simp [*]; done) | (simp [*]; omega))) ?_ | refine q_go (fun w hS => m_loada_obj Try.underlying112 (hi := ti112) (hS := hS) (hfit := by first | omega | (rw [zi_size (by omega)]; first | rfl | decide) | (simp only [ic_size, List.length_map, List.size_toArray]; first | omega | decide) | rfl | (simp [*]; done) | (simp [*]; omega))) ?_ | refine q_go (fun w hS => m_loada_bx Try.underlying112 (hi := ti112) (hS := hS) (hfit := by first | omega | (rw [zi_size (by omega)]; first | rfl | decide) | (simp only [ic_size, List.length_map, List.size_toArray]; first | omega | decide) | rfl | (simp [*]; done) | (simp [*]; omega))) ?_ | refine q_go (fun w hS => m_loada_rd Try.underlying112 (hi := ti112) (hS := hS) (hfit := by first | omega | (rw [zi_size (by omega)]; first | rfl | decide) | (simp only [ic_size, List.length_map, List.size_toArray]; first | omega | decide) | rfl | (simp [*]; done) | (simp [*]; omega))) ?_ | refine q_go (fun w hS => m_loada_vec Try.underlying112 (hi := ti112) (hS := hS) (hfit := by first | omega | (rw [zi_size (by omega)]; first | rfl | decide) | (simp only [ic_size, List.length_map, List.size_toArray]; first | omega | decide) | rfl | (simp [*]; done) | (simp [*]; omega))) ?_
  try simp only [opv, n1, n2, n3, n4, Value.cells, List.getElem_toArray, List.getElem_cons_zero, List.getElem_cons_succ]
  refine q_on (yi (t := 12) rfl rfl) ?_
  first | refine q_go (fun w hS => m_load_row Try.underlying112 (hi := ti112) (hS := hS) (hfit := by first | omega | (rw [zi_size (by omega)]; first | rfl | decide) | (simp only [ic_size, List.length_map, List.size_toArray]; first | omega | decide) | rfl | (simp [*]; done) | (simp [*]; omega))) ?_ | refine q_go (fun w hS => m_loada_obj Try.underlying112 (hi := ti112) (hS := hS) (hfit := by first | omega | (rw [zi_size (by omega)]; first | rfl | decide) | (simp only [ic_size, List.length_map, List.size_toArray]; first | omega | decide) | rfl | (simp [*]; done) | (simp [*]; omega))) ?_ | refine q_go (fun w hS => m_loada_bx Try.underlying112 (hi := ti112) (hS := hS) (hfit := by first | omega | (rw [zi_size (by omega)]; first | rfl | decide) | (simp only [ic_size, List.length_map, List.size_toArray]; first | omega | decide) | rfl | (simp [*]; done) | (simp [*]; omega))) ?_ | refine q_go (fun w hS => m_loada_rd Try.underlying112 (hi := ti112) (hS := hS) (hfit := by first | omega | (rw [zi_size (by omega)]; first | rfl | decide) | (simp only [ic_size, List.length_map, List.size_toArray]; first | omega | decide) | rfl | (simp [*]; done) | (simp [*]; omega))) ?_ | refine q_go (fun w hS => m_loada_vec Try.underlying112 (hi := ti112) (hS := hS) (hfit := by first | omega | (rw [zi_size (by omega)]; first | rfl | decide) | (simp only [ic_size, List.length_map, List.size_toArray]; first | omega | decide) | rfl | (simp [*]; done) | (simp [*]; omega))) ?_
  try simp only [opv, n1, n2, n3, n4, Value.cells, List.getElem_toArray, List.getElem_cons_zero, List.getElem_cons_succ]
  refine q_on (yi (t := 12) rfl rfl) ?_
  apply q_call en100
  case H =>
    intro w hS
    try simp only [opv, n1, n2, n3, n4, List.map_toArray, List.map_cons, List.map_nil, List.append_toArray, List.cons_append, List.nil_append, Array.append_empty]
    refine CallR.mono (c_atomOver x y hx hy _) ?_
    rintro _ w1 ⟨rfl, hE⟩; exact ⟨rfl, hS.ext hE⟩
  try simp only [opv, n1, n2, n3, n4, Value.cells]
  refine q_on (yi (t := 12) rfl rfl) ?_
  first | refine q_go (fun w hS => m_load_row Try.underlying112 (hi := ti112) (hS := hS) (hfit := by first | omega | (rw [zi_size (by omega)]; first | rfl | decide) | (simp only [ic_size, List.length_map, List.size_toArray]; first | omega | decide) | rfl | (simp [*]; done) | (simp [*]; omega))) ?_ | refine q_go (fun w hS => m_loada_obj Try.underlying112 (hi := ti112) (hS := hS) (hfit := by first | omega | (rw [zi_size (by omega)]; first | rfl | decide) | (simp only [ic_size, List.length_map, List.size_toArray]; first | omega | decide) | rfl | (simp [*]; done) | (simp [*]; omega))) ?_ | refine q_go (fun w hS => m_loada_bx Try.underlying112 (hi := ti112) (hS := hS) (hfit := by first | omega | (rw [zi_size (by omega)]; first | rfl | decide) | (simp only [ic_size, List.length_map, List.size_toArray]; first | omega | decide) | rfl | (simp [*]; done) | (simp [*]; omega))) ?_ | refine q_go (fun w hS => m_loada_rd Try.underlying112 (hi := ti112) (hS := hS) (hfit := by first | omega | (rw [zi_size (by omega)]; first | rfl | decide) | (simp only [ic_size, List.length_map, List.size_toArray]; first | omega | decide) | rfl | (simp [*]; done) | (simp [*]; omega))) ?_ | refine q_go (fun w hS => m_loada_vec Try.underlying112 (hi := ti112) (hS := hS) (hfit := by first | omega | (rw [zi_size (by omega)]; first | rfl | decide) | (simp only [ic_size, List.length_map, List.size_toArray]; first | omega | decide) | rfl | (simp [*]; done) | (simp [*]; omega))) ?_
  try simp only [opv, n1, n2, n3, n4, Value.cells, List.getElem_toArray, List.getElem_cons_zero, List.getElem_cons_succ]
  refine q_on (yi (t := 12) rfl rfl) ?_
  first | refine q_go (fun w hS => m_load_row Try.underlying112 (hi := ti112) (hS := hS) (hfit := by first | omega | (rw [zi_size (by omega)]; first | rfl | decide) | (simp only [ic_size, List.length_map, List.size_toArray]; first | omega | decide) | rfl | (simp [*]; done) | (simp [*]; omega))) ?_ | refine q_go (fun w hS => m_loada_obj Try.underlying112 (hi := ti112) (hS := hS) (hfit := by first | omega | (rw [zi_size (by omega)]; first | rfl | decide) | (simp only [ic_size, List.length_map, List.size_toArray]; first | omega | decide) | rfl | (simp [*]; done) | (simp [*]; omega))) ?_ | refine q_go (fun w hS => m_loada_bx Try.underlying112 (hi := ti112) (hS := hS) (hfit := by first | omega | (rw [zi_size (by omega)]; first | rfl | decide) | (simp only [ic_size, List.length_map, List.size_toArray]; first | omega | decide) | rfl | (simp [*]; done) | (simp [*]; omega))) ?_ | refine q_go (fun w hS => m_loada_rd Try.underlying112 (hi := ti112) (hS := hS) (hfit := by first | omega | (rw [zi_size (by omega)]; first | rfl | decide) | (simp only [ic_size, List.length_map, List.size_toArray]; first | omega | decide) | rfl | (simp [*]; done) | (simp [*]; omega))) ?_ | refine q_go (fun w hS => m_loada_vec Try.underlying112 (hi := ti112) (hS := hS) (hfit := by first | omega | (rw [zi_size (by omega)]; first | rfl | decide) | (simp only [ic_size, List.length_map, List.size_toArray]; first | omega | decide) | rfl | (simp [*]; done) | (simp [*]; omega))) ?_
  try simp only [opv, n1, n2, n3, n4, Value.cells, List.getElem_toArray, List.getElem_cons_zero, List.getElem_cons_succ]
  refine q_on (yi (t := 12) rfl rfl) ?_
  apply q_call en101
  case H =>
    intro w hS
    try simp only [opv, n1, n2, n3, n4, List.map_toArray, List.map_cons, List.map_nil, List.append_toArray, List.cons_append, List.nil_append, Array.append_empty]
    refine CallR.mono (c_ref09Over x y hx hy _) ?_
    rintro _ w1 ⟨rfl, hE⟩; exact ⟨rfl, hS.ext hE⟩
  try simp only [opv, n1, n2, n3, n4, Value.cells]
  refine q_on (yi (t := 12) rfl rfl) ?_
  refine q_go (fun w hS => s_eql_bool Try.underlying4) ?_
  try simp only [opv, n1, n2, n3, n4, Value.cells]
  try simp only [eq_self, decide_true, beq_self_eq_true, Bool.and_self]
  first | refine q_go (fun w hS => s_pick_t) ?_ | refine q_go (fun w hS => s_pick_f) ?_
  try simp only [opv, n1, n2, n3, n4, Value.cells]
  refine q_go (fun w hS => s_move) ?_
  try simp only [opv, n1, n2, n3, n4, Value.cells]
  refine q_on (yi (t := 21) rfl rfl) ?_
  first | refine q_go (fun w hS => m_load_row Try.underlying112 (hi := ti112) (hS := hS) (hfit := by first | omega | (rw [zi_size (by omega)]; first | rfl | decide) | (simp only [ic_size, List.length_map, List.size_toArray]; first | omega | decide) | rfl | (simp [*]; done) | (simp [*]; omega))) ?_ | refine q_go (fun w hS => m_loada_obj Try.underlying112 (hi := ti112) (hS := hS) (hfit := by first | omega | (rw [zi_size (by omega)]; first | rfl | decide) | (simp only [ic_size, List.length_map, List.size_toArray]; first | omega | decide) | rfl | (simp [*]; done) | (simp [*]; omega))) ?_ | refine q_go (fun w hS => m_loada_bx Try.underlying112 (hi := ti112) (hS := hS) (hfit := by first | omega | (rw [zi_size (by omega)]; first | rfl | decide) | (simp only [ic_size, List.length_map, List.size_toArray]; first | omega | decide) | rfl | (simp [*]; done) | (simp [*]; omega))) ?_ | refine q_go (fun w hS => m_loada_rd Try.underlying112 (hi := ti112) (hS := hS) (hfit := by first | omega | (rw [zi_size (by omega)]; first | rfl | decide) | (simp only [ic_size, List.length_map, List.size_toArray]; first | omega | decide) | rfl | (simp [*]; done) | (simp [*]; omega))) ?_ | refine q_go (fun w hS => m_loada_vec Try.underlying112 (hi := ti112) (hS := hS) (hfit := by first | omega | (rw [zi_size (by omega)]; first | rfl | decide) | (simp only [ic_size, List.length_map, List.size_toArray]; first | omega | decide) | rfl | (simp [*]; done) | (simp [*]; omega))) ?_
  try simp only [opv, n1, n2, n3, n4, Value.cells, List.getElem_toArray, List.getElem_cons_zero, List.getElem_cons_succ]
  refine q_on (yi (t := 21) rfl rfl) ?_
  first | refine q_go (fun w hS => m_load_row Try.underlying112 (hi := ti112) (hS := hS) (hfit := by first | omega | (rw [zi_size (by omega)]; first | rfl | decide) | (simp only [ic_size, List.length_map, List.size_toArray]; first | omega | decide) | rfl | (simp [*]; done) | (simp [*]; omega))) ?_ | refine q_go (fun w hS => m_loada_obj Try.underlying112 (hi := ti112) (hS := hS) (hfit := by first | omega | (rw [zi_size (by omega)]; first | rfl | decide) | (simp only [ic_size, List.length_map, List.size_toArray]; first | omega | decide) | rfl | (simp [*]; done) | (simp [*]; omega))) ?_ | refine q_go (fun w hS => m_loada_bx Try.underlying112 (hi := ti112) (hS := hS) (hfit := by first | omega | (rw [zi_size (by omega)]; first | rfl | decide) | (simp only [ic_size, List.length_map, List.size_toArray]; first | omega | decide) | rfl | (simp [*]; done) | (simp [*]; omega))) ?_ | refine q_go (fun w hS => m_loada_rd Try.underlying112 (hi := ti112) (hS := hS) (hfit := by first | omega | (rw [zi_size (by omega)]; first | rfl | decide) | (simp only [ic_size, List.length_map, List.size_toArray]; first | omega | decide) | rfl | (simp [*]; done) | (simp [*]; omega))) ?_ | refine q_go (fun w hS => m_loada_vec Try.underlying112 (hi := ti112) (hS := hS) (hfit := by first | omega | (rw [zi_size (by omega)]; first | rfl | decide) | (simp only [ic_size, List.length_map, List.size_toArray]; first | omega | decide) | rfl | (simp [*]; done) | (simp [*]; omega))) ?_
  try simp only [opv, n1, n2, n3, n4, Value.cells, List.getElem_toArray, List.getElem_cons_zero, List.getElem_cons_succ]
  refine q_on (yi (t := 21) rfl rfl) ?_
  apply q_call en102
  case H =>
    intro w hS
    try simp only [opv, n1, n2, n3, n4, List.map_toArray, List.map_cons, List.map_nil, List.append_toArray, List.cons_append, List.nil_append, Array.append_empty]
    refine CallR.mono (c_atomMore x y hx hy _) ?_
    rintro _ w1 ⟨rfl, hE⟩; exact ⟨rfl, hS.ext hE⟩
  try simp only [opv, n1, n2, n3, n4, Value.cells]
  refine q_on (yi (t := 21) rfl rfl) ?_
  first | refine q_go (fun w hS => m_load_row Try.underlying112 (hi := ti112) (hS := hS) (hfit := by first | omega | (rw [zi_size (by omega)]; first | rfl | decide) | (simp only [ic_size, List.length_map, List.size_toArray]; first | omega | decide) | rfl | (simp [*]; done) | (simp [*]; omega))) ?_ | refine q_go (fun w hS => m_loada_obj Try.underlying112 (hi := ti112) (hS := hS) (hfit := by first | omega | (rw [zi_size (by omega)]; first | rfl | decide) | (simp only [ic_size, List.length_map, List.size_toArray]; first | omega | decide) | rfl | (simp [*]; done) | (simp [*]; omega))) ?_ | refine q_go (fun w hS => m_loada_bx Try.underlying112 (hi := ti112) (hS := hS) (hfit := by first | omega | (rw [zi_size (by omega)]; first | rfl | decide) | (simp only [ic_size, List.length_map, List.size_toArray]; first | omega | decide) | rfl | (simp [*]; done) | (simp [*]; omega))) ?_ | refine q_go (fun w hS => m_loada_rd Try.underlying112 (hi := ti112) (hS := hS) (hfit := by first | omega | (rw [zi_size (by omega)]; first | rfl | decide) | (simp only [ic_size, List.length_map, List.size_toArray]; first | omega | decide) | rfl | (simp [*]; done) | (simp [*]; omega))) ?_ | refine q_go (fun w hS => m_loada_vec Try.underlying112 (hi := ti112) (hS := hS) (hfit := by first | omega | (rw [zi_size (by omega)]; first | rfl | decide) | (simp only [ic_size, List.length_map, List.size_toArray]; first | omega | decide) | rfl | (simp [*]; done) | (simp [*]; omega))) ?_
  try simp only [opv, n1, n2, n3, n4, Value.cells, List.getElem_toArray, List.getElem_cons_zero, List.getElem_cons_succ]
  refine q_on (yi (t := 21) rfl rfl) ?_
  first | refine q_go (fun w hS => m_load_row Try.underlying112 (hi := ti112) (hS := hS) (hfit := by first | omega | (rw [zi_size (by omega)]; first | rfl | decide) | (simp only [ic_size, List.length_map, List.size_toArray]; first | omega | decide) | rfl | (simp [*]; done) | (simp [*]; omega))) ?_ | refine q_go (fun w hS => m_loada_obj Try.underlying112 (hi := ti112) (hS := hS) (hfit := by first | omega | (rw [zi_size (by omega)]; first | rfl | decide) | (simp only [ic_size, List.length_map, List.size_toArray]; first | omega | decide) | rfl | (simp [*]; done) | (simp [*]; omega))) ?_ | refine q_go (fun w hS => m_loada_bx Try.underlying112 (hi := ti112) (hS := hS) (hfit := by first | omega | (rw [zi_size (by omega)]; first | rfl | decide) | (simp only [ic_size, List.length_map, List.size_toArray]; first | omega | decide) | rfl | (simp [*]; done) | (simp [*]; omega))) ?_ | refine q_go (fun w hS => m_loada_rd Try.underlying112 (hi := ti112) (hS := hS) (hfit := by first | omega | (rw [zi_size (by omega)]; first | rfl | decide) | (simp only [ic_size, List.length_map, List.size_toArray]; first | omega | decide) | rfl | (simp [*]; done) | (simp [*]; omega))) ?_ | refine q_go (fun w hS => m_loada_vec Try.underlying112 (hi := ti112) (hS := hS) (hfit := by first | omega | (rw [zi_size (by omega)]; first | rfl | decide) | (simp only [ic_size, List.length_map, List.size_toArray]; first | omega | decide) | rfl | (simp [*]; done) | (simp [*]; omega))) ?_
  try simp only [opv, n1, n2, n3, n4, Value.cells, List.getElem_toArray, List.getElem_cons_zero, List.getElem_cons_succ]
  refine q_on (yi (t := 21) rfl rfl) ?_
  apply q_call en103
  case H =>
    intro w hS
    try simp only [opv, n1, n2, n3, n4, List.map_toArray, List.map_cons, List.map_nil, List.append_toArray, List.cons_append, List.nil_append, Array.append_empty]
    refine CallR.mono (c_ref09More x y hx hy _) ?_
    rintro _ w1 ⟨rfl, hE⟩; exact ⟨rfl, hS.ext hE⟩
  try simp only [opv, n1, n2, n3, n4, Value.cells]
  refine q_on (yi (t := 21) rfl rfl) ?_
  refine q_go (fun w hS => s_eql_agg eqv112 (hg := eg112) (hX := rfl) (hY := rfl) (h1 := by assumption) (h2 := by assumption)) ?_
  try simp only [opv, n1, n2, n3, n4, Value.cells]
  try simp only [eq_self, decide_true, beq_self_eq_true, Bool.and_self]
  first | refine q_go (fun w hS => s_pick_t) ?_ | refine q_go (fun w hS => s_pick_f) ?_
  try simp only [opv, n1, n2, n3, n4, Value.cells]
  refine q_go (fun w hS => s_move) ?_
  try simp only [opv, n1, n2, n3, n4, Value.cells]
  refine q_on (yi (t := 30) rfl rfl) ?_
  apply q_call en97
  case H =>
    intro w hS
    try simp only [opv, n1, n2, n3, n4, List.map_toArray, List.map_cons, List.map_nil, List.append_toArray, List.cons_append, List.nil_append, Array.append_empty]
    refine CallR.mono (c_law09alive _) ?_
    rintro _ w1 ⟨rfl, hE⟩; exact ⟨rfl, hS.ext hE⟩
  try simp only [opv, n1, n2, n3, n4, Value.cells]
  first | refine q_go (fun w hS => s_pick_t) ?_ | refine q_go (fun w hS => s_pick_f) ?_
  try simp only [opv, n1, n2, n3, n4, Value.cells]
  refine q_go (fun w hS => s_assign) ?_
  try simp only [opv, n1, n2, n3, n4, Value.cells]
  clear hS
  refine q_nil fun w4 hS => ?_
  refine hK2 _ _ ?_
  refine x_ret ?_
  refine r_tmp rfl ?_
  exact ⟨rfl, hS.ext_of⟩
end Go.Proofs.Ytjgbcaegofpggaa
