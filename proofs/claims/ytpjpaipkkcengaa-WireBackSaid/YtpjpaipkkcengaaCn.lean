/- Contracts of functions, printed by a program of this seat (wip/tools/gen.py) out of its specs. -/
import Derived.Test.YtpjpaipkkcengaaCb
import Derived.Test.YtpjpaipkkcengaaPname
set_option linter.unusedSimpArgs false
set_option linter.unusedVariables false
set_option maxHeartbeats 800000
set_option maxRecDepth 100000
namespace Go.Proofs.Ytpjpaipkkcengaa
open Go.RowKit

theorem c_nameLetter (b : Int) (hb : 0 ≤ b ∧ b ≤ 255)  (w0 : World) :
    CallR Try.prog 208 #[.int .u8 b] w0 fun v w' => v = .bool (isLet b) ∧ Ext w0 w' := by
  have hS : St NoB w0 w0 [] := St.start w0
  refine c_enter (l := [.int .u8 b, undef, undef, undef, undef, undef, undef, undef, undef]) Try.func208 rfl (by simp only [Try.ntmps208, List.size_toArray, List.length_cons, List.length_nil, Nat.reduceAdd, Nat.reduceSub, Array.replicate_succ, Array.replicate_zero, List.push_toArray, List.append_toArray, List.nil_append, List.cons_append]) ?_
  refine x_seq fun K1 hK1 => ?_
  refine x_region ?_
  refine s_go (s_assign) ?_
  try simp only [opv, n1, n2, n3, n4, Value.cells]
  refine x_nil ?_
  refine hK1 _ _ ?_
  refine x_seq fun K2 hK2 => ?_
  refine x_region ?_
  refine s_go (s_move) ?_
  try simp only [opv, n1, n2, n3, n4, Value.cells]
  refine s_go (s_leq) ?_
  try simp only [opv, n1, n2, n3, n4, Value.cells]
  refine s_go (s_move) ?_
  try simp only [opv, n1, n2, n3, n4, Value.cells]
  refine s_part 5 rfl (fun hp1 => ?_) (fun hp1 => ?_)
  ·
    try simp only [n3, n4]
    try simp only [decide_eq_true_eq, decide_eq_false_iff_not, Bool.not_eq_true', Bool.not_eq_false', Int.not_lt, Int.not_le, ne_eq, Decidable.not_not] at hp1
    refine g_on (yi (t := 5) rfl rfl) ?_
    refine s_go (s_move) ?_
    try simp only [opv, n1, n2, n3, n4, Value.cells]
    refine g_on (yi (t := 5) rfl rfl) ?_
    refine s_go (s_leq) ?_
    try simp only [opv, n1, n2, n3, n4, Value.cells]
    first | refine s_go (s_pick_t) ?_ | refine s_go (s_pick_f) ?_
    try simp only [opv, n1, n2, n3, n4, Value.cells]
    refine s_go (s_assign) ?_
    try simp only [opv, n1, n2, n3, n4, Value.cells]
    refine x_nil ?_
    refine hK2 _ _ ?_
    refine x_ret ?_
    refine r_tmp rfl ?_
    exact ⟨congrArg Value.bool (by unfold isLet; first | rfl | (simp; done) | (simp [*]; done) | (simp; omega) | (rw [Bool.eq_iff_iff]; simp; omega) | (rw [Bool.eq_iff_iff]; simp [*]; omega)), hS.ext_of⟩
  ·
    try simp only [n3, n4]
    try simp only [decide_eq_true_eq, decide_eq_false_iff_not, Bool.not_eq_true', Bool.not_eq_false', Int.not_lt, Int.not_le, ne_eq, Decidable.not_not] at hp1
    refine g_off (yi (t := 5) rfl rfl) ?_
    try simp only [opv, n1, n2, n3, n4, Value.cells]
    refine g_off (yi (t := 5) rfl rfl) ?_
    try simp only [opv, n1, n2, n3, n4, Value.cells]
    first | refine s_go (s_pick_t) ?_ | refine s_go (s_pick_f) ?_
    try simp only [opv, n1, n2, n3, n4, Value.cells]
    refine s_go (s_assign) ?_
    try simp only [opv, n1, n2, n3, n4, Value.cells]
    refine x_nil ?_
    refine hK2 _ _ ?_
    refine x_ret ?_
    refine r_tmp rfl ?_
    exact ⟨congrArg Value.bool (by unfold isLet; first | rfl | (simp; done) | (simp [*]; done) | (simp; omega) | (rw [Bool.eq_iff_iff]; simp; omega) | (rw [Bool.eq_iff_iff]; simp [*]; omega)), hS.ext_of⟩

theorem c_ref06Letter (b : Int) (hb : 0 ≤ b ∧ b ≤ 255)  (w0 : World) :
    CallR Try.prog 192 #[.int .u8 b] w0 fun v w' => v = .bool (isLet b) ∧ Ext w0 w' := by
  have hS : St NoB w0 w0 [] := St.start w0
  refine c_enter (l := [.int .u8 b, undef, undef, undef, undef, undef, undef, undef, undef]) Try.func192 rfl (by simp only [Try.ntmps192, List.size_toArray, List.length_cons, List.length_nil, Nat.reduceAdd, Nat.reduceSub, Array.replicate_succ, Array.replicate_zero, List.push_toArray, List.append_toArray, List.nil_append, List.cons_append]) ?_
  refine x_seq fun K1 hK1 => ?_
  refine x_region ?_
  refine s_go (s_assign) ?_
  try simp only [opv, n1, n2, n3, n4, Value.cells]
  refine x_nil ?_
  refine hK1 _ _ ?_
  refine x_seq fun K2 hK2 => ?_
  refine x_region ?_
  refine s_go (s_move) ?_
  try simp only [opv, n1, n2, n3, n4, Value.cells]
  refine s_go (s_geq) ?_
  try simp only [opv, n1, n2, n3, n4, Value.cells]
  refine s_go (s_move) ?_
  try simp only [opv, n1, n2, n3, n4, Value.cells]
  refine s_part 5 rfl (fun hp1 => ?_) (fun hp1 => ?_)
  ·
    try simp only [n3, n4]
    try simp only [decide_eq_true_eq, decide_eq_false_iff_not, Bool.not_eq_true', Bool.not_eq_false', Int.not_lt, Int.not_le, ne_eq, Decidable.not_not] at hp1
    refine g_on (yi (t := 5) rfl rfl) ?_
    refine s_go (s_move) ?_
    try simp only [opv, n1, n2, n3, n4, Value.cells]
    refine g_on (yi (t := 5) rfl rfl) ?_
    refine s_go (s_leq) ?_
    try simp only [opv, n1, n2, n3, n4, Value.cells]
    first | refine s_go (s_pick_t) ?_ | refine s_go (s_pick_f) ?_
    try simp only [opv, n1, n2, n3, n4, Value.cells]
    refine s_go (s_assign) ?_
    try simp only [opv, n1, n2, n3, n4, Value.cells]
    refine x_nil ?_
    refine hK2 _ _ ?_
    refine x_ret ?_
    refine r_tmp rfl ?_
    exact ⟨congrArg Value.bool (by unfold isLet; first | rfl | (simp; done) | (simp [*]; done) | (simp; omega) | (rw [Bool.eq_iff_iff]; simp; omega) | (rw [Bool.eq_iff_iff]; simp [*]; omega)), hS.ext_of⟩
  ·
    try simp only [n3, n4]
    try simp only [decide_eq_true_eq, decide_eq_false_iff_not, Bool.not_eq_true', Bool.not_eq_false', Int.not_lt, Int.not_le, ne_eq, Decidable.not_not] at hp1
    refine g_off (yi (t := 5) rfl rfl) ?_
    try simp only [opv, n1, n2, n3, n4, Value.cells]
    refine g_off (yi (t := 5) rfl rfl) ?_
    try simp only [opv, n1, n2, n3, n4, Value.cells]
    first | refine s_go (s_pick_t) ?_ | refine s_go (s_pick_f) ?_
    try simp only [opv, n1, n2, n3, n4, Value.cells]
    refine s_go (s_assign) ?_
    try simp only [opv, n1, n2, n3, n4, Value.cells]
    refine x_nil ?_
    refine hK2 _ _ ?_
    refine x_ret ?_
    refine r_tmp rfl ?_
    exact ⟨congrArg Value.bool (by unfold isLet; first | rfl | (simp; done) | (simp [*]; done) | (simp; omega) | (rw [Bool.eq_iff_iff]; simp; omega) | (rw [Bool.eq_iff_iff]; simp [*]; omega)), hS.ext_of⟩

theorem c_nameOther (b : Int) (hb : 0 ≤ b ∧ b ≤ 255)  (w0 : World) :
    CallR Try.prog 210 #[.int .u8 b] w0 fun v w' => v = .bool (isOth b) ∧ Ext w0 w' := by
  have hS : St NoB w0 w0 [] := St.start w0
  refine c_enter (l := [.int .u8 b, undef, undef, undef, undef, undef, undef, undef, undef, undef, undef, undef, undef, undef]) Try.func210 rfl (by simp only [Try.ntmps210, List.size_toArray, List.length_cons, List.length_nil, Nat.reduceAdd, Nat.reduceSub, Array.replicate_succ, Array.replicate_zero, List.push_toArray, List.append_toArray, List.nil_append, List.cons_append]) ?_
  refine x_seq fun K1 hK1 => ?_
  refine x_region ?_
  refine s_go (s_assign) ?_
  try simp only [opv, n1, n2, n3, n4, Value.cells]
  refine x_nil ?_
  refine hK1 _ _ ?_
  refine x_seq fun K2 hK2 => ?_
  refine x_block ?_
  refine x_seq fun K3 hK3 => ?_
  refine x_seq fun K4 hK4 => ?_
  refine x_region ?_
  refine s_go (s_move) ?_
  try simp only [opv, n1, n2, n3, n4, Value.cells]
  refine s_call en208 ?_
  try simp only [opv, n1, n2, n3, n4, Value.cells, List.map_toArray, List.map_cons, List.map_nil, List.append_toArray, List.cons_append, List.nil_append, Array.append_empty]
  refine CallR.mono (c_nameLetter _ (by first | assumption | omega) _) ?_
  rintro _ w1 ⟨rfl, hE1⟩
  replace hS := hS.ext hE1
  try simp only [opv, n1, n2, n3, n4, Value.cells]
  unfold isLet
  refine s_go (s_assign) ?_
  try simp only [opv, n1, n2, n3, n4, Value.cells]
  refine x_nil ?_
  refine hK4 _ _ ?_
  refine x_cond (ht := fun hc1 => ?_) (hf := fun hc1 => ?_)
  ·
    try simp only [decide_eq_true_eq, decide_eq_false_iff_not, Bool.not_eq_true', Bool.not_eq_false', Int.not_lt, Int.not_le, ne_eq, Decidable.not_not, bne_iff_ne, beq_iff_eq, not_true_eq_false, not_false_eq_true] at hc1
    first
    | (exfalso; omega)
    | skip
      refine x_skip ?_
      refine hK3 _ _ ?_
      refine x_cond (ht := fun hc2 => ?_) (hf := fun hc2 => ?_)
      ·
        try simp only [decide_eq_true_eq, decide_eq_false_iff_not, Bool.not_eq_true', Bool.not_eq_false', Int.not_lt, Int.not_le, ne_eq, Decidable.not_not, bne_iff_ne, beq_iff_eq, not_true_eq_false, not_false_eq_true] at hc2
        first
        | (exfalso; omega)
        | skip
          refine x_seq fun K5 hK5 => ?_
          refine x_region ?_
          refine s_go (s_assign) ?_
          try simp only [opv, n1, n2, n3, n4, Value.cells]
          refine x_nil ?_
          refine hK5 _ _ ?_
          refine x_ret ?_
          refine r_tmp rfl ?_
          exact ⟨congrArg Value.bool (by unfold isOth; first | rfl | exact (decide_eq_true (by omega)).symm | exact (decide_eq_false (by omega)).symm | exact decide_eq_decide.2 (by omega)), hS.ext_of⟩
      ·
        try simp only [decide_eq_true_eq, decide_eq_false_iff_not, Bool.not_eq_true', Bool.not_eq_false', Int.not_lt, Int.not_le, ne_eq, Decidable.not_not, bne_iff_ne, beq_iff_eq, not_true_eq_false, not_false_eq_true] at hc2
        first
        | (exfalso; omega)
        | skip
          refine x_skip ?_
          refine hK2 _ _ ?_
          refine x_seq fun K6 hK6 => ?_
          refine x_region ?_
          refine s_go (s_assign) ?_
          try simp only [opv, n1, n2, n3, n4, Value.cells]
          refine x_nil ?_
          refine hK6 _ _ ?_
          refine x_ret ?_
          refine r_tmp rfl ?_
          exact ⟨congrArg Value.bool (by unfold isOth; first | rfl | exact (decide_eq_true (by omega)).symm | exact (decide_eq_false (by omega)).symm | exact decide_eq_decide.2 (by omega)), hS.ext_of⟩
  ·
    try simp only [decide_eq_true_eq, decide_eq_false_iff_not, Bool.not_eq_true', Bool.not_eq_false', Int.not_lt, Int.not_le, ne_eq, Decidable.not_not, bne_iff_ne, beq_iff_eq, not_true_eq_false, not_false_eq_true] at hc1
    first
    | (exfalso; omega)
    | skip
      refine x_seq fun K7 hK7 => ?_
      refine x_region ?_
      refine s_go (s_move) ?_
      try simp only [opv, n1, n2, n3, n4, Value.cells]
      refine s_go (s_leq) ?_
      try simp only [opv, n1, n2, n3, n4, Value.cells]
      refine s_go (s_move) ?_
      try simp only [opv, n1, n2, n3, n4, Value.cells]
      refine s_part 8 rfl (fun hp1 => ?_) (fun hp1 => ?_)
      ·
        try simp only [n3, n4]
        try simp only [decide_eq_true_eq, decide_eq_false_iff_not, Bool.not_eq_true', Bool.not_eq_false', Int.not_lt, Int.not_le, ne_eq, Decidable.not_not] at hp1
        first
        | (exfalso; omega)
        | skip
          refine g_on (yi (t := 8) rfl rfl) ?_
          refine s_go (s_move) ?_
          try simp only [opv, n1, n2, n3, n4, Value.cells]
          refine g_on (yi (t := 8) rfl rfl) ?_
          refine s_go (s_leq) ?_
          try simp only [opv, n1, n2, n3, n4, Value.cells]
          first | refine s_go (s_pick_t) ?_ | refine s_go (s_pick_f) ?_
          try simp only [opv, n1, n2, n3, n4, Value.cells]
          refine s_go (s_assign) ?_
          try simp only [opv, n1, n2, n3, n4, Value.cells]
          refine x_nil ?_
          refine hK7 _ _ ?_
          refine x_cond (ht := fun hc3 => ?_) (hf := fun hc3 => ?_)
          ·
            try simp only [decide_eq_true_eq, decide_eq_false_iff_not, Bool.not_eq_true', Bool.not_eq_false', Int.not_lt, Int.not_le, ne_eq, Decidable.not_not, bne_iff_ne, beq_iff_eq, not_true_eq_false, not_false_eq_true] at hc3
            first
            | (exfalso; omega)
            | skip
              refine x_skip ?_
              refine hK3 _ _ ?_
              refine x_cond (ht := fun hc4 => ?_) (hf := fun hc4 => ?_)
              ·
                try simp only [decide_eq_true_eq, decide_eq_false_iff_not, Bool.not_eq_true', Bool.not_eq_false', Int.not_lt, Int.not_le, ne_eq, Decidable.not_not, bne_iff_ne, beq_iff_eq, not_true_eq_false, not_false_eq_true] at hc4
                first
                | (exfalso; omega)
                | skip
                  refine x_seq fun K8 hK8 => ?_
                  refine x_region ?_
                  refine s_go (s_assign) ?_
                  try simp only [opv, n1, n2, n3, n4, Value.cells]
                  refine x_nil ?_
                  refine hK8 _ _ ?_
                  refine x_ret ?_
                  refine r_tmp rfl ?_
                  exact ⟨congrArg Value.bool (by unfold isOth; first | rfl | exact (decide_eq_true (by omega)).symm | exact (decide_eq_false (by omega)).symm | exact decide_eq_decide.2 (by omega)), hS.ext_of⟩
              ·
                try simp only [decide_eq_true_eq, decide_eq_false_iff_not, Bool.not_eq_true', Bool.not_eq_false', Int.not_lt, Int.not_le, ne_eq, Decidable.not_not, bne_iff_ne, beq_iff_eq, not_true_eq_false, not_false_eq_true] at hc4
                first
                | (exfalso; omega)
                | skip
                  refine x_skip ?_
                  refine hK2 _ _ ?_
                  refine x_seq fun K9 hK9 => ?_
                  refine x_region ?_
                  refine s_go (s_assign) ?_
                  try simp only [opv, n1, n2, n3, n4, Value.cells]
                  refine x_nil ?_
                  refine hK9 _ _ ?_
                  refine x_ret ?_
                  refine r_tmp rfl ?_
                  exact ⟨congrArg Value.bool (by unfold isOth; first | rfl | exact (decide_eq_true (by omega)).symm | exact (decide_eq_false (by omega)).symm | exact decide_eq_decide.2 (by omega)), hS.ext_of⟩
          ·
            try simp only [decide_eq_true_eq, decide_eq_false_iff_not, Bool.not_eq_true', Bool.not_eq_false', Int.not_lt, Int.not_le, ne_eq, Decidable.not_not, bne_iff_ne, beq_iff_eq, not_true_eq_false, not_false_eq_true] at hc3
            first
            | (exfalso; omega)
            | skip
              refine x_region ?_
              refine s_go (s_move) ?_
              try simp only [opv, n1, n2, n3, n4, Value.cells]
              refine s_go (s_eql) ?_
              try simp only [opv, n1, n2, n3, n4, Value.cells]
              refine s_go (s_assign) ?_
              try simp only [opv, n1, n2, n3, n4, Value.cells]
              refine x_nil ?_
              refine hK3 _ _ ?_
              refine x_cond (ht := fun hc5 => ?_) (hf := fun hc5 => ?_)
              ·
                try simp only [decide_eq_true_eq, decide_eq_false_iff_not, Bool.not_eq_true', Bool.not_eq_false', Int.not_lt, Int.not_le, ne_eq, Decidable.not_not, bne_iff_ne, beq_iff_eq, not_true_eq_false, not_false_eq_true] at hc5
                first
                | (exfalso; omega)
                | skip
                  refine x_seq fun K10 hK10 => ?_
                  refine x_region ?_
                  refine s_go (s_assign) ?_
                  try simp only [opv, n1, n2, n3, n4, Value.cells]
                  refine x_nil ?_
                  refine hK10 _ _ ?_
                  refine x_ret ?_
                  refine r_tmp rfl ?_
                  exact ⟨congrArg Value.bool (by unfold isOth; first | rfl | exact (decide_eq_true (by omega)).symm | exact (decide_eq_false (by omega)).symm | exact decide_eq_decide.2 (by omega)), hS.ext_of⟩
              ·
                try simp only [decide_eq_true_eq, decide_eq_false_iff_not, Bool.not_eq_true', Bool.not_eq_false', Int.not_lt, Int.not_le, ne_eq, Decidable.not_not, bne_iff_ne, beq_iff_eq, not_true_eq_false, not_false_eq_true] at hc5
                first
                | (exfalso; omega)
                | skip
                  refine x_skip ?_
                  refine hK2 _ _ ?_
                  refine x_seq fun K11 hK11 => ?_
                  refine x_region ?_
                  refine s_go (s_assign) ?_
                  try simp only [opv, n1, n2, n3, n4, Value.cells]
                  refine x_nil ?_
                  refine hK11 _ _ ?_
                  refine x_ret ?_
                  refine r_tmp rfl ?_
                  exact ⟨congrArg Value.bool (by unfold isOth; first | rfl | exact (decide_eq_true (by omega)).symm | exact (decide_eq_false (by omega)).symm | exact decide_eq_decide.2 (by omega)), hS.ext_of⟩
      ·
        try simp only [n3, n4]
        try simp only [decide_eq_true_eq, decide_eq_false_iff_not, Bool.not_eq_true', Bool.not_eq_false', Int.not_lt, Int.not_le, ne_eq, Decidable.not_not] at hp1
        first
        | (exfalso; omega)
        | skip
          refine g_off (yi (t := 8) rfl rfl) ?_
          try simp only [opv, n1, n2, n3, n4, Value.cells]
          refine g_off (yi (t := 8) rfl rfl) ?_
          try simp only [opv, n1, n2, n3, n4, Value.cells]
          first | refine s_go (s_pick_t) ?_ | refine s_go (s_pick_f) ?_
          try simp only [opv, n1, n2, n3, n4, Value.cells]
          refine s_go (s_assign) ?_
          try simp only [opv, n1, n2, n3, n4, Value.cells]
          refine x_nil ?_
          refine hK7 _ _ ?_
          refine x_cond_f (h := ?_)
          refine x_region ?_
          refine s_go (s_move) ?_
          try simp only [opv, n1, n2, n3, n4, Value.cells]
          refine s_go (s_eql) ?_
          try simp only [opv, n1, n2, n3, n4, Value.cells]
          refine s_go (s_assign) ?_
          try simp only [opv, n1, n2, n3, n4, Value.cells]
          refine x_nil ?_
          refine hK3 _ _ ?_
          refine x_cond (ht := fun hc7 => ?_) (hf := fun hc7 => ?_)
          ·
            try simp only [decide_eq_true_eq, decide_eq_false_iff_not, Bool.not_eq_true', Bool.not_eq_false', Int.not_lt, Int.not_le, ne_eq, Decidable.not_not, bne_iff_ne, beq_iff_eq, not_true_eq_false, not_false_eq_true] at hc7
            first
            | (exfalso; omega)
            | skip
              refine x_seq fun K12 hK12 => ?_
              refine x_region ?_
              refine s_go (s_assign) ?_
              try simp only [opv, n1, n2, n3, n4, Value.cells]
              refine x_nil ?_
              refine hK12 _ _ ?_
              refine x_ret ?_
              refine r_tmp rfl ?_
              exact ⟨congrArg Value.bool (by unfold isOth; first | rfl | exact (decide_eq_true (by omega)).symm | exact (decide_eq_false (by omega)).symm | exact decide_eq_decide.2 (by omega)), hS.ext_of⟩
          ·
            try simp only [decide_eq_true_eq, decide_eq_false_iff_not, Bool.not_eq_true', Bool.not_eq_false', Int.not_lt, Int.not_le, ne_eq, Decidable.not_not, bne_iff_ne, beq_iff_eq, not_true_eq_false, not_false_eq_true] at hc7
            first
            | (exfalso; omega)
            | skip
              refine x_skip ?_
              refine hK2 _ _ ?_
              refine x_seq fun K13 hK13 => ?_
              refine x_region ?_
              refine s_go (s_assign) ?_
              try simp only [opv, n1, n2, n3, n4, Value.cells]
              refine x_nil ?_
              refine hK13 _ _ ?_
              refine x_ret ?_
              refine r_tmp rfl ?_
              exact ⟨congrArg Value.bool (by unfold isOth; first | rfl | exact (decide_eq_true (by omega)).symm | exact (decide_eq_false (by omega)).symm | exact decide_eq_decide.2 (by omega)), hS.ext_of⟩

theorem c_nameZero (b : Int) (hb : 0 ≤ b ∧ b ≤ 255)  (w0 : World) :
    CallR Try.prog 211 #[.int .u8 b] w0 fun v w' => v = .bool (isZer b) ∧ Ext w0 w' := by
  have hS : St NoB w0 w0 [] := St.start w0
  refine c_enter (l := [.int .u8 b, undef, undef, undef, undef]) Try.func211 rfl (by simp only [Try.ntmps211, List.size_toArray, List.length_cons, List.length_nil, Nat.reduceAdd, Nat.reduceSub, Array.replicate_succ, Array.replicate_zero, List.push_toArray, List.append_toArray, List.nil_append, List.cons_append]) ?_
  refine x_seq fun K1 hK1 => ?_
  refine x_region ?_
  refine s_go (s_assign) ?_
  try simp only [opv, n1, n2, n3, n4, Value.cells]
  refine x_nil ?_
  refine hK1 _ _ ?_
  refine x_seq fun K2 hK2 => ?_
  refine x_region ?_
  refine s_go (s_move) ?_
  try simp only [opv, n1, n2, n3, n4, Value.cells]
  refine s_go (s_eql) ?_
  try simp only [opv, n1, n2, n3, n4, Value.cells]
  refine s_go (s_assign) ?_
  try simp only [opv, n1, n2, n3, n4, Value.cells]
  refine x_nil ?_
  refine hK2 _ _ ?_
  refine x_ret ?_
  refine r_tmp rfl ?_
  exact ⟨rfl, hS.ext_of⟩

theorem c_ref06Other (b : Int) (hb : 0 ≤ b ∧ b ≤ 255)  (w0 : World) :
    CallR Try.prog 193 #[.int .u8 b] w0 fun v w' => v = .bool (isOth b) ∧ Ext w0 w' := by
  have hS : St NoB w0 w0 [] := St.start w0
  refine c_enter (l := [.int .u8 b, undef, undef, undef, undef, undef, undef, undef, undef, undef, undef, undef, undef, undef, undef, undef, undef]) Try.func193 rfl (by simp only [Try.ntmps193, List.size_toArray, List.length_cons, List.length_nil, Nat.reduceAdd, Nat.reduceSub, Array.replicate_succ, Array.replicate_zero, List.push_toArray, List.append_toArray, List.nil_append, List.cons_append]) ?_
  refine x_seq fun K1 hK1 => ?_
  refine x_region ?_
  refine s_go (s_assign) ?_
  try simp only [opv, n1, n2, n3, n4, Value.cells]
  refine x_nil ?_
  refine hK1 _ _ ?_
  refine x_seq fun K2 hK2 => ?_
  refine x_region ?_
  refine s_go (s_move) ?_
  try simp only [opv, n1, n2, n3, n4, Value.cells]
  refine s_call en192 ?_
  try simp only [opv, n1, n2, n3, n4, Value.cells, List.map_toArray, List.map_cons, List.map_nil, List.append_toArray, List.cons_append, List.nil_append, Array.append_empty]
  refine CallR.mono (c_ref06Letter _ (by first | assumption | omega) _) ?_
  rintro _ w1 ⟨rfl, hE1⟩
  replace hS := hS.ext hE1
  try simp only [opv, n1, n2, n3, n4, Value.cells]
  unfold isLet
  refine s_go (s_move) ?_
  try simp only [opv, n1, n2, n3, n4, Value.cells]
  refine s_part 5 rfl (fun hp1 => ?_) (fun hp1 => ?_)
  ·
    try simp only [n3, n4]
    try simp only [decide_eq_true_eq, decide_eq_false_iff_not, Bool.not_eq_true', Bool.not_eq_false', Int.not_lt, Int.not_le, ne_eq, Decidable.not_not] at hp1
    first
    | (exfalso; omega)
    | skip
      refine g_off (yi (t := 5) rfl rfl) ?_
      try simp only [opv, n1, n2, n3, n4, Value.cells]
      refine g_off (yi (t := 5) rfl rfl) ?_
      try simp only [opv, n1, n2, n3, n4, Value.cells]
      refine g_off (yi (t := 5) rfl rfl) ?_
      try simp only [opv, n1, n2, n3, n4, Value.cells]
      refine g_un (yn (t := 8) rfl rfl) ?_
      try simp only [opv, n1, n2, n3, n4, Value.cells]
      refine g_un (yn (t := 8) rfl rfl) ?_
      try simp only [opv, n1, n2, n3, n4, Value.cells]
      refine g_off (yi (t := 5) rfl rfl) ?_
      try simp only [opv, n1, n2, n3, n4, Value.cells]
      first | refine s_go (s_pick_t) ?_ | refine s_go (s_pick_f) ?_
      try simp only [opv, n1, n2, n3, n4, Value.cells]
      refine s_go (s_move) ?_
      try simp only [opv, n1, n2, n3, n4, Value.cells]
      refine g_off (yi (t := 13) rfl rfl) ?_
      try simp only [opv, n1, n2, n3, n4, Value.cells]
      refine g_off (yi (t := 13) rfl rfl) ?_
      try simp only [opv, n1, n2, n3, n4, Value.cells]
      first | refine s_go (s_pick_t) ?_ | refine s_go (s_pick_f) ?_
      try simp only [opv, n1, n2, n3, n4, Value.cells]
      refine s_go (s_assign) ?_
      try simp only [opv, n1, n2, n3, n4, Value.cells]
      refine x_nil ?_
      refine hK2 _ _ ?_
      refine x_ret ?_
      refine r_tmp rfl ?_
      exact ⟨congrArg Value.bool (by unfold isOth; first | rfl | exact (decide_eq_true (by omega)).symm | exact (decide_eq_false (by omega)).symm | exact decide_eq_decide.2 (by omega)), hS.ext_of⟩
  ·
    try simp only [n3, n4]
    try simp only [decide_eq_true_eq, decide_eq_false_iff_not, Bool.not_eq_true', Bool.not_eq_false', Int.not_lt, Int.not_le, ne_eq, Decidable.not_not] at hp1
    first
    | (exfalso; omega)
    | skip
      refine g_on (yi (t := 5) rfl rfl) ?_
      refine s_go (s_move) ?_
      try simp only [opv, n1, n2, n3, n4, Value.cells]
      refine g_on (yi (t := 5) rfl rfl) ?_
      refine s_go (s_geq) ?_
      try simp only [opv, n1, n2, n3, n4, Value.cells]
      refine g_on (yi (t := 5) rfl rfl) ?_
      refine s_go (s_move) ?_
      try simp only [opv, n1, n2, n3, n4, Value.cells]
      refine s_part 8 rfl (fun hp2 => ?_) (fun hp2 => ?_)
      ·
        try simp only [n3, n4]
        try simp only [decide_eq_true_eq, decide_eq_false_iff_not, Bool.not_eq_true', Bool.not_eq_false', Int.not_lt, Int.not_le, ne_eq, Decidable.not_not] at hp2
        first
        | (exfalso; omega)
        | skip
          refine g_on (yi (t := 8) rfl rfl) ?_
          refine s_go (s_move) ?_
          try simp only [opv, n1, n2, n3, n4, Value.cells]
          refine g_on (yi (t := 8) rfl rfl) ?_
          refine s_go (s_leq) ?_
          try simp only [opv, n1, n2, n3, n4, Value.cells]
          refine g_on (yi (t := 5) rfl rfl) ?_
          first | refine s_go (s_pick_t) ?_ | refine s_go (s_pick_f) ?_
          try simp only [opv, n1, n2, n3, n4, Value.cells]
          first | refine s_go (s_pick_t) ?_ | refine s_go (s_pick_f) ?_
          try simp only [opv, n1, n2, n3, n4, Value.cells]
          refine s_go (s_move) ?_
          try simp only [opv, n1, n2, n3, n4, Value.cells]
          refine s_part 13 rfl (fun hp3 => ?_) (fun hp3 => ?_)
          ·
            try simp only [n3, n4]
            try simp only [decide_eq_true_eq, decide_eq_false_iff_not, Bool.not_eq_true', Bool.not_eq_false', Int.not_lt, Int.not_le, ne_eq, Decidable.not_not] at hp3
            first
            | (exfalso; omega)
            | skip
              refine g_off (yi (t := 13) rfl rfl) ?_
              try simp only [opv, n1, n2, n3, n4, Value.cells]
              refine g_off (yi (t := 13) rfl rfl) ?_
              try simp only [opv, n1, n2, n3, n4, Value.cells]
              first | refine s_go (s_pick_t) ?_ | refine s_go (s_pick_f) ?_
              try simp only [opv, n1, n2, n3, n4, Value.cells]
              refine s_go (s_assign) ?_
              try simp only [opv, n1, n2, n3, n4, Value.cells]
              refine x_nil ?_
              refine hK2 _ _ ?_
              refine x_ret ?_
              refine r_tmp rfl ?_
              exact ⟨congrArg Value.bool (by unfold isOth; first | rfl | exact (decide_eq_true (by omega)).symm | exact (decide_eq_false (by omega)).symm | exact decide_eq_decide.2 (by omega)), hS.ext_of⟩
          ·
            try simp only [n3, n4]
            try simp only [decide_eq_true_eq, decide_eq_false_iff_not, Bool.not_eq_true', Bool.not_eq_false', Int.not_lt, Int.not_le, ne_eq, Decidable.not_not] at hp3
            first
            | (exfalso; omega)
            | skip
              refine g_on (yi (t := 13) rfl rfl) ?_
              refine s_go (s_move) ?_
              try simp only [opv, n1, n2, n3, n4, Value.cells]
              refine g_on (yi (t := 13) rfl rfl) ?_
              refine s_go (s_eql) ?_
              try simp only [opv, n1, n2, n3, n4, Value.cells]
              first | refine s_go (s_pick_t) ?_ | refine s_go (s_pick_f) ?_
              try simp only [opv, n1, n2, n3, n4, Value.cells]
              refine s_go (s_assign) ?_
              try simp only [opv, n1, n2, n3, n4, Value.cells]
              refine x_nil ?_
              refine hK2 _ _ ?_
              refine x_ret ?_
              refine r_tmp rfl ?_
              exact ⟨congrArg Value.bool (by unfold isOth; first | rfl | exact (decide_eq_true (by omega)).symm | exact (decide_eq_false (by omega)).symm | exact decide_eq_decide.2 (by omega)), hS.ext_of⟩
      ·
        try simp only [n3, n4]
        try simp only [decide_eq_true_eq, decide_eq_false_iff_not, Bool.not_eq_true', Bool.not_eq_false', Int.not_lt, Int.not_le, ne_eq, Decidable.not_not] at hp2
        first
        | (exfalso; omega)
        | skip
          refine g_off (yi (t := 8) rfl rfl) ?_
          try simp only [opv, n1, n2, n3, n4, Value.cells]
          refine g_off (yi (t := 8) rfl rfl) ?_
          try simp only [opv, n1, n2, n3, n4, Value.cells]
          refine g_on (yi (t := 5) rfl rfl) ?_
          first | refine s_go (s_pick_t) ?_ | refine s_go (s_pick_f) ?_
          try simp only [opv, n1, n2, n3, n4, Value.cells]
          first | refine s_go (s_pick_t) ?_ | refine s_go (s_pick_f) ?_
          try simp only [opv, n1, n2, n3, n4, Value.cells]
          refine s_go (s_move) ?_
          try simp only [opv, n1, n2, n3, n4, Value.cells]
          refine g_on (yi (t := 13) rfl rfl) ?_
          refine s_go (s_move) ?_
          try simp only [opv, n1, n2, n3, n4, Value.cells]
          refine g_on (yi (t := 13) rfl rfl) ?_
          refine s_go (s_eql) ?_
          try simp only [opv, n1, n2, n3, n4, Value.cells]
          first | refine s_go (s_pick_t) ?_ | refine s_go (s_pick_f) ?_
          try simp only [opv, n1, n2, n3, n4, Value.cells]
          refine s_go (s_assign) ?_
          try simp only [opv, n1, n2, n3, n4, Value.cells]
          refine x_nil ?_
          refine hK2 _ _ ?_
          refine x_ret ?_
          refine r_tmp rfl ?_
          exact ⟨congrArg Value.bool (by unfold isOth; first | rfl | exact (decide_eq_true (by omega)).symm | exact (decide_eq_false (by omega)).symm | exact decide_eq_decide.2 (by omega)), hS.ext_of⟩

theorem c_nameSize (l : List Int) (hl : l.length = 8) (hw : Byt l)  (w0 : World) :
    CallR Try.prog 207 #[.agg (ic .u8 l)] w0 fun v w' => v = .int .i64 (nsz l : Int) ∧ Ext w0 w' := by
  have hS : St NoB w0 w0 [] := St.start w0
  refine c_enter (l := [.agg (ic .u8 l), undef, undef, undef, undef, undef, undef, undef, undef, undef, undef, undef, undef, undef]) Try.func207 rfl (by simp only [Try.ntmps207, List.size_toArray, List.length_cons, List.length_nil, Nat.reduceAdd, Nat.reduceSub, Array.replicate_succ, Array.replicate_zero, List.push_toArray, List.append_toArray, List.nil_append, List.cons_append]) ?_
  refine x_seq fun K1 hK1 => ?_
  refine x_region ?_
  refine m_box hS (fun w1 g1 hS => ?_)
  try simp only [opv, n1, n2, n3, n4, Value.cells, Array.toArray_toList] at hS ⊢
  refine s_go (s_assign) ?_
  try simp only [opv, n1, n2, n3, n4, Value.cells]
  refine x_nil ?_
  refine hK1 _ _ ?_
  refine x_seq fun K2 hK2 => ?_
  refine x_seq fun K3 hK3 => ?_
  refine x_region ?_
  first | refine s_go (m_load_row Try.underlying42 (hi := ti42) (hS := hS)) ?_ | refine s_go (m_loada_obj Try.underlying42 (hi := ti42) (hS := hS)) ?_ | refine s_go (m_loada_bx Try.underlying42 (hi := ti42) (hS := hS)) ?_ | refine s_go (m_loada_rd Try.underlying42 (hi := ti42) (hS := hS)) ?_ | refine s_go (m_loada_vec Try.underlying42 (hi := ti42) (hS := hS)) ?_
  try simp only [opv, n1, n2, n3, n4, Value.cells, List.getElem_toArray, List.getElem_cons_zero, List.getElem_cons_succ]
  refine s_go (s_move) ?_
  try simp only [opv, n1, n2, n3, n4, Value.cells]
  refine x_nil ?_
  refine hK3 _ _ ?_
  refine x_block ?_
  refine x_loop [2, 3, 4, 6, 7, 8, 9, 10, 11, 12, 13] (fun m f w => ∃ k : Nat, k ≤ 8 ∧ m = 8 - k ∧ f 6 = .int .i64 (k : Int) ∧ (∀ j, j < k → l.getD j 0 ≠ 0) ∧ St NoB w0 w []) (8) ?init1 (fun m1 f1 wl1 hI => ?_)
  case init1 =>
    try simp only [opv, n1, n2, n3, n4, Value.cells]
    exact ⟨0, by omega, rfl, rfl, fun j hj => absurd hj (by omega), hS.sel .nil⟩
  obtain ⟨k, hk, hm, h6, hz, hS⟩ := hI
  simp only [clob, List.foldl, n3, n4, h6]
  refine x_seq fun K4 hK4 => ?_
  refine x_region ?_
  refine s_go (s_lss) ?_
  try simp only [opv, n1, n2, n3, n4, Value.cells]
  refine x_nil ?_
  refine hK4 _ _ ?_
  refine x_seq fun K5 hK5 => ?_
  refine x_cond (ht := fun hc1 => ?_) (hf := fun hc1 => ?_)
  ·
    try simp only [decide_eq_true_eq, decide_eq_false_iff_not, Bool.not_eq_true', Bool.not_eq_false', Int.not_lt, Int.not_le, ne_eq, Decidable.not_not, bne_iff_ne, beq_iff_eq, not_true_eq_false, not_false_eq_true] at hc1
    refine x_skip ?_
    refine hK5 _ _ ?_
    refine x_seq fun K6 hK6 => ?_
    refine x_block ?_
    refine x_seq fun K7 hK7 => ?_
    refine x_region ?_
    refine s_go (s_move) ?_
    try simp only [opv, n1, n2, n3, n4, Value.cells]
    refine s_go (s_index_one Try.underlying42 ti5 Try.underlying5) ?_
    try simp only [opv, n1, n2, n3, n4, Value.cells, Nat.mul_one, Nat.zero_add, Int.toNat_natCast, Int.reduceToNat]
    refine s_go (s_assign) ?_
    try simp only [opv, n1, n2, n3, n4, Value.cells]
    refine s_go (s_assign) ?_
    try simp only [opv, n1, n2, n3, n4, Value.cells]
    refine x_nil ?_
    refine hK7 _ _ ?_
    refine x_seq fun K8 hK8 => ?_
    refine x_region ?_
    refine s_go (s_move) ?_
    try simp only [opv, n1, n2, n3, n4, Value.cells]
    refine s_go (s_eql) ?_
    try simp only [opv, n1, n2, n3, n4, Value.cells]
    refine x_nil ?_
    refine hK8 _ _ ?_
    refine x_cond (ht := fun hc2 => ?_) (hf := fun hc2 => ?_)
    ·
      try simp only [decide_eq_true_eq, decide_eq_false_iff_not, Bool.not_eq_true', Bool.not_eq_false', Int.not_lt, Int.not_le, ne_eq, Decidable.not_not, bne_iff_ne, beq_iff_eq, not_true_eq_false, not_false_eq_true] at hc2
      refine x_seq fun K9 hK9 => ?_
      refine x_region ?_
      refine s_go (s_move) ?_
      try simp only [opv, n1, n2, n3, n4, Value.cells]
      refine s_go (s_assign) ?_
      try simp only [opv, n1, n2, n3, n4, Value.cells]
      refine x_nil ?_
      refine hK9 _ _ ?_
      refine x_ret ?_
      refine r_tmp rfl ?_
      exact ⟨NU (nsz_of (by omega) hz (.inr hc2)).symm, hS.ext_of⟩
    ·
      try simp only [decide_eq_true_eq, decide_eq_false_iff_not, Bool.not_eq_true', Bool.not_eq_false', Int.not_lt, Int.not_le, ne_eq, Decidable.not_not, bne_iff_ne, beq_iff_eq, not_true_eq_false, not_false_eq_true] at hc2
      refine x_skip ?_
      refine hK6 _ _ ?_
      refine x_region ?_
      refine s_go (s_add (hc := by first | exact wr_i64 (by omega) (by omega) | rfl)) ?_
      try simp only [opv, n1, n2, n3, n4, Value.cells]
      refine s_go (s_move) ?_
      try simp only [opv, n1, n2, n3, n4, Value.cells]
      refine x_nil ?_
      refine loop_back (m' := 8 - (k + 1)) (by simp only [clob, List.foldl, n1, n2, n3, n4]) ?_ ?_
      · try simp only [opv, n1, n2, n3, n4, Value.cells]
        exact ⟨k + 1, by omega, by omega, by rfl, fun j hj => by rcases Nat.lt_or_eq_of_le (Nat.le_of_lt_succ hj) with h | h; exact hz j h; subst h; exact hc2, hS⟩
      · omega
  ·
    try simp only [decide_eq_true_eq, decide_eq_false_iff_not, Bool.not_eq_true', Bool.not_eq_false', Int.not_lt, Int.not_le, ne_eq, Decidable.not_not, bne_iff_ne, beq_iff_eq, not_true_eq_false, not_false_eq_true] at hc1
    obtain rfl : k = 8 := by omega
    refine x_exit (look_here ?_)
    refine hK2 _ _ ?_
    refine x_seq fun K10 hK10 => ?_
    refine x_region ?_
    refine s_go (s_assign) ?_
    try simp only [opv, n1, n2, n3, n4, Value.cells]
    refine x_nil ?_
    refine hK10 _ _ ?_
    refine x_ret ?_
    refine r_tmp rfl ?_
    exact ⟨NU (nsz_of (l := l) (k := 8) (by omega) hz (.inl hl.symm)).symm, hS.ext_of⟩

theorem c_nameAll (w0 : World) (A : Option Addr) (n c : Nat) (l : List Int) (hr : Rd w0 A 1 n (l.map (Value.int .u8))) (hl : l.length = n) (hw : Byt l) (hn : n ≤ 1000) (p : Int → Bool) (f : FuncId) (he : Enters Try.prog f) (H : ∀ (w : World) (b : Int), 0 ≤ b ∧ b ≤ 255 → CallR Try.prog f #[.int .u8 b] w fun v w' => v = .bool (p b) ∧ Ext w w') :
    CallR Try.prog 209 #[.slice A n c, .func (.func f) #[] #[]] w0 fun v w' => v = .bool (l.all p) ∧ Ext w0 w' := by
  have hS := St.rd1 (S := NoB) hr
  refine c_enter (l := [.slice A n c, .func (.func f) #[] #[], undef, undef, undef, undef, undef, undef, undef, undef, undef, undef, undef, undef, undef, undef, undef, undef]) Try.func209 rfl (by simp only [Try.ntmps209, List.size_toArray, List.length_cons, List.length_nil, Nat.reduceAdd, Nat.reduceSub, Array.replicate_succ, Array.replicate_zero, List.push_toArray, List.append_toArray, List.nil_append, List.cons_append]) ?_
  refine x_seq fun K1 hK1 => ?_
  refine x_region ?_
  refine s_go (s_assign) ?_
  try simp only [opv, n1, n2, n3, n4, Value.cells]
  refine x_nil ?_
  refine hK1 _ _ ?_
  refine x_seq fun K2 hK2 => ?_
  refine x_seq fun K3 hK3 => ?_
  refine x_region ?_
  refine s_go (s_move) ?_
  try simp only [opv, n1, n2, n3, n4, Value.cells]
  refine s_go (s_len_sl Try.underlying43) ?_
  try simp only [opv, n1, n2, n3, n4, Value.cells]
  refine s_go (s_move) ?_
  try simp only [opv, n1, n2, n3, n4, Value.cells]
  refine x_nil ?_
  refine hK3 _ _ ?_
  refine x_block ?_
  refine x_loop [4, 6, 9, 10, 11, 12, 13, 14, 15, 16, 17] (fun m f w => ∃ k : Nat, k ≤ n ∧ m = n - k ∧ f 9 = .int .i64 (k : Int) ∧ (l.take k).all p = true ∧ St NoB w0 w [.rd A 1 n (l.map (Value.int .u8))]) (n) ?init1 (fun m1 f1 wl1 hI => ?_)
  case init1 =>
    try simp only [opv, n1, n2, n3, n4, Value.cells]
    exact ⟨0, by omega, rfl, rfl, rfl, hS⟩
  obtain ⟨k, hk, hm, h9, hz, hS⟩ := hI
  simp only [clob, List.foldl, n3, n4, h9]
  refine x_seq fun K4 hK4 => ?_
  refine x_region ?_
  refine s_go (s_lss) ?_
  try simp only [opv, n1, n2, n3, n4, Value.cells]
  refine x_nil ?_
  refine hK4 _ _ ?_
  refine x_seq fun K5 hK5 => ?_
  refine x_cond (ht := fun hc1 => ?_) (hf := fun hc1 => ?_)
  ·
    try simp only [decide_eq_true_eq, decide_eq_false_iff_not, Bool.not_eq_true', Bool.not_eq_false', Int.not_lt, Int.not_le, ne_eq, Decidable.not_not, bne_iff_ne, beq_iff_eq, not_true_eq_false, not_false_eq_true] at hc1
    refine x_skip ?_
    refine hK5 _ _ ?_
    refine x_seq fun K6 hK6 => ?_
    refine x_block ?_
    refine x_seq fun K7 hK7 => ?_
    refine x_region ?_
    first | refine s_go (m_indexAddr_rd Try.underlying43 ti5 (hS := hS)) ?_ | refine s_go (m_indexAddr_vec Try.underlying43 ti5 (hS := hS)) ?_
    try simp only [opv, n1, n2, n3, n4, Value.cells, Nat.mul_one, Nat.zero_add, Int.toNat_natCast, Int.reduceToNat]
    first | refine s_go (m_load_obj Try.underlying5 (hS := hS)) ?_ | refine s_go (m_load_bx Try.underlying5 (hS := hS)) ?_ | refine s_go (m_load_rd Try.underlying5 (hS := hS)) ?_ | refine s_go (m_load_vec Try.underlying5 (hS := hS)) ?_
    try simp only [opv, n1, n2, n3, n4, Value.cells, List.getElem_toArray, List.getElem_cons_zero, List.getElem_cons_succ]
    refine s_go (s_assign) ?_
    try simp only [opv, n1, n2, n3, n4, Value.cells]
    refine x_nil ?_
    refine hK7 _ _ ?_
    refine x_seq fun K8 hK8 => ?_
    refine x_region ?_
    refine s_go (s_move) ?_
    try simp only [opv, n1, n2, n3, n4, Value.cells]
    refine s_go (s_move) ?_
    try simp only [opv, n1, n2, n3, n4, Value.cells]
    refine s_callv (hv := rfl) he ?_
    try simp only [opv, n1, n2, n3, n4, Value.cells, List.map_toArray, List.map_cons, List.map_nil, List.append_toArray, List.cons_append, List.nil_append, Array.append_empty]
    refine CallR.mono (H _ _ (hw.get k)) ?_
    rintro _ w1 ⟨rfl, hE1⟩
    replace hS := hS.ext hE1
    try simp only [opv, n1, n2, n3, n4, Value.cells]
    refine s_go (s_not) ?_
    try simp only [opv, n1, n2, n3, n4, Value.cells]
    refine x_nil ?_
    refine hK8 _ _ ?_
    refine x_cond (ht := fun hc2 => ?_) (hf := fun hc2 => ?_)
    ·
      try simp only [decide_eq_true_eq, decide_eq_false_iff_not, Bool.not_eq_true', Bool.not_eq_false', Int.not_lt, Int.not_le, ne_eq, Decidable.not_not, bne_iff_ne, beq_iff_eq, not_true_eq_false, not_false_eq_true] at hc2
      refine x_seq fun K9 hK9 => ?_
      refine x_region ?_
      refine s_go (s_assign) ?_
      try simp only [opv, n1, n2, n3, n4, Value.cells]
      refine x_nil ?_
      refine hK9 _ _ ?_
      refine x_ret ?_
      refine r_tmp rfl ?_
      exact ⟨congrArg Value.bool (all_not hc2 (by omega)).symm, hS.ext_of⟩
    ·
      try simp only [decide_eq_true_eq, decide_eq_false_iff_not, Bool.not_eq_true', Bool.not_eq_false', Int.not_lt, Int.not_le, ne_eq, Decidable.not_not, bne_iff_ne, beq_iff_eq, not_true_eq_false, not_false_eq_true] at hc2
      refine x_skip ?_
      refine hK6 _ _ ?_
      refine x_region ?_
      refine s_go (s_add (hc := by first | exact wr_i64 (by omega) (by omega) | rfl)) ?_
      try simp only [opv, n1, n2, n3, n4, Value.cells]
      refine s_go (s_move) ?_
      try simp only [opv, n1, n2, n3, n4, Value.cells]
      refine x_nil ?_
      refine loop_back (m' := n - (k + 1)) (by simp only [clob, List.foldl, n1, n2, n3, n4]) ?_ ?_
      · try simp only [opv, n1, n2, n3, n4, Value.cells]
        exact ⟨k + 1, by omega, by omega, by rfl, by rw [take_succ_getD (by omega), List.all_append, hz]; simpa using hc2, hS⟩
      · omega
  ·
    try simp only [decide_eq_true_eq, decide_eq_false_iff_not, Bool.not_eq_true', Bool.not_eq_false', Int.not_lt, Int.not_le, ne_eq, Decidable.not_not, bne_iff_ne, beq_iff_eq, not_true_eq_false, not_false_eq_true] at hc1
    obtain rfl : k = n := by omega
    rw [← hl, List.take_length] at hz
    refine x_exit (look_here ?_)
    refine hK2 _ _ ?_
    refine x_seq fun K10 hK10 => ?_
    refine x_region ?_
    refine s_go (s_assign) ?_
    try simp only [opv, n1, n2, n3, n4, Value.cells]
    refine x_nil ?_
    refine hK10 _ _ ?_
    refine x_ret ?_
    refine r_tmp rfl ?_
    exact ⟨by rw [hz]; rfl, hS.ext_of⟩


theorem name_txt {w0 w : World} {L : List Res} {A : Option Addr} {l : List Int} (h : St NoB w0 w (.rd A 1 (nsz l) (((ic .u8 l).toList.drop 0).take (nsz l)) :: L)) : St NoB w0 w (.rd A 1 (nsz l) ((nmTxt l).map (Value.int .u8)) :: L) := by
  simpa [ic, nmTxt, List.map_take] using h


theorem c_nameRight (l : List Int) (hl : l.length = 8) (hw : Byt l)  (w0 : World) :
    CallR Try.prog 141 #[.agg (ic .u8 l)] w0 fun v w' => v = .bool (nright l) ∧ Ext w0 w' := by
  have hS : St NoB w0 w0 [] := St.start w0
  refine c_enter (l := [.agg (ic .u8 l), undef, undef, undef, undef, undef, undef, undef, undef, undef, undef, undef, undef, undef, undef, undef, undef, undef, undef]) Try.func141 rfl (by simp only [Try.ntmps141, List.size_toArray, List.length_cons, List.length_nil, Nat.reduceAdd, Nat.reduceSub, Array.replicate_succ, Array.replicate_zero, List.push_toArray, List.append_toArray, List.nil_append, List.cons_append]) ?_
  refine x_seq fun K1 hK1 => ?_
  refine x_region ?_
  refine m_box hS (fun w1 g1 hS => ?_)
  try simp only [opv, n1, n2, n3, n4, Value.cells, Array.toArray_toList] at hS ⊢
  refine s_go (s_assign) ?_
  try simp only [opv, n1, n2, n3, n4, Value.cells]
  refine x_nil ?_
  refine hK1 _ _ ?_
  refine x_seq fun K2 hK2 => ?_
  refine x_region ?_
  first | refine s_go (m_load_row Try.underlying42 (hi := ti42) (hS := hS)) ?_ | refine s_go (m_loada_obj Try.underlying42 (hi := ti42) (hS := hS)) ?_ | refine s_go (m_loada_bx Try.underlying42 (hi := ti42) (hS := hS)) ?_ | refine s_go (m_loada_rd Try.underlying42 (hi := ti42) (hS := hS)) ?_ | refine s_go (m_loada_vec Try.underlying42 (hi := ti42) (hS := hS)) ?_
  try simp only [opv, n1, n2, n3, n4, Value.cells, List.getElem_toArray, List.getElem_cons_zero, List.getElem_cons_succ]
  refine s_call en207 ?_
  try simp only [opv, n1, n2, n3, n4, Value.cells, List.map_toArray, List.map_cons, List.map_nil, List.append_toArray, List.cons_append, List.nil_append, Array.append_empty]
  refine CallR.mono (c_nameSize _ (by first | assumption | omega) (by assumption) _) ?_
  rintro _ w2 ⟨rfl, hE2⟩
  replace hS := hS.ext hE2
  try simp only [opv, n1, n2, n3, n4, Value.cells]
  refine s_go (s_assign) ?_
  try simp only [opv, n1, n2, n3, n4, Value.cells]
  refine x_nil ?_
  refine hK2 _ _ ?_
  refine x_seq fun K3 hK3 => ?_
  refine x_region ?_
  have hs := nsz_le l
  refine s_go (m_indexAddr_arr Try.underlying42 ti5) ?_
  try simp only [opv, n1, n2, n3, n4, Value.cells, Nat.mul_one, Nat.zero_add, Int.toNat_natCast, Int.reduceToNat]
  first | refine s_go (m_load_obj Try.underlying5 (hS := hS)) ?_ | refine s_go (m_load_bx Try.underlying5 (hS := hS)) ?_ | refine s_go (m_load_rd Try.underlying5 (hS := hS)) ?_ | refine s_go (m_load_vec Try.underlying5 (hS := hS)) ?_
  try simp only [opv, n1, n2, n3, n4, Value.cells, List.getElem_toArray, List.getElem_cons_zero, List.getElem_cons_succ]
  have hb0 := hw.get 0
  refine s_call en208 ?_
  try simp only [opv, n1, n2, n3, n4, Value.cells, List.map_toArray, List.map_cons, List.map_nil, List.append_toArray, List.cons_append, List.nil_append, Array.append_empty]
  refine CallR.mono (c_nameLetter _ (by first | assumption | omega) _) ?_
  rintro _ w3 ⟨rfl, hE3⟩
  replace hS := hS.ext hE3
  try simp only [opv, n1, n2, n3, n4, Value.cells]
  refine s_go (s_move) ?_
  try simp only [opv, n1, n2, n3, n4, Value.cells]
  refine s_part 9 rfl (fun hp1 => ?_) (fun hp1 => ?_)
  ·
    try simp only [n3, n4]
    try simp only [decide_eq_true_eq, decide_eq_false_iff_not, Bool.not_eq_true', Bool.not_eq_false', Int.not_lt, Int.not_le, ne_eq, Decidable.not_not] at hp1
    refine g_on (yi (t := 9) rfl rfl) ?_
    refine s_go (s_move) ?_
    try simp only [opv, n1, n2, n3, n4, Value.cells]
    refine g_on (yi (t := 9) rfl rfl) ?_
    first | refine m_slice_arr (lo := 0) (hi := nsz l) Try.underlying42 ti5 (hlo := rfl) (hhi := ⟨_, rfl⟩) (hS := hS) (h := fun A1 hS => ?_) | refine m_slice_bx (lo := 0) (hi := nsz l) Try.underlying42 ti5 (hlo := rfl) (hhi := ⟨_, rfl⟩) (hS := hS) (h := fun A1 hS => ?_)
    try simp only [← List.map_append, ← List.map_drop, ← List.map_take, Nat.mul_one, Nat.zero_mul, Nat.sub_zero, List.drop_zero, List.nil_append, Nat.zero_add] at hS ⊢
    try simp only [opv, n1, n2, n3, n4, Value.cells, Array.toArray_toList] at hS ⊢
    try simp only [ic, List.toList_toArray, ← List.map_take, ← List.map_drop] at hS
    refine g_on (yi (t := 9) rfl rfl) ?_
    refine s_call en209 ?_
    try simp only [opv, n1, n2, n3, n4, Value.cells, List.map_toArray, List.map_cons, List.map_nil, List.append_toArray, List.cons_append, List.nil_append, Array.append_empty]
    refine CallR.mono (c_nameAll _ _ _ _ (l.take (nsz l)) (hS.hasRd (by repeat (first | exact Has.head | apply Has.tail))) (by simp; omega) (hw.take _) (by omega) isOth _ en210 (fun w b hb => c_nameOther b hb w)) ?_
    rintro _ w4 ⟨rfl, hE4⟩
    replace hS := hS.ext hE4
    try simp only [opv, n1, n2, n3, n4, Value.cells]
    first | refine s_go (s_pick_t) ?_ | refine s_go (s_pick_f) ?_
    try simp only [opv, n1, n2, n3, n4, Value.cells]
    refine s_go (s_move) ?_
    try simp only [opv, n1, n2, n3, n4, Value.cells]
    refine s_part 14 rfl (fun hp2 => ?_) (fun hp2 => ?_)
    ·
      try simp only [n3, n4]
      try simp only [decide_eq_true_eq, decide_eq_false_iff_not, Bool.not_eq_true', Bool.not_eq_false', Int.not_lt, Int.not_le, ne_eq, Decidable.not_not] at hp2
      refine g_on (yi (t := 14) rfl rfl) ?_
      refine s_go (s_move) ?_
      try simp only [opv, n1, n2, n3, n4, Value.cells]
      refine g_on (yi (t := 14) rfl rfl) ?_
      first | refine m_slice_arr (lo := nsz l) (hi := 8) Try.underlying42 ti5 (hlo := ⟨_, rfl⟩) (hhi := rfl) (hS := hS) (h := fun A2 hS => ?_) | refine m_slice_bx (lo := nsz l) (hi := 8) Try.underlying42 ti5 (hlo := ⟨_, rfl⟩) (hhi := rfl) (hS := hS) (h := fun A2 hS => ?_)
      try simp only [← List.map_append, ← List.map_drop, ← List.map_take, Nat.mul_one, Nat.zero_mul, Nat.sub_zero, List.drop_zero, List.nil_append, Nat.zero_add] at hS ⊢
      try simp only [opv, n1, n2, n3, n4, Value.cells, Array.toArray_toList] at hS ⊢
      try simp only [ic, List.toList_toArray, ← List.map_take, ← List.map_drop] at hS
      rw [show List.take (8 - nsz l) (List.drop (nsz l) l) = List.drop (nsz l) l from List.take_of_length_le (by simp; omega)] at hS
      refine g_on (yi (t := 14) rfl rfl) ?_
      refine s_call en209 ?_
      try simp only [opv, n1, n2, n3, n4, Value.cells, List.map_toArray, List.map_cons, List.map_nil, List.append_toArray, List.cons_append, List.nil_append, Array.append_empty]
      refine CallR.mono (c_nameAll _ _ _ _ (l.drop (nsz l)) (hS.hasRd (by repeat (first | exact Has.head | apply Has.tail))) (by simp; omega) (hw.drop _) (by omega) isZer _ en211 (fun w b hb => c_nameZero b hb w)) ?_
      rintro _ w5 ⟨rfl, hE5⟩
      replace hS := hS.ext hE5
      try simp only [opv, n1, n2, n3, n4, Value.cells]
      first | refine s_go (s_pick_t) ?_ | refine s_go (s_pick_f) ?_
      try simp only [opv, n1, n2, n3, n4, Value.cells]
      refine s_go (s_assign) ?_
      try simp only [opv, n1, n2, n3, n4, Value.cells]
      refine x_nil ?_
      refine hK3 _ _ ?_
      refine x_ret ?_
      refine r_tmp rfl ?_
      exact ⟨congrArg Value.bool (by simp only [nright, *, Bool.false_and, Bool.true_and]), hS.ext_of⟩
    ·
      try simp only [n3, n4]
      try simp only [decide_eq_true_eq, decide_eq_false_iff_not, Bool.not_eq_true', Bool.not_eq_false', Int.not_lt, Int.not_le, ne_eq, Decidable.not_not] at hp2
      refine g_off (yi (t := 14) rfl rfl) ?_
      try simp only [opv, n1, n2, n3, n4, Value.cells]
      refine g_off (yi (t := 14) rfl rfl) ?_
      try simp only [opv, n1, n2, n3, n4, Value.cells]
      refine g_off (yi (t := 14) rfl rfl) ?_
      try simp only [opv, n1, n2, n3, n4, Value.cells]
      first | refine s_go (s_pick_t) ?_ | refine s_go (s_pick_f) ?_
      try simp only [opv, n1, n2, n3, n4, Value.cells]
      refine s_go (s_assign) ?_
      try simp only [opv, n1, n2, n3, n4, Value.cells]
      refine x_nil ?_
      refine hK3 _ _ ?_
      refine x_ret ?_
      refine r_tmp rfl ?_
      exact ⟨congrArg Value.bool (by simp only [nright, *, Bool.false_and, Bool.true_and]), hS.ext_of⟩
  ·
    try simp only [n3, n4]
    try simp only [decide_eq_true_eq, decide_eq_false_iff_not, Bool.not_eq_true', Bool.not_eq_false', Int.not_lt, Int.not_le, ne_eq, Decidable.not_not] at hp1
    refine g_off (yi (t := 9) rfl rfl) ?_
    try simp only [opv, n1, n2, n3, n4, Value.cells]
    refine g_off (yi (t := 9) rfl rfl) ?_
    try simp only [opv, n1, n2, n3, n4, Value.cells]
    refine g_off (yi (t := 9) rfl rfl) ?_
    try simp only [opv, n1, n2, n3, n4, Value.cells]
    first | refine s_go (s_pick_t) ?_ | refine s_go (s_pick_f) ?_
    try simp only [opv, n1, n2, n3, n4, Value.cells]
    refine s_go (s_move) ?_
    try simp only [opv, n1, n2, n3, n4, Value.cells]
    refine g_off (yi (t := 14) rfl rfl) ?_
    try simp only [opv, n1, n2, n3, n4, Value.cells]
    refine g_off (yi (t := 14) rfl rfl) ?_
    try simp only [opv, n1, n2, n3, n4, Value.cells]
    refine g_off (yi (t := 14) rfl rfl) ?_
    try simp only [opv, n1, n2, n3, n4, Value.cells]
    first | refine s_go (s_pick_t) ?_ | refine s_go (s_pick_f) ?_
    try simp only [opv, n1, n2, n3, n4, Value.cells]
    refine s_go (s_assign) ?_
    try simp only [opv, n1, n2, n3, n4, Value.cells]
    refine x_nil ?_
    refine hK3 _ _ ?_
    refine x_ret ?_
    refine r_tmp rfl ?_
    exact ⟨congrArg Value.bool (by simp only [nright, *, Bool.false_and, Bool.true_and]), hS.ext_of⟩

theorem c_nameText (l : List Int) (hl : l.length = 8) (hw : Byt l)  (w0 : World) :
    CallR Try.prog 191 #[.agg (ic .u8 l)] w0 fun v w' => v = .string (strOf (nmTxt l)) ∧ Ext w0 w' := by
  have hS : St NoB w0 w0 [] := St.start w0
  refine c_enter (l := [.agg (ic .u8 l), undef, undef, undef, undef, undef, undef]) Try.func191 rfl (by simp only [Try.ntmps191, List.size_toArray, List.length_cons, List.length_nil, Nat.reduceAdd, Nat.reduceSub, Array.replicate_succ, Array.replicate_zero, List.push_toArray, List.append_toArray, List.nil_append, List.cons_append]) ?_
  refine x_seq fun K1 hK1 => ?_
  refine x_region ?_
  refine m_box hS (fun w1 g1 hS => ?_)
  try simp only [opv, n1, n2, n3, n4, Value.cells, Array.toArray_toList] at hS ⊢
  refine s_go (s_assign) ?_
  try simp only [opv, n1, n2, n3, n4, Value.cells]
  refine x_nil ?_
  refine hK1 _ _ ?_
  refine x_seq fun K2 hK2 => ?_
  refine x_region ?_
  first | refine s_go (m_load_row Try.underlying42 (hi := ti42) (hS := hS)) ?_ | refine s_go (m_loada_obj Try.underlying42 (hi := ti42) (hS := hS)) ?_ | refine s_go (m_loada_bx Try.underlying42 (hi := ti42) (hS := hS)) ?_ | refine s_go (m_loada_rd Try.underlying42 (hi := ti42) (hS := hS)) ?_ | refine s_go (m_loada_vec Try.underlying42 (hi := ti42) (hS := hS)) ?_
  try simp only [opv, n1, n2, n3, n4, Value.cells, List.getElem_toArray, List.getElem_cons_zero, List.getElem_cons_succ]
  refine s_call en207 ?_
  try simp only [opv, n1, n2, n3, n4, Value.cells, List.map_toArray, List.map_cons, List.map_nil, List.append_toArray, List.cons_append, List.nil_append, Array.append_empty]
  refine CallR.mono (c_nameSize _ (by first | assumption | omega) (by assumption) _) ?_
  rintro _ w2 ⟨rfl, hE2⟩
  replace hS := hS.ext hE2
  try simp only [opv, n1, n2, n3, n4, Value.cells]
  have hs := nsz_le l
  first | refine m_slice_arr (lo := 0) (hi := nsz l) Try.underlying42 ti5 (hlo := rfl) (hhi := ⟨_, rfl⟩) (hS := hS) (h := fun A1 hS => ?_) | refine m_slice_bx (lo := 0) (hi := nsz l) Try.underlying42 ti5 (hlo := rfl) (hhi := ⟨_, rfl⟩) (hS := hS) (h := fun A1 hS => ?_)
  try simp only [← List.map_append, ← List.map_drop, ← List.map_take, Nat.mul_one, Nat.zero_mul, Nat.sub_zero, List.drop_zero, List.nil_append, Nat.zero_add] at hS ⊢
  try simp only [opv, n1, n2, n3, n4, Value.cells, Array.toArray_toList] at hS ⊢
  try simp only [ic, List.toList_toArray, ← List.map_take, ← List.map_drop] at hS
  refine s_go (m_bytes_str Try.underlying43 Try.underlying9 Try.underlying5 (hS := hS)) ?_
  try simp only [opv, n1, n2, n3, n4, Value.cells]
  refine s_go (s_assign) ?_
  try simp only [opv, n1, n2, n3, n4, Value.cells]
  refine x_nil ?_
  refine hK2 _ _ ?_
  refine x_ret ?_
  refine r_tmp rfl ?_
  exact ⟨rfl, hS.ext_of⟩

theorem c_nameSome (l : List Int) (hl : l.length = 8) (hw : Byt l)  (w0 : World) :
    CallR Try.prog 132 #[.agg (ic .u8 l)] w0 fun v w' => v = .bool (!decide (l = nm0)) ∧ Ext w0 w' := by
  have hS : St NoB w0 w0 [] := St.start w0
  refine c_enter (l := [.agg (ic .u8 l), undef, undef, undef, undef, undef]) Try.func132 rfl (by simp only [Try.ntmps132, List.size_toArray, List.length_cons, List.length_nil, Nat.reduceAdd, Nat.reduceSub, Array.replicate_succ, Array.replicate_zero, List.push_toArray, List.append_toArray, List.nil_append, List.cons_append]) ?_
  refine x_seq fun K1 hK1 => ?_
  refine x_region ?_
  refine m_box hS (fun w1 g1 hS => ?_)
  try simp only [opv, n1, n2, n3, n4, Value.cells, Array.toArray_toList] at hS ⊢
  refine s_go (s_assign) ?_
  try simp only [opv, n1, n2, n3, n4, Value.cells]
  refine x_nil ?_
  refine hK1 _ _ ?_
  refine x_seq fun K2 hK2 => ?_
  refine x_region ?_
  first | refine s_go (m_load_row Try.underlying42 (hi := ti42) (hS := hS)) ?_ | refine s_go (m_loada_obj Try.underlying42 (hi := ti42) (hS := hS)) ?_ | refine s_go (m_loada_bx Try.underlying42 (hi := ti42) (hS := hS)) ?_ | refine s_go (m_loada_rd Try.underlying42 (hi := ti42) (hS := hS)) ?_ | refine s_go (m_loada_vec Try.underlying42 (hi := ti42) (hS := hS)) ?_
  try simp only [opv, n1, n2, n3, n4, Value.cells, List.getElem_toArray, List.getElem_cons_zero, List.getElem_cons_succ]
  refine s_go (s_build_arr (cells := #[.int .u8 0, .int .u8 0, .int .u8 0, .int .u8 0, .int .u8 0, .int .u8 0, .int .u8 0, .int .u8 0]) Try.underlying42 ti42 ti5 (hc := by simp only [List.map_toArray, List.map_cons, List.map_nil, opv, n1, n2, n3, n4, Value.cells, List.toList_toArray]; (repeat (refine fill_cons rfl rfl (Nat.le_of_ble_eq_true rfl) ?_)); rfl)) ?_
  try simp only [opv, n1, n2, n3, n4, Value.cells]
  rw [show (#[.int .u8 0, .int .u8 0, .int .u8 0, .int .u8 0, .int .u8 0, .int .u8 0, .int .u8 0, .int .u8 0] : Array Value) = ic .u8 nm0 from rfl]
  refine s_go (s_neq_agg eqv42 (hg := eg42) (hX := zi_ic (by first | assumption | rfl)) (hY := zi_ic (by first | assumption | rfl)) (h1 := by first | assumption | rfl) (h2 := by first | assumption | rfl)) ?_
  try simp only [opv, n1, n2, n3, n4, Value.cells]
  refine s_go (s_assign) ?_
  try simp only [opv, n1, n2, n3, n4, Value.cells]
  refine x_nil ?_
  refine hK2 _ _ ?_
  refine x_ret ?_
  refine r_tmp rfl ?_
  exact ⟨rfl, hS.ext_of⟩

theorem c_nameNumber (l : List Int) (hl : l.length = 8) (hw : Byt l)  (w0 : World) :
    CallR Try.prog 139 #[.agg (ic .u8 l)] w0 fun v w' => v = .int .u64 (numN l : Int) ∧ Ext w0 w' := by
  have hS : St NoB w0 w0 [] := St.start w0
  refine c_enter (l := [.agg (ic .u8 l), undef, undef, undef, undef, undef, undef, undef, undef, undef, undef, undef, undef, undef, undef, undef]) Try.func139 rfl (by simp only [Try.ntmps139, List.size_toArray, List.length_cons, List.length_nil, Nat.reduceAdd, Nat.reduceSub, Array.replicate_succ, Array.replicate_zero, List.push_toArray, List.append_toArray, List.nil_append, List.cons_append]) ?_
  refine x_seq fun K1 hK1 => ?_
  refine x_region ?_
  refine m_box hS (fun w1 g1 hS => ?_)
  try simp only [opv, n1, n2, n3, n4, Value.cells, Array.toArray_toList] at hS ⊢
  refine s_go (s_assign) ?_
  try simp only [opv, n1, n2, n3, n4, Value.cells]
  refine x_nil ?_
  refine hK1 _ _ ?_
  refine x_seq fun K2 hK2 => ?_
  refine x_seq fun K3 hK3 => ?_
  refine x_region ?_
  first | refine s_go (m_load_row Try.underlying42 (hi := ti42) (hS := hS)) ?_ | refine s_go (m_loada_obj Try.underlying42 (hi := ti42) (hS := hS)) ?_ | refine s_go (m_loada_bx Try.underlying42 (hi := ti42) (hS := hS)) ?_ | refine s_go (m_loada_rd Try.underlying42 (hi := ti42) (hS := hS)) ?_ | refine s_go (m_loada_vec Try.underlying42 (hi := ti42) (hS := hS)) ?_
  try simp only [opv, n1, n2, n3, n4, Value.cells, List.getElem_toArray, List.getElem_cons_zero, List.getElem_cons_succ]
  refine s_go (s_move) ?_
  try simp only [opv, n1, n2, n3, n4, Value.cells]
  refine x_nil ?_
  refine hK3 _ _ ?_
  refine x_block ?_
  refine x_loop [2, 4, 6, 7, 8, 9, 10, 11, 12, 13, 14] (fun m f w => ∃ k : Nat, k ≤ 8 ∧ m = 8 - k ∧ f 6 = .int .i64 (k : Int) ∧ f 2 = .int .u64 (numN (l.take k) : Int) ∧ St NoB w0 w []) (8) ?init1 (fun m1 f1 wl1 hI => ?_)
  case init1 =>
    try simp only [opv, n1, n2, n3, n4, Value.cells]
    exact ⟨0, by omega, rfl, rfl, rfl, hS.sel .nil⟩
  obtain ⟨k, hk, hm, h6, h2, hS⟩ := hI
  simp only [clob, List.foldl, n3, n4, h6, h2]
  have hby := hw.bt k
  have hnl := numN_lt hw k
  refine x_seq fun K4 hK4 => ?_
  refine x_region ?_
  refine s_go (s_lss) ?_
  try simp only [opv, n1, n2, n3, n4, Value.cells]
  refine x_nil ?_
  refine hK4 _ _ ?_
  refine x_seq fun K5 hK5 => ?_
  refine x_cond (ht := fun hc1 => ?_) (hf := fun hc1 => ?_)
  ·
    try simp only [decide_eq_true_eq, decide_eq_false_iff_not, Bool.not_eq_true', Bool.not_eq_false', Int.not_lt, Int.not_le, ne_eq, Decidable.not_not, bne_iff_ne, beq_iff_eq, not_true_eq_false, not_false_eq_true] at hc1
    refine x_skip ?_
    refine hK5 _ _ ?_
    refine x_seq fun K6 hK6 => ?_
    refine x_block ?_
    refine x_seq fun K7 hK7 => ?_
    refine x_region ?_
    refine s_go (s_index_one Try.underlying42 ti5 Try.underlying5) ?_
    try simp only [opv, n1, n2, n3, n4, Value.cells, Nat.mul_one, Nat.zero_add, Int.toNat_natCast, Int.reduceToNat]
    rw [hby.1]
    refine s_go (s_assign) ?_
    try simp only [opv, n1, n2, n3, n4, Value.cells]
    refine x_nil ?_
    refine hK7 _ _ ?_
    refine x_region ?_
    refine s_go (s_move) ?_
    try simp only [opv, n1, n2, n3, n4, Value.cells]
    refine s_go (s_shl (hc := shl_u64 (r := numN (l.take k)) (p := 256) (s := 256 * numN (l.take k)) (num_shl hnl (by omega)))) ?_
    try simp only [opv, n1, n2, n3, n4, Value.cells]
    refine s_go (s_move) ?_
    try simp only [opv, n1, n2, n3, n4, Value.cells]
    refine s_go (s_conv Try.underlying5 Try.underlying40 (hc := by first | exact wr_u64 (by omega) (by omega) | rfl)) ?_
    try simp only [opv, n1, n2, n3, n4, Value.cells]
    refine s_go (s_bits (by simp) (hc := or_hi64 (n := 8) hby.2 (num_sum hnl hby.2 (by omega)))) ?_
    try simp only [opv, n1, n2, n3, n4, Value.cells]
    refine s_go (s_assign) ?_
    try simp only [opv, n1, n2, n3, n4, Value.cells]
    refine x_nil ?_
    refine hK6 _ _ ?_
    refine x_region ?_
    refine s_go (s_add (hc := by first | exact wr_i64 (by omega) (by omega) | rfl)) ?_
    try simp only [opv, n1, n2, n3, n4, Value.cells]
    refine s_go (s_move) ?_
    try simp only [opv, n1, n2, n3, n4, Value.cells]
    refine x_nil ?_
    refine loop_back (m' := 8 - (k + 1)) (by simp only [clob, List.foldl, n1, n2, n3, n4]) ?_ ?_
    · try simp only [opv, n1, n2, n3, n4, Value.cells]
      exact ⟨k + 1, by omega, by omega, by rfl, by rw [numN_take (by omega)], hS⟩
    · omega
  ·
    try simp only [decide_eq_true_eq, decide_eq_false_iff_not, Bool.not_eq_true', Bool.not_eq_false', Int.not_lt, Int.not_le, ne_eq, Decidable.not_not, bne_iff_ne, beq_iff_eq, not_true_eq_false, not_false_eq_true] at hc1
    obtain rfl : k = 8 := by omega
    rw [show l.take 8 = l by rw [← hl]; exact List.take_length]
    refine x_exit (look_here ?_)
    refine hK2 _ _ ?_
    refine x_seq fun K8 hK8 => ?_
    refine x_region ?_
    refine s_go (s_move) ?_
    try simp only [opv, n1, n2, n3, n4, Value.cells]
    refine s_go (s_assign) ?_
    try simp only [opv, n1, n2, n3, n4, Value.cells]
    refine x_nil ?_
    refine hK8 _ _ ?_
    refine x_ret ?_
    refine r_tmp rfl ?_
    exact ⟨rfl, hS.ext_of⟩

theorem c_ref06Number (l : List Int) (hl : l.length = 8) (hw : Byt l)  (w0 : World) :
    CallR Try.prog 239 #[.agg (ic .u8 l)] w0 fun v w' => v = .int .u64 (numN l : Int) ∧ Ext w0 w' := by
  have hS : St NoB w0 w0 [] := St.start w0
  refine c_enter (l := [.agg (ic .u8 l), undef, undef, undef, undef, undef, undef, undef, undef, undef, undef, undef, undef, undef, undef, undef, undef]) Try.func239 rfl (by simp only [Try.ntmps239, List.size_toArray, List.length_cons, List.length_nil, Nat.reduceAdd, Nat.reduceSub, Array.replicate_succ, Array.replicate_zero, List.push_toArray, List.append_toArray, List.nil_append, List.cons_append]) ?_
  refine x_seq fun K1 hK1 => ?_
  refine x_region ?_
  refine m_box hS (fun w1 g1 hS => ?_)
  try simp only [opv, n1, n2, n3, n4, Value.cells, Array.toArray_toList] at hS ⊢
  refine s_go (s_assign) ?_
  try simp only [opv, n1, n2, n3, n4, Value.cells]
  refine x_nil ?_
  refine hK1 _ _ ?_
  refine x_seq fun K2 hK2 => ?_
  refine x_region ?_
  refine s_go (s_assign) ?_
  try simp only [opv, n1, n2, n3, n4, Value.cells]
  refine x_nil ?_
  refine hK2 _ _ ?_
  refine x_seq fun K3 hK3 => ?_
  refine x_seq fun K4 hK4 => ?_
  refine x_region ?_
  refine s_go (s_assign) ?_
  try simp only [opv, n1, n2, n3, n4, Value.cells]
  refine x_nil ?_
  refine hK4 _ _ ?_
  refine x_block ?_
  refine x_loop [3, 4, 5, 6, 7, 8, 9, 10, 11, 12, 13, 14, 15] (fun m f w => ∃ k : Nat, k ≤ 8 ∧ m = 8 - k ∧ f 4 = .int .i64 (k : Int) ∧ f 3 = .int .u64 (numN (l.take k) : Int) ∧ St NoB w0 w [.obj g1 (.cells (ic .u8 l) 42 (0, 0))]) (8) ?init1 (fun m1 f1 wl1 hI => ?_)
  case init1 =>
    try simp only [opv, n1, n2, n3, n4, Value.cells]
    exact ⟨0, by omega, rfl, rfl, rfl, hS⟩
  obtain ⟨k, hk, hm, h4, h3, hS⟩ := hI
  simp only [clob, List.foldl, n3, n4, h4, h3]
  have hby := hw.bt k
  have hnl := numN_lt hw k
  refine x_seq fun K5 hK5 => ?_
  refine x_seq fun K6 hK6 => ?_
  refine x_region ?_
  refine s_go (s_move) ?_
  try simp only [opv, n1, n2, n3, n4, Value.cells]
  refine s_go (s_lss) ?_
  try simp only [opv, n1, n2, n3, n4, Value.cells]
  refine x_nil ?_
  refine hK6 _ _ ?_
  refine x_cond (ht := fun hc1 => ?_) (hf := fun hc1 => ?_)
  ·
    try simp only [decide_eq_true_eq, decide_eq_false_iff_not, Bool.not_eq_true', Bool.not_eq_false', Int.not_lt, Int.not_le, ne_eq, Decidable.not_not, bne_iff_ne, beq_iff_eq, not_true_eq_false, not_false_eq_true] at hc1
    refine x_skip ?_
    refine hK5 _ _ ?_
    refine x_seq fun K7 hK7 => ?_
    refine x_block ?_
    refine x_region ?_
    refine s_go (s_move) ?_
    try simp only [opv, n1, n2, n3, n4, Value.cells]
    have hns := num_sum hnl hby.2 (by omega)
    refine s_go (s_mul (hc := mul_u64 (a := 256) (by omega))) ?_
    try simp only [opv, n1, n2, n3, n4, Value.cells]
    refine s_go (s_move) ?_
    try simp only [opv, n1, n2, n3, n4, Value.cells]
    refine s_go (m_indexAddr_arr Try.underlying42 ti5) ?_
    try simp only [opv, n1, n2, n3, n4, Value.cells, Nat.mul_one, Nat.zero_add, Int.toNat_natCast, Int.reduceToNat]
    first | refine s_go (m_load_obj Try.underlying5 (hS := hS)) ?_ | refine s_go (m_load_bx Try.underlying5 (hS := hS)) ?_ | refine s_go (m_load_rd Try.underlying5 (hS := hS)) ?_ | refine s_go (m_load_vec Try.underlying5 (hS := hS)) ?_
    try simp only [opv, n1, n2, n3, n4, Value.cells, List.getElem_toArray, List.getElem_cons_zero, List.getElem_cons_succ]
    rw [hby.1]
    refine s_go (s_conv Try.underlying5 Try.underlying40 (hc := by first | exact wr_u64 (by omega) (by omega) | rfl)) ?_
    try simp only [opv, n1, n2, n3, n4, Value.cells]
    refine s_go (s_add (hc := add_u64 (by omega))) ?_
    try simp only [opv, n1, n2, n3, n4, Value.cells]
    refine s_go (s_assign) ?_
    try simp only [opv, n1, n2, n3, n4, Value.cells]
    refine x_nil ?_
    refine hK7 _ _ ?_
    refine x_region ?_
    refine s_go (s_move) ?_
    try simp only [opv, n1, n2, n3, n4, Value.cells]
    refine s_go (s_add (hc := by first | exact wr_i64 (by omega) (by omega) | rfl)) ?_
    try simp only [opv, n1, n2, n3, n4, Value.cells]
    refine s_go (s_assign) ?_
    try simp only [opv, n1, n2, n3, n4, Value.cells]
    refine x_nil ?_
    refine loop_back (m' := 8 - (k + 1)) (by simp only [clob, List.foldl, n1, n2, n3, n4]) ?_ ?_
    · try simp only [opv, n1, n2, n3, n4, Value.cells]
      exact ⟨k + 1, by omega, by omega, by rfl, by rw [numN_take (by omega)], hS⟩
    · omega
  ·
    try simp only [decide_eq_true_eq, decide_eq_false_iff_not, Bool.not_eq_true', Bool.not_eq_false', Int.not_lt, Int.not_le, ne_eq, Decidable.not_not, bne_iff_ne, beq_iff_eq, not_true_eq_false, not_false_eq_true] at hc1
    obtain rfl : k = 8 := by omega
    rw [show l.take 8 = l by rw [← hl]; exact List.take_length]
    refine x_exit (look_here ?_)
    refine hK3 _ _ ?_
    refine x_seq fun K8 hK8 => ?_
    refine x_region ?_
    refine s_go (s_move) ?_
    try simp only [opv, n1, n2, n3, n4, Value.cells]
    refine s_go (s_assign) ?_
    try simp only [opv, n1, n2, n3, n4, Value.cells]
    refine x_nil ?_
    refine hK8 _ _ ?_
    refine x_ret ?_
    refine r_tmp rfl ?_
    exact ⟨rfl, hS.ext_of⟩

theorem c_nameFrom (x : Nat) (hx : x < 18446744073709551616)  (w0 : World) :
    CallR Try.prog 144 #[.int .u64 (x : Int)] w0 fun v w' => v = .tuple #[.agg (ic .u8 (nmFrom x)), .int .i64 (nmFromE x)] ∧ Ext w0 w' := by
  have hS : St NoB w0 w0 [] := St.start w0
  refine c_enter (l := [.int .u64 (x : Int), undef, undef, undef, undef, undef, undef, undef, undef, undef, undef, undef, undef, undef, undef, undef, undef, undef, undef, undef, undef, undef, undef]) Try.func144 rfl (by simp only [Try.ntmps144, List.size_toArray, List.length_cons, List.length_nil, Nat.reduceAdd, Nat.reduceSub, Array.replicate_succ, Array.replicate_zero, List.push_toArray, List.append_toArray, List.nil_append, List.cons_append]) ?_
  refine x_seq fun K1 hK1 => ?_
  refine x_region ?_
  refine m_alloc ti42 hS (fun w1 g1 hS => ?_)
  try simp only [opv, n1, n2, n3, n4, Value.cells, Array.toArray_toList] at hS ⊢
  replace hS : St NoB w0 w1 [.obj g1 (.cells (ic .u8 nm0) 42 (0, 0))] := hS
  refine s_go (s_assign) ?_
  try simp only [opv, n1, n2, n3, n4, Value.cells]
  refine x_nil ?_
  refine hK1 _ _ ?_
  refine x_seq fun K2 hK2 => ?_
  refine x_seq fun K3 hK3 => ?_
  refine x_region ?_
  refine s_go (s_move) ?_
  try simp only [opv, n1, n2, n3, n4, Value.cells]
  refine x_nil ?_
  refine hK3 _ _ ?_
  refine x_block ?_
  refine x_loop [4, 5, 6, 7, 8, 9, 10, 11, 12, 13, 14, 15, 16, 17] (fun m f w => ∃ k : Nat, k ≤ 8 ∧ m = 8 - k ∧ f 5 = .int .i64 (k : Int) ∧ St NoB w0 w [.obj g1 (.cells (ic .u8 (fillT (fun i => ((x / 256 ^ (7 - i) % 256 : Nat) : Int)) 8 k)) 42 (0, 0))]) (8) ?init1 (fun m1 f1 wl1 hI => ?_)
  case init1 =>
    try simp only [opv, n1, n2, n3, n4, Value.cells]
    exact ⟨0, by omega, rfl, rfl, by rw [fillT_zero]; exact hS⟩
  obtain ⟨k, hk, hm, h5, hS⟩ := hI
  simp only [clob, List.foldl, n3, n4, h5]
  have hfl := fillT_len (F := fun i => ((x / 256 ^ (7 - i) % 256 : Nat) : Int)) hk
  refine x_seq fun K4 hK4 => ?_
  refine x_region ?_
  refine s_go (s_lss) ?_
  try simp only [opv, n1, n2, n3, n4, Value.cells]
  refine x_nil ?_
  refine hK4 _ _ ?_
  refine x_seq fun K5 hK5 => ?_
  refine x_cond (ht := fun hc1 => ?_) (hf := fun hc1 => ?_)
  ·
    try simp only [decide_eq_true_eq, decide_eq_false_iff_not, Bool.not_eq_true', Bool.not_eq_false', Int.not_lt, Int.not_le, ne_eq, Decidable.not_not, bne_iff_ne, beq_iff_eq, not_true_eq_false, not_false_eq_true] at hc1
    refine x_skip ?_
    refine hK5 _ _ ?_
    refine x_seq fun K6 hK6 => ?_
    refine x_block ?_
    refine x_seq fun K7 hK7 => ?_
    refine x_region ?_
    refine s_go (s_move) ?_
    try simp only [opv, n1, n2, n3, n4, Value.cells]
    refine s_go (s_assign) ?_
    try simp only [opv, n1, n2, n3, n4, Value.cells]
    refine x_nil ?_
    refine hK7 _ _ ?_
    refine x_region ?_
    refine s_go (s_move) ?_
    try simp only [opv, n1, n2, n3, n4, Value.cells]
    refine s_go (s_move) ?_
    try simp only [opv, n1, n2, n3, n4, Value.cells]
    refine s_go (s_move) ?_
    try simp only [opv, n1, n2, n3, n4, Value.cells]
    refine s_go (s_sub (hc := by first | exact wr_i64 (by omega) (by omega) | rfl)) ?_
    try simp only [opv, n1, n2, n3, n4, Value.cells]
    refine s_go (s_mul (hc := by first | exact wr_i64 (by omega) (by omega) | rfl)) ?_
    try simp only [opv, n1, n2, n3, n4, Value.cells]
    refine s_go (s_conv Try.underlying3 Try.underlying178 (hc := by first | exact wr_u64 (by omega) (by omega) | rfl)) ?_
    try simp only [opv, n1, n2, n3, n4, Value.cells]
    refine s_go (s_shr (hc := shr_n (r := x) (n := 8 * (7 - k)) (by omega) (by simp [IntKind.bits]; omega))) ?_
    try simp only [opv, n1, n2, n3, n4, Value.cells]
    refine s_go (s_conv Try.underlying40 Try.underlying5 (hc := cv_u8 rfl)) ?_
    try simp only [opv, n1, n2, n3, n4, Value.cells]
    rw [← pow256]
    refine s_go (m_indexAddr_arr Try.underlying42 ti5) ?_
    try simp only [opv, n1, n2, n3, n4, Value.cells, Nat.mul_one, Nat.zero_add, Int.toNat_natCast, Int.reduceToNat]
    refine m_store_obj ti5 (hS := hS) (h := fun w2 hS => ?_)
    try simp only [opv, n1, n2, n3, n4, Value.cells, Array.toArray_toList] at hS ⊢
    refine x_nil ?_
    refine hK6 _ _ ?_
    refine x_region ?_
    refine s_go (s_add (hc := by first | exact wr_i64 (by omega) (by omega) | rfl)) ?_
    try simp only [opv, n1, n2, n3, n4, Value.cells]
    refine s_go (s_move) ?_
    try simp only [opv, n1, n2, n3, n4, Value.cells]
    refine x_nil ?_
    refine loop_back (m' := 8 - (k + 1)) (by simp only [clob, List.foldl, n1, n2, n3, n4]) ?_ ?_
    · try simp only [opv, n1, n2, n3, n4, Value.cells]
      exact ⟨k + 1, by omega, by omega, by rfl, by rw [← fillT_set (by omega)]; exact hS⟩
    · omega
  ·
    try simp only [decide_eq_true_eq, decide_eq_false_iff_not, Bool.not_eq_true', Bool.not_eq_false', Int.not_lt, Int.not_le, ne_eq, Decidable.not_not, bne_iff_ne, beq_iff_eq, not_true_eq_false, not_false_eq_true] at hc1
    obtain rfl : k = 8 := by omega
    rw [fillT_all] at hS
    replace hS : St NoB w0 wl1 [.obj g1 (.cells (ic .u8 (nmOf x)) 42 (0, 0))] := hS
    have hnl := nmOf_len x
    have hnb := nmOf_byt x
    refine x_exit (look_here ?_)
    refine hK2 _ _ ?_
    refine x_seq fun K8 hK8 => ?_
    refine x_seq fun K9 hK9 => ?_
    refine x_region ?_
    first | refine s_go (m_load_row Try.underlying42 (hi := ti42) (hS := hS)) ?_ | refine s_go (m_loada_obj Try.underlying42 (hi := ti42) (hS := hS)) ?_ | refine s_go (m_loada_bx Try.underlying42 (hi := ti42) (hS := hS)) ?_ | refine s_go (m_loada_rd Try.underlying42 (hi := ti42) (hS := hS)) ?_ | refine s_go (m_loada_vec Try.underlying42 (hi := ti42) (hS := hS)) ?_
    try simp only [opv, n1, n2, n3, n4, Value.cells, List.getElem_toArray, List.getElem_cons_zero, List.getElem_cons_succ]
    refine s_call en141 ?_
    try simp only [opv, n1, n2, n3, n4, Value.cells, List.map_toArray, List.map_cons, List.map_nil, List.append_toArray, List.cons_append, List.nil_append, Array.append_empty]
    refine CallR.mono (c_nameRight _ (by first | assumption | omega) (by assumption) _) ?_
    rintro _ w3 ⟨rfl, hE3⟩
    replace hS := hS.ext hE3
    try simp only [opv, n1, n2, n3, n4, Value.cells]
    refine s_go (s_not) ?_
    try simp only [opv, n1, n2, n3, n4, Value.cells]
    refine x_nil ?_
    refine hK9 _ _ ?_
    refine x_cond (ht := fun hc2 => ?_) (hf := fun hc2 => ?_)
    ·
      try simp only [decide_eq_true_eq, decide_eq_false_iff_not, Bool.not_eq_true', Bool.not_eq_false', Int.not_lt, Int.not_le, ne_eq, Decidable.not_not, bne_iff_ne, beq_iff_eq, not_true_eq_false, not_false_eq_true] at hc2
      have hF : nmFrom x = nm0 := by simp [nmFrom, hc2]
      have hE : nmFromE x = 3 := by simp [nmFromE, hc2]
      refine x_seq fun K10 hK10 => ?_
      refine x_region ?_
      refine s_go (s_build_arr (cells := #[.int .u8 0, .int .u8 0, .int .u8 0, .int .u8 0, .int .u8 0, .int .u8 0, .int .u8 0, .int .u8 0]) Try.underlying42 ti42 ti5 (hc := by simp only [List.map_toArray, List.map_cons, List.map_nil, opv, n1, n2, n3, n4, Value.cells, List.toList_toArray]; (repeat (refine fill_cons rfl rfl (Nat.le_of_ble_eq_true rfl) ?_)); rfl)) ?_
      try simp only [opv, n1, n2, n3, n4, Value.cells]
      first | refine m_store_obj ti42 (hS := hS) (h := fun w4 hS => ?_) | refine m_store_vec ti42 (hS := hS) (h := fun w4 hS => ?_)
      try simp only [opv, n1, n2, n3, n4, Value.cells, Array.toArray_toList] at hS ⊢
      refine s_go (s_assign) ?_
      try simp only [opv, n1, n2, n3, n4, Value.cells]
      refine x_nil ?_
      refine hK10 _ _ ?_
      refine x_ret ?_
      refine r_cell_tmp_agg rfl Try.underlying42 ti42 (hS := hS) (hR := ?_)
      exact ⟨by rw [hF, hE]; rfl, hS.ext_of⟩
    ·
      try simp only [decide_eq_true_eq, decide_eq_false_iff_not, Bool.not_eq_true', Bool.not_eq_false', Int.not_lt, Int.not_le, ne_eq, Decidable.not_not, bne_iff_ne, beq_iff_eq, not_true_eq_false, not_false_eq_true] at hc2
      have hF : nmFrom x = nmOf x := by simp [nmFrom, hc2]
      have hE : nmFromE x = 0 := by simp [nmFromE, hc2]
      refine x_skip ?_
      refine hK8 _ _ ?_
      refine x_seq fun K11 hK11 => ?_
      refine x_region ?_
      first | refine s_go (m_load_row Try.underlying42 (hi := ti42) (hS := hS)) ?_ | refine s_go (m_loada_obj Try.underlying42 (hi := ti42) (hS := hS)) ?_ | refine s_go (m_loada_bx Try.underlying42 (hi := ti42) (hS := hS)) ?_ | refine s_go (m_loada_rd Try.underlying42 (hi := ti42) (hS := hS)) ?_ | refine s_go (m_loada_vec Try.underlying42 (hi := ti42) (hS := hS)) ?_
      try simp only [opv, n1, n2, n3, n4, Value.cells, List.getElem_toArray, List.getElem_cons_zero, List.getElem_cons_succ]
      first | refine m_store_obj ti42 (hS := hS) (h := fun w5 hS => ?_) | refine m_store_vec ti42 (hS := hS) (h := fun w5 hS => ?_)
      try simp only [opv, n1, n2, n3, n4, Value.cells, Array.toArray_toList] at hS ⊢
      refine s_go (s_assign) ?_
      try simp only [opv, n1, n2, n3, n4, Value.cells]
      refine x_nil ?_
      refine hK11 _ _ ?_
      refine x_ret ?_
      refine r_cell_tmp_agg rfl Try.underlying42 ti42 (hS := hS) (hR := ?_)
      exact ⟨by rw [hF, hE]; rfl, hS.ext_of⟩

theorem c_ref06Is (ns : List Int) (hw : Byt ns) (hn : ns.length ≤ 1000)  (w0 : World) :
    CallR Try.prog 117 #[.string (strOf ns)] w0 fun v w' => v = .bool (isN ns) ∧ Ext w0 w' := by
  have hS : St NoB w0 w0 [] := St.start w0
  refine c_enter (l := [.string (strOf ns), undef, undef, undef, undef, undef, undef, undef, undef, undef, undef, undef, undef, undef, undef, undef, undef, undef, undef, undef, undef, undef, undef, undef, undef, undef, undef, undef, undef]) Try.func117 rfl (by simp only [Try.ntmps117, List.size_toArray, List.length_cons, List.length_nil, Nat.reduceAdd, Nat.reduceSub, Array.replicate_succ, Array.replicate_zero, List.push_toArray, List.append_toArray, List.nil_append, List.cons_append]) ?_
  refine x_seq fun K1 hK1 => ?_
  refine x_region ?_
  refine s_go (s_assign) ?_
  try simp only [opv, n1, n2, n3, n4, Value.cells]
  refine x_nil ?_
  refine hK1 _ _ ?_
  refine x_seq fun K2 hK2 => ?_
  refine x_seq fun K3 hK3 => ?_
  refine x_region ?_
  refine s_go (s_move) ?_
  try simp only [opv, n1, n2, n3, n4, Value.cells]
  refine s_go (s_len_str Try.underlying9) ?_
  try simp only [opv, n1, n2, n3, n4, Value.cells]
  rw [strOf_size]
  refine s_go (s_lss) ?_
  try simp only [opv, n1, n2, n3, n4, Value.cells]
  refine s_go (s_move) ?_
  try simp only [opv, n1, n2, n3, n4, Value.cells]
  refine s_part 7 rfl (fun hp1 => ?_) (fun hp1 => ?_)
  ·
    try simp only [n3, n4]
    try simp only [decide_eq_true_eq, decide_eq_false_iff_not, Bool.not_eq_true', Bool.not_eq_false', Int.not_lt, Int.not_le, ne_eq, Decidable.not_not] at hp1
    first
    | (exfalso; omega)
    | skip
      refine g_off (yi (t := 7) rfl rfl) ?_
      try simp only [opv, n1, n2, n3, n4, Value.cells]
      refine g_off (yi (t := 7) rfl rfl) ?_
      try simp only [opv, n1, n2, n3, n4, Value.cells]
      refine g_off (yi (t := 7) rfl rfl) ?_
      try simp only [opv, n1, n2, n3, n4, Value.cells]
      first | refine s_go (s_pick_t) ?_ | refine s_go (s_pick_f) ?_
      try simp only [opv, n1, n2, n3, n4, Value.cells]
      refine s_go (s_move) ?_
      try simp only [opv, n1, n2, n3, n4, Value.cells]
      refine g_off (yi (t := 12) rfl rfl) ?_
      try simp only [opv, n1, n2, n3, n4, Value.cells]
      refine g_off (yi (t := 12) rfl rfl) ?_
      try simp only [opv, n1, n2, n3, n4, Value.cells]
      refine g_off (yi (t := 12) rfl rfl) ?_
      try simp only [opv, n1, n2, n3, n4, Value.cells]
      refine g_off (yi (t := 12) rfl rfl) ?_
      try simp only [opv, n1, n2, n3, n4, Value.cells]
      first | refine s_go (s_pick_t) ?_ | refine s_go (s_pick_f) ?_
      try simp only [opv, n1, n2, n3, n4, Value.cells]
      refine x_nil ?_
      refine hK3 _ _ ?_
      refine x_cond_t (h := ?_)
      have hI : isN ns = false := by simp only [isN, Bool.and_eq_false_iff, decide_eq_false_iff_not]; first | exact .inl (.inl (by omega)) | exact .inl (.inr @c)
      refine x_seq fun K4 hK4 => ?_
      refine x_region ?_
      refine s_go (s_assign) ?_
      try simp only [opv, n1, n2, n3, n4, Value.cells]
      refine x_nil ?_
      refine hK4 _ _ ?_
      refine x_ret ?_
      refine r_tmp rfl ?_
      exact ⟨by rw [hI]; rfl, hS.ext_of⟩
  ·
    try simp only [n3, n4]
    try simp only [decide_eq_true_eq, decide_eq_false_iff_not, Bool.not_eq_true', Bool.not_eq_false', Int.not_lt, Int.not_le, ne_eq, Decidable.not_not] at hp1
    first
    | (exfalso; omega)
    | skip
      refine g_on (yi (t := 7) rfl rfl) ?_
      refine s_go (s_move) ?_
      try simp only [opv, n1, n2, n3, n4, Value.cells]
      refine g_on (yi (t := 7) rfl rfl) ?_
      refine s_go (s_len_str Try.underlying9) ?_
      try simp only [opv, n1, n2, n3, n4, Value.cells]
      rw [strOf_size]
      refine g_on (yi (t := 7) rfl rfl) ?_
      refine s_go (s_gtr) ?_
      try simp only [opv, n1, n2, n3, n4, Value.cells]
      first | refine s_go (s_pick_t) ?_ | refine s_go (s_pick_f) ?_
      try simp only [opv, n1, n2, n3, n4, Value.cells]
      refine s_go (s_move) ?_
      try simp only [opv, n1, n2, n3, n4, Value.cells]
      refine s_part 12 rfl (fun hp2 => ?_) (fun hp2 => ?_)
      ·
        try simp only [n3, n4]
        try simp only [decide_eq_true_eq, decide_eq_false_iff_not, Bool.not_eq_true', Bool.not_eq_false', Int.not_lt, Int.not_le, ne_eq, Decidable.not_not] at hp2
        first
        | (exfalso; omega)
        | skip
          refine g_off (yi (t := 12) rfl rfl) ?_
          try simp only [opv, n1, n2, n3, n4, Value.cells]
          refine g_off (yi (t := 12) rfl rfl) ?_
          try simp only [opv, n1, n2, n3, n4, Value.cells]
          refine g_off (yi (t := 12) rfl rfl) ?_
          try simp only [opv, n1, n2, n3, n4, Value.cells]
          refine g_off (yi (t := 12) rfl rfl) ?_
          try simp only [opv, n1, n2, n3, n4, Value.cells]
          first | refine s_go (s_pick_t) ?_ | refine s_go (s_pick_f) ?_
          try simp only [opv, n1, n2, n3, n4, Value.cells]
          refine x_nil ?_
          refine hK3 _ _ ?_
          refine x_cond_t (h := ?_)
          have hI : isN ns = false := by simp only [isN, Bool.and_eq_false_iff, decide_eq_false_iff_not]; first | exact .inl (.inl (by omega)) | exact .inl (.inr @c)
          refine x_seq fun K5 hK5 => ?_
          refine x_region ?_
          refine s_go (s_assign) ?_
          try simp only [opv, n1, n2, n3, n4, Value.cells]
          refine x_nil ?_
          refine hK5 _ _ ?_
          refine x_ret ?_
          refine r_tmp rfl ?_
          exact ⟨by rw [hI]; rfl, hS.ext_of⟩
      ·
        try simp only [n3, n4]
        try simp only [decide_eq_true_eq, decide_eq_false_iff_not, Bool.not_eq_true', Bool.not_eq_false', Int.not_lt, Int.not_le, ne_eq, Decidable.not_not] at hp2
        first
        | (exfalso; omega)
        | skip
          refine g_on (yi (t := 12) rfl rfl) ?_
          refine s_go (s_move) ?_
          try simp only [opv, n1, n2, n3, n4, Value.cells]
          have hb0 := hw.get 0
          refine g_on (yi (t := 12) rfl rfl) ?_
          refine s_go (s_index_str Try.underlying9 (hb := strOf_get (a := ns) (i := 0) (by omega))) ?_
          try simp only [opv, n1, n2, n3, n4, Value.cells, Nat.mul_one, Nat.zero_add, Int.toNat_natCast, Int.reduceToNat]
          rw [u8_back hb0]
          refine g_on (yi (t := 12) rfl rfl) ?_
          refine s_call en192 ?_
          try simp only [opv, n1, n2, n3, n4, Value.cells, List.map_toArray, List.map_cons, List.map_nil, List.append_toArray, List.cons_append, List.nil_append, Array.append_empty]
          refine CallR.mono (c_ref06Letter _ (by first | assumption | omega) _) ?_
          rintro _ w1 ⟨rfl, hE1⟩
          replace hS := hS.ext hE1
          try simp only [opv, n1, n2, n3, n4, Value.cells]
          refine g_on (yi (t := 12) rfl rfl) ?_
          refine s_go (s_not) ?_
          try simp only [opv, n1, n2, n3, n4, Value.cells]
          first | refine s_go (s_pick_t) ?_ | refine s_go (s_pick_f) ?_
          try simp only [opv, n1, n2, n3, n4, Value.cells]
          refine x_nil ?_
          refine hK3 _ _ ?_
          refine x_cond (ht := fun hc3 => ?_) (hf := fun hc3 => ?_)
          ·
            try simp only [decide_eq_true_eq, decide_eq_false_iff_not, Bool.not_eq_true', Bool.not_eq_false', Int.not_lt, Int.not_le, ne_eq, Decidable.not_not, bne_iff_ne, beq_iff_eq, not_true_eq_false, not_false_eq_true] at hc3
            first
            | (exfalso; omega)
            | skip
              have hI : isN ns = false := by simp only [isN, Bool.and_eq_false_iff, decide_eq_false_iff_not]; first | exact .inl (.inl (by omega)) | exact .inl (.inr hc3)
              refine x_seq fun K6 hK6 => ?_
              refine x_region ?_
              refine s_go (s_assign) ?_
              try simp only [opv, n1, n2, n3, n4, Value.cells]
              refine x_nil ?_
              refine hK6 _ _ ?_
              refine x_ret ?_
              refine r_tmp rfl ?_
              exact ⟨by rw [hI]; rfl, hS.ext_of⟩
          ·
            try simp only [decide_eq_true_eq, decide_eq_false_iff_not, Bool.not_eq_true', Bool.not_eq_false', Int.not_lt, Int.not_le, ne_eq, Decidable.not_not, bne_iff_ne, beq_iff_eq, not_true_eq_false, not_false_eq_true] at hc3
            first
            | (exfalso; omega)
            | skip
              have h0 : isLet (ns.getD 0 0) = true := by simpa only [Bool.not_eq_false] using hc3
              refine x_skip ?_
              refine hK2 _ _ ?_
              refine x_seq fun K7 hK7 => ?_
              refine x_seq fun K8 hK8 => ?_
              refine x_region ?_
              refine s_go (s_assign) ?_
              try simp only [opv, n1, n2, n3, n4, Value.cells]
              refine x_nil ?_
              refine hK8 _ _ ?_
              refine x_block ?_
              refine x_loop [2, 3, 18, 19, 20, 21, 22, 23, 24, 25, 26, 27, 28] (fun m f w => ∃ k : Nat, k ≤ ns.length ∧ m = ns.length - k ∧ f 3 = .int .i64 (k : Int) ∧ (ns.take k).all isOth = true ∧ St NoB w0 w []) (ns.length) ?init1 (fun m1 f1 wl1 hI => ?_)
              case init1 =>
                try simp only [opv, n1, n2, n3, n4, Value.cells]
                exact ⟨0, by omega, rfl, rfl, rfl, hS⟩
              obtain ⟨k, hk, hm, h3, hz, hS⟩ := hI
              simp only [clob, List.foldl, n3, n4, h3]
              have hbk := hw.get k
              refine x_seq fun K9 hK9 => ?_
              refine x_seq fun K10 hK10 => ?_
              refine x_region ?_
              refine s_go (s_move) ?_
              try simp only [opv, n1, n2, n3, n4, Value.cells]
              refine s_go (s_move) ?_
              try simp only [opv, n1, n2, n3, n4, Value.cells]
              refine s_go (s_len_str Try.underlying9) ?_
              try simp only [opv, n1, n2, n3, n4, Value.cells]
              rw [strOf_size]
              refine s_go (s_lss) ?_
              try simp only [opv, n1, n2, n3, n4, Value.cells]
              refine x_nil ?_
              refine hK10 _ _ ?_
              refine x_cond (ht := fun hc4 => ?_) (hf := fun hc4 => ?_)
              ·
                try simp only [decide_eq_true_eq, decide_eq_false_iff_not, Bool.not_eq_true', Bool.not_eq_false', Int.not_lt, Int.not_le, ne_eq, Decidable.not_not, bne_iff_ne, beq_iff_eq, not_true_eq_false, not_false_eq_true] at hc4
                first
                | (exfalso; omega)
                | skip
                  refine x_skip ?_
                  refine hK9 _ _ ?_
                  refine x_seq fun K11 hK11 => ?_
                  refine x_block ?_
                  refine x_seq fun K12 hK12 => ?_
                  refine x_region ?_
                  refine s_go (s_move) ?_
                  try simp only [opv, n1, n2, n3, n4, Value.cells]
                  refine s_go (s_move) ?_
                  try simp only [opv, n1, n2, n3, n4, Value.cells]
                  refine s_go (s_index_str Try.underlying9 (hb := strOf_get (a := ns) (i := k) (by omega))) ?_
                  try simp only [opv, n1, n2, n3, n4, Value.cells, Nat.mul_one, Nat.zero_add, Int.toNat_natCast, Int.reduceToNat]
                  rw [u8_back hbk]
                  refine s_call en193 ?_
                  try simp only [opv, n1, n2, n3, n4, Value.cells, List.map_toArray, List.map_cons, List.map_nil, List.append_toArray, List.cons_append, List.nil_append, Array.append_empty]
                  refine CallR.mono (c_ref06Other _ (by first | assumption | omega) _) ?_
                  rintro _ w2 ⟨rfl, hE2⟩
                  replace hS := hS.ext hE2
                  try simp only [opv, n1, n2, n3, n4, Value.cells]
                  refine s_go (s_not) ?_
                  try simp only [opv, n1, n2, n3, n4, Value.cells]
                  refine x_nil ?_
                  refine hK12 _ _ ?_
                  refine x_cond (ht := fun hc5 => ?_) (hf := fun hc5 => ?_)
                  ·
                    try simp only [decide_eq_true_eq, decide_eq_false_iff_not, Bool.not_eq_true', Bool.not_eq_false', Int.not_lt, Int.not_le, ne_eq, Decidable.not_not, bne_iff_ne, beq_iff_eq, not_true_eq_false, not_false_eq_true] at hc5
                    first
                    | (exfalso; omega)
                    | skip
                      have hI : isN ns = false := by simp only [isN, Bool.and_eq_false_iff]; exact .inr (all_not (by simpa using hc5) (by omega))
                      refine x_seq fun K13 hK13 => ?_
                      refine x_region ?_
                      refine s_go (s_assign) ?_
                      try simp only [opv, n1, n2, n3, n4, Value.cells]
                      refine x_nil ?_
                      refine hK13 _ _ ?_
                      refine x_ret ?_
                      refine r_tmp rfl ?_
                      exact ⟨by rw [hI]; rfl, hS.ext_of⟩
                  ·
                    try simp only [decide_eq_true_eq, decide_eq_false_iff_not, Bool.not_eq_true', Bool.not_eq_false', Int.not_lt, Int.not_le, ne_eq, Decidable.not_not, bne_iff_ne, beq_iff_eq, not_true_eq_false, not_false_eq_true] at hc5
                    first
                    | (exfalso; omega)
                    | skip
                      have hO : isOth (ns.getD k 0) = true := by simpa using hc5
                      refine x_skip ?_
                      refine hK11 _ _ ?_
                      refine x_region ?_
                      refine s_go (s_move) ?_
                      try simp only [opv, n1, n2, n3, n4, Value.cells]
                      refine s_go (s_add (hc := by first | exact wr_i64 (by omega) (by omega) | rfl)) ?_
                      try simp only [opv, n1, n2, n3, n4, Value.cells]
                      refine s_go (s_assign) ?_
                      try simp only [opv, n1, n2, n3, n4, Value.cells]
                      refine x_nil ?_
                      refine loop_back (m' := ns.length - (k + 1)) (by simp only [clob, List.foldl, n1, n2, n3, n4]) ?_ ?_
                      · try simp only [opv, n1, n2, n3, n4, Value.cells]
                        exact ⟨k + 1, by omega, by omega, by rfl, by rw [take_succ_getD (by omega), List.all_append, hz]; simpa using hO, hS⟩
                      · omega
              ·
                try simp only [decide_eq_true_eq, decide_eq_false_iff_not, Bool.not_eq_true', Bool.not_eq_false', Int.not_lt, Int.not_le, ne_eq, Decidable.not_not, bne_iff_ne, beq_iff_eq, not_true_eq_false, not_false_eq_true] at hc4
                first
                | (exfalso; omega)
                | skip
                  obtain rfl : k = ns.length := by omega
                  rw [List.take_length] at hz
                  have hI : isN ns = true := by simp only [isN, Bool.and_eq_true, decide_eq_true_eq]; exact ⟨⟨by omega, h0⟩, hz⟩
                  refine x_exit (look_here ?_)
                  refine hK7 _ _ ?_
                  refine x_seq fun K14 hK14 => ?_
                  refine x_region ?_
                  refine s_go (s_assign) ?_
                  try simp only [opv, n1, n2, n3, n4, Value.cells]
                  refine x_nil ?_
                  refine hK14 _ _ ?_
                  refine x_ret ?_
                  refine r_tmp rfl ?_
                  exact ⟨by rw [hI]; rfl, hS.ext_of⟩

theorem c_ref06Text (l : List Int) (hl : l.length = 8) (hw : Byt l)  (w0 : World) :
    CallR Try.prog 118 #[.agg (ic .u8 l)] w0 fun v w' => v = .string (strOf (nmTxt l)) ∧ Ext w0 w' := by
  have hS : St NoB w0 w0 [] := St.start w0
  refine c_enter (l := [.agg (ic .u8 l), undef, undef, undef, undef, undef, undef, undef, undef, undef, undef, undef, undef, undef, undef, undef, undef, undef, undef, undef, undef, undef, undef]) Try.func118 rfl (by simp only [Try.ntmps118, List.size_toArray, List.length_cons, List.length_nil, Nat.reduceAdd, Nat.reduceSub, Array.replicate_succ, Array.replicate_zero, List.push_toArray, List.append_toArray, List.nil_append, List.cons_append]) ?_
  refine x_seq fun K1 hK1 => ?_
  refine x_region ?_
  refine m_box hS (fun w1 g1 hS => ?_)
  try simp only [opv, n1, n2, n3, n4, Value.cells, Array.toArray_toList] at hS ⊢
  refine s_go (s_assign) ?_
  try simp only [opv, n1, n2, n3, n4, Value.cells]
  refine x_nil ?_
  refine hK1 _ _ ?_
  refine x_seq fun K2 hK2 => ?_
  refine x_region ?_
  refine s_go (s_assign) ?_
  try simp only [opv, n1, n2, n3, n4, Value.cells]
  refine x_nil ?_
  refine hK2 _ _ ?_
  refine x_seq fun K3 hK3 => ?_
  refine x_seq fun K4 hK4 => ?_
  refine x_region ?_
  refine s_go (s_assign) ?_
  try simp only [opv, n1, n2, n3, n4, Value.cells]
  refine x_nil ?_
  refine hK4 _ _ ?_
  refine x_block ?_
  refine x_loop [3, 4, 5, 6, 7, 8, 9, 10, 11, 12, 13, 14, 15, 16, 17, 18, 19, 20, 21] (fun m f w => ∃ k : Nat, k ≤ 8 ∧ m = 8 - k ∧ f 4 = .int .i64 (k : Int) ∧ f 3 = .string (strOf (l.take k)) ∧ (∀ j, j < k → l.getD j 0 ≠ 0) ∧ St NoB w0 w [.obj g1 (.cells (ic .u8 l) 42 (0, 0))]) (8) ?init1 (fun m1 f1 wl1 hI => ?_)
  case init1 =>
    try simp only [opv, n1, n2, n3, n4, Value.cells]
    exact ⟨0, by omega, rfl, rfl, rfl, fun j hj => absurd hj (by omega), hS⟩
  obtain ⟨k, hk, hm, h4, h3, hz, hS⟩ := hI
  simp only [clob, List.foldl, n3, n4, h4, h3]
  refine x_seq fun K5 hK5 => ?_
  refine x_seq fun K6 hK6 => ?_
  refine x_region ?_
  refine s_go (s_move) ?_
  try simp only [opv, n1, n2, n3, n4, Value.cells]
  refine s_go (s_lss) ?_
  try simp only [opv, n1, n2, n3, n4, Value.cells]
  refine s_go (s_move) ?_
  try simp only [opv, n1, n2, n3, n4, Value.cells]
  refine s_part 7 rfl (fun hp1 => ?_) (fun hp1 => ?_)
  ·
    try simp only [n3, n4]
    try simp only [decide_eq_true_eq, decide_eq_false_iff_not, Bool.not_eq_true', Bool.not_eq_false', Int.not_lt, Int.not_le, ne_eq, Decidable.not_not] at hp1
    first
    | (exfalso; omega)
    | skip
      refine g_on (yi (t := 7) rfl rfl) ?_
      refine s_go (s_move) ?_
      try simp only [opv, n1, n2, n3, n4, Value.cells]
      refine g_on (yi (t := 7) rfl rfl) ?_
      refine s_go (m_indexAddr_arr Try.underlying42 ti5) ?_
      try simp only [opv, n1, n2, n3, n4, Value.cells, Nat.mul_one, Nat.zero_add, Int.toNat_natCast, Int.reduceToNat]
      refine g_on (yi (t := 7) rfl rfl) ?_
      first | refine s_go (m_load_obj Try.underlying5 (hS := hS)) ?_ | refine s_go (m_load_bx Try.underlying5 (hS := hS)) ?_ | refine s_go (m_load_rd Try.underlying5 (hS := hS)) ?_ | refine s_go (m_load_vec Try.underlying5 (hS := hS)) ?_
      try simp only [opv, n1, n2, n3, n4, Value.cells, List.getElem_toArray, List.getElem_cons_zero, List.getElem_cons_succ]
      refine g_on (yi (t := 7) rfl rfl) ?_
      refine s_go (s_neq) ?_
      try simp only [opv, n1, n2, n3, n4, Value.cells]
      first | refine s_go (s_pick_t) ?_ | refine s_go (s_pick_f) ?_
      try simp only [opv, n1, n2, n3, n4, Value.cells]
      refine x_nil ?_
      refine hK6 _ _ ?_
      refine x_cond (ht := fun hc1 => ?_) (hf := fun hc1 => ?_)
      ·
        try simp only [decide_eq_true_eq, decide_eq_false_iff_not, Bool.not_eq_true', Bool.not_eq_false', Int.not_lt, Int.not_le, ne_eq, Decidable.not_not, bne_iff_ne, beq_iff_eq, not_true_eq_false, not_false_eq_true] at hc1
        first
        | (exfalso; omega)
        | skip
          refine x_skip ?_
          refine hK5 _ _ ?_
          refine x_seq fun K7 hK7 => ?_
          refine x_block ?_
          refine x_region ?_
          refine s_go (s_move) ?_
          try simp only [opv, n1, n2, n3, n4, Value.cells]
          refine s_go (s_move) ?_
          try simp only [opv, n1, n2, n3, n4, Value.cells]
          refine s_go (m_indexAddr_arr Try.underlying42 ti5) ?_
          try simp only [opv, n1, n2, n3, n4, Value.cells, Nat.mul_one, Nat.zero_add, Int.toNat_natCast, Int.reduceToNat]
          first | refine s_go (m_load_obj Try.underlying5 (hS := hS)) ?_ | refine s_go (m_load_bx Try.underlying5 (hS := hS)) ?_ | refine s_go (m_load_rd Try.underlying5 (hS := hS)) ?_ | refine s_go (m_load_vec Try.underlying5 (hS := hS)) ?_
          try simp only [opv, n1, n2, n3, n4, Value.cells, List.getElem_toArray, List.getElem_cons_zero, List.getElem_cons_succ]
          refine m_buildRow (cells := #[_]) Try.underlying43 ti5 (hc := by simp only [List.map_toArray, List.map_cons, List.map_nil, opv, n1, n2, n3, n4, Value.cells, List.toList_toArray]; (repeat (refine fill_cons rfl rfl (Nat.le_of_ble_eq_true rfl) ?_)); rfl) (hS := hS) (h := fun w2 g2 hS => ?_)
          try simp only [opv, n1, n2, n3, n4, Value.cells, Array.toArray_toList] at hS ⊢
          replace hS := hS.obj_rd (sz := 1) (n := 1) rfl .head
          have hS : St NoB w0 w2 [.rd (some ⟨g2, 0, none⟩) 1 1 ([l.getD k 0].map (Value.int .u8)), .obj g1 (.cells (ic .u8 l) 42 (0, 0))] := hS
          refine s_go (m_bytes_str Try.underlying43 Try.underlying9 Try.underlying5 (hS := hS)) ?_
          try simp only [opv, n1, n2, n3, n4, Value.cells]
          refine s_go (s_add_str Try.underlying9 (hn := by rw [strOf_size, strOf_size]; simp; omega)) ?_
          try simp only [opv, n1, n2, n3, n4, Value.cells]
          rw [strOf_app]
          refine s_go (s_assign) ?_
          try simp only [opv, n1, n2, n3, n4, Value.cells]
          refine x_nil ?_
          refine hK7 _ _ ?_
          refine x_region ?_
          refine s_go (s_move) ?_
          try simp only [opv, n1, n2, n3, n4, Value.cells]
          refine s_go (s_add (hc := by first | exact wr_i64 (by omega) (by omega) | rfl)) ?_
          try simp only [opv, n1, n2, n3, n4, Value.cells]
          refine s_go (s_assign) ?_
          try simp only [opv, n1, n2, n3, n4, Value.cells]
          refine x_nil ?_
          refine loop_back (m' := 8 - (k + 1)) (by simp only [clob, List.foldl, n1, n2, n3, n4]) ?_ ?_
          · try simp only [opv, n1, n2, n3, n4, Value.cells]
            exact ⟨k + 1, by omega, by omega, by rfl, by rw [take_succ_getD (by omega)], fun j hj => by rcases Nat.lt_or_eq_of_le (Nat.le_of_lt_succ hj) with h | h; exact hz j h; subst h; assumption, hS.sel (by repeat (first | exact Sel.nil | (refine Sel.cons (by repeat (first | exact Del.head | apply Del.tail)) ?_)))⟩
          · omega
      ·
        try simp only [decide_eq_true_eq, decide_eq_false_iff_not, Bool.not_eq_true', Bool.not_eq_false', Int.not_lt, Int.not_le, ne_eq, Decidable.not_not, bne_iff_ne, beq_iff_eq, not_true_eq_false, not_false_eq_true] at hc1
        first
        | (exfalso; omega)
        | skip
          have hT := nmTxt_of (l := l) (k := k) (by omega) hz (by first | exact .inr hc1 | exact .inl (by omega))
          refine x_exit (look_here ?_)
          refine hK3 _ _ ?_
          refine x_seq fun K8 hK8 => ?_
          refine x_region ?_
          refine s_go (s_move) ?_
          try simp only [opv, n1, n2, n3, n4, Value.cells]
          refine s_go (s_assign) ?_
          try simp only [opv, n1, n2, n3, n4, Value.cells]
          refine x_nil ?_
          refine hK8 _ _ ?_
          refine x_ret ?_
          refine r_tmp rfl ?_
          exact ⟨by rw [← hT]; rfl, hS.ext_of⟩
  ·
    try simp only [n3, n4]
    try simp only [decide_eq_true_eq, decide_eq_false_iff_not, Bool.not_eq_true', Bool.not_eq_false', Int.not_lt, Int.not_le, ne_eq, Decidable.not_not] at hp1
    first
    | (exfalso; omega)
    | skip
      refine g_off (yi (t := 7) rfl rfl) ?_
      try simp only [opv, n1, n2, n3, n4, Value.cells]
      refine g_off (yi (t := 7) rfl rfl) ?_
      try simp only [opv, n1, n2, n3, n4, Value.cells]
      refine g_off (yi (t := 7) rfl rfl) ?_
      try simp only [opv, n1, n2, n3, n4, Value.cells]
      refine g_off (yi (t := 7) rfl rfl) ?_
      try simp only [opv, n1, n2, n3, n4, Value.cells]
      first | refine s_go (s_pick_t) ?_ | refine s_go (s_pick_f) ?_
      try simp only [opv, n1, n2, n3, n4, Value.cells]
      refine x_nil ?_
      refine hK6 _ _ ?_
      refine x_cond_f (h := ?_)
      have hT := nmTxt_of (l := l) (k := k) (by omega) hz (by first | exact .inr @c | exact .inl (by omega))
      refine x_exit (look_here ?_)
      refine hK3 _ _ ?_
      refine x_seq fun K9 hK9 => ?_
      refine x_region ?_
      refine s_go (s_move) ?_
      try simp only [opv, n1, n2, n3, n4, Value.cells]
      refine s_go (s_assign) ?_
      try simp only [opv, n1, n2, n3, n4, Value.cells]
      refine x_nil ?_
      refine hK9 _ _ ?_
      refine x_ret ?_
      refine r_tmp rfl ?_
      exact ⟨by rw [← hT]; rfl, hS.ext_of⟩

theorem c_ref06Pad (ns : List Int) (hw : Byt ns) (hn : ns.length ≤ 1000)  (w0 : World) :
    CallR Try.prog 119 #[.string (strOf ns)] w0 fun v w' => v = .agg (ic .u8 (padN ns)) ∧ Ext w0 w' := by
  have hS : St NoB w0 w0 [] := St.start w0
  refine c_enter (l := [.string (strOf ns), undef, undef, undef, undef, undef, undef, undef, undef, undef, undef, undef, undef, undef, undef, undef, undef, undef, undef, undef, undef]) Try.func119 rfl (by simp only [Try.ntmps119, List.size_toArray, List.length_cons, List.length_nil, Nat.reduceAdd, Nat.reduceSub, Array.replicate_succ, Array.replicate_zero, List.push_toArray, List.append_toArray, List.nil_append, List.cons_append]) ?_
  refine x_seq fun K1 hK1 => ?_
  refine x_region ?_
  refine m_alloc ti42 hS (fun w1 g1 hS => ?_)
  try simp only [opv, n1, n2, n3, n4, Value.cells, Array.toArray_toList] at hS ⊢
  refine x_nil ?_
  refine hK1 _ _ ?_
  refine x_seq fun K2 hK2 => ?_
  refine x_region ?_
  refine m_alloc ti42 hS (fun w2 g2 hS => ?_)
  try simp only [opv, n1, n2, n3, n4, Value.cells, Array.toArray_toList] at hS ⊢
  have hS : St NoB w0 w2 [.obj g2 (.cells (ic .u8 nm0) 42 (0, 0)), .obj g1 (.cells (ic .u8 nm0) 42 (0, 0))] := hS
  refine x_nil ?_
  refine hK2 _ _ ?_
  refine x_seq fun K3 hK3 => ?_
  refine x_seq fun K4 hK4 => ?_
  refine x_region ?_
  refine s_go (s_assign) ?_
  try simp only [opv, n1, n2, n3, n4, Value.cells]
  refine x_nil ?_
  refine hK4 _ _ ?_
  refine x_block ?_
  refine x_loop [4, 5, 6, 7, 8, 9, 10, 11, 12, 13, 14, 15, 16, 17, 18, 19] (fun m f w => ∃ k : Nat, k ≤ ns.length ∧ k ≤ 8 ∧ m = 8 - k ∧ f 4 = .int .i64 (k : Int) ∧ St NoB w0 w [.obj g2 (.cells (ic .u8 (padT ns k)) 42 (0, 0)), .obj g1 (.cells (ic .u8 nm0) 42 (0, 0))]) (8) ?init1 (fun m1 f1 wl1 hI => ?_)
  case init1 =>
    try simp only [opv, n1, n2, n3, n4, Value.cells]
    exact ⟨0, by omega, by omega, rfl, rfl, by rw [padT_zero]; exact hS⟩
  obtain ⟨k, hk, hk8, hm, h4, hS⟩ := hI
  simp only [clob, List.foldl, n3, n4, h4]
  have hpl := padT_len hk hk8
  have hbk := hw.get k
  have h0l : nm0.length = 8 := rfl
  refine x_seq fun K5 hK5 => ?_
  refine x_seq fun K6 hK6 => ?_
  refine x_region ?_
  refine s_go (s_move) ?_
  try simp only [opv, n1, n2, n3, n4, Value.cells]
  refine s_go (s_move) ?_
  try simp only [opv, n1, n2, n3, n4, Value.cells]
  refine s_go (s_len_str Try.underlying9) ?_
  try simp only [opv, n1, n2, n3, n4, Value.cells]
  rw [strOf_size]
  refine s_go (s_lss) ?_
  try simp only [opv, n1, n2, n3, n4, Value.cells]
  refine s_go (s_move) ?_
  try simp only [opv, n1, n2, n3, n4, Value.cells]
  refine s_part 9 rfl (fun hp1 => ?_) (fun hp1 => ?_)
  ·
    try simp only [n3, n4]
    try simp only [decide_eq_true_eq, decide_eq_false_iff_not, Bool.not_eq_true', Bool.not_eq_false', Int.not_lt, Int.not_le, ne_eq, Decidable.not_not] at hp1
    first
    | (exfalso; omega)
    | skip
      refine g_on (yi (t := 9) rfl rfl) ?_
      refine s_go (s_move) ?_
      try simp only [opv, n1, n2, n3, n4, Value.cells]
      refine g_on (yi (t := 9) rfl rfl) ?_
      refine s_go (s_lss) ?_
      try simp only [opv, n1, n2, n3, n4, Value.cells]
      first | refine s_go (s_pick_t) ?_ | refine s_go (s_pick_f) ?_
      try simp only [opv, n1, n2, n3, n4, Value.cells]
      refine x_nil ?_
      refine hK6 _ _ ?_
      refine x_cond (ht := fun hc1 => ?_) (hf := fun hc1 => ?_)
      ·
        try simp only [decide_eq_true_eq, decide_eq_false_iff_not, Bool.not_eq_true', Bool.not_eq_false', Int.not_lt, Int.not_le, ne_eq, Decidable.not_not, bne_iff_ne, beq_iff_eq, not_true_eq_false, not_false_eq_true] at hc1
        first
        | (exfalso; omega)
        | skip
          refine x_skip ?_
          refine hK5 _ _ ?_
          refine x_seq fun K7 hK7 => ?_
          refine x_block ?_
          refine x_region ?_
          refine s_go (s_move) ?_
          try simp only [opv, n1, n2, n3, n4, Value.cells]
          refine s_go (s_move) ?_
          try simp only [opv, n1, n2, n3, n4, Value.cells]
          refine s_go (s_move) ?_
          try simp only [opv, n1, n2, n3, n4, Value.cells]
          refine s_go (s_index_str Try.underlying9 (hb := strOf_get (a := ns) (i := k) (by omega))) ?_
          try simp only [opv, n1, n2, n3, n4, Value.cells, Nat.mul_one, Nat.zero_add, Int.toNat_natCast, Int.reduceToNat]
          rw [u8_back hbk]
          refine s_go (m_indexAddr_arr Try.underlying42 ti5) ?_
          try simp only [opv, n1, n2, n3, n4, Value.cells, Nat.mul_one, Nat.zero_add, Int.toNat_natCast, Int.reduceToNat]
          refine m_store_obj ti5 (hS := hS) (h := fun w3 hS => ?_)
          try simp only [opv, n1, n2, n3, n4, Value.cells, Array.toArray_toList] at hS ⊢
          refine x_nil ?_
          refine hK7 _ _ ?_
          refine x_region ?_
          refine s_go (s_move) ?_
          try simp only [opv, n1, n2, n3, n4, Value.cells]
          refine s_go (s_add (hc := by first | exact wr_i64 (by omega) (by omega) | rfl)) ?_
          try simp only [opv, n1, n2, n3, n4, Value.cells]
          refine s_go (s_assign) ?_
          try simp only [opv, n1, n2, n3, n4, Value.cells]
          refine x_nil ?_
          refine loop_back (m' := 8 - (k + 1)) (by simp only [clob, List.foldl, n1, n2, n3, n4]) ?_ ?_
          · try simp only [opv, n1, n2, n3, n4, Value.cells]
            exact ⟨k + 1, by omega, by omega, by omega, by rfl, by rw [← padT_set (by omega) (by omega)]; exact hS⟩
          · omega
      ·
        try simp only [decide_eq_true_eq, decide_eq_false_iff_not, Bool.not_eq_true', Bool.not_eq_false', Int.not_lt, Int.not_le, ne_eq, Decidable.not_not, bne_iff_ne, beq_iff_eq, not_true_eq_false, not_false_eq_true] at hc1
        first
        | (exfalso; omega)
        | skip
          have hP := padT_all hk hk8 (by omega)
          rw [hP] at hS hpl
          refine x_exit (look_here ?_)
          refine hK3 _ _ ?_
          refine x_seq fun K8 hK8 => ?_
          refine x_region ?_
          first | refine s_go (m_load_row Try.underlying42 (hi := ti42) (hS := hS)) ?_ | refine s_go (m_loada_obj Try.underlying42 (hi := ti42) (hS := hS)) ?_ | refine s_go (m_loada_bx Try.underlying42 (hi := ti42) (hS := hS)) ?_ | refine s_go (m_loada_rd Try.underlying42 (hi := ti42) (hS := hS)) ?_ | refine s_go (m_loada_vec Try.underlying42 (hi := ti42) (hS := hS)) ?_
          try simp only [opv, n1, n2, n3, n4, Value.cells, List.getElem_toArray, List.getElem_cons_zero, List.getElem_cons_succ]
          first | refine m_store_obj ti42 (hS := hS) (h := fun w4 hS => ?_) | refine m_store_vec ti42 (hS := hS) (h := fun w4 hS => ?_)
          try simp only [opv, n1, n2, n3, n4, Value.cells, Array.toArray_toList] at hS ⊢
          refine x_nil ?_
          refine hK8 _ _ ?_
          refine x_ret ?_
          refine r_cell_agg rfl Try.underlying42 ti42 (hS := hS) (hR := ?_)
          exact ⟨rfl, hS.ext_of⟩
  ·
    try simp only [n3, n4]
    try simp only [decide_eq_true_eq, decide_eq_false_iff_not, Bool.not_eq_true', Bool.not_eq_false', Int.not_lt, Int.not_le, ne_eq, Decidable.not_not] at hp1
    first
    | (exfalso; omega)
    | skip
      refine g_off (yi (t := 9) rfl rfl) ?_
      try simp only [opv, n1, n2, n3, n4, Value.cells]
      refine g_off (yi (t := 9) rfl rfl) ?_
      try simp only [opv, n1, n2, n3, n4, Value.cells]
      first | refine s_go (s_pick_t) ?_ | refine s_go (s_pick_f) ?_
      try simp only [opv, n1, n2, n3, n4, Value.cells]
      refine x_nil ?_
      refine hK6 _ _ ?_
      refine x_cond_f (h := ?_)
      have hP := padT_all hk hk8 (by omega)
      rw [hP] at hS hpl
      refine x_exit (look_here ?_)
      refine hK3 _ _ ?_
      refine x_seq fun K9 hK9 => ?_
      refine x_region ?_
      first | refine s_go (m_load_row Try.underlying42 (hi := ti42) (hS := hS)) ?_ | refine s_go (m_loada_obj Try.underlying42 (hi := ti42) (hS := hS)) ?_ | refine s_go (m_loada_bx Try.underlying42 (hi := ti42) (hS := hS)) ?_ | refine s_go (m_loada_rd Try.underlying42 (hi := ti42) (hS := hS)) ?_ | refine s_go (m_loada_vec Try.underlying42 (hi := ti42) (hS := hS)) ?_
      try simp only [opv, n1, n2, n3, n4, Value.cells, List.getElem_toArray, List.getElem_cons_zero, List.getElem_cons_succ]
      first | refine m_store_obj ti42 (hS := hS) (h := fun w5 hS => ?_) | refine m_store_vec ti42 (hS := hS) (h := fun w5 hS => ?_)
      try simp only [opv, n1, n2, n3, n4, Value.cells, Array.toArray_toList] at hS ⊢
      refine x_nil ?_
      refine hK9 _ _ ?_
      refine x_ret ?_
      refine r_cell_agg rfl Try.underlying42 ti42 (hS := hS) (hR := ?_)
      exact ⟨rfl, hS.ext_of⟩

theorem c_ref06Right (l : List Int) (hl : l.length = 8) (hw : Byt l)  (w0 : World) :
    CallR Try.prog 29 #[.agg (ic .u8 l)] w0 fun v w' => v = .bool (nright l) ∧ Ext w0 w' := by
  have hS : St NoB w0 w0 [] := St.start w0
  refine c_enter (l := [.agg (ic .u8 l), undef, undef, undef, undef, undef, undef, undef, undef, undef, undef, undef, undef]) Try.func29 rfl (by simp only [Try.ntmps29, List.size_toArray, List.length_cons, List.length_nil, Nat.reduceAdd, Nat.reduceSub, Array.replicate_succ, Array.replicate_zero, List.push_toArray, List.append_toArray, List.nil_append, List.cons_append]) ?_
  refine x_seq fun K1 hK1 => ?_
  refine x_region ?_
  refine m_box hS (fun w1 g1 hS => ?_)
  try simp only [opv, n1, n2, n3, n4, Value.cells, Array.toArray_toList] at hS ⊢
  refine s_go (s_assign) ?_
  try simp only [opv, n1, n2, n3, n4, Value.cells]
  refine x_nil ?_
  refine hK1 _ _ ?_
  refine x_seq fun K2 hK2 => ?_
  refine x_quiet (by kernel_rfl) (by kernel_rfl) hS ?_
  have hs := nsz_le l
  have htl := nmTxt_len l
  have htb := nmTxt_byt hw
  have hpl := padN_len (nmTxt l)
  first | refine q_go (fun w hS => m_load_row Try.underlying42 (hi := ti42) (hS := hS)) ?_ | refine q_go (fun w hS => m_loada_obj Try.underlying42 (hi := ti42) (hS := hS)) ?_ | refine q_go (fun w hS => m_loada_bx Try.underlying42 (hi := ti42) (hS := hS)) ?_ | refine q_go (fun w hS => m_loada_rd Try.underlying42 (hi := ti42) (hS := hS)) ?_ | refine q_go (fun w hS => m_loada_vec Try.underlying42 (hi := ti42) (hS := hS)) ?_
  try simp only [opv, n1, n2, n3, n4, Value.cells, List.getElem_toArray, List.getElem_cons_zero, List.getElem_cons_succ]
  apply q_call en118
  case H =>
    intro w hS
    try simp only [opv, n1, n2, n3, n4, List.map_toArray, List.map_cons, List.map_nil, List.append_toArray, List.cons_append, List.nil_append, Array.append_empty]
    refine CallR.mono (c_ref06Text _ (by first | assumption | omega) (by assumption) _) ?_
    rintro _ w1 ⟨rfl, hE⟩; exact ⟨rfl, hS.ext hE⟩
  try simp only [opv, n1, n2, n3, n4, Value.cells]
  apply q_call en117
  case H =>
    intro w hS
    try simp only [opv, n1, n2, n3, n4, List.map_toArray, List.map_cons, List.map_nil, List.append_toArray, List.cons_append, List.nil_append, Array.append_empty]
    refine CallR.mono (c_ref06Is _ htb (by omega) _) ?_
    rintro _ w1 ⟨rfl, hE⟩; exact ⟨rfl, hS.ext hE⟩
  try simp only [opv, n1, n2, n3, n4, Value.cells]
  refine q_go (fun w hS => s_move) ?_
  try simp only [opv, n1, n2, n3, n4, Value.cells]
  refine q_part 6 rfl (fun hp1 => ?_) (fun hp1 => ?_)
  ·
    try simp only [n3, n4]
    try simp only [decide_eq_true_eq, decide_eq_false_iff_not, Bool.not_eq_true', Bool.not_eq_false', Int.not_lt, Int.not_le, ne_eq, Decidable.not_not] at hp1
    refine q_on (yi (t := 6) rfl rfl) ?_
    first | refine q_go (fun w hS => m_load_row Try.underlying42 (hi := ti42) (hS := hS)) ?_ | refine q_go (fun w hS => m_loada_obj Try.underlying42 (hi := ti42) (hS := hS)) ?_ | refine q_go (fun w hS => m_loada_bx Try.underlying42 (hi := ti42) (hS := hS)) ?_ | refine q_go (fun w hS => m_loada_rd Try.underlying42 (hi := ti42) (hS := hS)) ?_ | refine q_go (fun w hS => m_loada_vec Try.underlying42 (hi := ti42) (hS := hS)) ?_
    try simp only [opv, n1, n2, n3, n4, Value.cells, List.getElem_toArray, List.getElem_cons_zero, List.getElem_cons_succ]
    refine q_on (yi (t := 6) rfl rfl) ?_
    apply q_call en118
    case H =>
      intro w hS
      try simp only [opv, n1, n2, n3, n4, List.map_toArray, List.map_cons, List.map_nil, List.append_toArray, List.cons_append, List.nil_append, Array.append_empty]
      refine CallR.mono (c_ref06Text _ (by first | assumption | omega) (by assumption) _) ?_
      rintro _ w1 ⟨rfl, hE⟩; exact ⟨rfl, hS.ext hE⟩
    try simp only [opv, n1, n2, n3, n4, Value.cells]
    refine q_on (yi (t := 6) rfl rfl) ?_
    apply q_call en119
    case H =>
      intro w hS
      try simp only [opv, n1, n2, n3, n4, List.map_toArray, List.map_cons, List.map_nil, List.append_toArray, List.cons_append, List.nil_append, Array.append_empty]
      refine CallR.mono (c_ref06Pad _ htb (by omega) _) ?_
      rintro _ w1 ⟨rfl, hE⟩; exact ⟨rfl, hS.ext hE⟩
    try simp only [opv, n1, n2, n3, n4, Value.cells]
    refine q_on (yi (t := 6) rfl rfl) ?_
    first | refine q_go (fun w hS => m_load_row Try.underlying42 (hi := ti42) (hS := hS)) ?_ | refine q_go (fun w hS => m_loada_obj Try.underlying42 (hi := ti42) (hS := hS)) ?_ | refine q_go (fun w hS => m_loada_bx Try.underlying42 (hi := ti42) (hS := hS)) ?_ | refine q_go (fun w hS => m_loada_rd Try.underlying42 (hi := ti42) (hS := hS)) ?_ | refine q_go (fun w hS => m_loada_vec Try.underlying42 (hi := ti42) (hS := hS)) ?_
    try simp only [opv, n1, n2, n3, n4, Value.cells, List.getElem_toArray, List.getElem_cons_zero, List.getElem_cons_succ]
    refine q_on (yi (t := 6) rfl rfl) ?_
    refine q_go (fun w hS => s_eql_agg eqv42 (hg := eg42) (hX := zi_ic (by first | assumption | omega)) (hY := zi_ic (by first | assumption | omega)) (h1 := by first | assumption | omega) (h2 := by first | assumption | omega)) ?_
    try simp only [opv, n1, n2, n3, n4, Value.cells]
    first | refine q_go (fun w hS => s_pick_t) ?_ | refine q_go (fun w hS => s_pick_f) ?_
    try simp only [opv, n1, n2, n3, n4, Value.cells]
    refine q_go (fun w hS => s_assign) ?_
    try simp only [opv, n1, n2, n3, n4, Value.cells]
    clear hS
    refine q_nil fun w2 hS => ?_
    refine hK2 _ _ ?_
    refine x_ret ?_
    refine r_tmp rfl ?_
    exact ⟨congrArg Value.bool (by simp only [nright_eq hl, *, Bool.true_and, Bool.false_and]), hS.ext_of⟩
  ·
    try simp only [n3, n4]
    try simp only [decide_eq_true_eq, decide_eq_false_iff_not, Bool.not_eq_true', Bool.not_eq_false', Int.not_lt, Int.not_le, ne_eq, Decidable.not_not] at hp1
    refine q_off (yi (t := 6) rfl rfl) ?_
    try simp only [opv, n1, n2, n3, n4, Value.cells]
    refine q_off (yi (t := 6) rfl rfl) ?_
    try simp only [opv, n1, n2, n3, n4, Value.cells]
    refine q_off (yi (t := 6) rfl rfl) ?_
    try simp only [opv, n1, n2, n3, n4, Value.cells]
    refine q_off (yi (t := 6) rfl rfl) ?_
    try simp only [opv, n1, n2, n3, n4, Value.cells]
    refine q_off (yi (t := 6) rfl rfl) ?_
    try simp only [opv, n1, n2, n3, n4, Value.cells]
    first | refine q_go (fun w hS => s_pick_t) ?_ | refine q_go (fun w hS => s_pick_f) ?_
    try simp only [opv, n1, n2, n3, n4, Value.cells]
    refine q_go (fun w hS => s_assign) ?_
    try simp only [opv, n1, n2, n3, n4, Value.cells]
    clear hS
    refine q_nil fun w3 hS => ?_
    refine hK2 _ _ ?_
    refine x_ret ?_
    refine r_tmp rfl ?_
    exact ⟨congrArg Value.bool (by simp only [nright_eq hl, *, Bool.true_and, Bool.false_and]), hS.ext_of⟩

theorem c_nameLess (a b : List Int) (ha : a.length = 8) (hb : b.length = 8) (hwa : Byt a) (hwb : Byt b)  (w0 : World) :
    CallR Try.prog 145 #[.agg (ic .u8 a), .agg (ic .u8 b)] w0 fun v w' => v = .bool (decide (numN a < numN b)) ∧ Ext w0 w' := by
  have hS : St NoB w0 w0 [] := St.start w0
  refine c_enter (l := [.agg (ic .u8 a), .agg (ic .u8 b), undef, undef, undef, undef, undef, undef, undef, undef]) Try.func145 rfl (by simp only [Try.ntmps145, List.size_toArray, List.length_cons, List.length_nil, Nat.reduceAdd, Nat.reduceSub, Array.replicate_succ, Array.replicate_zero, List.push_toArray, List.append_toArray, List.nil_append, List.cons_append]) ?_
  refine x_seq fun K1 hK1 => ?_
  refine x_region ?_
  refine m_box hS (fun w1 g1 hS => ?_)
  try simp only [opv, n1, n2, n3, n4, Value.cells, Array.toArray_toList] at hS ⊢
  refine m_box hS (fun w2 g2 hS => ?_)
  try simp only [opv, n1, n2, n3, n4, Value.cells, Array.toArray_toList] at hS ⊢
  refine s_go (s_assign) ?_
  try simp only [opv, n1, n2, n3, n4, Value.cells]
  refine x_nil ?_
  refine hK1 _ _ ?_
  refine x_seq fun K2 hK2 => ?_
  refine x_quiet (by kernel_rfl) (by kernel_rfl) hS ?_
  first | refine q_go (fun w hS => m_load_row Try.underlying42 (hi := ti42) (hS := hS)) ?_ | refine q_go (fun w hS => m_loada_obj Try.underlying42 (hi := ti42) (hS := hS)) ?_ | refine q_go (fun w hS => m_loada_bx Try.underlying42 (hi := ti42) (hS := hS)) ?_ | refine q_go (fun w hS => m_loada_rd Try.underlying42 (hi := ti42) (hS := hS)) ?_ | refine q_go (fun w hS => m_loada_vec Try.underlying42 (hi := ti42) (hS := hS)) ?_
  try simp only [opv, n1, n2, n3, n4, Value.cells, List.getElem_toArray, List.getElem_cons_zero, List.getElem_cons_succ]
  apply q_call en139
  case H =>
    intro w hS
    try simp only [opv, n1, n2, n3, n4, List.map_toArray, List.map_cons, List.map_nil, List.append_toArray, List.cons_append, List.nil_append, Array.append_empty]
    refine CallR.mono (c_nameNumber a ha hwa _) ?_
    rintro _ w1 ⟨rfl, hE⟩; exact ⟨rfl, hS.ext hE⟩
  try simp only [opv, n1, n2, n3, n4, Value.cells]
  first | refine q_go (fun w hS => m_load_row Try.underlying42 (hi := ti42) (hS := hS)) ?_ | refine q_go (fun w hS => m_loada_obj Try.underlying42 (hi := ti42) (hS := hS)) ?_ | refine q_go (fun w hS => m_loada_bx Try.underlying42 (hi := ti42) (hS := hS)) ?_ | refine q_go (fun w hS => m_loada_rd Try.underlying42 (hi := ti42) (hS := hS)) ?_ | refine q_go (fun w hS => m_loada_vec Try.underlying42 (hi := ti42) (hS := hS)) ?_
  try simp only [opv, n1, n2, n3, n4, Value.cells, List.getElem_toArray, List.getElem_cons_zero, List.getElem_cons_succ]
  apply q_call en139
  case H =>
    intro w hS
    try simp only [opv, n1, n2, n3, n4, List.map_toArray, List.map_cons, List.map_nil, List.append_toArray, List.cons_append, List.nil_append, Array.append_empty]
    refine CallR.mono (c_nameNumber b hb hwb _) ?_
    rintro _ w1 ⟨rfl, hE⟩; exact ⟨rfl, hS.ext hE⟩
  try simp only [opv, n1, n2, n3, n4, Value.cells]
  refine q_go (fun w hS => s_lss) ?_
  try simp only [opv, n1, n2, n3, n4, Value.cells]
  refine q_go (fun w hS => s_assign) ?_
  try simp only [opv, n1, n2, n3, n4, Value.cells]
  clear hS
  refine q_nil fun w3 hS => ?_
  refine hK2 _ _ ?_
  refine x_ret ?_
  refine r_tmp rfl ?_
  exact ⟨congrArg Value.bool (by rw [Bool.eq_iff_iff]; simp only [decide_eq_true_eq]; omega), hS.ext_of⟩
end Go.Proofs.Ytpjpaipkkcengaa
