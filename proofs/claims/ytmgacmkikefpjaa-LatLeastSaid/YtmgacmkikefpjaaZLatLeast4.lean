/- Rules, plain words and walks that the claim leans on: Gl, Lzopen, Tb, Vj, Tc. -/
import Derived.Test.YtmgacmkikefpjaaZLatLeast3
set_option linter.unusedSimpArgs false
set_option linter.unusedVariables false
set_option linter.unusedSimpArgs false
set_option linter.unusedVariables false
set_option maxHeartbeats 2000000
set_option maxRecDepth 100000
namespace Go.Proofs.Ytmgacmkikefpjaa
open Go.RowKit
theorem c_LatLeast (w0 : World) (A : Option Addr) (c : Nat) (l : List (List Int)) (hr : Rd w0 A 21 l.length (arows l)) (hv : AOks l) (B : Option Addr) (d : Nat) (r : List (List Int)) (hr2 : Rd w0 B 21 r.length (arows r)) (hv2 : AOks r) (hn : l.length + r.length ≤ 600000000000000) (C : Option Addr) (e : Nat) (q : List (List Int)) (hr3 : Rd w0 C 21 q.length (arows q)) (hv3 : AOks q) (hn3 : q.length ≤ 600000000000000)  :
    CallR Try.prog 6 #[.slice A l.length c, .slice B r.length d, .slice C q.length e] w0 fun v w' => v = .bool true ∧ Ext w0 w' := by
 have hS := St.rd3 (S := NoB) hr hr2 hr3
 refine c_enter (l := [.slice A l.length c, .slice B r.length d, .slice C q.length e, undef, undef, undef, undef, undef, undef, undef, undef, undef, undef, undef, undef, undef, undef, undef, undef, undef, undef, undef, undef, undef, undef, undef, undef, undef, undef, undef, undef, undef, undef, undef, undef, undef, undef, undef, undef, undef, undef, undef, undef, undef, undef, undef, undef, undef, undef, undef, undef, undef, undef, undef, undef, undef, undef, undef, undef, undef, undef, undef, undef, undef, undef, undef, undef, undef, undef, undef, undef, undef, undef, undef, undef, undef, undef, undef, undef, undef, undef, undef, undef, undef, undef, undef, undef, undef, undef, undef, undef, undef, undef, undef, undef, undef, undef, undef, undef, undef, undef, undef, undef, undef, undef, undef, undef, undef, undef, undef, undef, undef, undef, undef, undef, undef, undef, undef, undef, undef, undef, undef, undef, undef, undef, undef, undef, undef, undef, undef, undef, undef, undef, undef, undef, undef, undef, undef, undef, undef, undef, undef, undef, undef, undef, undef, undef, undef, undef, undef, undef, undef, undef, undef, undef]) Try.func6 rfl (by simp only [Try.ntmps6, List.size_toArray, List.length_cons, List.length_nil, Nat.reduceAdd, Nat.reduceSub, Array.replicate_succ, Array.replicate_zero, List.push_toArray, List.append_toArray, List.nil_append, List.cons_append]) ?_
 refine x_seq fun K1 hK1 => ?_
 refine x_region ?_
 refine s_go (s_assign) ?_
 try simp only [opv, n1, n2, n3, n4, Value.cells]
 refine x_nil ?_
 refine hK1 _ _ ?_
 refine x_seq fun K2 hK2 => ?_
 refine x_seq fun K3 hK3 => ?_
 refine x_region ?_
 refine s_go (s_move) ?_
 try simp only [opv, n1, n2, n3, n4, Value.cells]
 refine s_go (s_len_sl Try.underlying24) ?_
 try simp only [opv, n1, n2, n3, n4, Value.cells]
 refine s_go (s_gtr) ?_
 try simp only [opv, n1, n2, n3, n4, Value.cells]
 refine s_go (s_move) ?_
 try simp only [opv, n1, n2, n3, n4, Value.cells]
 refine s_part 12 rfl (fun hp1 => ?_) (fun hp1 => ?_)
 ·
  try simp only [n3, n4]
  try simp only [decide_eq_true_eq, decide_eq_false_iff_not, Bool.not_eq_true', Bool.not_eq_false', Int.not_lt, Int.not_le, ne_eq, Decidable.not_not] at hp1
  first
  | (exfalso; omega)
  | skip
    refine g_off (yi (t := 12) rfl rfl) ?_
    try simp only [opv, n1, n2, n3, n4, Value.cells]
    refine g_off (yi (t := 12) rfl rfl) ?_
    try simp only [opv, n1, n2, n3, n4, Value.cells]
    refine g_off (yi (t := 12) rfl rfl) ?_
    try simp only [opv, n1, n2, n3, n4, Value.cells]
    first | refine s_go (s_pick_t) ?_ | refine s_go (s_pick_f) ?_
    try simp only [opv, n1, n2, n3, n4, Value.cells]
    refine s_go (s_move) ?_
    try simp only [opv, n1, n2, n3, n4, Value.cells]
    refine g_off (yi (t := 17) rfl rfl) ?_
    try simp only [opv, n1, n2, n3, n4, Value.cells]
    refine g_off (yi (t := 17) rfl rfl) ?_
    try simp only [opv, n1, n2, n3, n4, Value.cells]
    refine g_off (yi (t := 17) rfl rfl) ?_
    try simp only [opv, n1, n2, n3, n4, Value.cells]
    first | refine s_go (s_pick_t) ?_ | refine s_go (s_pick_f) ?_
    try simp only [opv, n1, n2, n3, n4, Value.cells]
    refine x_nil ?_
    refine hK3 _ _ ?_
    refine x_cond_t (h := ?_)
    refine x_seq fun K4 hK4 => ?_
    refine x_region ?_
    refine s_call en21 ?_
    try simp only [opv, n1, n2, n3, n4, Value.cells, List.map_toArray, List.map_cons, List.map_nil, List.append_toArray, List.cons_append, List.nil_append, Array.append_empty]
    refine CallR.mono (c_law10alive _) ?_
    rintro _ w1 ⟨rfl, hE1⟩
    replace hS := hS.ext hE1
    try simp only [opv, n1, n2, n3, n4, Value.cells]
    refine s_go (s_assign) ?_
    try simp only [opv, n1, n2, n3, n4, Value.cells]
    refine x_nil ?_
    refine hK4 _ _ ?_
    refine x_ret ?_
    refine r_tmp rfl ?_
    exact ⟨rfl, hS.ext_of⟩
 ·
  try simp only [n3, n4]
  try simp only [decide_eq_true_eq, decide_eq_false_iff_not, Bool.not_eq_true', Bool.not_eq_false', Int.not_lt, Int.not_le, ne_eq, Decidable.not_not] at hp1
  first
  | (exfalso; omega)
  | skip
    refine g_on (yi (t := 12) rfl rfl) ?_
    refine s_go (s_move) ?_
    try simp only [opv, n1, n2, n3, n4, Value.cells]
    refine g_on (yi (t := 12) rfl rfl) ?_
    refine s_go (s_len_sl Try.underlying24) ?_
    try simp only [opv, n1, n2, n3, n4, Value.cells]
    refine g_on (yi (t := 12) rfl rfl) ?_
    refine s_go (s_gtr) ?_
    try simp only [opv, n1, n2, n3, n4, Value.cells]
    first | refine s_go (s_pick_t) ?_ | refine s_go (s_pick_f) ?_
    try simp only [opv, n1, n2, n3, n4, Value.cells]
    refine s_go (s_move) ?_
    try simp only [opv, n1, n2, n3, n4, Value.cells]
    refine s_part 17 rfl (fun hp2 => ?_) (fun hp2 => ?_)
    ·
     try simp only [n3, n4]
     try simp only [decide_eq_true_eq, decide_eq_false_iff_not, Bool.not_eq_true', Bool.not_eq_false', Int.not_lt, Int.not_le, ne_eq, Decidable.not_not] at hp2
     first
     | (exfalso; omega)
     | skip
       refine g_off (yi (t := 17) rfl rfl) ?_
       try simp only [opv, n1, n2, n3, n4, Value.cells]
       refine g_off (yi (t := 17) rfl rfl) ?_
       try simp only [opv, n1, n2, n3, n4, Value.cells]
       refine g_off (yi (t := 17) rfl rfl) ?_
       try simp only [opv, n1, n2, n3, n4, Value.cells]
       first | refine s_go (s_pick_t) ?_ | refine s_go (s_pick_f) ?_
       try simp only [opv, n1, n2, n3, n4, Value.cells]
       refine x_nil ?_
       refine hK3 _ _ ?_
       refine x_cond_t (h := ?_)
       refine x_seq fun K5 hK5 => ?_
       refine x_region ?_
       refine s_call en21 ?_
       try simp only [opv, n1, n2, n3, n4, Value.cells, List.map_toArray, List.map_cons, List.map_nil, List.append_toArray, List.cons_append, List.nil_append, Array.append_empty]
       refine CallR.mono (c_law10alive _) ?_
       rintro _ w2 ⟨rfl, hE2⟩
       replace hS := hS.ext hE2
       try simp only [opv, n1, n2, n3, n4, Value.cells]
       refine s_go (s_assign) ?_
       try simp only [opv, n1, n2, n3, n4, Value.cells]
       refine x_nil ?_
       refine hK5 _ _ ?_
       refine x_ret ?_
       refine r_tmp rfl ?_
       exact ⟨rfl, hS.ext_of⟩
    ·
     try simp only [n3, n4]
     try simp only [decide_eq_true_eq, decide_eq_false_iff_not, Bool.not_eq_true', Bool.not_eq_false', Int.not_lt, Int.not_le, ne_eq, Decidable.not_not] at hp2
     first
     | (exfalso; omega)
     | skip
       refine g_on (yi (t := 17) rfl rfl) ?_
       refine s_go (s_move) ?_
       try simp only [opv, n1, n2, n3, n4, Value.cells]
       refine g_on (yi (t := 17) rfl rfl) ?_
       refine s_go (s_len_sl Try.underlying24) ?_
       try simp only [opv, n1, n2, n3, n4, Value.cells]
       refine g_on (yi (t := 17) rfl rfl) ?_
       refine s_go (s_gtr) ?_
       try simp only [opv, n1, n2, n3, n4, Value.cells]
       first | refine s_go (s_pick_t) ?_ | refine s_go (s_pick_f) ?_
       try simp only [opv, n1, n2, n3, n4, Value.cells]
       refine x_nil ?_
       refine hK3 _ _ ?_
       refine x_cond (ht := fun hc3 => ?_) (hf := fun hc3 => ?_)
       ·
        try simp only [decide_eq_true_eq, decide_eq_false_iff_not, Bool.not_eq_true', Bool.not_eq_false', Int.not_lt, Int.not_le, ne_eq, Decidable.not_not, bne_iff_ne, beq_iff_eq, not_true_eq_false, not_false_eq_true] at hc3
        first
        | (exfalso; omega)
        | skip
          refine x_seq fun K6 hK6 => ?_
          refine x_region ?_
          refine s_call en21 ?_
          try simp only [opv, n1, n2, n3, n4, Value.cells, List.map_toArray, List.map_cons, List.map_nil, List.append_toArray, List.cons_append, List.nil_append, Array.append_empty]
          refine CallR.mono (c_law10alive _) ?_
          rintro _ w3 ⟨rfl, hE3⟩
          replace hS := hS.ext hE3
          try simp only [opv, n1, n2, n3, n4, Value.cells]
          refine s_go (s_assign) ?_
          try simp only [opv, n1, n2, n3, n4, Value.cells]
          refine x_nil ?_
          refine hK6 _ _ ?_
          refine x_ret ?_
          refine r_tmp rfl ?_
          exact ⟨rfl, hS.ext_of⟩
       ·
        try simp only [decide_eq_true_eq, decide_eq_false_iff_not, Bool.not_eq_true', Bool.not_eq_false', Int.not_lt, Int.not_le, ne_eq, Decidable.not_not, bne_iff_ne, beq_iff_eq, not_true_eq_false, not_false_eq_true] at hc3
        first
        | (exfalso; omega)
        | skip
          have hn4 : l.length + r.length + q.length ≤ 120 := by omega
          have hjo := (norm_sta (hv.app hv2)).ok
          have hjl := norm_len (l ++ r)
          rw [List.length_append] at hjl
          have hmo := (meet_st hv hv2).ok
          have hml := meet_len (normP l) (normP r)
          have hnl := norm_len l
          have hnr := norm_len r
          have hnq := norm_len q
          have hrq := (norm_sta (hv2.app hv3)).ok
          have hrql := norm_len (r ++ q)
          rw [List.length_append] at hrql
          have hmo2 := (meet_st hv hv3).ok
          have hml2 := meet_len (normP l) (normP q)
          refine x_skip ?_
          refine hK2 _ _ ?_
          refine x_seq fun K7 hK7 => ?_
          refine x_region ?_
          refine s_go (s_move) ?_
          try simp only [opv, n1, n2, n3, n4, Value.cells]
          refine s_go (s_move) ?_
          try simp only [opv, n1, n2, n3, n4, Value.cells]
          refine s_call en33 ?_
          try simp only [opv, n1, n2, n3, n4, Value.cells, List.map_toArray, List.map_cons, List.map_nil, List.append_toArray, List.cons_append, List.nil_append, Array.append_empty]
          refine CallR.mono (c_latJoin _ A c l (hS.hasRd (by repeat (first | exact Has.head | apply Has.tail))) hv B d r (hS.hasRd (by repeat (first | exact Has.head | apply Has.tail))) hv2 (by omega)) ?_
          rintro _ w4 ⟨Aj, cj, rfl, hC4⟩
          replace hS := hS.call hC4
          simp only [List.cons_append, List.nil_append] at hS
          try simp only [opv, n1, n2, n3, n4, Value.cells]
          refine s_go (s_move) ?_
          try simp only [opv, n1, n2, n3, n4, Value.cells]
          refine s_go (s_move) ?_
          try simp only [opv, n1, n2, n3, n4, Value.cells]
          refine s_call en35 ?_
          try simp only [opv, n1, n2, n3, n4, Value.cells, List.map_toArray, List.map_cons, List.map_nil, List.append_toArray, List.cons_append, List.nil_append, Array.append_empty]
          refine CallR.mono (c_latMeet _ A c l (hS.hasRd (by repeat (first | exact Has.head | apply Has.tail))) hv B d r (hS.hasRd (by repeat (first | exact Has.head | apply Has.tail))) hv2 (by omega)) ?_
          rintro _ w5 ⟨Am, cm, rfl, hC5⟩
          replace hS := hS.call hC5
          simp only [List.cons_append, List.nil_append] at hS
          try simp only [opv, n1, n2, n3, n4, Value.cells]
          refine s_go (s_assign) ?_
          try simp only [opv, n1, n2, n3, n4, Value.cells]
          refine s_go (s_assign) ?_
          try simp only [opv, n1, n2, n3, n4, Value.cells]
          refine x_nil ?_
          refine hK7 _ _ ?_
          refine x_seq fun K8 hK8 => ?_
          refine x_seq fun K9 hK9 => ?_
          refine x_region ?_
          refine s_go (s_move) ?_
          try simp only [opv, n1, n2, n3, n4, Value.cells]
          refine s_call en29 ?_
          try simp only [opv, n1, n2, n3, n4, Value.cells, List.map_toArray, List.map_cons, List.map_nil, List.append_toArray, List.cons_append, List.nil_append, Array.append_empty]
          refine CallR.mono (c_latRight _ Aj cj (normP (l ++ r)) (hS.vecRd (by repeat (first | exact Has.head | apply Has.tail))) hjo (by omega)) ?_
          rintro _ w6 ⟨rfl, hE6⟩
          replace hS := hS.ext hE6
          try simp only [opv, n1, n2, n3, n4, Value.cells]
          rw [ls_r1 hv hv2]
          refine s_go (s_not) ?_
          try simp only [opv, n1, n2, n3, n4, Value.cells]
          refine s_go (s_move) ?_
          try simp only [opv, n1, n2, n3, n4, Value.cells]
          refine g_on (yi (t := 32) rfl rfl) ?_
          refine s_go (s_move) ?_
          try simp only [opv, n1, n2, n3, n4, Value.cells]
          refine g_on (yi (t := 32) rfl rfl) ?_
          refine s_call en29 ?_
          try simp only [opv, n1, n2, n3, n4, Value.cells, List.map_toArray, List.map_cons, List.map_nil, List.append_toArray, List.cons_append, List.nil_append, Array.append_empty]
          refine CallR.mono (c_latRight _ Am cm (meetP (normP l) (normP r)) (hS.vecRd (by repeat (first | exact Has.head | apply Has.tail))) hmo (by omega)) ?_
          rintro _ w7 ⟨rfl, hE7⟩
          replace hS := hS.ext hE7
          try simp only [opv, n1, n2, n3, n4, Value.cells]
          rw [ls_r2 hv hv2]
          refine g_on (yi (t := 32) rfl rfl) ?_
          refine s_go (s_not) ?_
          try simp only [opv, n1, n2, n3, n4, Value.cells]
          first | refine s_go (s_pick_t) ?_ | refine s_go (s_pick_f) ?_
          try simp only [opv, n1, n2, n3, n4, Value.cells]
          refine s_go (s_move) ?_
          try simp only [opv, n1, n2, n3, n4, Value.cells]
          refine g_on (yi (t := 37) rfl rfl) ?_
          refine s_go (s_move) ?_
          try simp only [opv, n1, n2, n3, n4, Value.cells]
          refine g_on (yi (t := 37) rfl rfl) ?_
          refine s_go (s_move) ?_
          try simp only [opv, n1, n2, n3, n4, Value.cells]
          refine g_on (yi (t := 37) rfl rfl) ?_
          refine s_call en37 ?_
          try simp only [opv, n1, n2, n3, n4, Value.cells, List.map_toArray, List.map_cons, List.map_nil, List.append_toArray, List.cons_append, List.nil_append, Array.append_empty]
          refine CallR.mono (c_latLeq _ A c l (hS.hasRd (by repeat (first | exact Has.head | apply Has.tail))) hv Aj cj (normP (l ++ r)) (hS.vecRd (by repeat (first | exact Has.head | apply Has.tail))) hjo (by omega)) ?_
          rintro _ w8 ⟨rfl, hE8⟩
          replace hS := hS.ext hE8
          try simp only [opv, n1, n2, n3, n4, Value.cells]
          rw [ls_1 hv hv2]
          refine g_on (yi (t := 37) rfl rfl) ?_
          refine s_go (s_not) ?_
          try simp only [opv, n1, n2, n3, n4, Value.cells]
          first | refine s_go (s_pick_t) ?_ | refine s_go (s_pick_f) ?_
          try simp only [opv, n1, n2, n3, n4, Value.cells]
          refine s_go (s_move) ?_
          try simp only [opv, n1, n2, n3, n4, Value.cells]
          refine g_on (yi (t := 43) rfl rfl) ?_
          refine s_go (s_move) ?_
          try simp only [opv, n1, n2, n3, n4, Value.cells]
          refine g_on (yi (t := 43) rfl rfl) ?_
          refine s_go (s_move) ?_
          try simp only [opv, n1, n2, n3, n4, Value.cells]
          refine g_on (yi (t := 43) rfl rfl) ?_
          refine s_call en37 ?_
          try simp only [opv, n1, n2, n3, n4, Value.cells, List.map_toArray, List.map_cons, List.map_nil, List.append_toArray, List.cons_append, List.nil_append, Array.append_empty]
          refine CallR.mono (c_latLeq _ B d r (hS.hasRd (by repeat (first | exact Has.head | apply Has.tail))) hv2 Aj cj (normP (l ++ r)) (hS.vecRd (by repeat (first | exact Has.head | apply Has.tail))) hjo (by omega)) ?_
          rintro _ w9 ⟨rfl, hE9⟩
          replace hS := hS.ext hE9
          try simp only [opv, n1, n2, n3, n4, Value.cells]
          rw [ls_2 hv hv2]
          refine g_on (yi (t := 43) rfl rfl) ?_
          refine s_go (s_not) ?_
          try simp only [opv, n1, n2, n3, n4, Value.cells]
          first | refine s_go (s_pick_t) ?_ | refine s_go (s_pick_f) ?_
          try simp only [opv, n1, n2, n3, n4, Value.cells]
          refine s_go (s_move) ?_
          try simp only [opv, n1, n2, n3, n4, Value.cells]
          refine g_on (yi (t := 49) rfl rfl) ?_
          refine s_go (s_move) ?_
          try simp only [opv, n1, n2, n3, n4, Value.cells]
          refine g_on (yi (t := 49) rfl rfl) ?_
          refine s_go (s_move) ?_
          try simp only [opv, n1, n2, n3, n4, Value.cells]
          refine g_on (yi (t := 49) rfl rfl) ?_
          refine s_call en37 ?_
          try simp only [opv, n1, n2, n3, n4, Value.cells, List.map_toArray, List.map_cons, List.map_nil, List.append_toArray, List.cons_append, List.nil_append, Array.append_empty]
          refine CallR.mono (c_latLeq _ Am cm (meetP (normP l) (normP r)) (hS.vecRd (by repeat (first | exact Has.head | apply Has.tail))) hmo A c l (hS.hasRd (by repeat (first | exact Has.head | apply Has.tail))) hv (by omega)) ?_
          rintro _ w10 ⟨rfl, hE10⟩
          replace hS := hS.ext hE10
          try simp only [opv, n1, n2, n3, n4, Value.cells]
          rw [ls_3 hv hv2]
          refine g_on (yi (t := 49) rfl rfl) ?_
          refine s_go (s_not) ?_
          try simp only [opv, n1, n2, n3, n4, Value.cells]
          first | refine s_go (s_pick_t) ?_ | refine s_go (s_pick_f) ?_
          try simp only [opv, n1, n2, n3, n4, Value.cells]
          refine s_go (s_move) ?_
          try simp only [opv, n1, n2, n3, n4, Value.cells]
          refine g_on (yi (t := 55) rfl rfl) ?_
          refine s_go (s_move) ?_
          try simp only [opv, n1, n2, n3, n4, Value.cells]
          refine g_on (yi (t := 55) rfl rfl) ?_
          refine s_go (s_move) ?_
          try simp only [opv, n1, n2, n3, n4, Value.cells]
          refine g_on (yi (t := 55) rfl rfl) ?_
          refine s_call en37 ?_
          try simp only [opv, n1, n2, n3, n4, Value.cells, List.map_toArray, List.map_cons, List.map_nil, List.append_toArray, List.cons_append, List.nil_append, Array.append_empty]
          refine CallR.mono (c_latLeq _ Am cm (meetP (normP l) (normP r)) (hS.vecRd (by repeat (first | exact Has.head | apply Has.tail))) hmo B d r (hS.hasRd (by repeat (first | exact Has.head | apply Has.tail))) hv2 (by omega)) ?_
          rintro _ w11 ⟨rfl, hE11⟩
          replace hS := hS.ext hE11
          try simp only [opv, n1, n2, n3, n4, Value.cells]
          rw [ls_4 hv hv2]
          refine g_on (yi (t := 55) rfl rfl) ?_
          refine s_go (s_not) ?_
          try simp only [opv, n1, n2, n3, n4, Value.cells]
          first | refine s_go (s_pick_t) ?_ | refine s_go (s_pick_f) ?_
          try simp only [opv, n1, n2, n3, n4, Value.cells]
          refine x_nil ?_
          refine hK9 _ _ ?_
          refine x_cond_f (h := ?_)
          refine x_skip ?_
          refine hK8 _ _ ?_
          refine x_seq_j [6, 61, 62, 63, 64, 65, 66, 67, 68, 69, 70, 71, 72, 73, 74, 75, 76, 77, 78, 79, 80, 81, 82, 83, 84, 85, 86, 87, 88, 89, 90] (fun f w => St NoB w0 w [.vec Aj cj 39 21 ((normP (l ++ r))).length (arows ((normP (l ++ r)))), .vec Am cm 39 21 ((meetP (normP l) (normP r))).length (arows ((meetP (normP l) (normP r)))), .rd A 21 (l).length (arows (l)), .rd B 21 (r).length (arows (r)), .rd C 21 (q).length (arows (q))]) ?jx1 ?jy1
          case jx1 =>
           refine x_seq fun K10 hK10 => ?_
           refine x_region ?_
           refine s_go (s_move) ?_
           try simp only [opv, n1, n2, n3, n4, Value.cells]
           refine s_go (s_move) ?_
           try simp only [opv, n1, n2, n3, n4, Value.cells]
           refine s_call en37 ?_
           try simp only [opv, n1, n2, n3, n4, Value.cells, List.map_toArray, List.map_cons, List.map_nil, List.append_toArray, List.cons_append, List.nil_append, Array.append_empty]
           refine CallR.mono (c_latLeq _ A c l (hS.hasRd (by repeat (first | exact Has.head | apply Has.tail))) hv C e q (hS.hasRd (by repeat (first | exact Has.head | apply Has.tail))) hv3 (by omega)) ?_
           rintro _ w12 ⟨rfl, hE12⟩
           replace hS := hS.ext hE12
           try simp only [opv, n1, n2, n3, n4, Value.cells]
           refine s_go (s_move) ?_
           try simp only [opv, n1, n2, n3, n4, Value.cells]
           refine s_part 64 rfl (fun hp3 => ?_) (fun hp3 => ?_)
           ·
            try simp only [n3, n4]
            try simp only [decide_eq_true_eq, decide_eq_false_iff_not, Bool.not_eq_true', Bool.not_eq_false', Int.not_lt, Int.not_le, ne_eq, Decidable.not_not] at hp3
            first
            | (exfalso; omega)
            | skip
              have b1 : leqP (normP l) (normP q) = true := hp3
              refine g_on (yi (t := 64) rfl rfl) ?_
              refine s_go (s_move) ?_
              try simp only [opv, n1, n2, n3, n4, Value.cells]
              refine g_on (yi (t := 64) rfl rfl) ?_
              refine s_go (s_move) ?_
              try simp only [opv, n1, n2, n3, n4, Value.cells]
              refine g_on (yi (t := 64) rfl rfl) ?_
              refine s_call en37 ?_
              try simp only [opv, n1, n2, n3, n4, Value.cells, List.map_toArray, List.map_cons, List.map_nil, List.append_toArray, List.cons_append, List.nil_append, Array.append_empty]
              refine CallR.mono (c_latLeq _ B d r (hS.hasRd (by repeat (first | exact Has.head | apply Has.tail))) hv2 C e q (hS.hasRd (by repeat (first | exact Has.head | apply Has.tail))) hv3 (by omega)) ?_
              rintro _ w13 ⟨rfl, hE13⟩
              replace hS := hS.ext hE13
              try simp only [opv, n1, n2, n3, n4, Value.cells]
              first | refine s_go (s_pick_t) ?_ | refine s_go (s_pick_f) ?_
              try simp only [opv, n1, n2, n3, n4, Value.cells]
              refine s_go (s_move) ?_
              try simp only [opv, n1, n2, n3, n4, Value.cells]
              refine s_part 69 rfl (fun hp4 => ?_) (fun hp4 => ?_)
              ·
               try simp only [n3, n4]
               try simp only [decide_eq_true_eq, decide_eq_false_iff_not, Bool.not_eq_true', Bool.not_eq_false', Int.not_lt, Int.not_le, ne_eq, Decidable.not_not] at hp4
               first
               | (exfalso; omega)
               | skip
                 have b2 : leqP (normP r) (normP q) = true := hp4
                 refine g_on (yi (t := 69) rfl rfl) ?_
                 refine s_go (s_move) ?_
                 try simp only [opv, n1, n2, n3, n4, Value.cells]
                 refine g_on (yi (t := 69) rfl rfl) ?_
                 refine s_go (s_move) ?_
                 try simp only [opv, n1, n2, n3, n4, Value.cells]
                 refine g_on (yi (t := 69) rfl rfl) ?_
                 refine s_call en37 ?_
                 try simp only [opv, n1, n2, n3, n4, Value.cells, List.map_toArray, List.map_cons, List.map_nil, List.append_toArray, List.cons_append, List.nil_append, Array.append_empty]
                 refine CallR.mono (c_latLeq _ Aj cj (normP (l ++ r)) (hS.vecRd (by repeat (first | exact Has.head | apply Has.tail))) hjo C e q (hS.hasRd (by repeat (first | exact Has.head | apply Has.tail))) hv3 (by omega)) ?_
                 rintro _ w14 ⟨rfl, hE14⟩
                 replace hS := hS.ext hE14
                 try simp only [opv, n1, n2, n3, n4, Value.cells]
                 rw [ls_5 hv hv2 hv3 b1 b2]
                 refine g_on (yi (t := 69) rfl rfl) ?_
                 refine s_go (s_not) ?_
                 try simp only [opv, n1, n2, n3, n4, Value.cells]
                 first | refine s_go (s_pick_t) ?_ | refine s_go (s_pick_f) ?_
                 try simp only [opv, n1, n2, n3, n4, Value.cells]
                 refine s_go (s_move) ?_
                 try simp only [opv, n1, n2, n3, n4, Value.cells]
                 refine g_on (yi (t := 75) rfl rfl) ?_
                 refine s_go (s_move) ?_
                 try simp only [opv, n1, n2, n3, n4, Value.cells]
                 refine g_on (yi (t := 75) rfl rfl) ?_
                 refine s_go (s_move) ?_
                 try simp only [opv, n1, n2, n3, n4, Value.cells]
                 refine g_on (yi (t := 75) rfl rfl) ?_
                 refine s_call en37 ?_
                 try simp only [opv, n1, n2, n3, n4, Value.cells, List.map_toArray, List.map_cons, List.map_nil, List.append_toArray, List.cons_append, List.nil_append, Array.append_empty]
                 refine CallR.mono (c_latLeq _ C e q (hS.hasRd (by repeat (first | exact Has.head | apply Has.tail))) hv3 A c l (hS.hasRd (by repeat (first | exact Has.head | apply Has.tail))) hv (by omega)) ?_
                 rintro _ w15 ⟨rfl, hE15⟩
                 replace hS := hS.ext hE15
                 try simp only [opv, n1, n2, n3, n4, Value.cells]
                 refine g_on (yi (t := 75) rfl rfl) ?_
                 refine s_go (s_move) ?_
                 try simp only [opv, n1, n2, n3, n4, Value.cells]
                 refine s_part 79 rfl (fun hp5 => ?_) (fun hp5 => ?_)
                 ·
                  try simp only [n3, n4]
                  try simp only [decide_eq_true_eq, decide_eq_false_iff_not, Bool.not_eq_true', Bool.not_eq_false', Int.not_lt, Int.not_le, ne_eq, Decidable.not_not] at hp5
                  first
                  | (exfalso; omega)
                  | skip
                    have b3 : leqP (normP q) (normP l) = true := hp5
                    refine g_on (yi (t := 79) rfl rfl) ?_
                    refine s_go (s_move) ?_
                    try simp only [opv, n1, n2, n3, n4, Value.cells]
                    refine g_on (yi (t := 79) rfl rfl) ?_
                    refine s_go (s_move) ?_
                    try simp only [opv, n1, n2, n3, n4, Value.cells]
                    refine g_on (yi (t := 79) rfl rfl) ?_
                    refine s_call en37 ?_
                    try simp only [opv, n1, n2, n3, n4, Value.cells, List.map_toArray, List.map_cons, List.map_nil, List.append_toArray, List.cons_append, List.nil_append, Array.append_empty]
                    refine CallR.mono (c_latLeq _ C e q (hS.hasRd (by repeat (first | exact Has.head | apply Has.tail))) hv3 B d r (hS.hasRd (by repeat (first | exact Has.head | apply Has.tail))) hv2 (by omega)) ?_
                    rintro _ w16 ⟨rfl, hE16⟩
                    replace hS := hS.ext hE16
                    try simp only [opv, n1, n2, n3, n4, Value.cells]
                    refine g_on (yi (t := 75) rfl rfl) ?_
                    first | refine s_go (s_pick_t) ?_ | refine s_go (s_pick_f) ?_
                    try simp only [opv, n1, n2, n3, n4, Value.cells]
                    refine g_on (yi (t := 75) rfl rfl) ?_
                    refine s_go (s_move) ?_
                    try simp only [opv, n1, n2, n3, n4, Value.cells]
                    refine s_part 84 rfl (fun hp6 => ?_) (fun hp6 => ?_)
                    ·
                     try simp only [n3, n4]
                     try simp only [decide_eq_true_eq, decide_eq_false_iff_not, Bool.not_eq_true', Bool.not_eq_false', Int.not_lt, Int.not_le, ne_eq, Decidable.not_not] at hp6
                     first
                     | (exfalso; omega)
                     | skip
                       have b4 : leqP (normP q) (normP r) = true := hp6
                       refine g_on (yi (t := 84) rfl rfl) ?_
                       refine s_go (s_move) ?_
                       try simp only [opv, n1, n2, n3, n4, Value.cells]
                       refine g_on (yi (t := 84) rfl rfl) ?_
                       refine s_go (s_move) ?_
                       try simp only [opv, n1, n2, n3, n4, Value.cells]
                       refine g_on (yi (t := 84) rfl rfl) ?_
                       refine s_call en37 ?_
                       try simp only [opv, n1, n2, n3, n4, Value.cells, List.map_toArray, List.map_cons, List.map_nil, List.append_toArray, List.cons_append, List.nil_append, Array.append_empty]
                       refine CallR.mono (c_latLeq _ C e q (hS.hasRd (by repeat (first | exact Has.head | apply Has.tail))) hv3 Am cm (meetP (normP l) (normP r)) (hS.vecRd (by repeat (first | exact Has.head | apply Has.tail))) hmo (by omega)) ?_
                       rintro _ w17 ⟨rfl, hE17⟩
                       replace hS := hS.ext hE17
                       try simp only [opv, n1, n2, n3, n4, Value.cells]
                       rw [ls_6 hv hv2 hv3 b3 b4]
                       refine g_on (yi (t := 84) rfl rfl) ?_
                       refine s_go (s_not) ?_
                       try simp only [opv, n1, n2, n3, n4, Value.cells]
                       refine g_on (yi (t := 75) rfl rfl) ?_
                       first | refine s_go (s_pick_t) ?_ | refine s_go (s_pick_f) ?_
                       try simp only [opv, n1, n2, n3, n4, Value.cells]
                       first | refine s_go (s_pick_t) ?_ | refine s_go (s_pick_f) ?_
                       try simp only [opv, n1, n2, n3, n4, Value.cells]
                       refine x_nil ?_
                       refine hK10 _ _ ?_
                       refine x_cond_f (h := ?_)
                       refine x_skip ?_
                       refine mix_leaf (by simp only [clob, List.foldl, n1, n2, n3, n4]) ?_
                       try simp only [n1, n2]
                       exact hS.sel (by repeat (first | exact Sel.nil | (refine Sel.cons (by repeat (first | exact Del.head | apply Del.tail)) ?_)))
                    ·
                     try simp only [n3, n4]
                     try simp only [decide_eq_true_eq, decide_eq_false_iff_not, Bool.not_eq_true', Bool.not_eq_false', Int.not_lt, Int.not_le, ne_eq, Decidable.not_not] at hp6
                     first
                     | (exfalso; omega)
                     | skip
                       refine g_off (yi (t := 84) rfl rfl) ?_
                       try simp only [opv, n1, n2, n3, n4, Value.cells]
                       refine g_off (yi (t := 84) rfl rfl) ?_
                       try simp only [opv, n1, n2, n3, n4, Value.cells]
                       refine g_off (yi (t := 84) rfl rfl) ?_
                       try simp only [opv, n1, n2, n3, n4, Value.cells]
                       refine g_off (yi (t := 84) rfl rfl) ?_
                       try simp only [opv, n1, n2, n3, n4, Value.cells]
                       refine g_on (yi (t := 75) rfl rfl) ?_
                       first | refine s_go (s_pick_t) ?_ | refine s_go (s_pick_f) ?_
                       try simp only [opv, n1, n2, n3, n4, Value.cells]
                       first | refine s_go (s_pick_t) ?_ | refine s_go (s_pick_f) ?_
                       try simp only [opv, n1, n2, n3, n4, Value.cells]
                       refine x_nil ?_
                       refine hK10 _ _ ?_
                       refine x_cond_f (h := ?_)
                       refine x_skip ?_
                       refine mix_leaf (by simp only [clob, List.foldl, n1, n2, n3, n4]) ?_
                       try simp only [n1, n2]
                       exact hS.sel (by repeat (first | exact Sel.nil | (refine Sel.cons (by repeat (first | exact Del.head | apply Del.tail)) ?_)))
                 ·
                  try simp only [n3, n4]
                  try simp only [decide_eq_true_eq, decide_eq_false_iff_not, Bool.not_eq_true', Bool.not_eq_false', Int.not_lt, Int.not_le, ne_eq, Decidable.not_not] at hp5
                  first
                  | (exfalso; omega)
                  | skip
                    refine g_off (yi (t := 79) rfl rfl) ?_
                    try simp only [opv, n1, n2, n3, n4, Value.cells]
                    refine g_off (yi (t := 79) rfl rfl) ?_
                    try simp only [opv, n1, n2, n3, n4, Value.cells]
                    refine g_off (yi (t := 79) rfl rfl) ?_
                    try simp only [opv, n1, n2, n3, n4, Value.cells]
                    refine g_on (yi (t := 75) rfl rfl) ?_
                    first | refine s_go (s_pick_t) ?_ | refine s_go (s_pick_f) ?_
                    try simp only [opv, n1, n2, n3, n4, Value.cells]
                    refine g_on (yi (t := 75) rfl rfl) ?_
                    refine s_go (s_move) ?_
                    try simp only [opv, n1, n2, n3, n4, Value.cells]
                    refine g_off (yi (t := 84) rfl rfl) ?_
                    try simp only [opv, n1, n2, n3, n4, Value.cells]
                    refine g_off (yi (t := 84) rfl rfl) ?_
                    try simp only [opv, n1, n2, n3, n4, Value.cells]
                    refine g_off (yi (t := 84) rfl rfl) ?_
                    try simp only [opv, n1, n2, n3, n4, Value.cells]
                    refine g_off (yi (t := 84) rfl rfl) ?_
                    try simp only [opv, n1, n2, n3, n4, Value.cells]
                    refine g_on (yi (t := 75) rfl rfl) ?_
                    first | refine s_go (s_pick_t) ?_ | refine s_go (s_pick_f) ?_
                    try simp only [opv, n1, n2, n3, n4, Value.cells]
                    first | refine s_go (s_pick_t) ?_ | refine s_go (s_pick_f) ?_
                    try simp only [opv, n1, n2, n3, n4, Value.cells]
                    refine x_nil ?_
                    refine hK10 _ _ ?_
                    refine x_cond_f (h := ?_)
                    refine x_skip ?_
                    refine mix_leaf (by simp only [clob, List.foldl, n1, n2, n3, n4]) ?_
                    try simp only [n1, n2]
                    exact hS.sel (by repeat (first | exact Sel.nil | (refine Sel.cons (by repeat (first | exact Del.head | apply Del.tail)) ?_)))
              ·
               try simp only [n3, n4]
               try simp only [decide_eq_true_eq, decide_eq_false_iff_not, Bool.not_eq_true', Bool.not_eq_false', Int.not_lt, Int.not_le, ne_eq, Decidable.not_not] at hp4
               first
               | (exfalso; omega)
               | skip
                 refine g_off (yi (t := 69) rfl rfl) ?_
                 try simp only [opv, n1, n2, n3, n4, Value.cells]
                 refine g_off (yi (t := 69) rfl rfl) ?_
                 try simp only [opv, n1, n2, n3, n4, Value.cells]
                 refine g_off (yi (t := 69) rfl rfl) ?_
                 try simp only [opv, n1, n2, n3, n4, Value.cells]
                 refine g_off (yi (t := 69) rfl rfl) ?_
                 try simp only [opv, n1, n2, n3, n4, Value.cells]
                 first | refine s_go (s_pick_t) ?_ | refine s_go (s_pick_f) ?_
                 try simp only [opv, n1, n2, n3, n4, Value.cells]
                 refine s_go (s_move) ?_
                 try simp only [opv, n1, n2, n3, n4, Value.cells]
                 refine g_on (yi (t := 75) rfl rfl) ?_
                 refine s_go (s_move) ?_
                 try simp only [opv, n1, n2, n3, n4, Value.cells]
                 refine g_on (yi (t := 75) rfl rfl) ?_
                 refine s_go (s_move) ?_
                 try simp only [opv, n1, n2, n3, n4, Value.cells]
                 refine g_on (yi (t := 75) rfl rfl) ?_
                 refine s_call en37 ?_
                 try simp only [opv, n1, n2, n3, n4, Value.cells, List.map_toArray, List.map_cons, List.map_nil, List.append_toArray, List.cons_append, List.nil_append, Array.append_empty]
                 refine CallR.mono (c_latLeq _ C e q (hS.hasRd (by repeat (first | exact Has.head | apply Has.tail))) hv3 A c l (hS.hasRd (by repeat (first | exact Has.head | apply Has.tail))) hv (by omega)) ?_
                 rintro _ w18 ⟨rfl, hE18⟩
                 replace hS := hS.ext hE18
                 try simp only [opv, n1, n2, n3, n4, Value.cells]
                 refine g_on (yi (t := 75) rfl rfl) ?_
                 refine s_go (s_move) ?_
                 try simp only [opv, n1, n2, n3, n4, Value.cells]
                 refine s_part 79 rfl (fun hp7 => ?_) (fun hp7 => ?_)
                 ·
                  try simp only [n3, n4]
                  try simp only [decide_eq_true_eq, decide_eq_false_iff_not, Bool.not_eq_true', Bool.not_eq_false', Int.not_lt, Int.not_le, ne_eq, Decidable.not_not] at hp7
                  first
                  | (exfalso; omega)
                  | skip
                    have b3 : leqP (normP q) (normP l) = true := hp7
                    refine g_on (yi (t := 79) rfl rfl) ?_
                    refine s_go (s_move) ?_
                    try simp only [opv, n1, n2, n3, n4, Value.cells]
                    refine g_on (yi (t := 79) rfl rfl) ?_
                    refine s_go (s_move) ?_
                    try simp only [opv, n1, n2, n3, n4, Value.cells]
                    refine g_on (yi (t := 79) rfl rfl) ?_
                    refine s_call en37 ?_
                    try simp only [opv, n1, n2, n3, n4, Value.cells, List.map_toArray, List.map_cons, List.map_nil, List.append_toArray, List.cons_append, List.nil_append, Array.append_empty]
                    refine CallR.mono (c_latLeq _ C e q (hS.hasRd (by repeat (first | exact Has.head | apply Has.tail))) hv3 B d r (hS.hasRd (by repeat (first | exact Has.head | apply Has.tail))) hv2 (by omega)) ?_
                    rintro _ w19 ⟨rfl, hE19⟩
                    replace hS := hS.ext hE19
                    try simp only [opv, n1, n2, n3, n4, Value.cells]
                    refine g_on (yi (t := 75) rfl rfl) ?_
                    first | refine s_go (s_pick_t) ?_ | refine s_go (s_pick_f) ?_
                    try simp only [opv, n1, n2, n3, n4, Value.cells]
                    refine g_on (yi (t := 75) rfl rfl) ?_
                    refine s_go (s_move) ?_
                    try simp only [opv, n1, n2, n3, n4, Value.cells]
                    refine s_part 84 rfl (fun hp8 => ?_) (fun hp8 => ?_)
                    ·
                     try simp only [n3, n4]
                     try simp only [decide_eq_true_eq, decide_eq_false_iff_not, Bool.not_eq_true', Bool.not_eq_false', Int.not_lt, Int.not_le, ne_eq, Decidable.not_not] at hp8
                     first
                     | (exfalso; omega)
                     | skip
                       have b4 : leqP (normP q) (normP r) = true := hp8
                       refine g_on (yi (t := 84) rfl rfl) ?_
                       refine s_go (s_move) ?_
                       try simp only [opv, n1, n2, n3, n4, Value.cells]
                       refine g_on (yi (t := 84) rfl rfl) ?_
                       refine s_go (s_move) ?_
                       try simp only [opv, n1, n2, n3, n4, Value.cells]
                       refine g_on (yi (t := 84) rfl rfl) ?_
                       refine s_call en37 ?_
                       try simp only [opv, n1, n2, n3, n4, Value.cells, List.map_toArray, List.map_cons, List.map_nil, List.append_toArray, List.cons_append, List.nil_append, Array.append_empty]
                       refine CallR.mono (c_latLeq _ C e q (hS.hasRd (by repeat (first | exact Has.head | apply Has.tail))) hv3 Am cm (meetP (normP l) (normP r)) (hS.vecRd (by repeat (first | exact Has.head | apply Has.tail))) hmo (by omega)) ?_
                       rintro _ w20 ⟨rfl, hE20⟩
                       replace hS := hS.ext hE20
                       try simp only [opv, n1, n2, n3, n4, Value.cells]
                       rw [ls_6 hv hv2 hv3 b3 b4]
                       refine g_on (yi (t := 84) rfl rfl) ?_
                       refine s_go (s_not) ?_
                       try simp only [opv, n1, n2, n3, n4, Value.cells]
                       refine g_on (yi (t := 75) rfl rfl) ?_
                       first | refine s_go (s_pick_t) ?_ | refine s_go (s_pick_f) ?_
                       try simp only [opv, n1, n2, n3, n4, Value.cells]
                       first | refine s_go (s_pick_t) ?_ | refine s_go (s_pick_f) ?_
                       try simp only [opv, n1, n2, n3, n4, Value.cells]
                       refine x_nil ?_
                       refine hK10 _ _ ?_
                       refine x_cond_f (h := ?_)
                       refine x_skip ?_
                       refine mix_leaf (by simp only [clob, List.foldl, n1, n2, n3, n4]) ?_
                       try simp only [n1, n2]
                       exact hS.sel (by repeat (first | exact Sel.nil | (refine Sel.cons (by repeat (first | exact Del.head | apply Del.tail)) ?_)))
                    ·
                     try simp only [n3, n4]
                     try simp only [decide_eq_true_eq, decide_eq_false_iff_not, Bool.not_eq_true', Bool.not_eq_false', Int.not_lt, Int.not_le, ne_eq, Decidable.not_not] at hp8
                     first
                     | (exfalso; omega)
                     | skip
                       refine g_off (yi (t := 84) rfl rfl) ?_
                       try simp only [opv, n1, n2, n3, n4, Value.cells]
                       refine g_off (yi (t := 84) rfl rfl) ?_
                       try simp only [opv, n1, n2, n3, n4, Value.cells]
                       refine g_off (yi (t := 84) rfl rfl) ?_
                       try simp only [opv, n1, n2, n3, n4, Value.cells]
                       refine g_off (yi (t := 84) rfl rfl) ?_
                       try simp only [opv, n1, n2, n3, n4, Value.cells]
                       refine g_on (yi (t := 75) rfl rfl) ?_
                       first | refine s_go (s_pick_t) ?_ | refine s_go (s_pick_f) ?_
                       try simp only [opv, n1, n2, n3, n4, Value.cells]
                       first | refine s_go (s_pick_t) ?_ | refine s_go (s_pick_f) ?_
                       try simp only [opv, n1, n2, n3, n4, Value.cells]
                       refine x_nil ?_
                       refine hK10 _ _ ?_
                       refine x_cond_f (h := ?_)
                       refine x_skip ?_
                       refine mix_leaf (by simp only [clob, List.foldl, n1, n2, n3, n4]) ?_
                       try simp only [n1, n2]
                       exact hS.sel (by repeat (first | exact Sel.nil | (refine Sel.cons (by repeat (first | exact Del.head | apply Del.tail)) ?_)))
                 ·
                  try simp only [n3, n4]
                  try simp only [decide_eq_true_eq, decide_eq_false_iff_not, Bool.not_eq_true', Bool.not_eq_false', Int.not_lt, Int.not_le, ne_eq, Decidable.not_not] at hp7
                  first
                  | (exfalso; omega)
                  | skip
                    refine g_off (yi (t := 79) rfl rfl) ?_
                    try simp only [opv, n1, n2, n3, n4, Value.cells]
                    refine g_off (yi (t := 79) rfl rfl) ?_
                    try simp only [opv, n1, n2, n3, n4, Value.cells]
                    refine g_off (yi (t := 79) rfl rfl) ?_
                    try simp only [opv, n1, n2, n3, n4, Value.cells]
                    refine g_on (yi (t := 75) rfl rfl) ?_
                    first | refine s_go (s_pick_t) ?_ | refine s_go (s_pick_f) ?_
                    try simp only [opv, n1, n2, n3, n4, Value.cells]
                    refine g_on (yi (t := 75) rfl rfl) ?_
                    refine s_go (s_move) ?_
                    try simp only [opv, n1, n2, n3, n4, Value.cells]
                    refine g_off (yi (t := 84) rfl rfl) ?_
                    try simp only [opv, n1, n2, n3, n4, Value.cells]
                    refine g_off (yi (t := 84) rfl rfl) ?_
                    try simp only [opv, n1, n2, n3, n4, Value.cells]
                    refine g_off (yi (t := 84) rfl rfl) ?_
                    try simp only [opv, n1, n2, n3, n4, Value.cells]
                    refine g_off (yi (t := 84) rfl rfl) ?_
                    try simp only [opv, n1, n2, n3, n4, Value.cells]
                    refine g_on (yi (t := 75) rfl rfl) ?_
                    first | refine s_go (s_pick_t) ?_ | refine s_go (s_pick_f) ?_
                    try simp only [opv, n1, n2, n3, n4, Value.cells]
                    first | refine s_go (s_pick_t) ?_ | refine s_go (s_pick_f) ?_
                    try simp only [opv, n1, n2, n3, n4, Value.cells]
                    refine x_nil ?_
                    refine hK10 _ _ ?_
                    refine x_cond_f (h := ?_)
                    refine x_skip ?_
                    refine mix_leaf (by simp only [clob, List.foldl, n1, n2, n3, n4]) ?_
                    try simp only [n1, n2]
                    exact hS.sel (by repeat (first | exact Sel.nil | (refine Sel.cons (by repeat (first | exact Del.head | apply Del.tail)) ?_)))
           ·
            try simp only [n3, n4]
            try simp only [decide_eq_true_eq, decide_eq_false_iff_not, Bool.not_eq_true', Bool.not_eq_false', Int.not_lt, Int.not_le, ne_eq, Decidable.not_not] at hp3
            first
            | (exfalso; omega)
            | skip
              refine g_off (yi (t := 64) rfl rfl) ?_
              try simp only [opv, n1, n2, n3, n4, Value.cells]
              refine g_off (yi (t := 64) rfl rfl) ?_
              try simp only [opv, n1, n2, n3, n4, Value.cells]
              refine g_off (yi (t := 64) rfl rfl) ?_
              try simp only [opv, n1, n2, n3, n4, Value.cells]
              first | refine s_go (s_pick_t) ?_ | refine s_go (s_pick_f) ?_
              try simp only [opv, n1, n2, n3, n4, Value.cells]
              refine s_go (s_move) ?_
              try simp only [opv, n1, n2, n3, n4, Value.cells]
              refine g_off (yi (t := 69) rfl rfl) ?_
              try simp only [opv, n1, n2, n3, n4, Value.cells]
              refine g_off (yi (t := 69) rfl rfl) ?_
              try simp only [opv, n1, n2, n3, n4, Value.cells]
              refine g_off (yi (t := 69) rfl rfl) ?_
              try simp only [opv, n1, n2, n3, n4, Value.cells]
              refine g_off (yi (t := 69) rfl rfl) ?_
              try simp only [opv, n1, n2, n3, n4, Value.cells]
              first | refine s_go (s_pick_t) ?_ | refine s_go (s_pick_f) ?_
              try simp only [opv, n1, n2, n3, n4, Value.cells]
              refine s_go (s_move) ?_
              try simp only [opv, n1, n2, n3, n4, Value.cells]
              refine g_on (yi (t := 75) rfl rfl) ?_
              refine s_go (s_move) ?_
              try simp only [opv, n1, n2, n3, n4, Value.cells]
              refine g_on (yi (t := 75) rfl rfl) ?_
              refine s_go (s_move) ?_
              try simp only [opv, n1, n2, n3, n4, Value.cells]
              refine g_on (yi (t := 75) rfl rfl) ?_
              refine s_call en37 ?_
              try simp only [opv, n1, n2, n3, n4, Value.cells, List.map_toArray, List.map_cons, List.map_nil, List.append_toArray, List.cons_append, List.nil_append, Array.append_empty]
              refine CallR.mono (c_latLeq _ C e q (hS.hasRd (by repeat (first | exact Has.head | apply Has.tail))) hv3 A c l (hS.hasRd (by repeat (first | exact Has.head | apply Has.tail))) hv (by omega)) ?_
              rintro _ w21 ⟨rfl, hE21⟩
              replace hS := hS.ext hE21
              try simp only [opv, n1, n2, n3, n4, Value.cells]
              refine g_on (yi (t := 75) rfl rfl) ?_
              refine s_go (s_move) ?_
              try simp only [opv, n1, n2, n3, n4, Value.cells]
              refine s_part 79 rfl (fun hp9 => ?_) (fun hp9 => ?_)
              ·
               try simp only [n3, n4]
               try simp only [decide_eq_true_eq, decide_eq_false_iff_not, Bool.not_eq_true', Bool.not_eq_false', Int.not_lt, Int.not_le, ne_eq, Decidable.not_not] at hp9
               first
               | (exfalso; omega)
               | skip
                 have b3 : leqP (normP q) (normP l) = true := hp9
                 refine g_on (yi (t := 79) rfl rfl) ?_
                 refine s_go (s_move) ?_
                 try simp only [opv, n1, n2, n3, n4, Value.cells]
                 refine g_on (yi (t := 79) rfl rfl) ?_
                 refine s_go (s_move) ?_
                 try simp only [opv, n1, n2, n3, n4, Value.cells]
                 refine g_on (yi (t := 79) rfl rfl) ?_
                 refine s_call en37 ?_
                 try simp only [opv, n1, n2, n3, n4, Value.cells, List.map_toArray, List.map_cons, List.map_nil, List.append_toArray, List.cons_append, List.nil_append, Array.append_empty]
                 refine CallR.mono (c_latLeq _ C e q (hS.hasRd (by repeat (first | exact Has.head | apply Has.tail))) hv3 B d r (hS.hasRd (by repeat (first | exact Has.head | apply Has.tail))) hv2 (by omega)) ?_
                 rintro _ w22 ⟨rfl, hE22⟩
                 replace hS := hS.ext hE22
                 try simp only [opv, n1, n2, n3, n4, Value.cells]
                 refine g_on (yi (t := 75) rfl rfl) ?_
                 first | refine s_go (s_pick_t) ?_ | refine s_go (s_pick_f) ?_
                 try simp only [opv, n1, n2, n3, n4, Value.cells]
                 refine g_on (yi (t := 75) rfl rfl) ?_
                 refine s_go (s_move) ?_
                 try simp only [opv, n1, n2, n3, n4, Value.cells]
                 refine s_part 84 rfl (fun hp10 => ?_) (fun hp10 => ?_)
                 ·
                  try simp only [n3, n4]
                  try simp only [decide_eq_true_eq, decide_eq_false_iff_not, Bool.not_eq_true', Bool.not_eq_false', Int.not_lt, Int.not_le, ne_eq, Decidable.not_not] at hp10
                  first
                  | (exfalso; omega)
                  | skip
                    have b4 : leqP (normP q) (normP r) = true := hp10
                    refine g_on (yi (t := 84) rfl rfl) ?_
                    refine s_go (s_move) ?_
                    try simp only [opv, n1, n2, n3, n4, Value.cells]
                    refine g_on (yi (t := 84) rfl rfl) ?_
                    refine s_go (s_move) ?_
                    try simp only [opv, n1, n2, n3, n4, Value.cells]
                    refine g_on (yi (t := 84) rfl rfl) ?_
                    refine s_call en37 ?_
                    try simp only [opv, n1, n2, n3, n4, Value.cells, List.map_toArray, List.map_cons, List.map_nil, List.append_toArray, List.cons_append, List.nil_append, Array.append_empty]
                    refine CallR.mono (c_latLeq _ C e q (hS.hasRd (by repeat (first | exact Has.head | apply Has.tail))) hv3 Am cm (meetP (normP l) (normP r)) (hS.vecRd (by repeat (first | exact Has.head | apply Has.tail))) hmo (by omega)) ?_
                    rintro _ w23 ⟨rfl, hE23⟩
                    replace hS := hS.ext hE23
                    try simp only [opv, n1, n2, n3, n4, Value.cells]
                    rw [ls_6 hv hv2 hv3 b3 b4]
                    refine g_on (yi (t := 84) rfl rfl) ?_
                    refine s_go (s_not) ?_
                    try simp only [opv, n1, n2, n3, n4, Value.cells]
                    refine g_on (yi (t := 75) rfl rfl) ?_
                    first | refine s_go (s_pick_t) ?_ | refine s_go (s_pick_f) ?_
                    try simp only [opv, n1, n2, n3, n4, Value.cells]
                    first | refine s_go (s_pick_t) ?_ | refine s_go (s_pick_f) ?_
                    try simp only [opv, n1, n2, n3, n4, Value.cells]
                    refine x_nil ?_
                    refine hK10 _ _ ?_
                    refine x_cond_f (h := ?_)
                    refine x_skip ?_
                    refine mix_leaf (by simp only [clob, List.foldl, n1, n2, n3, n4]) ?_
                    try simp only [n1, n2]
                    exact hS.sel (by repeat (first | exact Sel.nil | (refine Sel.cons (by repeat (first | exact Del.head | apply Del.tail)) ?_)))
                 ·
                  try simp only [n3, n4]
                  try simp only [decide_eq_true_eq, decide_eq_false_iff_not, Bool.not_eq_true', Bool.not_eq_false', Int.not_lt, Int.not_le, ne_eq, Decidable.not_not] at hp10
                  first
                  | (exfalso; omega)
                  | skip
                    refine g_off (yi (t := 84) rfl rfl) ?_
                    try simp only [opv, n1, n2, n3, n4, Value.cells]
                    refine g_off (yi (t := 84) rfl rfl) ?_
                    try simp only [opv, n1, n2, n3, n4, Value.cells]
                    refine g_off (yi (t := 84) rfl rfl) ?_
                    try simp only [opv, n1, n2, n3, n4, Value.cells]
                    refine g_off (yi (t := 84) rfl rfl) ?_
                    try simp only [opv, n1, n2, n3, n4, Value.cells]
                    refine g_on (yi (t := 75) rfl rfl) ?_
                    first | refine s_go (s_pick_t) ?_ | refine s_go (s_pick_f) ?_
                    try simp only [opv, n1, n2, n3, n4, Value.cells]
                    first | refine s_go (s_pick_t) ?_ | refine s_go (s_pick_f) ?_
                    try simp only [opv, n1, n2, n3, n4, Value.cells]
                    refine x_nil ?_
                    refine hK10 _ _ ?_
                    refine x_cond_f (h := ?_)
                    refine x_skip ?_
                    refine mix_leaf (by simp only [clob, List.foldl, n1, n2, n3, n4]) ?_
                    try simp only [n1, n2]
                    exact hS.sel (by repeat (first | exact Sel.nil | (refine Sel.cons (by repeat (first | exact Del.head | apply Del.tail)) ?_)))
              ·
               try simp only [n3, n4]
               try simp only [decide_eq_true_eq, decide_eq_false_iff_not, Bool.not_eq_true', Bool.not_eq_false', Int.not_lt, Int.not_le, ne_eq, Decidable.not_not] at hp9
               first
               | (exfalso; omega)
               | skip
                 refine g_off (yi (t := 79) rfl rfl) ?_
                 try simp only [opv, n1, n2, n3, n4, Value.cells]
                 refine g_off (yi (t := 79) rfl rfl) ?_
                 try simp only [opv, n1, n2, n3, n4, Value.cells]
                 refine g_off (yi (t := 79) rfl rfl) ?_
                 try simp only [opv, n1, n2, n3, n4, Value.cells]
                 refine g_on (yi (t := 75) rfl rfl) ?_
                 first | refine s_go (s_pick_t) ?_ | refine s_go (s_pick_f) ?_
                 try simp only [opv, n1, n2, n3, n4, Value.cells]
                 refine g_on (yi (t := 75) rfl rfl) ?_
                 refine s_go (s_move) ?_
                 try simp only [opv, n1, n2, n3, n4, Value.cells]
                 refine g_off (yi (t := 84) rfl rfl) ?_
                 try simp only [opv, n1, n2, n3, n4, Value.cells]
                 refine g_off (yi (t := 84) rfl rfl) ?_
                 try simp only [opv, n1, n2, n3, n4, Value.cells]
                 refine g_off (yi (t := 84) rfl rfl) ?_
                 try simp only [opv, n1, n2, n3, n4, Value.cells]
                 refine g_off (yi (t := 84) rfl rfl) ?_
                 try simp only [opv, n1, n2, n3, n4, Value.cells]
                 refine g_on (yi (t := 75) rfl rfl) ?_
                 first | refine s_go (s_pick_t) ?_ | refine s_go (s_pick_f) ?_
                 try simp only [opv, n1, n2, n3, n4, Value.cells]
                 first | refine s_go (s_pick_t) ?_ | refine s_go (s_pick_f) ?_
                 try simp only [opv, n1, n2, n3, n4, Value.cells]
                 refine x_nil ?_
                 refine hK10 _ _ ?_
                 refine x_cond_f (h := ?_)
                 refine x_skip ?_
                 refine mix_leaf (by simp only [clob, List.foldl, n1, n2, n3, n4]) ?_
                 try simp only [n1, n2]
                 exact hS.sel (by repeat (first | exact Sel.nil | (refine Sel.cons (by repeat (first | exact Del.head | apply Del.tail)) ?_)))
          intro fm1 w24 hM
          simp only [clob, List.foldl, n3, n4]
          replace hS := hM
          refine x_seq fun K11 hK11 => ?_
          refine x_seq fun K12 hK12 => ?_
          refine x_region ?_
          refine s_go (s_move) ?_
          try simp only [opv, n1, n2, n3, n4, Value.cells]
          refine s_go (s_move) ?_
          try simp only [opv, n1, n2, n3, n4, Value.cells]
          refine s_go (s_move) ?_
          try simp only [opv, n1, n2, n3, n4, Value.cells]
          refine s_call en33 ?_
          try simp only [opv, n1, n2, n3, n4, Value.cells, List.map_toArray, List.map_cons, List.map_nil, List.append_toArray, List.cons_append, List.nil_append, Array.append_empty]
          refine CallR.mono (c_latJoin _ B d r (hS.hasRd (by repeat (first | exact Has.head | apply Has.tail))) hv2 A c l (hS.hasRd (by repeat (first | exact Has.head | apply Has.tail))) hv (by omega)) ?_
          rintro _ w25 ⟨A25, c25, rfl, hC25⟩
          replace hS := hS.call hC25
          simp only [List.cons_append, List.nil_append] at hS
          try simp only [opv, n1, n2, n3, n4, Value.cells]
          have hz0 := norm_len (r ++ l)
          rw [List.length_append] at hz0
          refine s_call en25 ?_
          try simp only [opv, n1, n2, n3, n4, Value.cells, List.map_toArray, List.map_cons, List.map_nil, List.append_toArray, List.cons_append, List.nil_append, Array.append_empty]
          refine CallR.mono (c_ref10Rows _ _ _ _ (hS.vecRd (by repeat (first | exact Has.head | apply Has.tail))) hjo _ _ _ (hS.vecRd (by repeat (first | exact Has.head | apply Has.tail))) (norm_sta (hv2.app hv)).ok (by omega)) ?_
          rintro _ w26 ⟨rfl, hE26⟩
          replace hS := hS.ext hE26
          try simp only [opv, n1, n2, n3, n4, Value.cells]
          rw [decide_eq_true (ls_7 hv hv2)]
          refine s_go (s_not) ?_
          try simp only [opv, n1, n2, n3, n4, Value.cells]
          refine s_go (s_move) ?_
          try simp only [opv, n1, n2, n3, n4, Value.cells]
          refine g_on (yi (t := 97) rfl rfl) ?_
          refine s_go (s_move) ?_
          try simp only [opv, n1, n2, n3, n4, Value.cells]
          refine g_on (yi (t := 97) rfl rfl) ?_
          refine s_go (s_move) ?_
          try simp only [opv, n1, n2, n3, n4, Value.cells]
          refine g_on (yi (t := 97) rfl rfl) ?_
          refine s_call en33 ?_
          try simp only [opv, n1, n2, n3, n4, Value.cells, List.map_toArray, List.map_cons, List.map_nil, List.append_toArray, List.cons_append, List.nil_append, Array.append_empty]
          refine CallR.mono (c_latJoin _ Aj cj (normP (l ++ r)) (hS.vecRd (by repeat (first | exact Has.head | apply Has.tail))) hjo C e q (hS.hasRd (by repeat (first | exact Has.head | apply Has.tail))) hv3 (by omega)) ?_
          rintro _ w27 ⟨A27, c27, rfl, hC27⟩
          replace hS := hS.call hC27
          simp only [List.cons_append, List.nil_append] at hS
          try simp only [opv, n1, n2, n3, n4, Value.cells]
          refine g_on (yi (t := 97) rfl rfl) ?_
          refine s_go (s_move) ?_
          try simp only [opv, n1, n2, n3, n4, Value.cells]
          refine g_on (yi (t := 97) rfl rfl) ?_
          refine s_go (s_move) ?_
          try simp only [opv, n1, n2, n3, n4, Value.cells]
          refine g_on (yi (t := 97) rfl rfl) ?_
          refine s_go (s_move) ?_
          try simp only [opv, n1, n2, n3, n4, Value.cells]
          refine g_on (yi (t := 97) rfl rfl) ?_
          refine s_call en33 ?_
          try simp only [opv, n1, n2, n3, n4, Value.cells, List.map_toArray, List.map_cons, List.map_nil, List.append_toArray, List.cons_append, List.nil_append, Array.append_empty]
          refine CallR.mono (c_latJoin _ B d r (hS.hasRd (by repeat (first | exact Has.head | apply Has.tail))) hv2 C e q (hS.hasRd (by repeat (first | exact Has.head | apply Has.tail))) hv3 (by omega)) ?_
          rintro _ w28 ⟨Ar, cr, rfl, hC28⟩
          replace hS := hS.call hC28
          simp only [List.cons_append, List.nil_append] at hS
          try simp only [opv, n1, n2, n3, n4, Value.cells]
          refine g_on (yi (t := 97) rfl rfl) ?_
          refine s_call en33 ?_
          try simp only [opv, n1, n2, n3, n4, Value.cells, List.map_toArray, List.map_cons, List.map_nil, List.append_toArray, List.cons_append, List.nil_append, Array.append_empty]
          refine CallR.mono (c_latJoin _ A c l (hS.hasRd (by repeat (first | exact Has.head | apply Has.tail))) hv Ar cr (normP (r ++ q)) (hS.vecRd (by repeat (first | exact Has.head | apply Has.tail))) hrq (by omega)) ?_
          rintro _ w29 ⟨A29, c29, rfl, hC29⟩
          replace hS := hS.call hC29
          simp only [List.cons_append, List.nil_append] at hS
          try simp only [opv, n1, n2, n3, n4, Value.cells]
          have hz1 := norm_len (normP (l ++ r) ++ q)
          have hz2 := norm_len (l ++ normP (r ++ q))
          rw [List.length_append] at hz1 hz2
          refine g_on (yi (t := 97) rfl rfl) ?_
          refine s_call en25 ?_
          try simp only [opv, n1, n2, n3, n4, Value.cells, List.map_toArray, List.map_cons, List.map_nil, List.append_toArray, List.cons_append, List.nil_append, Array.append_empty]
          refine CallR.mono (c_ref10Rows _ _ _ _ (hS.vecRd (by repeat (first | exact Has.head | apply Has.tail))) (norm_sta (hjo.app hv3)).ok _ _ _ (hS.vecRd (by repeat (first | exact Has.head | apply Has.tail))) (norm_sta (hv.app hrq)).ok (by omega)) ?_
          rintro _ w30 ⟨rfl, hE30⟩
          replace hS := hS.ext hE30
          try simp only [opv, n1, n2, n3, n4, Value.cells]
          rw [decide_eq_true (ls_8 hv hv2 hv3)]
          refine g_on (yi (t := 97) rfl rfl) ?_
          refine s_go (s_not) ?_
          try simp only [opv, n1, n2, n3, n4, Value.cells]
          first | refine s_go (s_pick_t) ?_ | refine s_go (s_pick_f) ?_
          try simp only [opv, n1, n2, n3, n4, Value.cells]
          refine s_go (s_move) ?_
          try simp only [opv, n1, n2, n3, n4, Value.cells]
          refine g_on (yi (t := 109) rfl rfl) ?_
          refine s_go (s_move) ?_
          try simp only [opv, n1, n2, n3, n4, Value.cells]
          refine g_on (yi (t := 109) rfl rfl) ?_
          refine s_go (s_move) ?_
          try simp only [opv, n1, n2, n3, n4, Value.cells]
          refine g_on (yi (t := 109) rfl rfl) ?_
          refine s_call en33 ?_
          try simp only [opv, n1, n2, n3, n4, Value.cells, List.map_toArray, List.map_cons, List.map_nil, List.append_toArray, List.cons_append, List.nil_append, Array.append_empty]
          refine CallR.mono (c_latJoin _ Aj cj (normP (l ++ r)) (hS.vecRd (by repeat (first | exact Has.head | apply Has.tail))) hjo A c l (hS.hasRd (by repeat (first | exact Has.head | apply Has.tail))) hv (by omega)) ?_
          rintro _ w31 ⟨A31, c31, rfl, hC31⟩
          replace hS := hS.call hC31
          simp only [List.cons_append, List.nil_append] at hS
          try simp only [opv, n1, n2, n3, n4, Value.cells]
          refine g_on (yi (t := 109) rfl rfl) ?_
          refine s_go (s_move) ?_
          try simp only [opv, n1, n2, n3, n4, Value.cells]
          have hz3 := norm_len (normP (l ++ r) ++ l)
          rw [List.length_append] at hz3
          refine g_on (yi (t := 109) rfl rfl) ?_
          refine s_call en25 ?_
          try simp only [opv, n1, n2, n3, n4, Value.cells, List.map_toArray, List.map_cons, List.map_nil, List.append_toArray, List.cons_append, List.nil_append, Array.append_empty]
          refine CallR.mono (c_ref10Rows _ _ _ _ (hS.vecRd (by repeat (first | exact Has.head | apply Has.tail))) (norm_sta (hjo.app hv)).ok _ _ _ (hS.vecRd (by repeat (first | exact Has.head | apply Has.tail))) hjo (by omega)) ?_
          rintro _ w32 ⟨rfl, hE32⟩
          replace hS := hS.ext hE32
          try simp only [opv, n1, n2, n3, n4, Value.cells]
          rw [decide_eq_true (ls_9 hv hv2)]
          refine g_on (yi (t := 109) rfl rfl) ?_
          refine s_go (s_not) ?_
          try simp only [opv, n1, n2, n3, n4, Value.cells]
          first | refine s_go (s_pick_t) ?_ | refine s_go (s_pick_f) ?_
          try simp only [opv, n1, n2, n3, n4, Value.cells]
          refine x_nil ?_
          refine hK12 _ _ ?_
          refine x_cond_f (h := ?_)
          refine x_skip ?_
          refine hK11 _ _ ?_
          refine x_seq_j [6, 117, 118, 119, 120, 121, 122, 123, 124, 125, 126, 127, 128, 129, 130, 131, 132, 133, 134, 135, 136, 137, 138] (fun f w => St NoB w0 w [.vec Aj cj 39 21 ((normP (l ++ r))).length (arows ((normP (l ++ r)))), .vec Am cm 39 21 ((meetP (normP l) (normP r))).length (arows ((meetP (normP l) (normP r)))), .rd A 21 (l).length (arows (l)), .rd B 21 (r).length (arows (r)), .rd C 21 (q).length (arows (q))]) ?jx2 ?jy2
          case jx2 =>
           refine x_seq fun K13 hK13 => ?_
           refine x_region ?_
           refine s_go (s_move) ?_
           try simp only [opv, n1, n2, n3, n4, Value.cells]
           refine s_go (s_move) ?_
           try simp only [opv, n1, n2, n3, n4, Value.cells]
           refine s_call en37 ?_
           try simp only [opv, n1, n2, n3, n4, Value.cells, List.map_toArray, List.map_cons, List.map_nil, List.append_toArray, List.cons_append, List.nil_append, Array.append_empty]
           refine CallR.mono (c_latLeq _ A c l (hS.hasRd (by repeat (first | exact Has.head | apply Has.tail))) hv B d r (hS.hasRd (by repeat (first | exact Has.head | apply Has.tail))) hv2 (by omega)) ?_
           rintro _ w33 ⟨rfl, hE33⟩
           replace hS := hS.ext hE33
           try simp only [opv, n1, n2, n3, n4, Value.cells]
           rw [ls_10 hv hv2]
           refine s_go (s_move) ?_
           try simp only [opv, n1, n2, n3, n4, Value.cells]
           refine s_go (s_move) ?_
           try simp only [opv, n1, n2, n3, n4, Value.cells]
           refine s_call en31 ?_
           try simp only [opv, n1, n2, n3, n4, Value.cells, List.map_toArray, List.map_cons, List.map_nil, List.append_toArray, List.cons_append, List.nil_append, Array.append_empty]
           refine CallR.mono (c_latNorm _ B d r (hS.hasRd (by repeat (first | exact Has.head | apply Has.tail))) hv2 (by omega)) ?_
           rintro _ w34 ⟨A34, c34, rfl, hC34⟩
           replace hS := hS.call hC34
           simp only [List.cons_append, List.nil_append] at hS
           try simp only [opv, n1, n2, n3, n4, Value.cells]
           refine s_call en25 ?_
           try simp only [opv, n1, n2, n3, n4, Value.cells, List.map_toArray, List.map_cons, List.map_nil, List.append_toArray, List.cons_append, List.nil_append, Array.append_empty]
           refine CallR.mono (c_ref10Rows _ _ _ _ (hS.vecRd (by repeat (first | exact Has.head | apply Has.tail))) hjo _ _ _ (hS.vecRd (by repeat (first | exact Has.head | apply Has.tail))) (norm_sta hv2).ok (by omega)) ?_
           rintro _ w35 ⟨rfl, hE35⟩
           replace hS := hS.ext hE35
           try simp only [opv, n1, n2, n3, n4, Value.cells]
           refine s_go (s_neq_bool Try.underlying4) ?_
           try simp only [opv, n1, n2, n3, n4, Value.cells]
           rw [show (!(decide (normP (l ++ r) = normP r) == decide (normP (l ++ r) = normP r))) = false by rw [beq_self_eq_true]; rfl]
           refine s_go (s_move) ?_
           try simp only [opv, n1, n2, n3, n4, Value.cells]
           refine g_on (yi (t := 125) rfl rfl) ?_
           refine s_go (s_move) ?_
           try simp only [opv, n1, n2, n3, n4, Value.cells]
           refine g_on (yi (t := 125) rfl rfl) ?_
           refine s_go (s_move) ?_
           try simp only [opv, n1, n2, n3, n4, Value.cells]
           refine g_on (yi (t := 125) rfl rfl) ?_
           refine s_call en37 ?_
           try simp only [opv, n1, n2, n3, n4, Value.cells, List.map_toArray, List.map_cons, List.map_nil, List.append_toArray, List.cons_append, List.nil_append, Array.append_empty]
           refine CallR.mono (c_latLeq _ A c l (hS.hasRd (by repeat (first | exact Has.head | apply Has.tail))) hv B d r (hS.hasRd (by repeat (first | exact Has.head | apply Has.tail))) hv2 (by omega)) ?_
           rintro _ w36 ⟨rfl, hE36⟩
           replace hS := hS.ext hE36
           try simp only [opv, n1, n2, n3, n4, Value.cells]
           refine g_on (yi (t := 125) rfl rfl) ?_
           refine s_go (s_move) ?_
           try simp only [opv, n1, n2, n3, n4, Value.cells]
           refine s_part 129 rfl (fun hp11 => ?_) (fun hp11 => ?_)
           ·
            try simp only [n3, n4]
            try simp only [decide_eq_true_eq, decide_eq_false_iff_not, Bool.not_eq_true', Bool.not_eq_false', Int.not_lt, Int.not_le, ne_eq, Decidable.not_not] at hp11
            first
            | (exfalso; omega)
            | skip
              have b5 : leqP (normP l) (normP r) = true := hp11
              refine g_on (yi (t := 129) rfl rfl) ?_
              refine s_go (s_move) ?_
              try simp only [opv, n1, n2, n3, n4, Value.cells]
              refine g_on (yi (t := 129) rfl rfl) ?_
              refine s_go (s_move) ?_
              try simp only [opv, n1, n2, n3, n4, Value.cells]
              refine g_on (yi (t := 129) rfl rfl) ?_
              refine s_call en37 ?_
              try simp only [opv, n1, n2, n3, n4, Value.cells, List.map_toArray, List.map_cons, List.map_nil, List.append_toArray, List.cons_append, List.nil_append, Array.append_empty]
              refine CallR.mono (c_latLeq _ B d r (hS.hasRd (by repeat (first | exact Has.head | apply Has.tail))) hv2 A c l (hS.hasRd (by repeat (first | exact Has.head | apply Has.tail))) hv (by omega)) ?_
              rintro _ w37 ⟨rfl, hE37⟩
              replace hS := hS.ext hE37
              try simp only [opv, n1, n2, n3, n4, Value.cells]
              refine g_on (yi (t := 125) rfl rfl) ?_
              first | refine s_go (s_pick_t) ?_ | refine s_go (s_pick_f) ?_
              try simp only [opv, n1, n2, n3, n4, Value.cells]
              refine g_on (yi (t := 125) rfl rfl) ?_
              refine s_go (s_move) ?_
              try simp only [opv, n1, n2, n3, n4, Value.cells]
              refine g_on (yi (t := 125) rfl rfl) ?_
              refine s_go (s_move) ?_
              try simp only [opv, n1, n2, n3, n4, Value.cells]
              refine g_on (yi (t := 125) rfl rfl) ?_
              refine s_call en39 ?_
              try simp only [opv, n1, n2, n3, n4, Value.cells, List.map_toArray, List.map_cons, List.map_nil, List.append_toArray, List.cons_append, List.nil_append, Array.append_empty]
              refine CallR.mono (c_latSame _ A c l (hS.hasRd (by repeat (first | exact Has.head | apply Has.tail))) hv B d r (hS.hasRd (by repeat (first | exact Has.head | apply Has.tail))) hv2 (by omega)) ?_
              rintro _ w38 ⟨rfl, hE38⟩
              replace hS := hS.ext hE38
              try simp only [opv, n1, n2, n3, n4, Value.cells]
              rw [← ls_11 hv hv2, b5]
              refine g_on (yi (t := 125) rfl rfl) ?_
              refine s_go (s_neq_bool Try.underlying4) ?_
              try simp only [opv, n1, n2, n3, n4, Value.cells]
              first | rw [show (!(leqP (normP r) (normP l) == (true && leqP (normP r) (normP l)))) = false by rw [Bool.true_and, beq_self_eq_true]; rfl] | rw [show (!(false == (false && leqP (normP r) (normP l)))) = false from rfl]
              first | refine s_go (s_pick_t) ?_ | refine s_go (s_pick_f) ?_
              try simp only [opv, n1, n2, n3, n4, Value.cells]
              refine x_nil ?_
              refine hK13 _ _ ?_
              refine x_cond_f (h := ?_)
              refine x_skip ?_
              refine mix_leaf (by simp only [clob, List.foldl, n1, n2, n3, n4]) ?_
              try simp only [n1, n2]
              exact hS.sel (by repeat (first | exact Sel.nil | (refine Sel.cons (by repeat (first | exact Del.head | apply Del.tail)) ?_)))
           ·
            try simp only [n3, n4]
            try simp only [decide_eq_true_eq, decide_eq_false_iff_not, Bool.not_eq_true', Bool.not_eq_false', Int.not_lt, Int.not_le, ne_eq, Decidable.not_not] at hp11
            first
            | (exfalso; omega)
            | skip
              have b5 : leqP (normP l) (normP r) = false := hp11
              refine g_off (yi (t := 129) rfl rfl) ?_
              try simp only [opv, n1, n2, n3, n4, Value.cells]
              refine g_off (yi (t := 129) rfl rfl) ?_
              try simp only [opv, n1, n2, n3, n4, Value.cells]
              refine g_off (yi (t := 129) rfl rfl) ?_
              try simp only [opv, n1, n2, n3, n4, Value.cells]
              refine g_on (yi (t := 125) rfl rfl) ?_
              first | refine s_go (s_pick_t) ?_ | refine s_go (s_pick_f) ?_
              try simp only [opv, n1, n2, n3, n4, Value.cells]
              refine g_on (yi (t := 125) rfl rfl) ?_
              refine s_go (s_move) ?_
              try simp only [opv, n1, n2, n3, n4, Value.cells]
              refine g_on (yi (t := 125) rfl rfl) ?_
              refine s_go (s_move) ?_
              try simp only [opv, n1, n2, n3, n4, Value.cells]
              refine g_on (yi (t := 125) rfl rfl) ?_
              refine s_call en39 ?_
              try simp only [opv, n1, n2, n3, n4, Value.cells, List.map_toArray, List.map_cons, List.map_nil, List.append_toArray, List.cons_append, List.nil_append, Array.append_empty]
              refine CallR.mono (c_latSame _ A c l (hS.hasRd (by repeat (first | exact Has.head | apply Has.tail))) hv B d r (hS.hasRd (by repeat (first | exact Has.head | apply Has.tail))) hv2 (by omega)) ?_
              rintro _ w39 ⟨rfl, hE39⟩
              replace hS := hS.ext hE39
              try simp only [opv, n1, n2, n3, n4, Value.cells]
              rw [← ls_11 hv hv2, b5]
              refine g_on (yi (t := 125) rfl rfl) ?_
              refine s_go (s_neq_bool Try.underlying4) ?_
              try simp only [opv, n1, n2, n3, n4, Value.cells]
              first | rw [show (!(leqP (normP r) (normP l) == (true && leqP (normP r) (normP l)))) = false by rw [Bool.true_and, beq_self_eq_true]; rfl] | rw [show (!(false == (false && leqP (normP r) (normP l)))) = false from rfl]
              first | refine s_go (s_pick_t) ?_ | refine s_go (s_pick_f) ?_
              try simp only [opv, n1, n2, n3, n4, Value.cells]
              refine x_nil ?_
              refine hK13 _ _ ?_
              refine x_cond_f (h := ?_)
              refine x_skip ?_
              refine mix_leaf (by simp only [clob, List.foldl, n1, n2, n3, n4]) ?_
              try simp only [n1, n2]
              exact hS.sel (by repeat (first | exact Sel.nil | (refine Sel.cons (by repeat (first | exact Del.head | apply Del.tail)) ?_)))
          intro fm2 w40 hM
          simp only [clob, List.foldl, n3, n4]
          replace hS := hM
          refine x_seq fun K14 hK14 => ?_
          refine x_region ?_
          refine s_go (s_move) ?_
          try simp only [opv, n1, n2, n3, n4, Value.cells]
          refine s_go (s_move) ?_
          try simp only [opv, n1, n2, n3, n4, Value.cells]
          refine s_go (s_move) ?_
          try simp only [opv, n1, n2, n3, n4, Value.cells]
          refine s_call en33 ?_
          try simp only [opv, n1, n2, n3, n4, Value.cells, List.map_toArray, List.map_cons, List.map_nil, List.append_toArray, List.cons_append, List.nil_append, Array.append_empty]
          refine CallR.mono (c_latJoin _ B d r (hS.hasRd (by repeat (first | exact Has.head | apply Has.tail))) hv2 C e q (hS.hasRd (by repeat (first | exact Has.head | apply Has.tail))) hv3 (by omega)) ?_
          rintro _ w41 ⟨Ar, cr, rfl, hC41⟩
          replace hS := hS.call hC41
          simp only [List.cons_append, List.nil_append] at hS
          try simp only [opv, n1, n2, n3, n4, Value.cells]
          refine s_call en35 ?_
          try simp only [opv, n1, n2, n3, n4, Value.cells, List.map_toArray, List.map_cons, List.map_nil, List.append_toArray, List.cons_append, List.nil_append, Array.append_empty]
          refine CallR.mono (c_latMeet _ A c l (hS.hasRd (by repeat (first | exact Has.head | apply Has.tail))) hv Ar cr (normP (r ++ q)) (hS.vecRd (by repeat (first | exact Has.head | apply Has.tail))) hrq (by omega)) ?_
          rintro _ w42 ⟨A42, c42, rfl, hC42⟩
          replace hS := hS.call hC42
          simp only [List.cons_append, List.nil_append] at hS
          try simp only [opv, n1, n2, n3, n4, Value.cells]
          refine s_go (s_move) ?_
          try simp only [opv, n1, n2, n3, n4, Value.cells]
          refine s_go (s_move) ?_
          try simp only [opv, n1, n2, n3, n4, Value.cells]
          refine s_call en35 ?_
          try simp only [opv, n1, n2, n3, n4, Value.cells, List.map_toArray, List.map_cons, List.map_nil, List.append_toArray, List.cons_append, List.nil_append, Array.append_empty]
          refine CallR.mono (c_latMeet _ A c l (hS.hasRd (by repeat (first | exact Has.head | apply Has.tail))) hv B d r (hS.hasRd (by repeat (first | exact Has.head | apply Has.tail))) hv2 (by omega)) ?_
          rintro _ w43 ⟨Ax, cx, rfl, hC43⟩
          replace hS := hS.call hC43
          simp only [List.cons_append, List.nil_append] at hS
          try simp only [opv, n1, n2, n3, n4, Value.cells]
          refine s_go (s_move) ?_
          try simp only [opv, n1, n2, n3, n4, Value.cells]
          refine s_go (s_move) ?_
          try simp only [opv, n1, n2, n3, n4, Value.cells]
          refine s_call en35 ?_
          try simp only [opv, n1, n2, n3, n4, Value.cells, List.map_toArray, List.map_cons, List.map_nil, List.append_toArray, List.cons_append, List.nil_append, Array.append_empty]
          refine CallR.mono (c_latMeet _ A c l (hS.hasRd (by repeat (first | exact Has.head | apply Has.tail))) hv C e q (hS.hasRd (by repeat (first | exact Has.head | apply Has.tail))) hv3 (by omega)) ?_
          rintro _ w44 ⟨Ay, cy, rfl, hC44⟩
          replace hS := hS.call hC44
          simp only [List.cons_append, List.nil_append] at hS
          try simp only [opv, n1, n2, n3, n4, Value.cells]
          refine s_call en33 ?_
          try simp only [opv, n1, n2, n3, n4, Value.cells, List.map_toArray, List.map_cons, List.map_nil, List.append_toArray, List.cons_append, List.nil_append, Array.append_empty]
          refine CallR.mono (c_latJoin _ Ax cx (meetP (normP l) (normP r)) (hS.vecRd (by repeat (first | exact Has.head | apply Has.tail))) hmo Ay cy (meetP (normP l) (normP q)) (hS.vecRd (by repeat (first | exact Has.head | apply Has.tail))) hmo2 (by omega)) ?_
          rintro _ w45 ⟨A45, c45, rfl, hC45⟩
          replace hS := hS.call hC45
          simp only [List.cons_append, List.nil_append] at hS
          try simp only [opv, n1, n2, n3, n4, Value.cells]
          have hz4 := meet_len (normP l) (normP (normP (r ++ q)))
          have hz5 := norm_len (meetP (normP l) (normP r) ++ meetP (normP l) (normP q))
          rw [List.length_append] at hz5
          refine s_call en25 ?_
          try simp only [opv, n1, n2, n3, n4, Value.cells, List.map_toArray, List.map_cons, List.map_nil, List.append_toArray, List.cons_append, List.nil_append, Array.append_empty]
          refine CallR.mono (c_ref10Rows _ _ _ _ (hS.vecRd (by repeat (first | exact Has.head | apply Has.tail))) (meet_st hv hrq).ok _ _ _ (hS.vecRd (by repeat (first | exact Has.head | apply Has.tail))) (norm_sta (hmo.app hmo2)).ok (by omega)) ?_
          rintro _ w46 ⟨rfl, hE46⟩
          replace hS := hS.ext hE46
          try simp only [opv, n1, n2, n3, n4, Value.cells]
          rw [decide_eq_true (ls_12 hv hv2 hv3)]
          refine s_go (s_move) ?_
          try simp only [opv, n1, n2, n3, n4, Value.cells]
          refine g_on (yi (t := 152) rfl rfl) ?_
          refine s_call en21 ?_
          try simp only [opv, n1, n2, n3, n4, Value.cells, List.map_toArray, List.map_cons, List.map_nil, List.append_toArray, List.cons_append, List.nil_append, Array.append_empty]
          refine CallR.mono (c_law10alive _) ?_
          rintro _ w47 ⟨rfl, hE47⟩
          replace hS := hS.ext hE47
          try simp only [opv, n1, n2, n3, n4, Value.cells]
          first | refine s_go (s_pick_t) ?_ | refine s_go (s_pick_f) ?_
          try simp only [opv, n1, n2, n3, n4, Value.cells]
          refine s_go (s_assign) ?_
          try simp only [opv, n1, n2, n3, n4, Value.cells]
          refine x_nil ?_
          refine hK14 _ _ ?_
          refine x_ret ?_
          refine r_tmp rfl ?_
          exact ⟨rfl, hS.ext_of⟩
end Go.Proofs.Ytmgacmkikefpjaa
set_option linter.unusedSimpArgs false
set_option linter.unusedVariables false
set_option maxHeartbeats 800000
set_option maxRecDepth 100000
namespace Go.Proofs.Ytmgacmkikefpjaa
open Go.ChangeShapes Go.WideShapes Go.ChangeAt Go.RowKit

theorem rows_aok {l : List (List Int)} (h : ∀ x ∈ l, x.length = atomKs.length ∧ ∀ i k, atomKs[i]? = some k → (Lit.int k (x.getD i 0)).wf = true) : AOks l := fun x hx => by
  obtain ⟨h1, h2⟩ := h x hx
  have W : World := { heap := #[], tape := fun _ _ => 0, drawn := 0, os := default, output := #[] }
  obtain ⟨a, e, ha⟩ := atom_open (w := W) (allOk_of h1 h2)
  rw [zi_inj h1 (by simpa using ha.len) e]; exact ha
theorem open_rows {w : World} {n : Nat} {xs : List Value} {A : Option Addr} (hr : Rd w A 21 n xs) (h : ∀ i, i < n → AllOk w (atomKs.map LK.int) ((xs.drop (i * 21)).take 21)) : ∃ l : List (List Int), l.length = n ∧ xs = arows l ∧ AOks l := by
  obtain ⟨l, hl, e, hok⟩ := rowsZ_open (w := w) (ks := atomKs) (n := n) (xs := xs) hr.1 h
  exact ⟨l, hl, e, rows_aok hok⟩
end Go.Proofs.Ytmgacmkikefpjaa
namespace Go.Proofs.Ytmgacmkikefpjaa
open Go.ChangeShapes Go.WideShapes Go.ChangeAt Go.RowKit
theorem own0 : ownKnob Try.prog.godebug = none := by kernel_rfl
theorem laidOut0 : laidOutB Try.prog = true := by kernel_rfl
theorem fl5 : Flat Try.prog 5 [LK.int .u8] := flat_int Try.underlying5
theorem fl29 : Flat Try.prog 29 [LK.int .u16] := flat_int Try.underlying29
theorem fl31 : Flat Try.prog 31 (List.replicate 8 [LK.int .u8]).flatten := flat_arr Try.underlying31 fl5 rfl (by kernel_rfl) (by kernel_rfl)
theorem fl32 : Flat Try.prog 32 [LK.int .u32] := flat_int Try.underlying32
theorem fl34 : Flat Try.prog 34 ([LK.int .u8] ++ ([LK.int .u16] ++ ((List.replicate 8 [LK.int .u8]).flatten ++ ([LK.int .u8] ++ ([LK.int .u32] ++ ([])))))) := flat_struct Try.underlying34 (.cons rfl fl5 rfl (by kernel_rfl) (.cons rfl fl29 rfl (by kernel_rfl) (.cons rfl fl31 rfl (by kernel_rfl) (.cons rfl fl5 rfl (by kernel_rfl) (.cons rfl fl32 rfl (by kernel_rfl) (.nil)))))) (by kernel_rfl)
theorem fl35 : Flat Try.prog 35 [LK.int .u64] := flat_int Try.underlying35
theorem fl37 : Flat Try.prog 37 ([LK.int .u64] ++ ((List.replicate 8 [LK.int .u8]).flatten ++ ([]))) := flat_struct Try.underlying37 (.cons rfl fl35 rfl (by kernel_rfl) (.cons rfl fl31 rfl (by kernel_rfl) (.nil))) (by kernel_rfl)
theorem fl39 : Flat Try.prog 39 (([LK.int .u8] ++ ([LK.int .u16] ++ ((List.replicate 8 [LK.int .u8]).flatten ++ ([LK.int .u8] ++ ([LK.int .u32] ++ ([])))))) ++ (([LK.int .u64] ++ ((List.replicate 8 [LK.int .u8]).flatten ++ ([]))) ++ ([]))) := flat_struct Try.underlying39 (.cons rfl fl34 rfl (by kernel_rfl) (.cons rfl fl37 rfl (by kernel_rfl) (.nil))) (by kernel_rfl)
end Go.Proofs.Ytmgacmkikefpjaa
namespace Go.Proofs.Ytmgacmkikefpjaa
theorem ws_cons {c : Char} (h : c ≠ Char.ofNat 32) (x : List Char) : wordsSigns (c :: x) = (match wordsSigns x with | w :: ws => (c :: w) :: ws | [] => [[c]]) := by
  conv => lhs; unfold wordsSigns
  split
  · simp_all
  · next h1 => exact absurd (by simpa using (List.cons.inj h1).1) h
  · next h1 => obtain ⟨rfl, rfl⟩ := List.cons.inj h1; rfl
theorem ws_app (b : List Char) : ∀ (a : List Char), (∀ c ∈ a, c ≠ Char.ofNat 32) → wordsSigns (a ++ Char.ofNat 32 :: b) = a :: wordsSigns b
  | [], _ => rfl
  | c :: r, h => by
    rw [List.cons_append, ws_cons (h c (by simp)), ws_app b r (fun x hx => h x (by simp [hx]))]
/-- the head's words: harness, a sum, cut -/
theorem head_words {P : Program} {s b : List Char} (he : P.initOrder = String.ofList ("harness".toList ++ Char.ofNat 32 :: (s ++ Char.ofNat 32 :: ("cut".toList ++ Char.ofNat 32 :: b)))) (hs : isSumSigns s = true) (hb : ∀ c ∈ s, c ≠ Char.ofNat 32) :
    ∃ R, behindMainWord (wordsSigns P.initOrder.toList) = "cut".toList :: R := by
  refine ⟨wordsSigns b, ?_⟩
  rw [he, String.toList_ofList, ws_app _ _ (by decide), ws_app _ _ hb, ws_app _ _ (by decide)]
  simp only [behindMainWord, hs, beq_self_eq_true, Bool.true_or, Bool.and_self, if_true]
theorem e_gc : ("cut".toList == "gc".toList) = false := by decide
theorem e_spec : ("cut".toList == "spec".toList) = false := by decide
theorem e_car : ("cut".toList == "carried".toList) = false := by decide
theorem e_sl (R : List (List Char)) : stripLifts liftWords ("cut".toList :: R) = ([], "cut".toList :: R) := by
  have h : ∀ (l : List String), (∀ o ∈ l, ("cut".toList == o.toList) = false) → stripLifts l ("cut".toList :: R) = ([], "cut".toList :: R) := by
    intro l
    induction l with
    | nil => intro _; rfl
    | cons o os ih => intro hl; rw [stripLifts, hl o (by simp)]; simp only [Bool.false_eq_true, if_false]; exact ih fun x hx => hl x (by simp [hx])
  exact h liftWords (by decide)
section
variable {P : Program} (h : ∃ R, behindMainWord (wordsSigns P.initOrder.toList) = "cut".toList :: R)
include h
theorem make_of : P.make = some .cut := by
  obtain ⟨R, h⟩ := h
  unfold Program.make
  rw [h]
  simp only [e_gc, e_spec, beq_self_eq_true, Bool.or_self, Bool.true_or, Bool.false_eq_true, if_false, if_true]
theorem lifts_of : P.liftsFinal = false := by
  obtain ⟨R, h⟩ := h
  unfold Program.liftsFinal Program.headLifts
  rw [h, e_sl]
  show (_ || _) = false
  rfl
theorem enter_of (hl : P.laysLater = false) (hr : P.bearsReflect = false) (hd : P.doorFits [] = true) : P.mayEnter = true := by
  obtain ⟨R, h⟩ := h
  unfold Program.mayEnter
  rw [h]
  dsimp only
  rw [e_sl, hl, hr]
  simp only [hd, e_gc, e_spec, e_car, beq_self_eq_true, Bool.or_self, Bool.false_and, Bool.not_false, Bool.or_true, Bool.and_true, List.head?_cons, List.contains_nil]
end
theorem closed_of {P : Program} {f : FuncId} {fn : Func} {s : ChangeSpec} {c : OpenClaim} (hm : P.make = some .cut) (hl : P.liftsFinal = false) (he : P.mayEnter = true) (h2 : laidOutB P = true) (h3 : mapsRowed P = true) (hst : (P.stops == []) = true) (hk : (P.stopKnobs == []) = true)
    (hp : P.plainKeys = c.plainKeys) (hh : P.stopsHeard = true) (i1 : P.inPlace f = c.inPlace) (i2 : P.unfollowed f = c.unfollowed) (i3 : P.recurses f = c.recurses) (i4 : P.varsNamed f = c.named)
    (rest : (c.wf (OpenSpec.ofChange s) && fn.params.all (P.readableRec ·) && namedTie P c.named s.vars && (c.stops == []) && (c.knobs == []) &&
      (c.maps == (fn.params.toList ++ s.plain.varTypes P).any (P.mapsRec ·)) && (c.ifaces == (fn.params.toList ++ s.plain.varTypes P).any (P.ifacesRec ·)) && (c.mapsOut == P.mapsAmong fn.resultTypes.toList) &&
      (c.loops == (fn.params.toList ++ s.plain.varTypes P).any (P.loopsFrom ·)) && (c.wideKeys == (fn.params.toList ++ s.plain.varTypes P ++ fn.resultTypes.toList).any (P.wideKeysFrom ·)) &&
      s.vars.all (P.varReadable ·) && fn.resultTypes.all (fun t => P.readableRec t && decide (t < P.types.size)) && (c.ifacesOut == fn.resultTypes.toList.any (P.ifacesRec ·)) && (c.loopsOut == fn.resultTypes.toList.any (P.loopsFrom ·)) && c.shortTexts.isNone && (c.lifted == false) && (some Make.cut == some c.make) &&
      (c.kinds == (if c.domain.isEmpty then [] else fn.params.toList.map fun t => match P.underlying t with | some (.int k) => some k | _ => none)) && (c.pinned == c.pinnedBy) &&
      (c.veiled == (fn.params.toList ++ s.plain.varTypes P ++ fn.resultTypes.toList).any (P.veiledRec ·)) && c.veiledFits P fn.params.toList (fn.params.toList ++ s.plain.varTypes P ++ fn.resultTypes.toList)) = true) : joinedFacts P f fn s c = true := by
  simp only [Bool.and_eq_true] at rest
  unfold joinedFacts
  rw [hm, hl, he, h2, h3, hst, hk, hp, hh, i1, i2, i3, i4]
  simp only [beq_self_eq_true, Bool.and_eq_true, Bool.and_true]
  have hkd := rest.1.1.1.2
  simp only [rest, and_self]
  exact ⟨⟨⟨⟨trivial, hkd⟩, trivial⟩, trivial⟩, trivial⟩
end Go.Proofs.Ytmgacmkikefpjaa
namespace Go.Proofs.Ytmgacmkikefpjaa
def ioS : List Nat := [51, 53, 49, 99, 97, 57, 100, 56, 49, 57, 50, 99, 53, 49, 49, 48, 97, 97, 102, 51, 53, 50, 53, 100, 54, 101, 48, 99, 51, 50, 102, 56, 97, 51, 51, 55, 57, 54, 57, 98, 56, 51, 99, 51, 102, 50, 101, 53, 55, 48, 101, 98, 50, 49, 97, 101, 101, 50, 48, 54, 55, 56, 101, 101]
def ioB : List Nat := [97, 116, 32, 104, 97, 110, 100, 99, 97, 114, 116, 47, 104, 97, 110, 100, 99, 97, 114, 116, 108, 97, 119, 49, 48, 46, 76, 97, 116, 65, 108, 108, 32, 104, 97, 110, 100, 99, 97, 114, 116, 47, 104, 97, 110, 100, 99, 97, 114, 116, 108, 97, 119, 49, 48, 46, 76, 97, 116, 78, 111, 114, 109, 115, 32, 104, 97, 110, 100, 99, 97, 114, 116, 47, 104, 97, 110, 100, 99, 97, 114, 116, 108, 97, 119, 49, 48, 46, 76, 97, 116, 74, 111, 105, 110, 115, 32, 104, 97, 110, 100, 99, 97, 114, 116, 47, 104, 97, 110, 100, 99, 97, 114, 116, 108, 97, 119, 49, 48, 46, 76, 97, 116, 76, 101, 97, 115, 116, 32, 104, 97, 110, 100, 99, 97, 114, 116, 47, 104, 97, 110, 100, 99, 97, 114, 116, 108, 97, 119, 49, 54, 46, 78, 111, 116, 101, 76, 97, 115, 116, 32, 104, 97, 110, 100, 99, 97, 114, 116, 47, 104, 97, 110, 100, 99, 97, 114, 116, 108, 97, 119, 49, 54, 46, 78, 111, 116, 101, 80, 117, 116, 115, 32, 104, 97, 110, 100, 99, 97, 114, 116, 47, 104, 97, 110, 100, 99, 97, 114, 116, 108, 97, 119, 49, 49, 46, 68, 101, 108, 116, 97, 76, 101, 97, 115, 116, 32, 104, 97, 110, 100, 99, 97, 114, 116, 47, 104, 97, 110, 100, 99, 97, 114, 116, 108, 97, 119, 49, 49, 46, 68, 101, 108, 116, 97, 78, 101, 101, 100, 108, 101, 115, 115, 32, 104, 97, 110, 100, 99, 97, 114, 116, 47, 104, 97, 110, 100, 99, 97, 114, 116, 108, 97, 119, 49, 49, 46, 68, 101, 108, 116, 97, 80, 97, 114, 116, 115, 32, 104, 97, 110, 100, 99, 97, 114, 116, 47, 104, 97, 110, 100, 99, 97, 114, 116, 108, 97, 119, 49, 49, 46, 68, 101, 108, 116, 97, 83, 116, 97, 110, 100, 115, 32, 104, 97, 110, 100, 99, 97, 114, 116, 47, 104, 97, 110, 100, 99, 97, 114, 116, 108, 97, 119, 49, 52, 46, 84, 97, 103, 115, 65, 100, 100, 115, 32, 104, 97, 110, 100, 99, 97, 114, 116, 47, 104, 97, 110, 100, 99, 97, 114, 116, 108, 97, 119, 49, 52, 46, 84, 97, 103, 115, 87, 105, 110, 32, 104, 97, 110, 100, 99, 97, 114, 116, 47, 104, 97, 110, 100, 99, 97, 114, 116, 108, 97, 119, 49, 53, 46, 67, 111, 117, 110, 116, 84, 117, 114, 110, 115, 32, 104, 97, 110, 100, 99, 97, 114, 116, 47, 104, 97, 110, 100, 99, 97, 114, 116, 108, 97, 119, 49, 53, 46, 67, 111, 117, 110, 116, 65, 100, 100, 115, 32, 104, 97, 110, 100, 99, 97, 114, 116, 47, 104, 97, 110, 100, 99, 97, 114, 116, 108, 97, 119, 50, 49, 46, 67, 104, 117, 110, 107, 70, 101, 119, 101, 115, 116, 32, 104, 97, 110, 100, 99, 97, 114, 116, 47, 104, 97, 110, 100, 99, 97, 114, 116, 108, 97, 119, 49, 51, 46, 68, 111, 116, 115, 65, 100, 100, 115, 32, 104, 97, 110, 100, 99, 97, 114, 116, 47, 104, 97, 110, 100, 99, 97, 114, 116, 108, 97, 119, 49, 51, 46, 68, 111, 116, 115, 65, 108, 111, 110, 101, 32, 104, 97, 110, 100, 99, 97, 114, 116, 47, 104, 97, 110, 100, 99, 97, 114, 116, 108, 97, 119, 49, 51, 46, 68, 111, 116, 115, 74, 111, 105, 110, 115]
theorem io_eq : Try.prog.initOrder = String.ofList ("harness".toList ++ Char.ofNat 32 :: (ioS.map Char.ofNat ++ Char.ofNat 32 :: ("cut".toList ++ Char.ofNat 32 :: ioB.map Char.ofNat))) := by kernel_rfl
theorem io_sum : isSumSigns (ioS.map Char.ofNat) = true := by kernel_rfl
theorem io_hd : ∃ R, behindMainWord (wordsSigns Try.prog.initOrder.toList) = "cut".toList :: R := head_words io_eq io_sum (by decide)
theorem p_make : Try.prog.make = some .cut := make_of io_hd
theorem p_lifts : Try.prog.liftsFinal = false := lifts_of io_hd
theorem p_ll : Try.prog.laysLater = false := by kernel_rfl
theorem p_br : Try.prog.bearsReflect = false := by kernel_rfl
theorem p_df : Try.prog.doorFits [] = true := by kernel_rfl
theorem p_enter : Try.prog.mayEnter = true := enter_of io_hd p_ll p_br p_df
theorem p_rowed : mapsRowed Try.prog = true := by kernel_rfl
theorem p_stops : (Try.prog.stops == []) = true := by kernel_rfl
theorem p_knobs : (Try.prog.stopKnobs == []) = true := by kernel_rfl
theorem p_keys : Try.prog.plainKeys = false := by kernel_rfl
theorem p_heard : Try.prog.stopsHeard = true := by kernel_rfl
end Go.Proofs.Ytmgacmkikefpjaa
