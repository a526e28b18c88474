/- Package date's forms on the small machine: fixed. -/
import Derived.Test.YtfkebmdfcpnaeaaDoorVReaders
set_option linter.unusedVariables false
set_option linter.unusedSimpArgs false
namespace Go.Proofs.YtfkebmdfcpnaeaaDoor.Vh
open Go.Vm Go.Vt
attribute [local congr] wi_congr wg_congr wgd_congr wb_congr wl_congr cf_congr
variable {L : FuncId → List V → V → Prop} {h : Heap}
theorem dayR_rest (long : Bool) (r : Rd) : (dayR long r).2.1.length ≤ r.1.length := by
  unfold dayR; split
  · simp only [List.length_drop]; omega
  · exact Nat.le_refl _
theorem clkR_rest (r : Rd) : (clkR r).2.1.length ≤ r.1.length := by
  have h1 := numR_rest 2 r
  have h2 := needR_rest [58] (numR 2 r).2
  have h3 := numR_rest 2 (needR [58] (numR 2 r).2)
  have h4 := needR_rest [58] (numR 2 (needR [58] (numR 2 r).2)).2
  have h5 := numR_rest 2 (needR [58] (numR 2 (needR [58] (numR 2 r).2)).2)
  unfold clkR
  simp only
  split <;> first | omega | (simp only; omega)
theorem clkR_le (r : Rd) : 0 ≤ (clkR r).1 ∧ (clkR r).1 ≤ 2000000000 := by
  have h1 := numR_le (n := 2) (by omega) r
  have h3 := numR_le (n := 2) (by omega) (needR [58] (numR 2 r).2)
  have h5 := numR_le (n := 2) (by omega) (needR [58] (numR 2 (needR [58] (numR 2 r).2)).2)
  unfold clkR
  simp only
  omega
def fixedR (r : Rd) : V :=
  let q1 := dayR false r
  let q2 := needR [44, 32] q1.2
  let q3 := numR 2 q2
  let q4 := needR [32] q3.2
  let q5 := monR q4
  let q6 := needR [32] q5.2
  let q7 := numR 4 q6
  let q8 := needR [32] q7.2
  let q9 := clkR q8
  let q10 := needR [32, 71, 77, 84] q9.2
  secR q10 q1.1 q7.1 q5.1 q3.1 q9.1
theorem secR_tup (r : Rd) (w y m d c : Int) : ∃ (n : Int) (b : Bool), secR r w y m d c = .tup [.int .i64 n, .bool b] := by
  unfold secR; split
  · exact ⟨_, _, rfl⟩
  · exact ⟨_, _, rfl⟩
theorem fixed_ok {id : Nat} {r : Rd} (hb : h[id]? = some (bx r)) (hl : r.1.length < 9223372036854775807) : Cf F L i_date_fixed [.ptr id 0] h (fun v h' => v = fixedR r ∧ ∃ r' t, h' = h.set id (bx r') ++ t) := by
  refine run_date_fixed ?_
  simp only [p_date_fixed]
  have hi := rd_len hb
  unfold fixedR
  simp only
  have l1 := dayR_rest false r
  refine Cf.rd (day_ok (long := false) (hb) (by omega)) fun t1 => ?_
  generalize dayR false r = q1 at *
  have l2 := needR_rest [44, 32] q1.2
  refine Cf.rd (need_ok (p := [44, 32]) (rd_at hi) (by simp) (by omega)) fun t2 => ?_
  rw [rd_set hi]
  try rw [List.append_assoc]
  generalize needR [44, 32] q1.2 = q2 at *
  have l3 := numR_rest 2 q2
  refine Cf.rd (number_ok (n := 2) (rd_at hi) (by omega) (by omega)) fun t3 => ?_
  rw [rd_set hi]
  try rw [List.append_assoc]
  generalize numR 2 q2 = q3 at *
  have l4 := needR_rest [32] q3.2
  refine Cf.rd (need_ok (p := [32]) (rd_at hi) (by simp) (by omega)) fun t4 => ?_
  rw [rd_set hi]
  try rw [List.append_assoc]
  generalize needR [32] q3.2 = q4 at *
  have l5 := monR_rest q4
  refine Cf.rd (month_ok' (rd_at hi) (by omega)) fun t5 => ?_
  rw [rd_set hi]
  try rw [List.append_assoc]
  generalize monR q4 = q5 at *
  have l6 := needR_rest [32] q5.2
  refine Cf.rd (need_ok (p := [32]) (rd_at hi) (by simp) (by omega)) fun t6 => ?_
  rw [rd_set hi]
  try rw [List.append_assoc]
  generalize needR [32] q5.2 = q6 at *
  have l7 := numR_rest 4 q6
  refine Cf.rd (number_ok (n := 4) (rd_at hi) (by omega) (by omega)) fun t7 => ?_
  rw [rd_set hi]
  try rw [List.append_assoc]
  generalize numR 4 q6 = q7 at *
  have l8 := needR_rest [32] q7.2
  refine Cf.rd (need_ok (p := [32]) (rd_at hi) (by simp) (by omega)) fun t8 => ?_
  rw [rd_set hi]
  try rw [List.append_assoc]
  generalize needR [32] q7.2 = q8 at *
  have l9 := clkR_rest q8
  have bc := clkR_le q8
  refine Cf.rd (clock_ok (rd_at hi) (by omega)) fun t9 => ?_
  rw [rd_set hi]
  try rw [List.append_assoc]
  generalize clkR q8 = q9 at *
  have l10 := needR_rest [32, 71, 77, 84] q9.2
  refine Cf.rd (need_ok (p := [32, 71, 77, 84]) (rd_at hi) (by simp) (by omega)) fun t10 => ?_
  rw [rd_set hi]
  try rw [List.append_assoc]
  generalize needR [32, 71, 77, 84] q9.2 = q10 at *
  refine Cf.pu (second_ok (rd_at hi) bc.1 (by omega)) fun t11 => ?_
  obtain ⟨n, b, e⟩ := secR_tup q10 q1.1 q7.1 q5.1 q3.1 q9.1
  rw [e]
  simp (maxSteps := 4000000) only [vm, vl, Arg.get, cells, stor, boundO, resultsV, resV, partK, loadV, Vm.part, fillC, splice, reduceIte, reduceCtorEq, Nat.reduceEqDiff, Nat.reduceAdd, Nat.reduceSub, Nat.reduceMul, Nat.reduceLeDiff, ne_eq, not_false_eq_true, Int.reduceEq, Int.reduceLT, Int.reduceLE, Int.reduceNeg, Int.reduceToNat, Int.reduceGT, Int.reduceGE, Nat.reduceLT, Nat.lt_add_one, Nat.zero_lt_succ, Nat.succ_pos, Nat.zero_le, beq_self_eq_true]
  exact ⟨q10, _, rfl⟩
open Go.Vm Go.Vt
attribute [local congr] wi_congr wg_congr wgd_congr wb_congr wl_congr cf_congr
def oldR (r : Rd) : V :=
  let q1 := dayR true r
  let q2 := needR [44, 32] q1.2
  let q3 := numR 2 q2
  let q4 := needR [45] q3.2
  let q5 := monR q4
  let q6 := needR [45] q5.2
  let q7 := numR 2 q6
  let q8 := needR [32] q7.2
  let q9 := clkR q8
  let q10 := needR [32, 71, 77, 84] q9.2
  secR q10 q1.1 (if q7.1 ≥ 70 then q7.1 + 1900 else q7.1 + 2000) q5.1 q3.1 q9.1
theorem old_ok {id : Nat} {r : Rd} (hb : h[id]? = some (bx r)) (hl : r.1.length < 9223372036854775807) : Cf F L i_date_old [.ptr id 0] h (fun v h' => v = oldR r ∧ ∃ r' t, h' = h.set id (bx r') ++ t) := by
  refine run_date_old ?_
  simp only [p_date_old]
  have hi := rd_len hb
  unfold oldR
  simp only
  have l1 := dayR_rest true r
  refine Cf.rd (day_ok (long := true) (hb) (by omega)) fun t1 => ?_
  generalize dayR true r = q1 at *
  have l2 := needR_rest [44, 32] q1.2
  refine Cf.rd (need_ok (p := [44, 32]) (rd_at hi) (by simp) (by omega)) fun t2 => ?_
  rw [rd_set hi]
  try rw [List.append_assoc]
  generalize needR [44, 32] q1.2 = q2 at *
  have l3 := numR_rest 2 q2
  have bn3 := numR_le (n := 2) (by omega) q2
  refine Cf.rd (number_ok (n := 2) (rd_at hi) (by omega) (by omega)) fun t3 => ?_
  rw [rd_set hi]
  try rw [List.append_assoc]
  generalize numR 2 q2 = q3 at *
  have l4 := needR_rest [45] q3.2
  refine Cf.rd (need_ok (p := [45]) (rd_at hi) (by simp) (by omega)) fun t4 => ?_
  rw [rd_set hi]
  try rw [List.append_assoc]
  generalize needR [45] q3.2 = q4 at *
  have l5 := monR_rest q4
  refine Cf.rd (month_ok' (rd_at hi) (by omega)) fun t5 => ?_
  rw [rd_set hi]
  try rw [List.append_assoc]
  generalize monR q4 = q5 at *
  have l6 := needR_rest [45] q5.2
  refine Cf.rd (need_ok (p := [45]) (rd_at hi) (by simp) (by omega)) fun t6 => ?_
  rw [rd_set hi]
  try rw [List.append_assoc]
  generalize needR [45] q5.2 = q6 at *
  have l7 := numR_rest 2 q6
  have bn7 := numR_le (n := 2) (by omega) q6
  refine Cf.rd (number_ok (n := 2) (rd_at hi) (by omega) (by omega)) fun t7 => ?_
  rw [rd_set hi]
  try rw [List.append_assoc]
  generalize numR 2 q6 = q7 at *
  have l8 := needR_rest [32] q7.2
  refine Cf.rd (need_ok (p := [32]) (rd_at hi) (by simp) (by omega)) fun t8 => ?_
  rw [rd_set hi]
  try rw [List.append_assoc]
  generalize needR [32] q7.2 = q8 at *
  have l9 := clkR_rest q8
  have bc := clkR_le q8
  refine Cf.rd (clock_ok (rd_at hi) (by omega)) fun t9 => ?_
  rw [rd_set hi]
  try rw [List.append_assoc]
  generalize clkR q8 = q9 at *
  have l10 := needR_rest [32, 71, 77, 84] q9.2
  refine Cf.rd (need_ok (p := [32, 71, 77, 84]) (rd_at hi) (by simp) (by omega)) fun t10 => ?_
  rw [rd_set hi]
  try rw [List.append_assoc]
  generalize needR [32, 71, 77, 84] q9.2 = q10 at *
  have w1 : IntKind.i64.wrap (q7.1 + 1900) = q7.1 + 1900 := wrap64 (by omega) (by omega)
  have w2 : IntKind.i64.wrap (q7.1 + 2000) = q7.1 + 2000 := wrap64 (by omega) (by omega)
  by_cases hy : q7.1 ≥ 70
  · rw [if_pos hy]
    obtain ⟨n, b, e⟩ := secR_tup q10 q1.1 (q7.1 + 1900) q5.1 q3.1 q9.1
    simp (maxSteps := 4000000) only [vm, vl, Arg.get, cells, stor, boundO, resultsV, resV, partK, loadV, Vm.part, fillC, splice, reduceIte, reduceCtorEq, Nat.reduceEqDiff, Nat.reduceAdd, Nat.reduceSub, Nat.reduceMul, Nat.reduceLeDiff, ne_eq, not_false_eq_true, Int.reduceEq, Int.reduceLT, Int.reduceLE, Int.reduceNeg, Int.reduceToNat, Int.reduceGT, Int.reduceGE, Nat.reduceLT, Nat.lt_add_one, Nat.zero_lt_succ, Nat.succ_pos, Nat.zero_le, beq_self_eq_true, k_date_old_0, hy, decide_true, w1, w2]
    refine Cf.pu (second_ok (rd_at hi) bc.1 (by omega)) fun t11 => ?_
    rw [e]
    simp (maxSteps := 4000000) only [vm, vl, Arg.get, cells, stor, boundO, resultsV, resV, partK, loadV, Vm.part, fillC, splice, reduceIte, reduceCtorEq, Nat.reduceEqDiff, Nat.reduceAdd, Nat.reduceSub, Nat.reduceMul, Nat.reduceLeDiff, ne_eq, not_false_eq_true, Int.reduceEq, Int.reduceLT, Int.reduceLE, Int.reduceNeg, Int.reduceToNat, Int.reduceGT, Int.reduceGE, Nat.reduceLT, Nat.lt_add_one, Nat.zero_lt_succ, Nat.succ_pos, Nat.zero_le, beq_self_eq_true, k_date_old_0]
    exact ⟨q10, _, rfl⟩
  · rw [if_neg hy]
    obtain ⟨n, b, e⟩ := secR_tup q10 q1.1 (q7.1 + 2000) q5.1 q3.1 q9.1
    simp (maxSteps := 4000000) only [vm, vl, Arg.get, cells, stor, boundO, resultsV, resV, partK, loadV, Vm.part, fillC, splice, reduceIte, reduceCtorEq, Nat.reduceEqDiff, Nat.reduceAdd, Nat.reduceSub, Nat.reduceMul, Nat.reduceLeDiff, ne_eq, not_false_eq_true, Int.reduceEq, Int.reduceLT, Int.reduceLE, Int.reduceNeg, Int.reduceToNat, Int.reduceGT, Int.reduceGE, Nat.reduceLT, Nat.lt_add_one, Nat.zero_lt_succ, Nat.succ_pos, Nat.zero_le, beq_self_eq_true, k_date_old_0, hy, decide_false, w1, w2]
    refine Cf.pu (second_ok (rd_at hi) bc.1 (by omega)) fun t11 => ?_
    rw [e]
    simp (maxSteps := 4000000) only [vm, vl, Arg.get, cells, stor, boundO, resultsV, resV, partK, loadV, Vm.part, fillC, splice, reduceIte, reduceCtorEq, Nat.reduceEqDiff, Nat.reduceAdd, Nat.reduceSub, Nat.reduceMul, Nat.reduceLeDiff, ne_eq, not_false_eq_true, Int.reduceEq, Int.reduceLT, Int.reduceLE, Int.reduceNeg, Int.reduceToNat, Int.reduceGT, Int.reduceGE, Nat.reduceLT, Nat.lt_add_one, Nat.zero_lt_succ, Nat.succ_pos, Nat.zero_le, beq_self_eq_true, k_date_old_0]
    exact ⟨q10, _, rfl⟩
def plainB (dg : Nat) (w m : Int) (x : Rd) : V :=
  let q5 := numR dg x
  let q6 := needR [32] q5.2
  let q7 := clkR q6
  let q8 := needR [32] q7.2
  let q9 := numR 4 q8
  secR q9.2 w q9.1 m q5.1 q7.1
def plainR (r : Rd) : V :=
  let q1 := dayR false r
  let q2 := needR [32] q1.2
  let q3 := monR q2
  let q4 := needR [32] q3.2
  if q4.1.length > 0 ∧ q4.1.getD 0 0 = 32 then plainB 1 q1.1 q3.1 (takeR 1 q4).2 else plainB 2 q1.1 q3.1 q4
theorem plainB_ok {id dg : Nat} {w m : Int} {x : Rd} {t : Heap} (hi : id < h.length) (hl : x.1.length < 9223372036854775807) (hd : dg ≤ 4) : k_date_plain_0 L (fun v h' => v = plainB dg w m x ∧ ∃ r' t, h' = h.set id (bx r') ++ t) (.ptr id 0) (.int .i64 w) (.int .i64 m) (.int .i64 dg) (h.set id (bx x) ++ t) := by
  
  unfold plainB k_date_plain_0
  simp only
  have l5 := numR_rest dg x
  have bn5 := numR_le (n := dg) (by omega) x
  refine Cf.rd (number_ok (n := dg) (rd_at hi) (by omega) (by omega)) fun t5 => ?_
  rw [rd_set hi]
  try rw [List.append_assoc]
  generalize numR dg x = q5 at *
  have l6 := needR_rest [32] q5.2
  refine Cf.rd (need_ok (p := [32]) (rd_at hi) (by simp) (by omega)) fun t6 => ?_
  rw [rd_set hi]
  try rw [List.append_assoc]
  generalize needR [32] q5.2 = q6 at *
  have l7 := clkR_rest q6
  have bc := clkR_le q6
  refine Cf.rd (clock_ok (rd_at hi) (by omega)) fun t7 => ?_
  rw [rd_set hi]
  try rw [List.append_assoc]
  generalize clkR q6 = q7 at *
  have l8 := needR_rest [32] q7.2
  refine Cf.rd (need_ok (p := [32]) (rd_at hi) (by simp) (by omega)) fun t8 => ?_
  rw [rd_set hi]
  try rw [List.append_assoc]
  generalize needR [32] q7.2 = q8 at *
  have l9 := numR_rest 4 q8
  have bn9 := numR_le (n := 4) (by omega) q8
  refine Cf.rd (number_ok (n := 4) (rd_at hi) (by omega) (by omega)) fun t9 => ?_
  rw [rd_set hi]
  try rw [List.append_assoc]
  generalize numR 4 q8 = q9 at *
  refine Cf.pu (second_ok (rd_at hi) bc.1 (by omega)) fun t11 => ?_
  obtain ⟨n, b, e⟩ := secR_tup q9.2 w q9.1 m q5.1 q7.1
  rw [e]
  simp (maxSteps := 4000000) only [vm, vl, Arg.get, cells, stor, boundO, resultsV, resV, partK, loadV, Vm.part, fillC, splice, reduceIte, reduceCtorEq, Nat.reduceEqDiff, Nat.reduceAdd, Nat.reduceSub, Nat.reduceMul, Nat.reduceLeDiff, ne_eq, not_false_eq_true, Int.reduceEq, Int.reduceLT, Int.reduceLE, Int.reduceNeg, Int.reduceToNat, Int.reduceGT, Int.reduceGE, Nat.reduceLT, Nat.lt_add_one, Nat.zero_lt_succ, Nat.succ_pos, Nat.zero_le, beq_self_eq_true, k_date_plain_0]
  exact ⟨q9.2, _, rfl⟩
theorem u32 {c : UInt8} : ((c.toNat : Int) = 32) = (c = 32) := propext ⟨fun h => by
  have h2 : c.toNat = (32 : UInt8).toNat := by rw [show (32 : UInt8).toNat = 32 from rfl]; omega
  exact UInt8.toNat_inj.1 h2, fun h => by rw [h]; rfl⟩
theorem plain_ok {id : Nat} {r : Rd} (hb : h[id]? = some (bx r)) (hl : r.1.length < 9223372036854775807) : Cf F L i_date_plain [.ptr id 0] h (fun v h' => v = plainR r ∧ ∃ r' t, h' = h.set id (bx r') ++ t) := by
  refine run_date_plain ?_
  simp only [p_date_plain]
  
  have hi := rd_len hb
  unfold plainR
  simp only
  have l1 := dayR_rest false r
  refine Cf.rd (day_ok (long := false) (hb) (by omega)) fun t1 => ?_
  generalize dayR false r = q1 at *
  have l2 := needR_rest [32] q1.2
  refine Cf.rd (need_ok (p := [32]) (rd_at hi) (by simp) (by omega)) fun t2 => ?_
  rw [rd_set hi]
  try rw [List.append_assoc]
  generalize needR [32] q1.2 = q2 at *
  have l3 := monR_rest q2
  refine Cf.rd (month_ok' (rd_at hi) (by omega)) fun t3 => ?_
  rw [rd_set hi]
  try rw [List.append_assoc]
  generalize monR q2 = q3 at *
  have l4 := needR_rest [32] q3.2
  refine Cf.rd (need_ok (p := [32]) (rd_at hi) (by simp) (by omega)) fun t4 => ?_
  rw [rd_set hi]
  try rw [List.append_assoc]
  generalize needR [32] q3.2 = q4 at *
  have hb2 : ∀ t, (h.set id (bx q4) ++ t)[id]? = some (O.box [.str q4.1, .bool q4.2]) := fun t => rd_at hi
  by_cases c1 : q4.1.length > 0
  · have c1' : (q4.1.length : Int) > 0 := by omega
    have z0 : 0 < q4.1.length := c1
    by_cases c2 : q4.1.getD 0 0 = 32
    · have c2' : (((q4.1.getD 0 0).toNat : Int) = 32) = True := by rw [u32]; exact eq_true c2
      rw [if_pos ⟨c1, c2⟩]
      simp (maxSteps := 4000000) only [vm, vl, Arg.get, cells, stor, boundO, resultsV, resV, partK, loadV, Vm.part, fillC, splice, reduceIte, reduceCtorEq, Nat.reduceEqDiff, Nat.reduceAdd, Nat.reduceSub, Nat.reduceMul, Nat.reduceLeDiff, ne_eq, not_false_eq_true, Int.reduceEq, Int.reduceLT, Int.reduceLE, Int.reduceNeg, Int.reduceToNat, Int.reduceGT, Int.reduceGE, Nat.reduceLT, Nat.lt_add_one, Nat.zero_lt_succ, Nat.succ_pos, Nat.zero_le, beq_self_eq_true, hb2, c1', c2', z0, decide_true]
      have l5 := takeR_rest 1 q4
      refine Cf.rd (take_ok (n := 1) (rd_at hi) (by omega) (by omega)) fun t5 => ?_
      rw [rd_set hi]
      try rw [List.append_assoc]
      exact plainB_ok (dg := 1) hi (by omega) (by omega)
    · have c2' : (((q4.1.getD 0 0).toNat : Int) = 32) = False := by rw [u32]; exact eq_false c2
      rw [if_neg (fun h => c2 h.2)]
      simp (maxSteps := 4000000) only [vm, vl, Arg.get, cells, stor, boundO, resultsV, resV, partK, loadV, Vm.part, fillC, splice, reduceIte, reduceCtorEq, Nat.reduceEqDiff, Nat.reduceAdd, Nat.reduceSub, Nat.reduceMul, Nat.reduceLeDiff, ne_eq, not_false_eq_true, Int.reduceEq, Int.reduceLT, Int.reduceLE, Int.reduceNeg, Int.reduceToNat, Int.reduceGT, Int.reduceGE, Nat.reduceLT, Nat.lt_add_one, Nat.zero_lt_succ, Nat.succ_pos, Nat.zero_le, beq_self_eq_true, hb2, c1', c2', z0, decide_true, decide_false]
      exact plainB_ok (dg := 2) hi (by omega) (by omega)
  · have c1' : ¬ (q4.1.length : Int) > 0 := by omega
    rw [if_neg (fun h => c1 h.1)]
    simp (maxSteps := 4000000) only [vm, vl, Arg.get, cells, stor, boundO, resultsV, resV, partK, loadV, Vm.part, fillC, splice, reduceIte, reduceCtorEq, Nat.reduceEqDiff, Nat.reduceAdd, Nat.reduceSub, Nat.reduceMul, Nat.reduceLeDiff, ne_eq, not_false_eq_true, Int.reduceEq, Int.reduceLT, Int.reduceLE, Int.reduceNeg, Int.reduceToNat, Int.reduceGT, Int.reduceGE, Nat.reduceLT, Nat.lt_add_one, Nat.zero_lt_succ, Nat.succ_pos, Nat.zero_le, beq_self_eq_true, hb2, c1', decide_false]
    exact plainB_ok (dg := 2) hi (by omega) (by omega)
open Go.Vm Go.Vt
attribute [local congr] wi_congr wg_congr wgd_congr wb_congr wl_congr cf_congr
def formR (s : Bs) : Nat → V
  | 0 => fixedR (s, true)
  | 1 => oldR (s, true)
  | _ => plainR (s, true)
theorem formR_tup (s : Bs) (i : Nat) : ∃ (n : Int) (b : Bool), formR s i = .tup [.int .i64 n, .bool b] := by
  match i with
  | 0 => unfold formR fixedR; simp only; exact secR_tup _ _ _ _ _ _
  | 1 => unfold formR oldR; simp only; exact secR_tup _ _ _ _ _ _
  | _ + 2 =>
    unfold formR plainR plainB
    simp only
    split
    · exact secR_tup _ _ _ _ _ _
    · exact secR_tup _ _ _ _ _ _
def okV : V → Option Int
  | .tup [.int .i64 n, .bool true] => some n
  | _ => none
def orG (a b : Option Int) : Option Int := match a with
  | some n => some n
  | none => b
def dateS (s : Bs) : Option Int := orG (okV (formR s 0)) (orG (okV (formR s 1)) (okV (formR s 2)))
def dateV : Option Int → V
  | some n => .tup [.int .i64 n, .bool true]
  | none => .tup [.int .i64 0, .bool false]
theorem form_ok {s : Bs} (hs : s.length < 9223372036854775807) : ∀ (f : FuncId) (i : Nat), (i = 0 ∧ f = i_date_fixed) ∨ (i = 1 ∧ f = i_date_old) ∨ (i = 2 ∧ f = i_date_plain) → ∀ (t : Heap) (K : V → Heap → Prop), (∀ t', K (formR s i) (h ++ t')) → Cf F L f [.ptr (h.length + t.length) 0] (h ++ (t ++ [O.box [.str s, .bool true]])) K := by
  intro f i hfi t K hK
  have hb : (h ++ (t ++ [O.box [.str s, .bool true]]))[h.length + t.length]? = some (bx (s, true)) := by
    rw [← List.append_assoc, List.getElem?_append_right (by simp)]; simp [bx]
  have post : ∀ (v : V), v = formR s i → ∀ h', (∃ r' t', h' = (h ++ (t ++ [O.box [.str s, .bool true]])).set (h.length + t.length) (bx r') ++ t') → K v h' := by
    rintro v rfl h' ⟨r', t', rfl⟩
    rw [List.set_append_right _ _ (by omega), List.append_assoc]
    exact hK _
  rcases hfi with ⟨rfl, rfl⟩ | ⟨rfl, rfl⟩ | ⟨rfl, rfl⟩
  · exact (fixed_ok hb hs).mono fun v h' hp => post v hp.1 h' hp.2
  · exact (old_ok hb hs).mono fun v h' hp => post v hp.1 h' hp.2
  · exact (plain_ok hb hs).mono fun v h' hp => post v hp.1 h' hp.2
theorem DParse_ok {s : Bs} (hs : s.length < 9223372036854775807) : Cf F L i_date_Parse [.str s] h (Pu h (dateV (dateS s))) := by
  refine run_date_Parse ?_
  simp only [p_date_Parse]
  simp (maxSteps := 4000000) only [vm, vl, Arg.get, cells, stor, boundO, resultsV, resV, partK, loadV, Vm.part, fillC, splice, reduceIte, reduceCtorEq, Nat.reduceEqDiff, Nat.reduceAdd, Nat.reduceSub, Nat.reduceMul, Nat.reduceLeDiff, ne_eq, not_false_eq_true, Int.reduceEq, Int.reduceLT, Int.reduceLE, Int.reduceNeg, Int.reduceToNat, Int.reduceGT, Int.reduceGE, Nat.reduceLT, Nat.lt_add_one, Nat.zero_lt_succ, Nat.succ_pos, Nat.zero_le, beq_self_eq_true, k_date_Parse_0, k_date_Parse_2, k_date_Parse_1]
  refine l_date_Parse_0 (fun n e h' => ∃ i, n = 3 - i ∧ i ≤ 3 ∧ e 0 = .str s ∧ e 8 = .agg [.fn i_date_fixed [], .fn i_date_old [], .fn i_date_plain []] ∧ e 9 = .int .i64 i ∧ (∃ t, h' = h ++ t) ∧ ∀ j, j < i → okV (formR s j) = none) ?_ (n := 3) ⟨0, by simp, by simp, rfl, rfl, rfl, ⟨[], by simp⟩, by simp⟩
  rintro n e h' ⟨i, rfl, hil, e0, e8, e9, ⟨t, rfl⟩, hj⟩
  simp only [b_date_Parse_0]
  have hi : i = 0 ∨ i = 1 ∨ i = 2 ∨ i = 3 := by omega
  have nx : okV (formR s i) = none → ∀ j, j < i + 1 → okV (formR s j) = none := by
    intro hx j hj'
    rcases Nat.lt_or_ge j i with h1 | h1
    · exact hj j h1
    · have : j = i := by omega
      subst this; exact hx
  obtain ⟨n, b, en⟩ := formR_tup s i
  have P := fun f hf => form_ok (L := L) (h := h) hs f i hf t
  rcases hi with rfl | rfl | rfl | rfl
  · simp (maxSteps := 4000000) only [vm, vl, Arg.get, cells, stor, boundO, resultsV, resV, partK, loadV, Vm.part, fillC, splice, reduceIte, reduceCtorEq, Nat.reduceEqDiff, Nat.reduceAdd, Nat.reduceSub, Nat.reduceMul, Nat.reduceLeDiff, ne_eq, not_false_eq_true, Int.reduceEq, Int.reduceLT, Int.reduceLE, Int.reduceNeg, Int.reduceToNat, Int.reduceGT, Int.reduceGE, Nat.reduceLT, Nat.lt_add_one, Nat.zero_lt_succ, Nat.succ_pos, Nat.zero_le, beq_self_eq_true, k_date_Parse_0, k_date_Parse_2, k_date_Parse_1, e0, e8, e9, decide_true, List.getD_cons_zero, List.getD_cons_succ, List.length_append]
    refine P _ (.inl ⟨rfl, rfl⟩) _ fun t' => ?_
    rw [en]
    cases b with
    | true =>
      have ed : dateS s = some n := by rw [dateS, en]; rfl
      rw [ed]
      simp (maxSteps := 4000000) only [vm, vl, Arg.get, cells, stor, boundO, resultsV, resV, partK, loadV, Vm.part, fillC, splice, reduceIte, reduceCtorEq, Nat.reduceEqDiff, Nat.reduceAdd, Nat.reduceSub, Nat.reduceMul, Nat.reduceLeDiff, ne_eq, not_false_eq_true, Int.reduceEq, Int.reduceLT, Int.reduceLE, Int.reduceNeg, Int.reduceToNat, Int.reduceGT, Int.reduceGE, Nat.reduceLT, Nat.lt_add_one, Nat.zero_lt_succ, Nat.succ_pos, Nat.zero_le, beq_self_eq_true, k_date_Parse_0, k_date_Parse_2, k_date_Parse_1, dateV]
    | false =>
      have w : IntKind.i64.wrap ((0 : Int) + 1) = ((0 + 1 : Nat) : Int) := by rw [wrap64 (by omega) (by omega)]; rfl
      simp (maxSteps := 4000000) only [vm, vl, Arg.get, cells, stor, boundO, resultsV, resV, partK, loadV, Vm.part, fillC, splice, reduceIte, reduceCtorEq, Nat.reduceEqDiff, Nat.reduceAdd, Nat.reduceSub, Nat.reduceMul, Nat.reduceLeDiff, ne_eq, not_false_eq_true, Int.reduceEq, Int.reduceLT, Int.reduceLE, Int.reduceNeg, Int.reduceToNat, Int.reduceGT, Int.reduceGE, Nat.reduceLT, Nat.lt_add_one, Nat.zero_lt_succ, Nat.succ_pos, Nat.zero_le, beq_self_eq_true, k_date_Parse_0, k_date_Parse_2, k_date_Parse_1, w]
      exact ⟨3 - (0 + 1), by omega, 0 + 1, rfl, by omega, rfl, ⟨t', rfl⟩, nx (by rw [en]; rfl)⟩
  · simp (maxSteps := 4000000) only [vm, vl, Arg.get, cells, stor, boundO, resultsV, resV, partK, loadV, Vm.part, fillC, splice, reduceIte, reduceCtorEq, Nat.reduceEqDiff, Nat.reduceAdd, Nat.reduceSub, Nat.reduceMul, Nat.reduceLeDiff, ne_eq, not_false_eq_true, Int.reduceEq, Int.reduceLT, Int.reduceLE, Int.reduceNeg, Int.reduceToNat, Int.reduceGT, Int.reduceGE, Nat.reduceLT, Nat.lt_add_one, Nat.zero_lt_succ, Nat.succ_pos, Nat.zero_le, beq_self_eq_true, k_date_Parse_0, k_date_Parse_2, k_date_Parse_1, e0, e8, e9, decide_true, List.getD_cons_zero, List.getD_cons_succ, List.length_append]
    refine P _ (.inr (.inl ⟨rfl, rfl⟩)) _ fun t' => ?_
    rw [en]
    cases b with
    | true =>
      have ed : dateS s = some n := by rw [dateS, hj 0 (by omega), en]; rfl
      rw [ed]
      simp (maxSteps := 4000000) only [vm, vl, Arg.get, cells, stor, boundO, resultsV, resV, partK, loadV, Vm.part, fillC, splice, reduceIte, reduceCtorEq, Nat.reduceEqDiff, Nat.reduceAdd, Nat.reduceSub, Nat.reduceMul, Nat.reduceLeDiff, ne_eq, not_false_eq_true, Int.reduceEq, Int.reduceLT, Int.reduceLE, Int.reduceNeg, Int.reduceToNat, Int.reduceGT, Int.reduceGE, Nat.reduceLT, Nat.lt_add_one, Nat.zero_lt_succ, Nat.succ_pos, Nat.zero_le, beq_self_eq_true, k_date_Parse_0, k_date_Parse_2, k_date_Parse_1, dateV]
    | false =>
      have w : IntKind.i64.wrap ((1 : Int) + 1) = ((1 + 1 : Nat) : Int) := by rw [wrap64 (by omega) (by omega)]; rfl
      simp (maxSteps := 4000000) only [vm, vl, Arg.get, cells, stor, boundO, resultsV, resV, partK, loadV, Vm.part, fillC, splice, reduceIte, reduceCtorEq, Nat.reduceEqDiff, Nat.reduceAdd, Nat.reduceSub, Nat.reduceMul, Nat.reduceLeDiff, ne_eq, not_false_eq_true, Int.reduceEq, Int.reduceLT, Int.reduceLE, Int.reduceNeg, Int.reduceToNat, Int.reduceGT, Int.reduceGE, Nat.reduceLT, Nat.lt_add_one, Nat.zero_lt_succ, Nat.succ_pos, Nat.zero_le, beq_self_eq_true, k_date_Parse_0, k_date_Parse_2, k_date_Parse_1, w]
      exact ⟨3 - (1 + 1), by omega, 1 + 1, rfl, by omega, rfl, ⟨t', rfl⟩, nx (by rw [en]; rfl)⟩
  · simp (maxSteps := 4000000) only [vm, vl, Arg.get, cells, stor, boundO, resultsV, resV, partK, loadV, Vm.part, fillC, splice, reduceIte, reduceCtorEq, Nat.reduceEqDiff, Nat.reduceAdd, Nat.reduceSub, Nat.reduceMul, Nat.reduceLeDiff, ne_eq, not_false_eq_true, Int.reduceEq, Int.reduceLT, Int.reduceLE, Int.reduceNeg, Int.reduceToNat, Int.reduceGT, Int.reduceGE, Nat.reduceLT, Nat.lt_add_one, Nat.zero_lt_succ, Nat.succ_pos, Nat.zero_le, beq_self_eq_true, k_date_Parse_0, k_date_Parse_2, k_date_Parse_1, e0, e8, e9, decide_true, List.getD_cons_zero, List.getD_cons_succ, List.length_append]
    refine P _ (.inr (.inr ⟨rfl, rfl⟩)) _ fun t' => ?_
    rw [en]
    cases b with
    | true =>
      have ed : dateS s = some n := by rw [dateS, hj 0 (by omega), hj 1 (by omega), en]; rfl
      rw [ed]
      simp (maxSteps := 4000000) only [vm, vl, Arg.get, cells, stor, boundO, resultsV, resV, partK, loadV, Vm.part, fillC, splice, reduceIte, reduceCtorEq, Nat.reduceEqDiff, Nat.reduceAdd, Nat.reduceSub, Nat.reduceMul, Nat.reduceLeDiff, ne_eq, not_false_eq_true, Int.reduceEq, Int.reduceLT, Int.reduceLE, Int.reduceNeg, Int.reduceToNat, Int.reduceGT, Int.reduceGE, Nat.reduceLT, Nat.lt_add_one, Nat.zero_lt_succ, Nat.succ_pos, Nat.zero_le, beq_self_eq_true, k_date_Parse_0, k_date_Parse_2, k_date_Parse_1, dateV]
    | false =>
      have w : IntKind.i64.wrap ((2 : Int) + 1) = ((2 + 1 : Nat) : Int) := by rw [wrap64 (by omega) (by omega)]; rfl
      simp (maxSteps := 4000000) only [vm, vl, Arg.get, cells, stor, boundO, resultsV, resV, partK, loadV, Vm.part, fillC, splice, reduceIte, reduceCtorEq, Nat.reduceEqDiff, Nat.reduceAdd, Nat.reduceSub, Nat.reduceMul, Nat.reduceLeDiff, ne_eq, not_false_eq_true, Int.reduceEq, Int.reduceLT, Int.reduceLE, Int.reduceNeg, Int.reduceToNat, Int.reduceGT, Int.reduceGE, Nat.reduceLT, Nat.lt_add_one, Nat.zero_lt_succ, Nat.succ_pos, Nat.zero_le, beq_self_eq_true, k_date_Parse_0, k_date_Parse_2, k_date_Parse_1, w]
      exact ⟨3 - (2 + 1), by omega, 2 + 1, rfl, by omega, rfl, ⟨t', rfl⟩, nx (by rw [en]; rfl)⟩
  · have ed : dateS s = none := by rw [dateS, hj 0 (by omega), hj 1 (by omega), hj 2 (by omega)]; rfl
    rw [ed]
    simp (maxSteps := 4000000) only [vm, vl, Arg.get, cells, stor, boundO, resultsV, resV, partK, loadV, Vm.part, fillC, splice, reduceIte, reduceCtorEq, Nat.reduceEqDiff, Nat.reduceAdd, Nat.reduceSub, Nat.reduceMul, Nat.reduceLeDiff, ne_eq, not_false_eq_true, Int.reduceEq, Int.reduceLT, Int.reduceLE, Int.reduceNeg, Int.reduceToNat, Int.reduceGT, Int.reduceGE, Nat.reduceLT, Nat.lt_add_one, Nat.zero_lt_succ, Nat.succ_pos, Nat.zero_le, beq_self_eq_true, k_date_Parse_0, k_date_Parse_2, k_date_Parse_1, e0, e8, e9, decide_false, dateV]
end Go.Proofs.YtfkebmdfcpnaeaaDoor.Vh
