/- Package date's forms on the small machine: old, plain. -/
import Derived.Test.YtdgklgeddbfeaaaDoorVForms
set_option linter.unusedVariables false
set_option linter.unusedSimpArgs false
namespace Go.Proofs.YtdgklgeddbfeaaaDoor.Vh
open Go.Vm Go.Vt
attribute [local congr] wi_congr wg_congr wgd_congr wb_congr wl_congr cf_congr
variable {L : FuncId → List V → V → Prop} {h : Heap}
def oldR (r : Rd) : V :=
  let q1 := dayR true r
  let q2 := needR [44, 32] q1.2
  let q3 := numR 2 q2
  let q4 := needR [45] q3.2
  let q5 := monR q4
  let q6 := needR [45] q5.2
  let q7 := numR 2 q6
  let q8 := needR [32] q7.2
  let q9 := clkR q8
  let q10 := needR [32, 71, 77, 84] q9.2
  secR q10 q1.1 (if q7.1 ≥ 70 then q7.1 + 1900 else q7.1 + 2000) q5.1 q3.1 q9.1
theorem old_ok {id : Nat} {r : Rd} (hb : h[id]? = some (bx r)) (hl : r.1.length < 9223372036854775807) : Cf F L i_date_old [.ptr id 0] h (fun v h' => v = oldR r ∧ ∃ r' t, h' = h.set id (bx r') ++ t) := by
  refine run_date_old ?_
  simp only [p_date_old]
  have hi := rd_len hb
  unfold oldR
  simp only
  have l1 := dayR_rest true r
  refine Cf.rd (day_ok (long := true) (hb) (by omega)) fun t1 => ?_
  generalize dayR true r = q1 at *
  have l2 := needR_rest [44, 32] q1.2
  refine Cf.rd (need_ok (p := [44, 32]) (rd_at hi) (by simp) (by omega)) fun t2 => ?_
  rw [rd_set hi]
  try rw [List.append_assoc]
  generalize needR [44, 32] q1.2 = q2 at *
  have l3 := numR_rest 2 q2
  have bn3 := numR_le (n := 2) (by omega) q2
  refine Cf.rd (number_ok (n := 2) (rd_at hi) (by omega) (by omega)) fun t3 => ?_
  rw [rd_set hi]
  try rw [List.append_assoc]
  generalize numR 2 q2 = q3 at *
  have l4 := needR_rest [45] q3.2
  refine Cf.rd (need_ok (p := [45]) (rd_at hi) (by simp) (by omega)) fun t4 => ?_
  rw [rd_set hi]
  try rw [List.append_assoc]
  generalize needR [45] q3.2 = q4 at *
  have l5 := monR_rest q4
  refine Cf.rd (month_ok' (rd_at hi) (by omega)) fun t5 => ?_
  rw [rd_set hi]
  try rw [List.append_assoc]
  generalize monR q4 = q5 at *
  have l6 := needR_rest [45] q5.2
  refine Cf.rd (need_ok (p := [45]) (rd_at hi) (by simp) (by omega)) fun t6 => ?_
  rw [rd_set hi]
  try rw [List.append_assoc]
  generalize needR [45] q5.2 = q6 at *
  have l7 := numR_rest 2 q6
  have bn7 := numR_le (n := 2) (by omega) q6
  refine Cf.rd (number_ok (n := 2) (rd_at hi) (by omega) (by omega)) fun t7 => ?_
  rw [rd_set hi]
  try rw [List.append_assoc]
  generalize numR 2 q6 = q7 at *
  have l8 := needR_rest [32] q7.2
  refine Cf.rd (need_ok (p := [32]) (rd_at hi) (by simp) (by omega)) fun t8 => ?_
  rw [rd_set hi]
  try rw [List.append_assoc]
  generalize needR [32] q7.2 = q8 at *
  have l9 := clkR_rest q8
  have bc := clkR_le q8
  refine Cf.rd (clock_ok (rd_at hi) (by omega)) fun t9 => ?_
  rw [rd_set hi]
  try rw [List.append_assoc]
  generalize clkR q8 = q9 at *
  have l10 := needR_rest [32, 71, 77, 84] q9.2
  refine Cf.rd (need_ok (p := [32, 71, 77, 84]) (rd_at hi) (by simp) (by omega)) fun t10 => ?_
  rw [rd_set hi]
  try rw [List.append_assoc]
  generalize needR [32, 71, 77, 84] q9.2 = q10 at *
  have w1 : IntKind.i64.wrap (q7.1 + 1900) = q7.1 + 1900 := wrap64 (by omega) (by omega)
  have w2 : IntKind.i64.wrap (q7.1 + 2000) = q7.1 + 2000 := wrap64 (by omega) (by omega)
  by_cases hy : q7.1 ≥ 70
  · rw [if_pos hy]
    obtain ⟨n, b, e⟩ := secR_tup q10 q1.1 (q7.1 + 1900) q5.1 q3.1 q9.1
    simp (maxSteps := 4000000) only [vm, vl, Arg.get, cells, stor, boundO, resultsV, resV, partK, loadV, Vm.part, fillC, splice, reduceIte, reduceCtorEq, Nat.reduceEqDiff, Nat.reduceAdd, Nat.reduceSub, Nat.reduceMul, Nat.reduceLeDiff, ne_eq, not_false_eq_true, Int.reduceEq, Int.reduceLT, Int.reduceLE, Int.reduceNeg, Int.reduceToNat, Int.reduceGT, Int.reduceGE, Nat.reduceLT, Nat.lt_add_one, Nat.zero_lt_succ, Nat.succ_pos, Nat.zero_le, beq_self_eq_true, k_date_old_0, hy, decide_true, w1, w2]
    refine Cf.pu (second_ok (rd_at hi) bc.1 (by omega)) fun t11 => ?_
    rw [e]
    simp (maxSteps := 4000000) only [vm, vl, Arg.get, cells, stor, boundO, resultsV, resV, partK, loadV, Vm.part, fillC, splice, reduceIte, reduceCtorEq, Nat.reduceEqDiff, Nat.reduceAdd, Nat.reduceSub, Nat.reduceMul, Nat.reduceLeDiff, ne_eq, not_false_eq_true, Int.reduceEq, Int.reduceLT, Int.reduceLE, Int.reduceNeg, Int.reduceToNat, Int.reduceGT, Int.reduceGE, Nat.reduceLT, Nat.lt_add_one, Nat.zero_lt_succ, Nat.succ_pos, Nat.zero_le, beq_self_eq_true, k_date_old_0]
    exact ⟨q10, _, rfl⟩
  · rw [if_neg hy]
    obtain ⟨n, b, e⟩ := secR_tup q10 q1.1 (q7.1 + 2000) q5.1 q3.1 q9.1
    simp (maxSteps := 4000000) only [vm, vl, Arg.get, cells, stor, boundO, resultsV, resV, partK, loadV, Vm.part, fillC, splice, reduceIte, reduceCtorEq, Nat.reduceEqDiff, Nat.reduceAdd, Nat.reduceSub, Nat.reduceMul, Nat.reduceLeDiff, ne_eq, not_false_eq_true, Int.reduceEq, Int.reduceLT, Int.reduceLE, Int.reduceNeg, Int.reduceToNat, Int.reduceGT, Int.reduceGE, Nat.reduceLT, Nat.lt_add_one, Nat.zero_lt_succ, Nat.succ_pos, Nat.zero_le, beq_self_eq_true, k_date_old_0, hy, decide_false, w1, w2]
    refine Cf.pu (second_ok (rd_at hi) bc.1 (by omega)) fun t11 => ?_
    rw [e]
    simp (maxSteps := 4000000) only [vm, vl, Arg.get, cells, stor, boundO, resultsV, resV, partK, loadV, Vm.part, fillC, splice, reduceIte, reduceCtorEq, Nat.reduceEqDiff, Nat.reduceAdd, Nat.reduceSub, Nat.reduceMul, Nat.reduceLeDiff, ne_eq, not_false_eq_true, Int.reduceEq, Int.reduceLT, Int.reduceLE, Int.reduceNeg, Int.reduceToNat, Int.reduceGT, Int.reduceGE, Nat.reduceLT, Nat.lt_add_one, Nat.zero_lt_succ, Nat.succ_pos, Nat.zero_le, beq_self_eq_true, k_date_old_0]
    exact ⟨q10, _, rfl⟩
def plainB (dg : Nat) (w m : Int) (x : Rd) : V :=
  let q5 := numR dg x
  let q6 := needR [32] q5.2
  let q7 := clkR q6
  let q8 := needR [32] q7.2
  let q9 := numR 4 q8
  secR q9.2 w q9.1 m q5.1 q7.1
def plainR (r : Rd) : V :=
  let q1 := dayR false r
  let q2 := needR [32] q1.2
  let q3 := monR q2
  let q4 := needR [32] q3.2
  if q4.1.length > 0 ∧ q4.1.getD 0 0 = 32 then plainB 1 q1.1 q3.1 (takeR 1 q4).2 else plainB 2 q1.1 q3.1 q4
theorem plainB_ok {id dg : Nat} {w m : Int} {x : Rd} {t : Heap} (hi : id < h.length) (hl : x.1.length < 9223372036854775807) (hd : dg ≤ 4) : k_date_plain_0 L (fun v h' => v = plainB dg w m x ∧ ∃ r' t, h' = h.set id (bx r') ++ t) (.ptr id 0) (.int .i64 w) (.int .i64 m) (.int .i64 dg) (h.set id (bx x) ++ t) := by
  
  unfold plainB k_date_plain_0
  simp only
  have l5 := numR_rest dg x
  have bn5 := numR_le (n := dg) (by omega) x
  refine Cf.rd (number_ok (n := dg) (rd_at hi) (by omega) (by omega)) fun t5 => ?_
  rw [rd_set hi]
  try rw [List.append_assoc]
  generalize numR dg x = q5 at *
  have l6 := needR_rest [32] q5.2
  refine Cf.rd (need_ok (p := [32]) (rd_at hi) (by simp) (by omega)) fun t6 => ?_
  rw [rd_set hi]
  try rw [List.append_assoc]
  generalize needR [32] q5.2 = q6 at *
  have l7 := clkR_rest q6
  have bc := clkR_le q6
  refine Cf.rd (clock_ok (rd_at hi) (by omega)) fun t7 => ?_
  rw [rd_set hi]
  try rw [List.append_assoc]
  generalize clkR q6 = q7 at *
  have l8 := needR_rest [32] q7.2
  refine Cf.rd (need_ok (p := [32]) (rd_at hi) (by simp) (by omega)) fun t8 => ?_
  rw [rd_set hi]
  try rw [List.append_assoc]
  generalize needR [32] q7.2 = q8 at *
  have l9 := numR_rest 4 q8
  have bn9 := numR_le (n := 4) (by omega) q8
  refine Cf.rd (number_ok (n := 4) (rd_at hi) (by omega) (by omega)) fun t9 => ?_
  rw [rd_set hi]
  try rw [List.append_assoc]
  generalize numR 4 q8 = q9 at *
  refine Cf.pu (second_ok (rd_at hi) bc.1 (by omega)) fun t11 => ?_
  obtain ⟨n, b, e⟩ := secR_tup q9.2 w q9.1 m q5.1 q7.1
  rw [e]
  simp (maxSteps := 4000000) only [vm, vl, Arg.get, cells, stor, boundO, resultsV, resV, partK, loadV, Vm.part, fillC, splice, reduceIte, reduceCtorEq, Nat.reduceEqDiff, Nat.reduceAdd, Nat.reduceSub, Nat.reduceMul, Nat.reduceLeDiff, ne_eq, not_false_eq_true, Int.reduceEq, Int.reduceLT, Int.reduceLE, Int.reduceNeg, Int.reduceToNat, Int.reduceGT, Int.reduceGE, Nat.reduceLT, Nat.lt_add_one, Nat.zero_lt_succ, Nat.succ_pos, Nat.zero_le, beq_self_eq_true, k_date_plain_0]
  exact ⟨q9.2, _, rfl⟩
theorem u32 {c : UInt8} : ((c.toNat : Int) = 32) = (c = 32) := propext ⟨fun h => by
  have h2 : c.toNat = (32 : UInt8).toNat := by rw [show (32 : UInt8).toNat = 32 from rfl]; omega
  exact UInt8.toNat_inj.1 h2, fun h => by rw [h]; rfl⟩
theorem plain_ok {id : Nat} {r : Rd} (hb : h[id]? = some (bx r)) (hl : r.1.length < 9223372036854775807) : Cf F L i_date_plain [.ptr id 0] h (fun v h' => v = plainR r ∧ ∃ r' t, h' = h.set id (bx r') ++ t) := by
  refine run_date_plain ?_
  simp only [p_date_plain]
  
  have hi := rd_len hb
  unfold plainR
  simp only
  have l1 := dayR_rest false r
  refine Cf.rd (day_ok (long := false) (hb) (by omega)) fun t1 => ?_
  generalize dayR false r = q1 at *
  have l2 := needR_rest [32] q1.2
  refine Cf.rd (need_ok (p := [32]) (rd_at hi) (by simp) (by omega)) fun t2 => ?_
  rw [rd_set hi]
  try rw [List.append_assoc]
  generalize needR [32] q1.2 = q2 at *
  have l3 := monR_rest q2
  refine Cf.rd (month_ok' (rd_at hi) (by omega)) fun t3 => ?_
  rw [rd_set hi]
  try rw [List.append_assoc]
  generalize monR q2 = q3 at *
  have l4 := needR_rest [32] q3.2
  refine Cf.rd (need_ok (p := [32]) (rd_at hi) (by simp) (by omega)) fun t4 => ?_
  rw [rd_set hi]
  try rw [List.append_assoc]
  generalize needR [32] q3.2 = q4 at *
  have hb2 : ∀ t, (h.set id (bx q4) ++ t)[id]? = some (O.box [.str q4.1, .bool q4.2]) := fun t => rd_at hi
  by_cases c1 : q4.1.length > 0
  · have c1' : (q4.1.length : Int) > 0 := by omega
    have z0 : 0 < q4.1.length := c1
    by_cases c2 : q4.1.getD 0 0 = 32
    · have c2' : (((q4.1.getD 0 0).toNat : Int) = 32) = True := by rw [u32]; exact eq_true c2
      rw [if_pos ⟨c1, c2⟩]
      simp (maxSteps := 4000000) only [vm, vl, Arg.get, cells, stor, boundO, resultsV, resV, partK, loadV, Vm.part, fillC, splice, reduceIte, reduceCtorEq, Nat.reduceEqDiff, Nat.reduceAdd, Nat.reduceSub, Nat.reduceMul, Nat.reduceLeDiff, ne_eq, not_false_eq_true, Int.reduceEq, Int.reduceLT, Int.reduceLE, Int.reduceNeg, Int.reduceToNat, Int.reduceGT, Int.reduceGE, Nat.reduceLT, Nat.lt_add_one, Nat.zero_lt_succ, Nat.succ_pos, Nat.zero_le, beq_self_eq_true, hb2, c1', c2', z0, decide_true]
      have l5 := takeR_rest 1 q4
      refine Cf.rd (take_ok (n := 1) (rd_at hi) (by omega) (by omega)) fun t5 => ?_
      rw [rd_set hi]
      try rw [List.append_assoc]
      exact plainB_ok (dg := 1) hi (by omega) (by omega)
    · have c2' : (((q4.1.getD 0 0).toNat : Int) = 32) = False := by rw [u32]; exact eq_false c2
      rw [if_neg (fun h => c2 h.2)]
      simp (maxSteps := 4000000) only [vm, vl, Arg.get, cells, stor, boundO, resultsV, resV, partK, loadV, Vm.part, fillC, splice, reduceIte, reduceCtorEq, Nat.reduceEqDiff, Nat.reduceAdd, Nat.reduceSub, Nat.reduceMul, Nat.reduceLeDiff, ne_eq, not_false_eq_true, Int.reduceEq, Int.reduceLT, Int.reduceLE, Int.reduceNeg, Int.reduceToNat, Int.reduceGT, Int.reduceGE, Nat.reduceLT, Nat.lt_add_one, Nat.zero_lt_succ, Nat.succ_pos, Nat.zero_le, beq_self_eq_true, hb2, c1', c2', z0, decide_true, decide_false]
      exact plainB_ok (dg := 2) hi (by omega) (by omega)
  · have c1' : ¬ (q4.1.length : Int) > 0 := by omega
    rw [if_neg (fun h => c1 h.1)]
    simp (maxSteps := 4000000) only [vm, vl, Arg.get, cells, stor, boundO, resultsV, resV, partK, loadV, Vm.part, fillC, splice, reduceIte, reduceCtorEq, Nat.reduceEqDiff, Nat.reduceAdd, Nat.reduceSub, Nat.reduceMul, Nat.reduceLeDiff, ne_eq, not_false_eq_true, Int.reduceEq, Int.reduceLT, Int.reduceLE, Int.reduceNeg, Int.reduceToNat, Int.reduceGT, Int.reduceGE, Nat.reduceLT, Nat.lt_add_one, Nat.zero_lt_succ, Nat.succ_pos, Nat.zero_le, beq_self_eq_true, hb2, c1', decide_false]
    exact plainB_ok (dg := 2) hi (by omega) (by omega)
end Go.Proofs.YtdgklgeddbfeaaaDoor.Vh
