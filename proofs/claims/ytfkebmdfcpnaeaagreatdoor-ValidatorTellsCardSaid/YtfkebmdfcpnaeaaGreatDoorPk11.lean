/- Several texts in one: VRefA, VForms3B, VRefAllB, VRefParsB, VVRef, VVRef2, VVAsks, VJoin, VVTells. -/
import Derived.Test.YtfkebmdfcpnaeaaGreatDoorPk8
import Derived.Test.YtfkebmdfcpnaeaaGreatDoorPk10
import Derived.Test.YtfkebmdfcpnaeaaGreatDoorPk5
import Derived.Test.YtfkebmdfcpnaeaaGreatDoorPk9
section
set_option linter.unusedVariables false
set_option linter.unusedSimpArgs false
namespace Go.Proofs.YtfkebmdfcpnaeaaGreatDoor.Vh
open Go.Vm
attribute [local congr] wi_congr wg_congr wgd_congr wb_congr wl_congr cf_congr
variable {L : FuncId → List V → V → Prop} {h : Heap}
theorem Rleap_ok {y : Int} (h0 : 0 ≤ y) : Cf F L i_gatepostref02_leap [.int .i64 y] h (Pu h (.bool (decide (leapP y)))) := by
  refine run_gatepostref02_leap ?_
  simp only [p_gatepostref02_leap]
  have t1 : y.tmod 4 = y % 4 := tmod_nn h0
  have t2 : y.tmod 100 = y % 100 := tmod_nn h0
  have t3 : y.tmod 400 = y % 400 := tmod_nn h0
  unfold leapP
  by_cases a : y % 4 = 0
  · by_cases b : y % 100 = 0
    · by_cases c : y % 400 = 0
      · simp (maxSteps := 4000000) only [vm, vl, Arg.get, cells, stor, boundO, resultsV, resV, partK, loadV, Vm.part, fillC, splice, reduceIte, reduceCtorEq, Nat.reduceEqDiff, Nat.reduceAdd, Nat.reduceSub, Nat.reduceMul, Nat.reduceLeDiff, ne_eq, not_false_eq_true, Int.reduceEq, Int.reduceLT, Int.reduceLE, Int.reduceNeg, Int.reduceToNat, Int.reduceGT, Int.reduceGE, Nat.reduceLT, Nat.lt_add_one, Nat.zero_lt_succ, Nat.succ_pos, Nat.zero_le, beq_self_eq_true, bin_rem, t1, t2, t3, a, b, c, decide_true, decide_false, Bool.not_true, Bool.not_false]
        simp
      · simp (maxSteps := 4000000) only [vm, vl, Arg.get, cells, stor, boundO, resultsV, resV, partK, loadV, Vm.part, fillC, splice, reduceIte, reduceCtorEq, Nat.reduceEqDiff, Nat.reduceAdd, Nat.reduceSub, Nat.reduceMul, Nat.reduceLeDiff, ne_eq, not_false_eq_true, Int.reduceEq, Int.reduceLT, Int.reduceLE, Int.reduceNeg, Int.reduceToNat, Int.reduceGT, Int.reduceGE, Nat.reduceLT, Nat.lt_add_one, Nat.zero_lt_succ, Nat.succ_pos, Nat.zero_le, beq_self_eq_true, bin_rem, t1, t2, t3, a, b, c, decide_true, decide_false, Bool.not_true, Bool.not_false]
        simp
    · simp (maxSteps := 4000000) only [vm, vl, Arg.get, cells, stor, boundO, resultsV, resV, partK, loadV, Vm.part, fillC, splice, reduceIte, reduceCtorEq, Nat.reduceEqDiff, Nat.reduceAdd, Nat.reduceSub, Nat.reduceMul, Nat.reduceLeDiff, ne_eq, not_false_eq_true, Int.reduceEq, Int.reduceLT, Int.reduceLE, Int.reduceNeg, Int.reduceToNat, Int.reduceGT, Int.reduceGE, Nat.reduceLT, Nat.lt_add_one, Nat.zero_lt_succ, Nat.succ_pos, Nat.zero_le, beq_self_eq_true, bin_rem, t1, t2, t3, a, b, decide_true, decide_false, Bool.not_true, Bool.not_false]
      simp
  · simp (maxSteps := 4000000) only [vm, vl, Arg.get, cells, stor, boundO, resultsV, resV, partK, loadV, Vm.part, fillC, splice, reduceIte, reduceCtorEq, Nat.reduceEqDiff, Nat.reduceAdd, Nat.reduceSub, Nat.reduceMul, Nat.reduceLeDiff, ne_eq, not_false_eq_true, Int.reduceEq, Int.reduceLT, Int.reduceLE, Int.reduceNeg, Int.reduceToNat, Int.reduceGT, Int.reduceGE, Nat.reduceLT, Nat.lt_add_one, Nat.zero_lt_succ, Nat.succ_pos, Nat.zero_le, beq_self_eq_true, bin_rem, t1, t2, t3, a, decide_true, decide_false, Bool.not_true, Bool.not_false]
    simp
theorem Rlong_ok {y m : Int} (h0 : 0 ≤ y) : Cf F L i_gatepostref02_long [.int .i64 y, .int .i64 m] h (Pu h (.int .i64 (dim y m))) := by
  refine run_gatepostref02_long ?_
  simp only [p_gatepostref02_long]
  unfold dim
  by_cases a : m = 2
  · subst a
    simp (maxSteps := 4000000) only [vm, vl, Arg.get, cells, stor, boundO, resultsV, resV, partK, loadV, Vm.part, fillC, splice, reduceIte, reduceCtorEq, Nat.reduceEqDiff, Nat.reduceAdd, Nat.reduceSub, Nat.reduceMul, Nat.reduceLeDiff, ne_eq, not_false_eq_true, Int.reduceEq, Int.reduceLT, Int.reduceLE, Int.reduceNeg, Int.reduceToNat, Int.reduceGT, Int.reduceGE, Nat.reduceLT, Nat.lt_add_one, Nat.zero_lt_succ, Nat.succ_pos, Nat.zero_le, beq_self_eq_true, k_gatepostref02_long_0, k_gatepostref02_long_1, k_gatepostref02_long_2, decide_true]
    refine Cf.pu (Rleap_ok h0) fun u => ?_
    by_cases b : leapP y
    · simp (maxSteps := 4000000) only [vm, vl, Arg.get, cells, stor, boundO, resultsV, resV, partK, loadV, Vm.part, fillC, splice, reduceIte, reduceCtorEq, Nat.reduceEqDiff, Nat.reduceAdd, Nat.reduceSub, Nat.reduceMul, Nat.reduceLeDiff, ne_eq, not_false_eq_true, Int.reduceEq, Int.reduceLT, Int.reduceLE, Int.reduceNeg, Int.reduceToNat, Int.reduceGT, Int.reduceGE, Nat.reduceLT, Nat.lt_add_one, Nat.zero_lt_succ, Nat.succ_pos, Nat.zero_le, beq_self_eq_true, k_gatepostref02_long_0, k_gatepostref02_long_1, k_gatepostref02_long_2, b, decide_true, if_true]
    · simp (maxSteps := 4000000) only [vm, vl, Arg.get, cells, stor, boundO, resultsV, resV, partK, loadV, Vm.part, fillC, splice, reduceIte, reduceCtorEq, Nat.reduceEqDiff, Nat.reduceAdd, Nat.reduceSub, Nat.reduceMul, Nat.reduceLeDiff, ne_eq, not_false_eq_true, Int.reduceEq, Int.reduceLT, Int.reduceLE, Int.reduceNeg, Int.reduceToNat, Int.reduceGT, Int.reduceGE, Nat.reduceLT, Nat.lt_add_one, Nat.zero_lt_succ, Nat.succ_pos, Nat.zero_le, beq_self_eq_true, k_gatepostref02_long_0, k_gatepostref02_long_1, k_gatepostref02_long_2, b, decide_false, if_true, if_false]
  · by_cases a4 : m = 4
    · subst a4
      simp (maxSteps := 4000000) only [vm, vl, Arg.get, cells, stor, boundO, resultsV, resV, partK, loadV, Vm.part, fillC, splice, reduceIte, reduceCtorEq, Nat.reduceEqDiff, Nat.reduceAdd, Nat.reduceSub, Nat.reduceMul, Nat.reduceLeDiff, ne_eq, not_false_eq_true, Int.reduceEq, Int.reduceLT, Int.reduceLE, Int.reduceNeg, Int.reduceToNat, Int.reduceGT, Int.reduceGE, Nat.reduceLT, Nat.lt_add_one, Nat.zero_lt_succ, Nat.succ_pos, Nat.zero_le, beq_self_eq_true, k_gatepostref02_long_0, k_gatepostref02_long_1, k_gatepostref02_long_2, a, decide_true, decide_false]
      simp
    by_cases a6 : m = 6
    · subst a6
      simp (maxSteps := 4000000) only [vm, vl, Arg.get, cells, stor, boundO, resultsV, resV, partK, loadV, Vm.part, fillC, splice, reduceIte, reduceCtorEq, Nat.reduceEqDiff, Nat.reduceAdd, Nat.reduceSub, Nat.reduceMul, Nat.reduceLeDiff, ne_eq, not_false_eq_true, Int.reduceEq, Int.reduceLT, Int.reduceLE, Int.reduceNeg, Int.reduceToNat, Int.reduceGT, Int.reduceGE, Nat.reduceLT, Nat.lt_add_one, Nat.zero_lt_succ, Nat.succ_pos, Nat.zero_le, beq_self_eq_true, k_gatepostref02_long_0, k_gatepostref02_long_1, k_gatepostref02_long_2, a, a4, decide_true, decide_false]
      simp
    by_cases a9 : m = 9
    · subst a9
      simp (maxSteps := 4000000) only [vm, vl, Arg.get, cells, stor, boundO, resultsV, resV, partK, loadV, Vm.part, fillC, splice, reduceIte, reduceCtorEq, Nat.reduceEqDiff, Nat.reduceAdd, Nat.reduceSub, Nat.reduceMul, Nat.reduceLeDiff, ne_eq, not_false_eq_true, Int.reduceEq, Int.reduceLT, Int.reduceLE, Int.reduceNeg, Int.reduceToNat, Int.reduceGT, Int.reduceGE, Nat.reduceLT, Nat.lt_add_one, Nat.zero_lt_succ, Nat.succ_pos, Nat.zero_le, beq_self_eq_true, k_gatepostref02_long_0, k_gatepostref02_long_1, k_gatepostref02_long_2, a, a4, a6, decide_true, decide_false]
      simp
    by_cases a11 : m = 11
    · subst a11
      simp (maxSteps := 4000000) only [vm, vl, Arg.get, cells, stor, boundO, resultsV, resV, partK, loadV, Vm.part, fillC, splice, reduceIte, reduceCtorEq, Nat.reduceEqDiff, Nat.reduceAdd, Nat.reduceSub, Nat.reduceMul, Nat.reduceLeDiff, ne_eq, not_false_eq_true, Int.reduceEq, Int.reduceLT, Int.reduceLE, Int.reduceNeg, Int.reduceToNat, Int.reduceGT, Int.reduceGE, Nat.reduceLT, Nat.lt_add_one, Nat.zero_lt_succ, Nat.succ_pos, Nat.zero_le, beq_self_eq_true, k_gatepostref02_long_0, k_gatepostref02_long_1, k_gatepostref02_long_2, a, a4, a6, a9, decide_true, decide_false]
      simp
    simp (maxSteps := 4000000) only [vm, vl, Arg.get, cells, stor, boundO, resultsV, resV, partK, loadV, Vm.part, fillC, splice, reduceIte, reduceCtorEq, Nat.reduceEqDiff, Nat.reduceAdd, Nat.reduceSub, Nat.reduceMul, Nat.reduceLeDiff, ne_eq, not_false_eq_true, Int.reduceEq, Int.reduceLT, Int.reduceLE, Int.reduceNeg, Int.reduceToNat, Int.reduceGT, Int.reduceGE, Nat.reduceLT, Nat.lt_add_one, Nat.zero_lt_succ, Nat.succ_pos, Nat.zero_le, beq_self_eq_true, k_gatepostref02_long_0, k_gatepostref02_long_1, k_gatepostref02_long_2, a, a4, a6, a9, a11, decide_true, decide_false, or_self]
def ylen (y : Int) : Int := if leapP y then 366 else 365
theorem Ryear_ok {y : Int} (h0 : 0 ≤ y) : Cf F L i_gatepostref02_year [.int .i64 y] h (Pu h (.int .i64 (ylen y))) := by
  refine run_gatepostref02_year ?_
  simp only [p_gatepostref02_year]
  refine Cf.pu (Rleap_ok h0) fun u => ?_
  unfold ylen
  by_cases b : leapP y
  · simp (maxSteps := 4000000) only [vm, vl, Arg.get, cells, stor, boundO, resultsV, resV, partK, loadV, Vm.part, fillC, splice, reduceIte, reduceCtorEq, Nat.reduceEqDiff, Nat.reduceAdd, Nat.reduceSub, Nat.reduceMul, Nat.reduceLeDiff, ne_eq, not_false_eq_true, Int.reduceEq, Int.reduceLT, Int.reduceLE, Int.reduceNeg, Int.reduceToNat, Int.reduceGT, Int.reduceGE, Nat.reduceLT, Nat.lt_add_one, Nat.zero_lt_succ, Nat.succ_pos, Nat.zero_le, beq_self_eq_true, k_gatepostref02_year_0, b, decide_true, if_true]
  · simp (maxSteps := 4000000) only [vm, vl, Arg.get, cells, stor, boundO, resultsV, resV, partK, loadV, Vm.part, fillC, splice, reduceIte, reduceCtorEq, Nat.reduceEqDiff, Nat.reduceAdd, Nat.reduceSub, Nat.reduceMul, Nat.reduceLeDiff, ne_eq, not_false_eq_true, Int.reduceEq, Int.reduceLT, Int.reduceLE, Int.reduceNeg, Int.reduceToNat, Int.reduceGT, Int.reduceGE, Nat.reduceLT, Nat.lt_add_one, Nat.zero_lt_succ, Nat.succ_pos, Nat.zero_le, beq_self_eq_true, k_gatepostref02_year_0, b, decide_false, if_false]
theorem numD_year (y : Int) : numD (y + 1) 1 1 = numD y 1 1 + ylen y := by
  unfold ylen
  by_cases hl : leapP y
  · rw [if_pos hl]; unfold leapP at hl; unfold numD numY; simp only [show (1 : Int) ≤ 2 from by decide, if_true]; omega
  · rw [if_neg hl]; unfold leapP at hl; unfold numD numY; simp only [show (1 : Int) ≤ 2 from by decide, if_true]; omega
theorem numD_month (y m : Int) (h0 : 1 ≤ m) (h1 : m < 12) : numD y (m + 1) 1 = numD y m 1 + dim y m := by
  have hm : m = 1 ∨ m = 2 ∨ m = 3 ∨ m = 4 ∨ m = 5 ∨ m = 6 ∨ m = 7 ∨ m = 8 ∨ m = 9 ∨ m = 10 ∨ m = 11 := by omega
  rcases hm with rfl | rfl | rfl | rfl | rfl | rfl | rfl | rfl | rfl | rfl | rfl
  case inr.inl =>
    unfold numD numY dim
    simp only [show (2 : Int) + 1 = 3 from rfl, if_true]
    by_cases hl : leapP y
    · rw [if_pos hl]; unfold leapP at hl; simp; omega
    · rw [if_neg hl]; unfold leapP at hl; simp; omega
  all_goals (unfold numD numY dim; simp; try omega)
theorem numD_day (y m d : Int) : numD y m d = numD y m 1 + d - 1 := by
  unfold numD numY; split <;> omega
theorem numD_1970 : numD 1970 1 1 = 0 := by decide
theorem dim_ge (y m : Int) : 28 ≤ dim y m := by unfold dim; split <;> (try split) <;> omega
theorem numD_y_le (y : Int) (h0 : 1970 ≤ y) (h1 : y ≤ 9999) : 0 ≤ numD y 1 1 ∧ numD y 1 1 ≤ 3000000 := by
  unfold numD numY; simp only [show (1 : Int) ≤ 2 from by decide, if_true]; omega
theorem numD_m_le (y m : Int) (h0 : 1970 ≤ y) (h1 : y ≤ 9999) (m0 : 1 ≤ m) (m1 : m ≤ 12) : -1000 ≤ numD y m 1 ∧ numD y m 1 ≤ 3000000 := by
  unfold numD numY; split <;> omega
theorem rdays_m {y m d : Int} {e : Env} {t : Heap} (hy0 : 1970 ≤ y) (hy1 : y ≤ 9999) (hm0 : 1 ≤ m) (hm1 : m ≤ 12) (hd0 : 1 ≤ d) (hd1 : d ≤ dim y m) (e0 : e 0 = .int .i64 y) (e1 : e 1 = .int .i64 m) (e7 : e 7 = .int .i64 (numD y 1 1 + d - 1)) :
    k_gatepostref02_Days_1 L (Pu h (.int .i64 (numD y m d))) e (h ++ t) := by
  unfold k_gatepostref02_Days_1
  refine l_gatepostref02_Days_0 (fun n e h' => ∃ j : Int, n = (12 - j).toNat ∧ 1 ≤ j ∧ j ≤ m ∧ e 0 = .int .i64 y ∧ e 1 = .int .i64 m ∧ e 7 = .int .i64 (numD y j 1 + d - 1) ∧ e 9 = .int .i64 j ∧ ∃ t, h' = h ++ t) ?_ (n := 11) ⟨1, by decide, by omega, hm0, e0, e1, e7, rfl, t, rfl⟩
  rintro n e h' ⟨j, rfl, hj0, hj1, e0, e1, e7, e9, t, rfl⟩
  simp only [b_gatepostref02_Days_0]
  
  have dl := dim_le y m
  have bj := numD_m_le y j hy0 hy1 hj0 (by omega)
  by_cases c : j < m
  · have dj := dim_le y j
    have dj' := dim_ge y j
    have w1 : IntKind.i64.wrap (numD y j 1 + d - 1 + dim y j) = numD y (j + 1) 1 + d - 1 := by
      rw [wrap64 (by omega) (by omega), numD_month y j hj0 (by omega)]; omega
    have w2 : IntKind.i64.wrap (j + 1) = j + 1 := wrap64 (by omega) (by omega)
    simp (maxSteps := 4000000) only [vm, vl, Arg.get, cells, stor, boundO, resultsV, resV, partK, loadV, Vm.part, fillC, splice, reduceIte, reduceCtorEq, Nat.reduceEqDiff, Nat.reduceAdd, Nat.reduceSub, Nat.reduceMul, Nat.reduceLeDiff, ne_eq, not_false_eq_true, Int.reduceEq, Int.reduceLT, Int.reduceLE, Int.reduceNeg, Int.reduceToNat, Int.reduceGT, Int.reduceGE, Nat.reduceLT, Nat.lt_add_one, Nat.zero_lt_succ, Nat.succ_pos, Nat.zero_le, beq_self_eq_true, k_gatepostref02_Days_2, k_gatepostref02_Days_4, k_gatepostref02_Days_3, k_gatepostref02_Days_1, k_gatepostref02_Days_6, k_gatepostref02_Days_5, k_gatepostref02_Days_0, e0, e1, e7, e9, c, decide_true]
    refine Cf.pu (Rlong_ok (by omega)) fun u => ?_
    simp (maxSteps := 4000000) only [vm, vl, Arg.get, cells, stor, boundO, resultsV, resV, partK, loadV, Vm.part, fillC, splice, reduceIte, reduceCtorEq, Nat.reduceEqDiff, Nat.reduceAdd, Nat.reduceSub, Nat.reduceMul, Nat.reduceLeDiff, ne_eq, not_false_eq_true, Int.reduceEq, Int.reduceLT, Int.reduceLE, Int.reduceNeg, Int.reduceToNat, Int.reduceGT, Int.reduceGE, Nat.reduceLT, Nat.lt_add_one, Nat.zero_lt_succ, Nat.succ_pos, Nat.zero_le, beq_self_eq_true, k_gatepostref02_Days_2, k_gatepostref02_Days_4, k_gatepostref02_Days_3, k_gatepostref02_Days_1, k_gatepostref02_Days_6, k_gatepostref02_Days_5, k_gatepostref02_Days_0, w1, w2]
    exact ⟨(12 - (j + 1)).toNat, by omega, j + 1, rfl, by omega, by omega, rfl, rfl, t ++ u, by simp⟩
  · have : j = m := by omega
    subst this
    simp (maxSteps := 4000000) only [vm, vl, Arg.get, cells, stor, boundO, resultsV, resV, partK, loadV, Vm.part, fillC, splice, reduceIte, reduceCtorEq, Nat.reduceEqDiff, Nat.reduceAdd, Nat.reduceSub, Nat.reduceMul, Nat.reduceLeDiff, ne_eq, not_false_eq_true, Int.reduceEq, Int.reduceLT, Int.reduceLE, Int.reduceNeg, Int.reduceToNat, Int.reduceGT, Int.reduceGE, Nat.reduceLT, Nat.lt_add_one, Nat.zero_lt_succ, Nat.succ_pos, Nat.zero_le, beq_self_eq_true, k_gatepostref02_Days_2, k_gatepostref02_Days_4, k_gatepostref02_Days_3, k_gatepostref02_Days_1, k_gatepostref02_Days_6, k_gatepostref02_Days_5, k_gatepostref02_Days_0, e0, e1, e7, e9, c, decide_false]
    rw [numD_day y j d]
theorem RDays_ok {y m d : Int} : Cf F L i_gatepostref02_Days [.int .i64 y, .int .i64 m, .int .i64 d] h (Pu h (.int .i64 (daysS y m d))) := by
  refine run_gatepostref02_Days ?_
  simp only [p_gatepostref02_Days]
  by_cases a1 : y < 1970
  · rw [show daysS y m d = -1 from if_neg (by omega)]
    simp (maxSteps := 4000000) only [vm, vl, Arg.get, cells, stor, boundO, resultsV, resV, partK, loadV, Vm.part, fillC, splice, reduceIte, reduceCtorEq, Nat.reduceEqDiff, Nat.reduceAdd, Nat.reduceSub, Nat.reduceMul, Nat.reduceLeDiff, ne_eq, not_false_eq_true, Int.reduceEq, Int.reduceLT, Int.reduceLE, Int.reduceNeg, Int.reduceToNat, Int.reduceGT, Int.reduceGE, Nat.reduceLT, Nat.lt_add_one, Nat.zero_lt_succ, Nat.succ_pos, Nat.zero_le, beq_self_eq_true, k_gatepostref02_Days_2, k_gatepostref02_Days_4, k_gatepostref02_Days_3, k_gatepostref02_Days_1, k_gatepostref02_Days_6, k_gatepostref02_Days_5, k_gatepostref02_Days_0, a1, decide_true]
  by_cases a2 : y > 9999
  · rw [show daysS y m d = -1 from if_neg (by omega)]
    simp (maxSteps := 4000000) only [vm, vl, Arg.get, cells, stor, boundO, resultsV, resV, partK, loadV, Vm.part, fillC, splice, reduceIte, reduceCtorEq, Nat.reduceEqDiff, Nat.reduceAdd, Nat.reduceSub, Nat.reduceMul, Nat.reduceLeDiff, ne_eq, not_false_eq_true, Int.reduceEq, Int.reduceLT, Int.reduceLE, Int.reduceNeg, Int.reduceToNat, Int.reduceGT, Int.reduceGE, Nat.reduceLT, Nat.lt_add_one, Nat.zero_lt_succ, Nat.succ_pos, Nat.zero_le, beq_self_eq_true, k_gatepostref02_Days_2, k_gatepostref02_Days_4, k_gatepostref02_Days_3, k_gatepostref02_Days_1, k_gatepostref02_Days_6, k_gatepostref02_Days_5, k_gatepostref02_Days_0, a1, a2, decide_true, decide_false]
  by_cases a3 : m < 1
  · rw [show daysS y m d = -1 from if_neg (by omega)]
    simp (maxSteps := 4000000) only [vm, vl, Arg.get, cells, stor, boundO, resultsV, resV, partK, loadV, Vm.part, fillC, splice, reduceIte, reduceCtorEq, Nat.reduceEqDiff, Nat.reduceAdd, Nat.reduceSub, Nat.reduceMul, Nat.reduceLeDiff, ne_eq, not_false_eq_true, Int.reduceEq, Int.reduceLT, Int.reduceLE, Int.reduceNeg, Int.reduceToNat, Int.reduceGT, Int.reduceGE, Nat.reduceLT, Nat.lt_add_one, Nat.zero_lt_succ, Nat.succ_pos, Nat.zero_le, beq_self_eq_true, k_gatepostref02_Days_2, k_gatepostref02_Days_4, k_gatepostref02_Days_3, k_gatepostref02_Days_1, k_gatepostref02_Days_6, k_gatepostref02_Days_5, k_gatepostref02_Days_0, a1, a2, a3, decide_true, decide_false]
  by_cases a4 : m > 12
  · rw [show daysS y m d = -1 from if_neg (by omega)]
    simp (maxSteps := 4000000) only [vm, vl, Arg.get, cells, stor, boundO, resultsV, resV, partK, loadV, Vm.part, fillC, splice, reduceIte, reduceCtorEq, Nat.reduceEqDiff, Nat.reduceAdd, Nat.reduceSub, Nat.reduceMul, Nat.reduceLeDiff, ne_eq, not_false_eq_true, Int.reduceEq, Int.reduceLT, Int.reduceLE, Int.reduceNeg, Int.reduceToNat, Int.reduceGT, Int.reduceGE, Nat.reduceLT, Nat.lt_add_one, Nat.zero_lt_succ, Nat.succ_pos, Nat.zero_le, beq_self_eq_true, k_gatepostref02_Days_2, k_gatepostref02_Days_4, k_gatepostref02_Days_3, k_gatepostref02_Days_1, k_gatepostref02_Days_6, k_gatepostref02_Days_5, k_gatepostref02_Days_0, a1, a2, a3, a4, decide_true, decide_false]
  by_cases a5 : d < 1
  · rw [show daysS y m d = -1 from if_neg (by omega)]
    simp (maxSteps := 4000000) only [vm, vl, Arg.get, cells, stor, boundO, resultsV, resV, partK, loadV, Vm.part, fillC, splice, reduceIte, reduceCtorEq, Nat.reduceEqDiff, Nat.reduceAdd, Nat.reduceSub, Nat.reduceMul, Nat.reduceLeDiff, ne_eq, not_false_eq_true, Int.reduceEq, Int.reduceLT, Int.reduceLE, Int.reduceNeg, Int.reduceToNat, Int.reduceGT, Int.reduceGE, Nat.reduceLT, Nat.lt_add_one, Nat.zero_lt_succ, Nat.succ_pos, Nat.zero_le, beq_self_eq_true, k_gatepostref02_Days_2, k_gatepostref02_Days_4, k_gatepostref02_Days_3, k_gatepostref02_Days_1, k_gatepostref02_Days_6, k_gatepostref02_Days_5, k_gatepostref02_Days_0, a1, a2, a3, a4, a5, decide_true, decide_false]
  simp (maxSteps := 4000000) only [vm, vl, Arg.get, cells, stor, boundO, resultsV, resV, partK, loadV, Vm.part, fillC, splice, reduceIte, reduceCtorEq, Nat.reduceEqDiff, Nat.reduceAdd, Nat.reduceSub, Nat.reduceMul, Nat.reduceLeDiff, ne_eq, not_false_eq_true, Int.reduceEq, Int.reduceLT, Int.reduceLE, Int.reduceNeg, Int.reduceToNat, Int.reduceGT, Int.reduceGE, Nat.reduceLT, Nat.lt_add_one, Nat.zero_lt_succ, Nat.succ_pos, Nat.zero_le, beq_self_eq_true, k_gatepostref02_Days_2, k_gatepostref02_Days_4, k_gatepostref02_Days_3, k_gatepostref02_Days_1, k_gatepostref02_Days_6, k_gatepostref02_Days_5, k_gatepostref02_Days_0, a1, a2, a3, a4, a5, decide_true, decide_false]
  refine Cf.pu (Rlong_ok (by omega)) fun u => ?_
  by_cases a6 : d > dim y m
  · rw [show daysS y m d = -1 from if_neg (by omega)]
    simp (maxSteps := 4000000) only [vm, vl, Arg.get, cells, stor, boundO, resultsV, resV, partK, loadV, Vm.part, fillC, splice, reduceIte, reduceCtorEq, Nat.reduceEqDiff, Nat.reduceAdd, Nat.reduceSub, Nat.reduceMul, Nat.reduceLeDiff, ne_eq, not_false_eq_true, Int.reduceEq, Int.reduceLT, Int.reduceLE, Int.reduceNeg, Int.reduceToNat, Int.reduceGT, Int.reduceGE, Nat.reduceLT, Nat.lt_add_one, Nat.zero_lt_succ, Nat.succ_pos, Nat.zero_le, beq_self_eq_true, k_gatepostref02_Days_2, k_gatepostref02_Days_4, k_gatepostref02_Days_3, k_gatepostref02_Days_1, k_gatepostref02_Days_6, k_gatepostref02_Days_5, k_gatepostref02_Days_0, a6, decide_true]
  have dl := dim_le y m
  have w1 : IntKind.i64.wrap (d - 1) = d - 1 := wrap64 (by omega) (by omega)
  rw [show daysS y m d = numD y m d from if_pos ⟨by omega, by omega, by omega, by omega, by omega, by omega⟩]
  simp (maxSteps := 4000000) only [vm, vl, Arg.get, a6, decide_false, w1, k_gatepostref02_Days_0]
  refine l_gatepostref02_Days_1 (fun n e h' => ∃ j : Int, n = (y - j).toNat ∧ 1970 ≤ j ∧ j ≤ y ∧ e 0 = .int .i64 y ∧ e 1 = .int .i64 m ∧ e 7 = .int .i64 (numD j 1 1 + d - 1) ∧ e 8 = .int .i64 j ∧ ∃ t, h' = h ++ t) ?_ (n := (y - 1970).toNat) ⟨1970, rfl, by omega, by omega, rfl, rfl, by rw [numD_1970]; simp [upd], rfl, u, rfl⟩
  rintro n e h' ⟨j, rfl, hj0, hj1, e0, e1, e7, e8, t, rfl⟩
  simp only [b_gatepostref02_Days_1]
  have bj := numD_y_le j hj0 (by omega)
  by_cases c : j < y
  · have yl : 365 ≤ ylen j ∧ ylen j ≤ 366 := by unfold ylen; split <;> omega
    have w1 : IntKind.i64.wrap (numD j 1 1 + d - 1 + ylen j) = numD (j + 1) 1 1 + d - 1 := by
      rw [wrap64 (by omega) (by omega), numD_year]; omega
    have w2 : IntKind.i64.wrap (j + 1) = j + 1 := wrap64 (by omega) (by omega)
    simp (maxSteps := 4000000) only [vm, vl, Arg.get, cells, stor, boundO, resultsV, resV, partK, loadV, Vm.part, fillC, splice, reduceIte, reduceCtorEq, Nat.reduceEqDiff, Nat.reduceAdd, Nat.reduceSub, Nat.reduceMul, Nat.reduceLeDiff, ne_eq, not_false_eq_true, Int.reduceEq, Int.reduceLT, Int.reduceLE, Int.reduceNeg, Int.reduceToNat, Int.reduceGT, Int.reduceGE, Nat.reduceLT, Nat.lt_add_one, Nat.zero_lt_succ, Nat.succ_pos, Nat.zero_le, beq_self_eq_true, k_gatepostref02_Days_2, k_gatepostref02_Days_4, k_gatepostref02_Days_3, k_gatepostref02_Days_1, k_gatepostref02_Days_6, k_gatepostref02_Days_5, k_gatepostref02_Days_0, e0, e1, e7, e8, c, decide_true]
    refine Cf.pu (Ryear_ok (by omega)) fun u => ?_
    simp (maxSteps := 4000000) only [vm, vl, Arg.get, cells, stor, boundO, resultsV, resV, partK, loadV, Vm.part, fillC, splice, reduceIte, reduceCtorEq, Nat.reduceEqDiff, Nat.reduceAdd, Nat.reduceSub, Nat.reduceMul, Nat.reduceLeDiff, ne_eq, not_false_eq_true, Int.reduceEq, Int.reduceLT, Int.reduceLE, Int.reduceNeg, Int.reduceToNat, Int.reduceGT, Int.reduceGE, Nat.reduceLT, Nat.lt_add_one, Nat.zero_lt_succ, Nat.succ_pos, Nat.zero_le, beq_self_eq_true, k_gatepostref02_Days_2, k_gatepostref02_Days_4, k_gatepostref02_Days_3, k_gatepostref02_Days_1, k_gatepostref02_Days_6, k_gatepostref02_Days_5, k_gatepostref02_Days_0, w1, w2]
    exact ⟨(y - (j + 1)).toNat, by omega, j + 1, rfl, by omega, by omega, rfl, rfl, t ++ u, by simp⟩
  · have : j = y := by omega
    subst this
    simp (maxSteps := 4000000) only [vm, vl, Arg.get, e0, e1, e7, e8, c, decide_false]
    exact rdays_m hj0 (by omega) (by omega) (by omega) (by omega) (by omega) (by simp [upd, e0]) (by simp [upd, e1]) (by simp [upd, e7])
theorem numD_dec (y : Int) : numD y 12 1 + 31 = numD (y + 1) 1 1 := by
  unfold numD numY; simp; omega
theorem numD_9999 : numD 10000 1 1 = 2932897 := by decide
theorem rciv_m {day y : Int} {e : Env} {t : Heap} (h0 : 0 ≤ day) (h1 : day ≤ 2932896) (hy0 : 1970 ≤ y) (hy1 : y ≤ 9999) (a0 : numD y 1 1 ≤ day) (a1 : day < numD (y + 1) 1 1) (e0 : e 0 = .int .i64 (day - numD y 1 1)) (e5 : e 5 = .int .i64 y) :
    k_gatepostref02_Civil_1 L (Pu h (civV (civilS day))) e (h ++ t) := by
  unfold k_gatepostref02_Civil_1
  refine l_gatepostref02_Civil_0 (fun n e h' => ∃ m : Int, n = (12 - m).toNat ∧ 1 ≤ m ∧ m ≤ 12 ∧ e 0 = .int .i64 (day - numD y m 1) ∧ e 5 = .int .i64 y ∧ numD y m 1 ≤ day ∧ e 6 = .int .i64 m ∧ ∃ t, h' = h ++ t) ?_ (n := 11) ⟨1, by decide, by omega, by omega, e0, e5, a0, rfl, t, rfl⟩
  rintro n e h' ⟨m, rfl, m0, m1, e0, e5, am, e6, t, rfl⟩
  simp only [b_gatepostref02_Civil_0]
  
  have bj := numD_m_le y m hy0 hy1 m0 m1
  have dj := dim_le y m
  have dj' := dim_ge y m
  simp (maxSteps := 4000000) only [vm, vl, Arg.get, cells, stor, boundO, resultsV, resV, partK, loadV, Vm.part, fillC, splice, reduceIte, reduceCtorEq, Nat.reduceEqDiff, Nat.reduceAdd, Nat.reduceSub, Nat.reduceMul, Nat.reduceLeDiff, ne_eq, not_false_eq_true, Int.reduceEq, Int.reduceLT, Int.reduceLE, Int.reduceNeg, Int.reduceToNat, Int.reduceGT, Int.reduceGE, Nat.reduceLT, Nat.lt_add_one, Nat.zero_lt_succ, Nat.succ_pos, Nat.zero_le, beq_self_eq_true, k_gatepostref02_Civil_2, k_gatepostref02_Civil_3, k_gatepostref02_Civil_1, k_gatepostref02_Civil_4, k_gatepostref02_Civil_0, e0, e5, e6]
  refine Cf.pu (Rlong_ok (by omega)) fun u => ?_
  by_cases c : day - numD y m 1 ≥ dim y m
  · have m11 : m < 12 := by
      rcases Int.lt_or_le m 12 with h | h
      · exact h
      · exfalso
        have : m = 12 := by omega
        subst this
        have := numD_dec y
        have : dim y 12 = 31 := by unfold dim; simp
        omega
    have nm := numD_month y m m0 m11
    have w1 : IntKind.i64.wrap (day - numD y m 1 - dim y m) = day - numD y (m + 1) 1 := by
      rw [wrap64 (by omega) (by omega)]; omega
    have w2 : IntKind.i64.wrap (m + 1) = m + 1 := wrap64 (by omega) (by omega)
    simp (maxSteps := 4000000) only [vm, vl, Arg.get, cells, stor, boundO, resultsV, resV, partK, loadV, Vm.part, fillC, splice, reduceIte, reduceCtorEq, Nat.reduceEqDiff, Nat.reduceAdd, Nat.reduceSub, Nat.reduceMul, Nat.reduceLeDiff, ne_eq, not_false_eq_true, Int.reduceEq, Int.reduceLT, Int.reduceLE, Int.reduceNeg, Int.reduceToNat, Int.reduceGT, Int.reduceGE, Nat.reduceLT, Nat.lt_add_one, Nat.zero_lt_succ, Nat.succ_pos, Nat.zero_le, beq_self_eq_true, k_gatepostref02_Civil_2, k_gatepostref02_Civil_3, k_gatepostref02_Civil_1, k_gatepostref02_Civil_4, k_gatepostref02_Civil_0, e0, e5, e6, c, decide_true, w1, w2]
    refine Cf.pu (Rlong_ok (by omega)) fun u2 => ?_
    simp (maxSteps := 4000000) only [vm, vl, Arg.get, cells, stor, boundO, resultsV, resV, partK, loadV, Vm.part, fillC, splice, reduceIte, reduceCtorEq, Nat.reduceEqDiff, Nat.reduceAdd, Nat.reduceSub, Nat.reduceMul, Nat.reduceLeDiff, ne_eq, not_false_eq_true, Int.reduceEq, Int.reduceLT, Int.reduceLE, Int.reduceNeg, Int.reduceToNat, Int.reduceGT, Int.reduceGE, Nat.reduceLT, Nat.lt_add_one, Nat.zero_lt_succ, Nat.succ_pos, Nat.zero_le, beq_self_eq_true, k_gatepostref02_Civil_2, k_gatepostref02_Civil_3, k_gatepostref02_Civil_1, k_gatepostref02_Civil_4, k_gatepostref02_Civil_0, w1]
    exact ⟨(12 - (m + 1)).toNat, by omega, m + 1, rfl, by omega, by omega, rfl, by omega, rfl, t ++ (u ++ u2), by simp⟩
  · have w1 : IntKind.i64.wrap (day - numD y m 1 + 1) = day - numD y m 1 + 1 := wrap64 (by omega) (by omega)
    have cn := civil_num y m (day - numD y m 1 + 1) hy0 hy1 m0 m1 (by omega) (by omega)
    rw [numD_day, show numD y m 1 + (day - numD y m 1 + 1) - 1 = day by omega] at cn
    rw [cn.2.2]
    simp (maxSteps := 4000000) only [vm, vl, Arg.get, cells, stor, boundO, resultsV, resV, partK, loadV, Vm.part, fillC, splice, reduceIte, reduceCtorEq, Nat.reduceEqDiff, Nat.reduceAdd, Nat.reduceSub, Nat.reduceMul, Nat.reduceLeDiff, ne_eq, not_false_eq_true, Int.reduceEq, Int.reduceLT, Int.reduceLE, Int.reduceNeg, Int.reduceToNat, Int.reduceGT, Int.reduceGE, Nat.reduceLT, Nat.lt_add_one, Nat.zero_lt_succ, Nat.succ_pos, Nat.zero_le, beq_self_eq_true, k_gatepostref02_Civil_2, k_gatepostref02_Civil_3, k_gatepostref02_Civil_1, k_gatepostref02_Civil_4, k_gatepostref02_Civil_0, e0, e5, e6, c, decide_false, w1, civV]
theorem RCivil_ok {day : Int} : Cf F L i_gatepostref02_Civil [.int .i64 day] h (Pu h (civV (civA day))) := by
  refine run_gatepostref02_Civil ?_
  simp only [p_gatepostref02_Civil]
  by_cases h0 : day < 0
  · have e : civA day = (0, 0, 0) := if_neg (by omega)
    rw [e]
    simp (maxSteps := 4000000) only [vm, vl, Arg.get, cells, stor, boundO, resultsV, resV, partK, loadV, Vm.part, fillC, splice, reduceIte, reduceCtorEq, Nat.reduceEqDiff, Nat.reduceAdd, Nat.reduceSub, Nat.reduceMul, Nat.reduceLeDiff, ne_eq, not_false_eq_true, Int.reduceEq, Int.reduceLT, Int.reduceLE, Int.reduceNeg, Int.reduceToNat, Int.reduceGT, Int.reduceGE, Nat.reduceLT, Nat.lt_add_one, Nat.zero_lt_succ, Nat.succ_pos, Nat.zero_le, beq_self_eq_true, k_gatepostref02_Civil_2, k_gatepostref02_Civil_3, k_gatepostref02_Civil_1, k_gatepostref02_Civil_4, k_gatepostref02_Civil_0, h0, decide_true, civV]
  by_cases h1 : day > 2932896
  · have e : civA day = (0, 0, 0) := if_neg (by omega)
    rw [e]
    simp (maxSteps := 4000000) only [vm, vl, Arg.get, cells, stor, boundO, resultsV, resV, partK, loadV, Vm.part, fillC, splice, reduceIte, reduceCtorEq, Nat.reduceEqDiff, Nat.reduceAdd, Nat.reduceSub, Nat.reduceMul, Nat.reduceLeDiff, ne_eq, not_false_eq_true, Int.reduceEq, Int.reduceLT, Int.reduceLE, Int.reduceNeg, Int.reduceToNat, Int.reduceGT, Int.reduceGE, Nat.reduceLT, Nat.lt_add_one, Nat.zero_lt_succ, Nat.succ_pos, Nat.zero_le, beq_self_eq_true, k_gatepostref02_Civil_2, k_gatepostref02_Civil_3, k_gatepostref02_Civil_1, k_gatepostref02_Civil_4, k_gatepostref02_Civil_0, h0, h1, decide_true, decide_false, civV]
  rw [show civA day = civilS day from if_pos ⟨by omega, by omega⟩]
  simp (maxSteps := 4000000) only [vm, vl, Arg.get, cells, stor, boundO, resultsV, resV, partK, loadV, Vm.part, fillC, splice, reduceIte, reduceCtorEq, Nat.reduceEqDiff, Nat.reduceAdd, Nat.reduceSub, Nat.reduceMul, Nat.reduceLeDiff, ne_eq, not_false_eq_true, Int.reduceEq, Int.reduceLT, Int.reduceLE, Int.reduceNeg, Int.reduceToNat, Int.reduceGT, Int.reduceGE, Nat.reduceLT, Nat.lt_add_one, Nat.zero_lt_succ, Nat.succ_pos, Nat.zero_le, beq_self_eq_true, k_gatepostref02_Civil_2, k_gatepostref02_Civil_3, k_gatepostref02_Civil_1, k_gatepostref02_Civil_4, k_gatepostref02_Civil_0, h0, h1, decide_false]
  refine l_gatepostref02_Civil_1 (fun n e h' => ∃ j : Int, n = (9999 - j).toNat ∧ 1970 ≤ j ∧ j ≤ 9999 ∧ e 0 = .int .i64 (day - numD j 1 1) ∧ e 5 = .int .i64 j ∧ numD j 1 1 ≤ day ∧ ∃ t, h' = h ++ t) ?_ (n := 8029) ⟨1970, by decide, by omega, by omega, by rw [numD_1970, Int.sub_zero]; rfl, rfl, by rw [numD_1970]; omega, [], by simp⟩
  rintro n e h' ⟨j, rfl, j0, j1, e0, e5, aj, t, rfl⟩
  simp only [b_gatepostref02_Civil_1]
  have bj := numD_y_le j j0 j1
  have yl : 365 ≤ ylen j ∧ ylen j ≤ 366 := by unfold ylen; split <;> omega
  simp (maxSteps := 4000000) only [vm, vl, Arg.get, e0, e5]
  refine Cf.pu (Ryear_ok (by omega)) fun u => ?_
  have ny := numD_year j
  by_cases c : day - numD j 1 1 ≥ ylen j
  · have j9 : j < 9999 := by
      rcases Int.lt_or_le j 9999 with h | h
      · exact h
      · exfalso
        have : j = 9999 := by omega
        subst this
        have := numD_9999
        simp only [show (9999 : Int) + 1 = 10000 from rfl] at ny
        omega
    have w1 : IntKind.i64.wrap (day - numD j 1 1 - ylen j) = day - numD (j + 1) 1 1 := by
      rw [wrap64 (by omega) (by omega)]; omega
    have w2 : IntKind.i64.wrap (j + 1) = j + 1 := wrap64 (by omega) (by omega)
    simp (maxSteps := 4000000) only [vm, vl, Arg.get, e0, e5, c, decide_true, w1, w2, k_gatepostref02_Civil_4, upd, reduceIte, Nat.reduceEqDiff, reduceCtorEq]
    refine Cf.pu (Ryear_ok (by omega)) fun u2 => ?_
    simp (maxSteps := 4000000) only [vm, vl, Arg.get, w1, w2, upd, reduceIte, Nat.reduceEqDiff, reduceCtorEq]
    exact ⟨(9999 - (j + 1)).toNat, by omega, j + 1, rfl, by omega, by omega, rfl, rfl, by omega, t ++ (u ++ u2), by simp⟩
  · simp (maxSteps := 4000000) only [vm, vl, Arg.get, e0, e5, c, decide_false, List.append_assoc]
    exact rciv_m (by omega) (by omega) j0 j1 aj (by omega) (by simp [upd, e0]) (by simp [upd, e5])
open Go.Vm Go.Vt
attribute [local congr] wi_congr wg_congr wgd_congr wb_congr wl_congr cf_congr
def shLs : List Bs := [[77, 111, 110], [84, 117, 101], [87, 101, 100], [84, 104, 117], [70, 114, 105], [83, 97, 116], [83, 117, 110]]
theorem short_ok : Cf F L i_gatepostref02_short [] h (Pu h (.sl 1 .full (shLs.map .str))) := by
  refine run_gatepostref02_short ?_
  simp only [p_gatepostref02_short]
  simp (maxSteps := 4000000) only [vm, vl, Arg.get, cells, stor, reduceIte, List.all_cons, List.all_nil, List.map_cons, List.map_nil, Bool.and_true, Bool.and_self, List.length_cons, List.length_nil, Nat.reduceAdd, decide_true]
  rfl
theorem months_ok : Cf F L i_gatepostref02_months [] h (Pu h (.sl 1 .full (monLs.map .str))) := by
  refine run_gatepostref02_months ?_
  simp only [p_gatepostref02_months]
  simp (maxSteps := 4000000) only [vm, vl, Arg.get, cells, stor, reduceIte, List.all_cons, List.all_nil, List.map_cons, List.map_nil, Bool.and_true, Bool.and_self, List.length_cons, List.length_nil, Nat.reduceAdd, decide_true]
  rfl
def findI (l : List Bs) (s : Bs) : Int := if lpos s l < l.length then (lpos s l : Int) else -1
theorem lst_at {K : V → Heap → Prop} {e : Env} {hh : Heap} {l : List Bs} {o : Own} {i : Nat} (hi : i < l.length) : wi F L (.ixaSl 1 (.c (.sl 1 o (l.map .str))) (.c (.int .i64 i))) e hh K = K (.iptr [.str (l.getD i [])]) hh := by
  rw [ListV.at (es := l.map V.str) (.inr ⟨_, rfl⟩) (by simpa using hi), aggstr_at hi]; rfl
theorem lst_len {K : V → Heap → Prop} {e : Env} {hh : Heap} {l : List Bs} {o : Own} : wi F L (.len 1 (.c (.sl 1 o (l.map .str)))) e hh K = K (.int .i64 l.length) hh := by
  rw [ListV.len (es := l.map V.str) (.inr ⟨_, rfl⟩), List.length_map]
theorem find_ok {l : List Bs} {s : Bs} {o : Own} (hl : l.length ≤ 100) : Cf F L i_gatepostref02_find [.sl 1 o (l.map .str), .str s] h (Pu h (.int .i64 (findI l s))) := by
  refine run_gatepostref02_find ?_
  simp only [p_gatepostref02_find]
  refine l_gatepostref02_find_0 (fun n e h' => ∃ j : Nat, n = l.length - j ∧ j ≤ l.length ∧ e 0 = .sl 1 o (l.map .str) ∧ e 1 = .str s ∧ e 5 = .int .i64 j ∧ h' = h ∧ ∀ i, i < j → l.getD i [] ≠ s) ?_ (n := l.length) ⟨0, by simp, by omega, rfl, rfl, rfl, rfl, by simp⟩
  rintro n e h' ⟨j, rfl, hj, e0, e1, e5, rfl, hn⟩
  simp only [b_gatepostref02_find_0]
  have ln : ∀ (K : V → Heap → Prop) (e : Env) hh, wi F L (.len 1 (.c (.sl 1 o (l.map .str)))) e hh K = K (.int .i64 l.length) hh := fun K e hh => lst_len (L := L)
  by_cases c : j < l.length
  · have c' : (j : Int) < l.length := by omega
    have at_ : ∀ (K : V → Heap → Prop) (e : Env) hh, wi F L (.ixaSl 1 (.c (.sl 1 o (l.map .str))) (.c (.int .i64 j))) e hh K = K (.iptr [.str (l.getD j [])]) hh := fun K e hh => lst_at (L := L) c
    have w1 : IntKind.i64.wrap ((j : Int) + 1) = ((j + 1 : Nat) : Int) := by rw [wrap64 (by omega) (by omega)]; omega
    by_cases q : l.getD j [] = s
    · have ep : findI l s = j := by unfold findI; rw [lpos_at c hn q, if_pos c]
      have q' : (l.getD j [] == s) = true := beq_iff_eq.2 q
      generalize (l.map V.str) = LL at *
      generalize l.getD j [] = X1 at *
      simp (maxSteps := 4000000) only [vm, vl, Arg.get, cells, stor, boundO, resultsV, resV, partK, loadV, Vm.part, fillC, splice, reduceIte, reduceCtorEq, Nat.reduceEqDiff, Nat.reduceAdd, Nat.reduceSub, Nat.reduceMul, Nat.reduceLeDiff, ne_eq, not_false_eq_true, Int.reduceEq, Int.reduceLT, Int.reduceLE, Int.reduceNeg, Int.reduceToNat, Int.reduceGT, Int.reduceGE, Nat.reduceLT, Nat.lt_add_one, Nat.zero_lt_succ, Nat.succ_pos, Nat.zero_le, beq_self_eq_true, k_gatepostref02_find_0, k_gatepostref02_find_2, k_gatepostref02_find_1, e0, e1, e5, ln, c', at_, q', decide_true, ep]
    · have q' : (l.getD j [] == s) = false := by simpa using q
      have nx : ∀ i, i < j + 1 → l.getD i [] ≠ s := fun i hi => by
        rcases Nat.lt_or_ge i j with h | h
        · exact hn i h
        · rw [show i = j by omega]; exact q
      generalize (l.map V.str) = LL at *
      generalize l.getD j [] = X1 at *
      simp (maxSteps := 4000000) only [vm, vl, Arg.get, cells, stor, boundO, resultsV, resV, partK, loadV, Vm.part, fillC, splice, reduceIte, reduceCtorEq, Nat.reduceEqDiff, Nat.reduceAdd, Nat.reduceSub, Nat.reduceMul, Nat.reduceLeDiff, ne_eq, not_false_eq_true, Int.reduceEq, Int.reduceLT, Int.reduceLE, Int.reduceNeg, Int.reduceToNat, Int.reduceGT, Int.reduceGE, Nat.reduceLT, Nat.lt_add_one, Nat.zero_lt_succ, Nat.succ_pos, Nat.zero_le, beq_self_eq_true, k_gatepostref02_find_0, k_gatepostref02_find_2, k_gatepostref02_find_1, e0, e1, e5, ln, c', at_, q', decide_true, w1]
      exact ⟨l.length - (j + 1), by omega, j + 1, rfl, by omega, rfl, nx⟩
  · have c' : ¬ (j : Int) < l.length := by omega
    have ep : findI l s = -1 := by
      unfold findI; rw [lpos_none (fun i hi => hn i (by omega)), if_neg (by omega)]
    generalize (l.map V.str) = LL at *
    simp (maxSteps := 4000000) only [vm, vl, Arg.get, cells, stor, boundO, resultsV, resV, partK, loadV, Vm.part, fillC, splice, reduceIte, reduceCtorEq, Nat.reduceEqDiff, Nat.reduceAdd, Nat.reduceSub, Nat.reduceMul, Nat.reduceLeDiff, ne_eq, not_false_eq_true, Int.reduceEq, Int.reduceLT, Int.reduceLE, Int.reduceNeg, Int.reduceToNat, Int.reduceGT, Int.reduceGE, Nat.reduceLT, Nat.lt_add_one, Nat.zero_lt_succ, Nat.succ_pos, Nat.zero_le, beq_self_eq_true, k_gatepostref02_find_0, k_gatepostref02_find_2, k_gatepostref02_find_1, e0, e1, e5, ln, c', decide_false, ep]
def numN (s : Bs) : Int := if s.all isDig then numV s else -1
theorem numN_ok {s : Bs} (hl : s.length ≤ 4) : Cf F L i_gatepostref02_number [.str s] h (Pu h (.int .i64 (numN s))) := by
  refine run_gatepostref02_number ?_
  simp only [p_gatepostref02_number]
  refine l_gatepostref02_number_0 (fun n e h' => ∃ j : Nat, n = s.length - j ∧ j ≤ s.length ∧ e 0 = .str s ∧ e 3 = .int .i64 (numV (s.take j)) ∧ e 4 = .int .i64 j ∧ h' = h ∧ (s.take j).all isDig = true) ?_ (n := s.length) ⟨0, by simp, by omega, rfl, rfl, rfl, rfl, by simp⟩
  rintro n e h' ⟨j, rfl, hj, e0, e3, e4, rfl, hn⟩
  simp only [b_gatepostref02_number_0]
  by_cases c : j < s.length
  · have c' : (j : Int) < s.length := by omega
    have w1 : IntKind.i64.wrap ((j : Int) + 1) = ((j + 1 : Nat) : Int) := by rw [wrap64 (by omega) (by omega)]; omega
    have tk : s.take (j + 1) = s.take j ++ [s.getD j 0] := by
      rw [List.take_add_one, List.getD_eq_getElem?_getD, List.getElem?_eq_getElem c]; rfl
    have nv := numV_snoc (s.take j) (s.getD j 0)
    have bv := numV_le (s := s.take j) (by simp; omega)
    have dr := dgt_range (s.getD j 0)
    have dw := dgt_wrap (s.getD j 0)
    have w2 : IntKind.i64.wrap (numV (s.take j) * 10) = numV (s.take j) * 10 := wrap64 (by omega) (by omega)
    have w3 : IntKind.i64.wrap (numV (s.take j) * 10 + dgt (s.getD j 0)) = numV (s.take (j + 1)) := by rw [wrap64 (by omega) (by omega), tk, nv]; omega
    have w4 : IntKind.i64.wrap (dgt (s.getD j 0)) = dgt (s.getD j 0) := wrap64 (by omega) (by omega)
    by_cases d : isDig (s.getD j 0) = true
    · have dd := d
      unfold isDig at dd
      rw [decide_eq_true_eq] at dd
      have d1 : ¬ ((s.getD j 0).toNat : Int) < 48 := by omega
      have d2 : ¬ ((s.getD j 0).toNat : Int) > 57 := by omega
      have al : (s.take (j + 1)).all isDig = true := by rw [tk, List.all_append, hn, List.all_cons, List.all_nil, d]; rfl
      generalize hnv1 : numV (s.take (j + 1)) = nv1 at *
      generalize numV (s.take j) = nv0 at *
      simp (maxSteps := 4000000) only [vm, vl, Arg.get, cells, stor, boundO, resultsV, resV, partK, loadV, Vm.part, fillC, splice, reduceIte, reduceCtorEq, Nat.reduceEqDiff, Nat.reduceAdd, Nat.reduceSub, Nat.reduceMul, Nat.reduceLeDiff, ne_eq, not_false_eq_true, Int.reduceEq, Int.reduceLT, Int.reduceLE, Int.reduceNeg, Int.reduceToNat, Int.reduceGT, Int.reduceGE, Nat.reduceLT, Nat.lt_add_one, Nat.zero_lt_succ, Nat.succ_pos, Nat.zero_le, beq_self_eq_true, k_gatepostref02_number_0, k_gatepostref02_number_2, k_gatepostref02_number_3, k_gatepostref02_number_1, e0, e3, e4, c', c, w1, w2, w3, w4, d1, d2, dw, decide_true, decide_false, Bool.not_true]
      exact ⟨s.length - (j + 1), by omega, j + 1, rfl, by omega, by rw [hnv1], rfl, al⟩
    · have ep : numN s = -1 := by
        unfold numN
        rw [if_neg]
        intro h
        rw [List.all_eq_true] at h
        exact d (h _ (by rw [List.getD_eq_getElem?_getD, List.getElem?_eq_getElem c]; simp))
      unfold isDig at d
      rw [decide_eq_true_eq] at d
      by_cases d1 : ((s.getD j 0).toNat : Int) < 48
      · simp (maxSteps := 4000000) only [vm, vl, Arg.get, cells, stor, boundO, resultsV, resV, partK, loadV, Vm.part, fillC, splice, reduceIte, reduceCtorEq, Nat.reduceEqDiff, Nat.reduceAdd, Nat.reduceSub, Nat.reduceMul, Nat.reduceLeDiff, ne_eq, not_false_eq_true, Int.reduceEq, Int.reduceLT, Int.reduceLE, Int.reduceNeg, Int.reduceToNat, Int.reduceGT, Int.reduceGE, Nat.reduceLT, Nat.lt_add_one, Nat.zero_lt_succ, Nat.succ_pos, Nat.zero_le, beq_self_eq_true, k_gatepostref02_number_0, k_gatepostref02_number_2, k_gatepostref02_number_3, k_gatepostref02_number_1, e0, e3, e4, c', c, d1, decide_true, decide_false, Bool.not_true, ep]
      · have d2 : ((s.getD j 0).toNat : Int) > 57 := by omega
        simp (maxSteps := 4000000) only [vm, vl, Arg.get, cells, stor, boundO, resultsV, resV, partK, loadV, Vm.part, fillC, splice, reduceIte, reduceCtorEq, Nat.reduceEqDiff, Nat.reduceAdd, Nat.reduceSub, Nat.reduceMul, Nat.reduceLeDiff, ne_eq, not_false_eq_true, Int.reduceEq, Int.reduceLT, Int.reduceLE, Int.reduceNeg, Int.reduceToNat, Int.reduceGT, Int.reduceGE, Nat.reduceLT, Nat.lt_add_one, Nat.zero_lt_succ, Nat.succ_pos, Nat.zero_le, beq_self_eq_true, k_gatepostref02_number_0, k_gatepostref02_number_2, k_gatepostref02_number_3, k_gatepostref02_number_1, e0, e3, e4, c', c, d1, d2, decide_true, decide_false, Bool.not_true, ep]
  · have c' : ¬ (j : Int) < s.length := by omega
    have : j = s.length := by omega
    subst this
    rw [List.take_length] at hn e3
    have ep : numN s = numV s := by unfold numN; rw [if_pos hn]
    simp (maxSteps := 4000000) only [vm, vl, Arg.get, cells, stor, boundO, resultsV, resV, partK, loadV, Vm.part, fillC, splice, reduceIte, reduceCtorEq, Nat.reduceEqDiff, Nat.reduceAdd, Nat.reduceSub, Nat.reduceMul, Nat.reduceLeDiff, ne_eq, not_false_eq_true, Int.reduceEq, Int.reduceLT, Int.reduceLE, Int.reduceNeg, Int.reduceToNat, Int.reduceGT, Int.reduceGE, Nat.reduceLT, Nat.lt_add_one, Nat.zero_lt_succ, Nat.succ_pos, Nat.zero_le, beq_self_eq_true, k_gatepostref02_number_0, k_gatepostref02_number_2, k_gatepostref02_number_3, k_gatepostref02_number_1, e0, e3, e4, c', decide_false, ep]
theorem numN_le {s : Bs} (hl : s.length ≤ 4) : -1 ≤ numN s ∧ numN s ≤ 283305 := by
  have := numV_le hl
  unfold numN; split <;> omega
def clkN (s : Bs) : Int :=
  if s.length = 8 ∧ s.getD 2 0 = 58 ∧ s.getD 5 0 = 58 ∧ 0 ≤ numN (s.take 2) ∧ numN (s.take 2) ≤ 23 ∧ 0 ≤ numN ((s.take 5).drop 3) ∧ numN ((s.take 5).drop 3) ≤ 59 ∧ 0 ≤ numN (s.drop 6) ∧ numN (s.drop 6) ≤ 60 then
    numN (s.take 2) * 3600 + numN ((s.take 5).drop 3) * 60 + min (numN (s.drop 6)) 59
  else -1
theorem clkN_le (s : Bs) : -1 ≤ clkN s ∧ clkN s ≤ 86399 := by unfold clkN; split <;> omega
theorem u8_ne {a b : UInt8} (h : ¬ a = b) : ¬ ((a.toNat : Int) = (b.toNat : Int)) := fun e => h (UInt8.toNat_inj.1 (by omega))
theorem clkN_ok {s : Bs} (hl : s.length ≤ 100) : Cf F L i_gatepostref02_clock [.str s] h (Pu h (.int .i64 (clkN s))) := by
  refine run_gatepostref02_clock ?_
  simp only [p_gatepostref02_clock]
  by_cases a1 : s.length = 8
  case neg =>
    have c1 : ¬ (s.length : Int) = 8 := by omega
    rw [show clkN s = -1 from if_neg fun h => a1 h.1]
    simp (maxSteps := 4000000) only [vm, vl, Arg.get, cells, stor, boundO, resultsV, resV, partK, loadV, Vm.part, fillC, splice, reduceIte, reduceCtorEq, Nat.reduceEqDiff, Nat.reduceAdd, Nat.reduceSub, Nat.reduceMul, Nat.reduceLeDiff, ne_eq, not_false_eq_true, Int.reduceEq, Int.reduceLT, Int.reduceLE, Int.reduceNeg, Int.reduceToNat, Int.reduceGT, Int.reduceGE, Nat.reduceLT, Nat.lt_add_one, Nat.zero_lt_succ, Nat.succ_pos, Nat.zero_le, beq_self_eq_true, k_gatepostref02_clock_2, k_gatepostref02_clock_1, k_gatepostref02_clock_0, c1, decide_false, decide_true, Bool.not_true, Bool.not_false]
  have c1 : (s.length : Int) = 8 := by omega
  have o1 : 2 < s.length := by omega
  have o2 : 5 < s.length := by omega
  have o3 : 2 ≤ s.length := by omega
  have o4 : 5 ≤ s.length := by omega
  have o5 : 6 ≤ s.length := by omega
  by_cases a2 : s.getD 2 0 = 58
  case neg =>
    have c2 : ¬ ((s.getD 2 0).toNat : Int) = 58 := u8_ne a2
    rw [show clkN s = -1 from if_neg fun h => a2 h.2.1]
    simp (maxSteps := 4000000) only [vm, vl, Arg.get, cells, stor, boundO, resultsV, resV, partK, loadV, Vm.part, fillC, splice, reduceIte, reduceCtorEq, Nat.reduceEqDiff, Nat.reduceAdd, Nat.reduceSub, Nat.reduceMul, Nat.reduceLeDiff, ne_eq, not_false_eq_true, Int.reduceEq, Int.reduceLT, Int.reduceLE, Int.reduceNeg, Int.reduceToNat, Int.reduceGT, Int.reduceGE, Nat.reduceLT, Nat.lt_add_one, Nat.zero_lt_succ, Nat.succ_pos, Nat.zero_le, beq_self_eq_true, k_gatepostref02_clock_2, k_gatepostref02_clock_1, k_gatepostref02_clock_0, c1, c2, o1, o2, decide_false, decide_true, Bool.not_true, Bool.not_false]
  have c2 : ((s.getD 2 0).toNat : Int) = 58 := by rw [a2]; rfl
  by_cases a3 : s.getD 5 0 = 58
  case neg =>
    have c3 : ¬ ((s.getD 5 0).toNat : Int) = 58 := u8_ne a3
    rw [show clkN s = -1 from if_neg fun h => a3 h.2.2.1]
    simp (maxSteps := 4000000) only [vm, vl, Arg.get, cells, stor, boundO, resultsV, resV, partK, loadV, Vm.part, fillC, splice, reduceIte, reduceCtorEq, Nat.reduceEqDiff, Nat.reduceAdd, Nat.reduceSub, Nat.reduceMul, Nat.reduceLeDiff, ne_eq, not_false_eq_true, Int.reduceEq, Int.reduceLT, Int.reduceLE, Int.reduceNeg, Int.reduceToNat, Int.reduceGT, Int.reduceGE, Nat.reduceLT, Nat.lt_add_one, Nat.zero_lt_succ, Nat.succ_pos, Nat.zero_le, beq_self_eq_true, k_gatepostref02_clock_2, k_gatepostref02_clock_1, k_gatepostref02_clock_0, c1, c2, c3, o1, o2, decide_false, decide_true, Bool.not_true, Bool.not_false]
  have c3 : ((s.getD 5 0).toNat : Int) = 58 := by rw [a3]; rfl
  have N1 : ∀ hh, Cf F L i_gatepostref02_number [.str (s.take 2)] hh (Pu hh (.int .i64 (numN (s.take 2)))) := fun hh => numN_ok (by rw [List.length_take]; omega)
  have N2 : ∀ hh, Cf F L i_gatepostref02_number [.str ((s.take 5).drop 3)] hh (Pu hh (.int .i64 (numN ((s.take 5).drop 3)))) := fun hh => numN_ok (by rw [List.length_drop, List.length_take]; omega)
  have N3 : ∀ hh, Cf F L i_gatepostref02_number [.str (s.drop 6)] hh (Pu hh (.int .i64 (numN (s.drop 6)))) := fun hh => numN_ok (by rw [List.length_drop]; omega)
  have e : clkN s = if 0 ≤ numN (s.take 2) ∧ numN (s.take 2) ≤ 23 ∧ 0 ≤ numN ((s.take 5).drop 3) ∧ numN ((s.take 5).drop 3) ≤ 59 ∧ 0 ≤ numN (s.drop 6) ∧ numN (s.drop 6) ≤ 60 then numN (s.take 2) * 3600 + numN ((s.take 5).drop 3) * 60 + min (numN (s.drop 6)) 59 else -1 := by
    unfold clkN; simp only [a1, a2, a3, true_and]
  rw [e]
  generalize numN (s.take 2) = A at *
  generalize numN ((s.take 5).drop 3) = B at *
  generalize numN (s.drop 6) = C at *
  simp (maxSteps := 4000000) only [vm, vl, Arg.get, cells, stor, boundO, resultsV, resV, partK, loadV, Vm.part, fillC, splice, reduceIte, reduceCtorEq, Nat.reduceEqDiff, Nat.reduceAdd, Nat.reduceSub, Nat.reduceMul, Nat.reduceLeDiff, ne_eq, not_false_eq_true, Int.reduceEq, Int.reduceLT, Int.reduceLE, Int.reduceNeg, Int.reduceToNat, Int.reduceGT, Int.reduceGE, Nat.reduceLT, Nat.lt_add_one, Nat.zero_lt_succ, Nat.succ_pos, Nat.zero_le, beq_self_eq_true, k_gatepostref02_clock_2, k_gatepostref02_clock_1, k_gatepostref02_clock_0, List.take_length, c1, c2, c3, o1, o2, o3, o4, o5, decide_false, decide_true, Bool.not_true, Bool.not_false]
  refine Cf.pu (N1 _) fun t1 => ?_
  simp (maxSteps := 4000000) only [vm, vl, Arg.get, cells, stor, boundO, resultsV, resV, partK, loadV, Vm.part, fillC, splice, reduceIte, reduceCtorEq, Nat.reduceEqDiff, Nat.reduceAdd, Nat.reduceSub, Nat.reduceMul, Nat.reduceLeDiff, ne_eq, not_false_eq_true, Int.reduceEq, Int.reduceLT, Int.reduceLE, Int.reduceNeg, Int.reduceToNat, Int.reduceGT, Int.reduceGE, Nat.reduceLT, Nat.lt_add_one, Nat.zero_lt_succ, Nat.succ_pos, Nat.zero_le, beq_self_eq_true, k_gatepostref02_clock_2, k_gatepostref02_clock_1, k_gatepostref02_clock_0, List.take_length, c1, c2, c3, o1, o2, o3, o4, o5, decide_false, decide_true, Bool.not_true, Bool.not_false]
  refine Cf.pu (N2 _) fun t2 => ?_
  simp (maxSteps := 4000000) only [vm, vl, Arg.get, cells, stor, boundO, resultsV, resV, partK, loadV, Vm.part, fillC, splice, reduceIte, reduceCtorEq, Nat.reduceEqDiff, Nat.reduceAdd, Nat.reduceSub, Nat.reduceMul, Nat.reduceLeDiff, ne_eq, not_false_eq_true, Int.reduceEq, Int.reduceLT, Int.reduceLE, Int.reduceNeg, Int.reduceToNat, Int.reduceGT, Int.reduceGE, Nat.reduceLT, Nat.lt_add_one, Nat.zero_lt_succ, Nat.succ_pos, Nat.zero_le, beq_self_eq_true, k_gatepostref02_clock_2, k_gatepostref02_clock_1, k_gatepostref02_clock_0, List.take_length, c1, c2, c3, o1, o2, o3, o4, o5, decide_false, decide_true, Bool.not_true, Bool.not_false]
  refine Cf.pu (N3 _) fun t3 => ?_
  by_cases k1 : A < 0
  · rw [if_neg (by omega)]
    simp (maxSteps := 4000000) only [vm, vl, Arg.get, cells, stor, boundO, resultsV, resV, partK, loadV, Vm.part, fillC, splice, reduceIte, reduceCtorEq, Nat.reduceEqDiff, Nat.reduceAdd, Nat.reduceSub, Nat.reduceMul, Nat.reduceLeDiff, ne_eq, not_false_eq_true, Int.reduceEq, Int.reduceLT, Int.reduceLE, Int.reduceNeg, Int.reduceToNat, Int.reduceGT, Int.reduceGE, Nat.reduceLT, Nat.lt_add_one, Nat.zero_lt_succ, Nat.succ_pos, Nat.zero_le, beq_self_eq_true, k_gatepostref02_clock_2, k_gatepostref02_clock_1, k_gatepostref02_clock_0, k1, decide_true]
  by_cases k2 : A > 23
  · rw [if_neg (by omega)]
    simp (maxSteps := 4000000) only [vm, vl, Arg.get, cells, stor, boundO, resultsV, resV, partK, loadV, Vm.part, fillC, splice, reduceIte, reduceCtorEq, Nat.reduceEqDiff, Nat.reduceAdd, Nat.reduceSub, Nat.reduceMul, Nat.reduceLeDiff, ne_eq, not_false_eq_true, Int.reduceEq, Int.reduceLT, Int.reduceLE, Int.reduceNeg, Int.reduceToNat, Int.reduceGT, Int.reduceGE, Nat.reduceLT, Nat.lt_add_one, Nat.zero_lt_succ, Nat.succ_pos, Nat.zero_le, beq_self_eq_true, k_gatepostref02_clock_2, k_gatepostref02_clock_1, k_gatepostref02_clock_0, k1, k2, decide_true, decide_false]
  by_cases k3 : B < 0
  · rw [if_neg (by omega)]
    simp (maxSteps := 4000000) only [vm, vl, Arg.get, cells, stor, boundO, resultsV, resV, partK, loadV, Vm.part, fillC, splice, reduceIte, reduceCtorEq, Nat.reduceEqDiff, Nat.reduceAdd, Nat.reduceSub, Nat.reduceMul, Nat.reduceLeDiff, ne_eq, not_false_eq_true, Int.reduceEq, Int.reduceLT, Int.reduceLE, Int.reduceNeg, Int.reduceToNat, Int.reduceGT, Int.reduceGE, Nat.reduceLT, Nat.lt_add_one, Nat.zero_lt_succ, Nat.succ_pos, Nat.zero_le, beq_self_eq_true, k_gatepostref02_clock_2, k_gatepostref02_clock_1, k_gatepostref02_clock_0, k1, k2, k3, decide_true, decide_false]
  by_cases k4 : B > 59
  · rw [if_neg (by omega)]
    simp (maxSteps := 4000000) only [vm, vl, Arg.get, cells, stor, boundO, resultsV, resV, partK, loadV, Vm.part, fillC, splice, reduceIte, reduceCtorEq, Nat.reduceEqDiff, Nat.reduceAdd, Nat.reduceSub, Nat.reduceMul, Nat.reduceLeDiff, ne_eq, not_false_eq_true, Int.reduceEq, Int.reduceLT, Int.reduceLE, Int.reduceNeg, Int.reduceToNat, Int.reduceGT, Int.reduceGE, Nat.reduceLT, Nat.lt_add_one, Nat.zero_lt_succ, Nat.succ_pos, Nat.zero_le, beq_self_eq_true, k_gatepostref02_clock_2, k_gatepostref02_clock_1, k_gatepostref02_clock_0, k1, k2, k3, k4, decide_true, decide_false]
  by_cases k5 : C < 0
  · rw [if_neg (by omega)]
    simp (maxSteps := 4000000) only [vm, vl, Arg.get, cells, stor, boundO, resultsV, resV, partK, loadV, Vm.part, fillC, splice, reduceIte, reduceCtorEq, Nat.reduceEqDiff, Nat.reduceAdd, Nat.reduceSub, Nat.reduceMul, Nat.reduceLeDiff, ne_eq, not_false_eq_true, Int.reduceEq, Int.reduceLT, Int.reduceLE, Int.reduceNeg, Int.reduceToNat, Int.reduceGT, Int.reduceGE, Nat.reduceLT, Nat.lt_add_one, Nat.zero_lt_succ, Nat.succ_pos, Nat.zero_le, beq_self_eq_true, k_gatepostref02_clock_2, k_gatepostref02_clock_1, k_gatepostref02_clock_0, k1, k2, k3, k4, k5, decide_true, decide_false]
  by_cases k6 : C > 60
  · rw [if_neg (by omega)]
    simp (maxSteps := 4000000) only [vm, vl, Arg.get, cells, stor, boundO, resultsV, resV, partK, loadV, Vm.part, fillC, splice, reduceIte, reduceCtorEq, Nat.reduceEqDiff, Nat.reduceAdd, Nat.reduceSub, Nat.reduceMul, Nat.reduceLeDiff, ne_eq, not_false_eq_true, Int.reduceEq, Int.reduceLT, Int.reduceLE, Int.reduceNeg, Int.reduceToNat, Int.reduceGT, Int.reduceGE, Nat.reduceLT, Nat.lt_add_one, Nat.zero_lt_succ, Nat.succ_pos, Nat.zero_le, beq_self_eq_true, k_gatepostref02_clock_2, k_gatepostref02_clock_1, k_gatepostref02_clock_0, k1, k2, k3, k4, k5, k6, decide_true, decide_false]
  rw [if_pos (by omega)]
  have w1 : IntKind.i64.wrap (A * 3600) = A * 3600 := wrap64 (by omega) (by omega)
  have w2 : IntKind.i64.wrap (B * 60) = B * 60 := wrap64 (by omega) (by omega)
  have w3 : IntKind.i64.wrap (A * 3600 + B * 60) = A * 3600 + B * 60 := wrap64 (by omega) (by omega)
  by_cases k7 : C = 60
  · subst k7
    have w4 : IntKind.i64.wrap (A * 3600 + B * 60 + 59) = A * 3600 + B * 60 + 59 := wrap64 (by omega) (by omega)
    simp (maxSteps := 4000000) only [vm, vl, Arg.get, cells, stor, boundO, resultsV, resV, partK, loadV, Vm.part, fillC, splice, reduceIte, reduceCtorEq, Nat.reduceEqDiff, Nat.reduceAdd, Nat.reduceSub, Nat.reduceMul, Nat.reduceLeDiff, ne_eq, not_false_eq_true, Int.reduceEq, Int.reduceLT, Int.reduceLE, Int.reduceNeg, Int.reduceToNat, Int.reduceGT, Int.reduceGE, Nat.reduceLT, Nat.lt_add_one, Nat.zero_lt_succ, Nat.succ_pos, Nat.zero_le, beq_self_eq_true, k_gatepostref02_clock_2, k_gatepostref02_clock_1, k_gatepostref02_clock_0, k1, k2, k3, k4, k5, k6, decide_true, decide_false, w1, w2, w3, w4]
    rfl
  · have w4 : IntKind.i64.wrap (A * 3600 + B * 60 + C) = A * 3600 + B * 60 + C := wrap64 (by omega) (by omega)
    have mm : min C 59 = C := by omega
    simp (maxSteps := 4000000) only [vm, vl, Arg.get, cells, stor, boundO, resultsV, resV, partK, loadV, Vm.part, fillC, splice, reduceIte, reduceCtorEq, Nat.reduceEqDiff, Nat.reduceAdd, Nat.reduceSub, Nat.reduceMul, Nat.reduceLeDiff, ne_eq, not_false_eq_true, Int.reduceEq, Int.reduceLT, Int.reduceLE, Int.reduceNeg, Int.reduceToNat, Int.reduceGT, Int.reduceGE, Nat.reduceLT, Nat.lt_add_one, Nat.zero_lt_succ, Nat.succ_pos, Nat.zero_le, beq_self_eq_true, k_gatepostref02_clock_2, k_gatepostref02_clock_1, k_gatepostref02_clock_0, k1, k2, k3, k4, k5, k6, k7, decide_true, decide_false, w1, w2, w3, w4, mm]
def secN (w y m d c : Int) : V := if 0 ≤ daysS y m d ∧ 0 ≤ c ∧ w = (daysS y m d + 3) % 7 then .tup [.int .i64 (daysS y m d * 86400 + c), .bool true] else .tup [.int .i64 0, .bool false]
theorem secN_ok {w y m d c : Int} (hc : c ≤ 86399) : Cf F L i_gatepostref02_second [.int .i64 w, .int .i64 y, .int .i64 m, .int .i64 d, .int .i64 c] h (Pu h (secN w y m d c)) := by
  refine run_gatepostref02_second ?_
  simp only [p_gatepostref02_second]
  refine Cf.pu RDays_ok fun t => ?_
  have dr := daysS_range y m d
  unfold secN
  generalize daysS y m d = n at *
  by_cases a1 : n < 0
  · rw [if_neg (by omega)]
    simp (maxSteps := 4000000) only [vm, vl, Arg.get, cells, stor, boundO, resultsV, resV, partK, loadV, Vm.part, fillC, splice, reduceIte, reduceCtorEq, Nat.reduceEqDiff, Nat.reduceAdd, Nat.reduceSub, Nat.reduceMul, Nat.reduceLeDiff, ne_eq, not_false_eq_true, Int.reduceEq, Int.reduceLT, Int.reduceLE, Int.reduceNeg, Int.reduceToNat, Int.reduceGT, Int.reduceGE, Nat.reduceLT, Nat.lt_add_one, Nat.zero_lt_succ, Nat.succ_pos, Nat.zero_le, beq_self_eq_true, k_gatepostref02_second_0, a1, decide_true, decide_false, Bool.not_true, Bool.not_false]
  by_cases a2 : c < 0
  · rw [if_neg (by omega)]
    simp (maxSteps := 4000000) only [vm, vl, Arg.get, cells, stor, boundO, resultsV, resV, partK, loadV, Vm.part, fillC, splice, reduceIte, reduceCtorEq, Nat.reduceEqDiff, Nat.reduceAdd, Nat.reduceSub, Nat.reduceMul, Nat.reduceLeDiff, ne_eq, not_false_eq_true, Int.reduceEq, Int.reduceLT, Int.reduceLE, Int.reduceNeg, Int.reduceToNat, Int.reduceGT, Int.reduceGE, Nat.reduceLT, Nat.lt_add_one, Nat.zero_lt_succ, Nat.succ_pos, Nat.zero_le, beq_self_eq_true, k_gatepostref02_second_0, a1, a2, decide_true, decide_false, Bool.not_true, Bool.not_false]
  have w1 : IntKind.i64.wrap (n + 3) = n + 3 := wrap64 (by omega) (by omega)
  have t1 : (n + 3).tmod 7 = (n + 3) % 7 := tmod_nn (by omega)
  by_cases a3 : w = (n + 3) % 7
  · rw [if_pos (by omega)]
    have w2 : IntKind.i64.wrap (n * 86400) = n * 86400 := wrap64 (by omega) (by omega)
    have w3 : IntKind.i64.wrap (n * 86400 + c) = n * 86400 + c := wrap64 (by omega) (by omega)
    simp (maxSteps := 4000000) only [vm, vl, Arg.get, cells, stor, boundO, resultsV, resV, partK, loadV, Vm.part, fillC, splice, reduceIte, reduceCtorEq, Nat.reduceEqDiff, Nat.reduceAdd, Nat.reduceSub, Nat.reduceMul, Nat.reduceLeDiff, ne_eq, not_false_eq_true, Int.reduceEq, Int.reduceLT, Int.reduceLE, Int.reduceNeg, Int.reduceToNat, Int.reduceGT, Int.reduceGE, Nat.reduceLT, Nat.lt_add_one, Nat.zero_lt_succ, Nat.succ_pos, Nat.zero_le, beq_self_eq_true, k_gatepostref02_second_0, a1, a2, a3, bin_rem, w1, t1, w2, w3, decide_true, decide_false, Bool.not_true, Bool.not_false]
  · rw [if_neg (by omega)]
    simp (maxSteps := 4000000) only [vm, vl, Arg.get, cells, stor, boundO, resultsV, resV, partK, loadV, Vm.part, fillC, splice, reduceIte, reduceCtorEq, Nat.reduceEqDiff, Nat.reduceAdd, Nat.reduceSub, Nat.reduceMul, Nat.reduceLeDiff, ne_eq, not_false_eq_true, Int.reduceEq, Int.reduceLT, Int.reduceLE, Int.reduceNeg, Int.reduceToNat, Int.reduceGT, Int.reduceGE, Nat.reduceLT, Nat.lt_add_one, Nat.zero_lt_succ, Nat.succ_pos, Nat.zero_le, beq_self_eq_true, k_gatepostref02_second_0, a1, a2, a3, bin_rem, w1, t1, decide_true, decide_false, Bool.not_true, Bool.not_false]
theorem two_cut : ∀ k, k < 10 → (([48, 49, 50, 51, 52, 53, 54, 55, 56, 57] : Bs).take (k + 1)).drop k = [UInt8.ofNat (48 + k)] := by decide +kernel
theorem Rtwo_ok {n : Nat} (hn : n < 100) : Cf F L i_gatepostref02_two [.int .i64 n] h (Pu h (.str (two n))) := by
  refine run_gatepostref02_two ?_
  simp only [p_gatepostref02_two]
  have q1 : IntKind.i64.wrap ((n : Int).tdiv 10) = (n / 10 : Nat) := by rw [wdiv (by omega) (by omega) (by omega)]; omega
  have q2 : (n : Int).tmod 10 = (n % 10 : Nat) := by rw [tmod_nn (by omega)]; omega
  have w1 : IntKind.i64.wrap (((n / 10 : Nat) : Int) + 1) = ((n / 10 + 1 : Nat) : Int) := by rw [wrap64 (by omega) (by omega)]; omega
  have w2 : IntKind.i64.wrap (((n % 10 : Nat) : Int) + 1) = ((n % 10 + 1 : Nat) : Int) := by rw [wrap64 (by omega) (by omega)]; omega
  have c1 := two_cut (n / 10) (by omega)
  have c2 := two_cut (n % 10) (by omega)
  have ha : n / 10 < 10 := by omega
  have hb : n % 10 < 10 := by omega
  have e : two n = [UInt8.ofNat (48 + n / 10)] ++ [UInt8.ofNat (48 + n % 10)] := rfl
  rw [e]
  have b1 : binV .add (.str [UInt8.ofNat (48 + n / 10)]) (.str [UInt8.ofNat (48 + n % 10)]) = some (.str ([UInt8.ofNat (48 + n / 10)] ++ [UInt8.ofNat (48 + n % 10)])) := bin_sadd (by show 1 + 1 ≤ _; omega)
  generalize n / 10 = a at *
  generalize n % 10 = b at *
  have l1 : a ≤ a + 1 := by omega
  have l2 : b ≤ b + 1 := by omega
  have l3 : a + 1 ≤ 10 := by omega
  have l4 : b + 1 ≤ 10 := by omega
  generalize [UInt8.ofNat (48 + a)] = X at *
  generalize [UInt8.ofNat (48 + b)] = Y at *
  have LD : ([48, 49, 50, 51, 52, 53, 54, 55, 56, 57] : Bs).length = 10 := rfl
  generalize ([48, 49, 50, 51, 52, 53, 54, 55, 56, 57] : Bs) = D at *
  simp (maxSteps := 4000000) only [vm, vl, Arg.get, cells, stor, boundO, resultsV, resV, partK, loadV, Vm.part, fillC, splice, reduceIte, reduceCtorEq, Nat.reduceEqDiff, Nat.reduceAdd, Nat.reduceSub, Nat.reduceMul, Nat.reduceLeDiff, ne_eq, not_false_eq_true, Int.reduceEq, Int.reduceLT, Int.reduceLE, Int.reduceNeg, Int.reduceToNat, Int.reduceGT, Int.reduceGE, Nat.reduceLT, Nat.lt_add_one, Nat.zero_lt_succ, Nat.succ_pos, Nat.zero_le, beq_self_eq_true, bin_quo, bin_rem, q1, q2, w1, w2, LD, l1, l2, l3, l4, c1, c2, b1]
open Go.Vm Go.Vt
attribute [local congr] wi_congr wg_congr wgd_congr wb_congr wl_congr cf_congr
theorem sh_day : ∀ w, w < 7 → shLs.getD w [] = (dayLs.getD w []).take 3 := by decide +kernel
theorem Rfmt0_ok {sec : Int} (h0 : 0 ≤ sec) (h1 : sec / 86400 ≤ 2932896) : k_gatepostref02_Format_0 L (Pu h (.str (fmtS sec))) (.int .i64 sec) h := by
  
  obtain ⟨y, m, d, hc, y0, y1, m0, m1, d0, d1, _⟩ := civil_ok (sec / 86400) (by omega) h1
  have d2 := dim_le y m
  have ha : civA (sec / 86400) = (y, m, d) := by rw [civA, if_pos ⟨by omega, h1⟩, hc]
  have q1 : IntKind.i64.wrap (sec.tdiv 86400) = sec / 86400 := wdiv h0 (by omega) (by omega)
  have q2 : sec.tmod 86400 = sec % 86400 := tmod_nn h0
  have hF : fmtS sec = (dayLs.getD ((sec / 86400 + 3) % 7).toNat []).take 3 ++ [44, 32] ++ two d.toNat ++ [32] ++ monLs.getD (m - 1).toNat [] ++ [32] ++ (two (y.toNat / 100) ++ two (y.toNat % 100)) ++ [32] ++ two (sec % 86400 / 3600).toNat ++ [58] ++ two (sec % 86400 / 60 % 60).toNat ++ [58] ++ two (sec % 86400 % 60).toNat ++ [32, 71, 77, 84] := by
    unfold fmtS
    simp only [hc]
  generalize fmtS sec = fs at *
  simp (maxSteps := 4000000) only [vm, vl, Arg.get, cells, stor, boundO, resultsV, resV, partK, loadV, Vm.part, fillC, splice, reduceIte, reduceCtorEq, Nat.reduceEqDiff, Nat.reduceAdd, Nat.reduceSub, Nat.reduceMul, Nat.reduceLeDiff, ne_eq, not_false_eq_true, Int.reduceEq, Int.reduceLT, Int.reduceLE, Int.reduceNeg, Int.reduceToNat, Int.reduceGT, Int.reduceGE, Nat.reduceLT, Nat.lt_add_one, Nat.zero_lt_succ, Nat.succ_pos, Nat.zero_le, beq_self_eq_true, k_gatepostref02_Format_0, bin_quo, bin_rem, q1, q2]
  refine Cf.pu RCivil_ok fun t => ?_
  rw [ha]
  have dd0 : 0 ≤ sec / 86400 := by omega
  have c0 : 0 ≤ sec % 86400 := by omega
  have c1 : sec % 86400 < 86400 := by omega
  generalize sec % 86400 = c at *
  generalize sec / 86400 = day at *
  obtain ⟨w, hw, hw7⟩ : ∃ w : Nat, (day + 3) % 7 = w ∧ w < 7 := ⟨((day + 3) % 7).toNat, by omega, by omega⟩
  obtain ⟨mi, hmi, hmi12⟩ : ∃ i : Nat, m = (i : Int) + 1 ∧ i < 12 := ⟨(m - 1).toNat, by omega, by omega⟩
  obtain ⟨yn, rfl⟩ : ∃ n : Nat, y = n := ⟨y.toNat, by omega⟩
  obtain ⟨dn', rfl⟩ : ∃ n : Nat, d = n := ⟨d.toNat, by omega⟩
  obtain ⟨ch, hch⟩ : ∃ n : Nat, c / 3600 = n := ⟨(c / 3600).toNat, by omega⟩
  obtain ⟨cm, hcm⟩ : ∃ n : Nat, c / 60 % 60 = n := ⟨(c / 60 % 60).toNat, by omega⟩
  obtain ⟨cs, hcs⟩ : ∃ n : Nat, c % 60 = n := ⟨(c % 60).toNat, by omega⟩
  have q3 : IntKind.i64.wrap (day + 3) = day + 3 := wrap64 (by omega) (by omega)
  have q4 : (day + 3).tmod 7 = (w : Int) := by rw [tmod_nn (by omega), hw]
  have q5 : IntKind.i64.wrap (m - 1) = (mi : Int) := by rw [wrap64 (by omega) (by omega)]; omega
  have q6 : IntKind.i64.wrap (c.tdiv 3600) = (ch : Int) := by rw [wdiv c0 (by omega) (by omega), hch]
  have q7 : IntKind.i64.wrap (c.tdiv 60) = c / 60 := wdiv c0 (by omega) (by omega)
  have q8 : (c / 60).tmod 60 = (cm : Int) := by rw [tmod_nn (by omega), hcm]
  have q9 : c.tmod 60 = (cs : Int) := by rw [tmod_nn c0, hcs]
  have qa : IntKind.i64.wrap ((yn : Int).tdiv 100) = (yn / 100 : Nat) := by rw [wdiv (by omega) (by omega) (by omega)]; omega
  have qb : (yn : Int).tmod 100 = (yn % 100 : Nat) := by rw [tmod_nn (by omega)]; omega
  obtain ⟨u1, u2⟩ := day3 w hw7
  have u3 := mon3 mi hmi12
  have e1 : ((dn' : Int)).toNat = dn' := by omega
  have e2 : ((yn : Int)).toNat = yn := by omega
  have e3 : (m - 1).toNat = mi := by omega
  rw [hw, hch, hcm, hcs, e1, e2, e3, Int.toNat_natCast, Int.toNat_natCast, Int.toNat_natCast, Int.toNat_natCast] at hF
  have r1 : (shLs.map V.str).getD w (.tup []) = .str ((dayLs.getD w []).take 3) := by rw [aggstr_at hw7, sh_day w hw7]
  have r2 : (monLs.map V.str).getD mi (.tup []) = .str (monLs.getD mi []) := aggstr_at hmi12
  have z1 : (shLs.map V.str).length = 7 := rfl
  have z2 : (monLs.map V.str).length = 12 := rfl
  have i0 : (0 : Int) ≤ w := by omega
  have i1 : (0 : Int) ≤ mi := by omega
  have S1 : ∀ hh, Cf F L i_gatepostref02_short [] hh (Pu hh (.sl 1 .full (shLs.map .str))) := fun hh => short_ok
  have S2 : ∀ hh, Cf F L i_gatepostref02_months [] hh (Pu hh (.sl 1 .full (monLs.map .str))) := fun hh => months_ok
  have P1 : ∀ hh, Cf F L i_gatepostref02_two [.int .i64 (dn' : Int)] hh (Pu hh (.str (two dn'))) := fun hh => Rtwo_ok (by omega)
  have P2 : ∀ hh, Cf F L i_gatepostref02_two [.int .i64 ((yn / 100 : Nat) : Int)] hh (Pu hh (.str (two (yn / 100)))) := fun hh => Rtwo_ok (by omega)
  have P3 : ∀ hh, Cf F L i_gatepostref02_two [.int .i64 ((yn % 100 : Nat) : Int)] hh (Pu hh (.str (two (yn % 100)))) := fun hh => Rtwo_ok (by omega)
  have P4 : ∀ hh, Cf F L i_gatepostref02_two [.int .i64 (ch : Int)] hh (Pu hh (.str (two ch))) := fun hh => Rtwo_ok (by omega)
  have P5 : ∀ hh, Cf F L i_gatepostref02_two [.int .i64 (cm : Int)] hh (Pu hh (.str (two cm))) := fun hh => Rtwo_ok (by omega)
  have P6 : ∀ hh, Cf F L i_gatepostref02_two [.int .i64 (cs : Int)] hh (Pu hh (.str (two cs))) := fun hh => Rtwo_ok (by omega)
  have hp1 : (two dn').length = 2 := rfl
  have hp2 : (two (yn / 100)).length = 2 := rfl
  have hp3 : (two (yn % 100)).length = 2 := rfl
  have hp4 : (two ch).length = 2 := rfl
  have hp5 : (two cm).length = 2 := rfl
  have hp6 : (two cs).length = 2 := rfl
  generalize (shLs.map V.str) = LS at *
  generalize (monLs.map V.str) = LM at *
  generalize two dn' = p1 at *
  generalize two (yn / 100) = p2 at *
  generalize two (yn % 100) = p3 at *
  generalize two ch = p4 at *
  generalize two cm = p5 at *
  generalize two cs = p6 at *
  generalize yn / 100 = ya at *
  generalize yn % 100 = yb at *
  generalize (dayLs.getD w []).take 3 = dn at *
  generalize monLs.getD mi [] = mn at *
  have hdn := u2
  have hmn := u3
  obtain ⟨A0, hA0⟩ : ∃ A : Bs, A = dn ++ [44, 32] := ⟨_, rfl⟩
  have lA0 : A0.length = 5 := by rw [hA0, List.length_append]; simp only [hdn, hmn, hp1, hp2, hp3, hp4, hp5, hp6, List.length_cons, List.length_nil]
  have bA0 : binV .add (.str dn) (.str [44, 32]) = some (.str A0) := by rw [hA0]; exact bin_sadd (by simp only [hdn, hmn, hp1, hp2, hp3, hp4, hp5, hp6, List.length_cons, List.length_nil]; omega)
  obtain ⟨A1, hA1⟩ : ∃ A : Bs, A = A0 ++ p1 := ⟨_, rfl⟩
  have lA1 : A1.length = 7 := by rw [hA1, List.length_append]; simp only [hdn, hmn, hp1, hp2, hp3, hp4, hp5, hp6, lA0, List.length_cons, List.length_nil]
  have bA1 : binV .add (.str A0) (.str p1) = some (.str A1) := by rw [hA1]; exact bin_sadd (by simp only [hdn, hmn, hp1, hp2, hp3, hp4, hp5, hp6, lA0, List.length_cons, List.length_nil]; omega)
  obtain ⟨A2, hA2⟩ : ∃ A : Bs, A = A1 ++ [32] := ⟨_, rfl⟩
  have lA2 : A2.length = 8 := by rw [hA2, List.length_append]; simp only [hdn, hmn, hp1, hp2, hp3, hp4, hp5, hp6, lA0, lA1, List.length_cons, List.length_nil]
  have bA2 : binV .add (.str A1) (.str [32]) = some (.str A2) := by rw [hA2]; exact bin_sadd (by simp only [hdn, hmn, hp1, hp2, hp3, hp4, hp5, hp6, lA0, lA1, List.length_cons, List.length_nil]; omega)
  obtain ⟨A3, hA3⟩ : ∃ A : Bs, A = A2 ++ mn := ⟨_, rfl⟩
  have lA3 : A3.length = 11 := by rw [hA3, List.length_append]; simp only [hdn, hmn, hp1, hp2, hp3, hp4, hp5, hp6, lA0, lA1, lA2, List.length_cons, List.length_nil]
  have bA3 : binV .add (.str A2) (.str mn) = some (.str A3) := by rw [hA3]; exact bin_sadd (by simp only [hdn, hmn, hp1, hp2, hp3, hp4, hp5, hp6, lA0, lA1, lA2, List.length_cons, List.length_nil]; omega)
  obtain ⟨A4, hA4⟩ : ∃ A : Bs, A = A3 ++ [32] := ⟨_, rfl⟩
  have lA4 : A4.length = 12 := by rw [hA4, List.length_append]; simp only [hdn, hmn, hp1, hp2, hp3, hp4, hp5, hp6, lA0, lA1, lA2, lA3, List.length_cons, List.length_nil]
  have bA4 : binV .add (.str A3) (.str [32]) = some (.str A4) := by rw [hA4]; exact bin_sadd (by simp only [hdn, hmn, hp1, hp2, hp3, hp4, hp5, hp6, lA0, lA1, lA2, lA3, List.length_cons, List.length_nil]; omega)
  obtain ⟨A5, hA5⟩ : ∃ A : Bs, A = A4 ++ p2 := ⟨_, rfl⟩
  have lA5 : A5.length = 14 := by rw [hA5, List.length_append]; simp only [hdn, hmn, hp1, hp2, hp3, hp4, hp5, hp6, lA0, lA1, lA2, lA3, lA4, List.length_cons, List.length_nil]
  have bA5 : binV .add (.str A4) (.str p2) = some (.str A5) := by rw [hA5]; exact bin_sadd (by simp only [hdn, hmn, hp1, hp2, hp3, hp4, hp5, hp6, lA0, lA1, lA2, lA3, lA4, List.length_cons, List.length_nil]; omega)
  obtain ⟨A6, hA6⟩ : ∃ A : Bs, A = A5 ++ p3 := ⟨_, rfl⟩
  have lA6 : A6.length = 16 := by rw [hA6, List.length_append]; simp only [hdn, hmn, hp1, hp2, hp3, hp4, hp5, hp6, lA0, lA1, lA2, lA3, lA4, lA5, List.length_cons, List.length_nil]
  have bA6 : binV .add (.str A5) (.str p3) = some (.str A6) := by rw [hA6]; exact bin_sadd (by simp only [hdn, hmn, hp1, hp2, hp3, hp4, hp5, hp6, lA0, lA1, lA2, lA3, lA4, lA5, List.length_cons, List.length_nil]; omega)
  obtain ⟨A7, hA7⟩ : ∃ A : Bs, A = A6 ++ [32] := ⟨_, rfl⟩
  have lA7 : A7.length = 17 := by rw [hA7, List.length_append]; simp only [hdn, hmn, hp1, hp2, hp3, hp4, hp5, hp6, lA0, lA1, lA2, lA3, lA4, lA5, lA6, List.length_cons, List.length_nil]
  have bA7 : binV .add (.str A6) (.str [32]) = some (.str A7) := by rw [hA7]; exact bin_sadd (by simp only [hdn, hmn, hp1, hp2, hp3, hp4, hp5, hp6, lA0, lA1, lA2, lA3, lA4, lA5, lA6, List.length_cons, List.length_nil]; omega)
  obtain ⟨A8, hA8⟩ : ∃ A : Bs, A = A7 ++ p4 := ⟨_, rfl⟩
  have lA8 : A8.length = 19 := by rw [hA8, List.length_append]; simp only [hdn, hmn, hp1, hp2, hp3, hp4, hp5, hp6, lA0, lA1, lA2, lA3, lA4, lA5, lA6, lA7, List.length_cons, List.length_nil]
  have bA8 : binV .add (.str A7) (.str p4) = some (.str A8) := by rw [hA8]; exact bin_sadd (by simp only [hdn, hmn, hp1, hp2, hp3, hp4, hp5, hp6, lA0, lA1, lA2, lA3, lA4, lA5, lA6, lA7, List.length_cons, List.length_nil]; omega)
  obtain ⟨A9, hA9⟩ : ∃ A : Bs, A = A8 ++ [58] := ⟨_, rfl⟩
  have lA9 : A9.length = 20 := by rw [hA9, List.length_append]; simp only [hdn, hmn, hp1, hp2, hp3, hp4, hp5, hp6, lA0, lA1, lA2, lA3, lA4, lA5, lA6, lA7, lA8, List.length_cons, List.length_nil]
  have bA9 : binV .add (.str A8) (.str [58]) = some (.str A9) := by rw [hA9]; exact bin_sadd (by simp only [hdn, hmn, hp1, hp2, hp3, hp4, hp5, hp6, lA0, lA1, lA2, lA3, lA4, lA5, lA6, lA7, lA8, List.length_cons, List.length_nil]; omega)
  obtain ⟨A10, hA10⟩ : ∃ A : Bs, A = A9 ++ p5 := ⟨_, rfl⟩
  have lA10 : A10.length = 22 := by rw [hA10, List.length_append]; simp only [hdn, hmn, hp1, hp2, hp3, hp4, hp5, hp6, lA0, lA1, lA2, lA3, lA4, lA5, lA6, lA7, lA8, lA9, List.length_cons, List.length_nil]
  have bA10 : binV .add (.str A9) (.str p5) = some (.str A10) := by rw [hA10]; exact bin_sadd (by simp only [hdn, hmn, hp1, hp2, hp3, hp4, hp5, hp6, lA0, lA1, lA2, lA3, lA4, lA5, lA6, lA7, lA8, lA9, List.length_cons, List.length_nil]; omega)
  obtain ⟨A11, hA11⟩ : ∃ A : Bs, A = A10 ++ [58] := ⟨_, rfl⟩
  have lA11 : A11.length = 23 := by rw [hA11, List.length_append]; simp only [hdn, hmn, hp1, hp2, hp3, hp4, hp5, hp6, lA0, lA1, lA2, lA3, lA4, lA5, lA6, lA7, lA8, lA9, lA10, List.length_cons, List.length_nil]
  have bA11 : binV .add (.str A10) (.str [58]) = some (.str A11) := by rw [hA11]; exact bin_sadd (by simp only [hdn, hmn, hp1, hp2, hp3, hp4, hp5, hp6, lA0, lA1, lA2, lA3, lA4, lA5, lA6, lA7, lA8, lA9, lA10, List.length_cons, List.length_nil]; omega)
  obtain ⟨A12, hA12⟩ : ∃ A : Bs, A = A11 ++ p6 := ⟨_, rfl⟩
  have lA12 : A12.length = 25 := by rw [hA12, List.length_append]; simp only [hdn, hmn, hp1, hp2, hp3, hp4, hp5, hp6, lA0, lA1, lA2, lA3, lA4, lA5, lA6, lA7, lA8, lA9, lA10, lA11, List.length_cons, List.length_nil]
  have bA12 : binV .add (.str A11) (.str p6) = some (.str A12) := by rw [hA12]; exact bin_sadd (by simp only [hdn, hmn, hp1, hp2, hp3, hp4, hp5, hp6, lA0, lA1, lA2, lA3, lA4, lA5, lA6, lA7, lA8, lA9, lA10, lA11, List.length_cons, List.length_nil]; omega)
  obtain ⟨A13, hA13⟩ : ∃ A : Bs, A = A12 ++ [32, 71, 77, 84] := ⟨_, rfl⟩
  have lA13 : A13.length = 29 := by rw [hA13, List.length_append]; simp only [hdn, hmn, hp1, hp2, hp3, hp4, hp5, hp6, lA0, lA1, lA2, lA3, lA4, lA5, lA6, lA7, lA8, lA9, lA10, lA11, lA12, List.length_cons, List.length_nil]
  have bA13 : binV .add (.str A12) (.str [32, 71, 77, 84]) = some (.str A13) := by rw [hA13]; exact bin_sadd (by simp only [hdn, hmn, hp1, hp2, hp3, hp4, hp5, hp6, lA0, lA1, lA2, lA3, lA4, lA5, lA6, lA7, lA8, lA9, lA10, lA11, lA12, List.length_cons, List.length_nil]; omega)
  have eF : fs = A13 := by rw [hF, hA13, hA12, hA11, hA10, hA9, hA8, hA7, hA6, hA5, hA4, hA3, hA2, hA1, hA0]; simp only [List.append_assoc]
  subst eF
  simp (maxSteps := 4000000) only [vm, vl, Arg.get, cells, stor, boundO, resultsV, resV, partK, loadV, Vm.part, fillC, splice, reduceIte, reduceCtorEq, Nat.reduceEqDiff, Nat.reduceAdd, Nat.reduceSub, Nat.reduceMul, Nat.reduceLeDiff, ne_eq, not_false_eq_true, Int.reduceEq, Int.reduceLT, Int.reduceLE, Int.reduceNeg, Int.reduceToNat, Int.reduceGT, Int.reduceGE, Nat.reduceLT, Nat.lt_add_one, Nat.zero_lt_succ, Nat.succ_pos, Nat.zero_le, beq_self_eq_true, k_gatepostref02_Format_0, civV, bin_quo, bin_rem, q3, q4, q5, q6, q7, q8, q9, qa, qb, r1, r2, z1, z2, i0, i1, hw7, hmi12, bA0, bA1, bA2, bA3, bA4, bA5, bA6, bA7, bA8, bA9, bA10, bA11, bA12, bA13]
  refine Cf.pu (S1 _) fun v0 => ?_
  try simp (maxSteps := 4000000) only [vm, vl, Arg.get, cells, stor, boundO, resultsV, resV, partK, loadV, Vm.part, fillC, splice, reduceIte, reduceCtorEq, Nat.reduceEqDiff, Nat.reduceAdd, Nat.reduceSub, Nat.reduceMul, Nat.reduceLeDiff, ne_eq, not_false_eq_true, Int.reduceEq, Int.reduceLT, Int.reduceLE, Int.reduceNeg, Int.reduceToNat, Int.reduceGT, Int.reduceGE, Nat.reduceLT, Nat.lt_add_one, Nat.zero_lt_succ, Nat.succ_pos, Nat.zero_le, beq_self_eq_true, k_gatepostref02_Format_0, civV, bin_quo, bin_rem, q3, q4, q5, q6, q7, q8, q9, qa, qb, r1, r2, z1, z2, i0, i1, hw7, hmi12, bA0, bA1, bA2, bA3, bA4, bA5, bA6, bA7, bA8, bA9, bA10, bA11, bA12, bA13]
  refine Cf.pu (P1 _) fun v1 => ?_
  try simp (maxSteps := 4000000) only [vm, vl, Arg.get, cells, stor, boundO, resultsV, resV, partK, loadV, Vm.part, fillC, splice, reduceIte, reduceCtorEq, Nat.reduceEqDiff, Nat.reduceAdd, Nat.reduceSub, Nat.reduceMul, Nat.reduceLeDiff, ne_eq, not_false_eq_true, Int.reduceEq, Int.reduceLT, Int.reduceLE, Int.reduceNeg, Int.reduceToNat, Int.reduceGT, Int.reduceGE, Nat.reduceLT, Nat.lt_add_one, Nat.zero_lt_succ, Nat.succ_pos, Nat.zero_le, beq_self_eq_true, k_gatepostref02_Format_0, civV, bin_quo, bin_rem, q3, q4, q5, q6, q7, q8, q9, qa, qb, r1, r2, z1, z2, i0, i1, hw7, hmi12, bA0, bA1, bA2, bA3, bA4, bA5, bA6, bA7, bA8, bA9, bA10, bA11, bA12, bA13]
  refine Cf.pu (S2 _) fun v2 => ?_
  try simp (maxSteps := 4000000) only [vm, vl, Arg.get, cells, stor, boundO, resultsV, resV, partK, loadV, Vm.part, fillC, splice, reduceIte, reduceCtorEq, Nat.reduceEqDiff, Nat.reduceAdd, Nat.reduceSub, Nat.reduceMul, Nat.reduceLeDiff, ne_eq, not_false_eq_true, Int.reduceEq, Int.reduceLT, Int.reduceLE, Int.reduceNeg, Int.reduceToNat, Int.reduceGT, Int.reduceGE, Nat.reduceLT, Nat.lt_add_one, Nat.zero_lt_succ, Nat.succ_pos, Nat.zero_le, beq_self_eq_true, k_gatepostref02_Format_0, civV, bin_quo, bin_rem, q3, q4, q5, q6, q7, q8, q9, qa, qb, r1, r2, z1, z2, i0, i1, hw7, hmi12, bA0, bA1, bA2, bA3, bA4, bA5, bA6, bA7, bA8, bA9, bA10, bA11, bA12, bA13]
  refine Cf.pu (P2 _) fun v3 => ?_
  try simp (maxSteps := 4000000) only [vm, vl, Arg.get, cells, stor, boundO, resultsV, resV, partK, loadV, Vm.part, fillC, splice, reduceIte, reduceCtorEq, Nat.reduceEqDiff, Nat.reduceAdd, Nat.reduceSub, Nat.reduceMul, Nat.reduceLeDiff, ne_eq, not_false_eq_true, Int.reduceEq, Int.reduceLT, Int.reduceLE, Int.reduceNeg, Int.reduceToNat, Int.reduceGT, Int.reduceGE, Nat.reduceLT, Nat.lt_add_one, Nat.zero_lt_succ, Nat.succ_pos, Nat.zero_le, beq_self_eq_true, k_gatepostref02_Format_0, civV, bin_quo, bin_rem, q3, q4, q5, q6, q7, q8, q9, qa, qb, r1, r2, z1, z2, i0, i1, hw7, hmi12, bA0, bA1, bA2, bA3, bA4, bA5, bA6, bA7, bA8, bA9, bA10, bA11, bA12, bA13]
  refine Cf.pu (P3 _) fun v4 => ?_
  try simp (maxSteps := 4000000) only [vm, vl, Arg.get, cells, stor, boundO, resultsV, resV, partK, loadV, Vm.part, fillC, splice, reduceIte, reduceCtorEq, Nat.reduceEqDiff, Nat.reduceAdd, Nat.reduceSub, Nat.reduceMul, Nat.reduceLeDiff, ne_eq, not_false_eq_true, Int.reduceEq, Int.reduceLT, Int.reduceLE, Int.reduceNeg, Int.reduceToNat, Int.reduceGT, Int.reduceGE, Nat.reduceLT, Nat.lt_add_one, Nat.zero_lt_succ, Nat.succ_pos, Nat.zero_le, beq_self_eq_true, k_gatepostref02_Format_0, civV, bin_quo, bin_rem, q3, q4, q5, q6, q7, q8, q9, qa, qb, r1, r2, z1, z2, i0, i1, hw7, hmi12, bA0, bA1, bA2, bA3, bA4, bA5, bA6, bA7, bA8, bA9, bA10, bA11, bA12, bA13]
  refine Cf.pu (P4 _) fun v5 => ?_
  try simp (maxSteps := 4000000) only [vm, vl, Arg.get, cells, stor, boundO, resultsV, resV, partK, loadV, Vm.part, fillC, splice, reduceIte, reduceCtorEq, Nat.reduceEqDiff, Nat.reduceAdd, Nat.reduceSub, Nat.reduceMul, Nat.reduceLeDiff, ne_eq, not_false_eq_true, Int.reduceEq, Int.reduceLT, Int.reduceLE, Int.reduceNeg, Int.reduceToNat, Int.reduceGT, Int.reduceGE, Nat.reduceLT, Nat.lt_add_one, Nat.zero_lt_succ, Nat.succ_pos, Nat.zero_le, beq_self_eq_true, k_gatepostref02_Format_0, civV, bin_quo, bin_rem, q3, q4, q5, q6, q7, q8, q9, qa, qb, r1, r2, z1, z2, i0, i1, hw7, hmi12, bA0, bA1, bA2, bA3, bA4, bA5, bA6, bA7, bA8, bA9, bA10, bA11, bA12, bA13]
  refine Cf.pu (P5 _) fun v6 => ?_
  try simp (maxSteps := 4000000) only [vm, vl, Arg.get, cells, stor, boundO, resultsV, resV, partK, loadV, Vm.part, fillC, splice, reduceIte, reduceCtorEq, Nat.reduceEqDiff, Nat.reduceAdd, Nat.reduceSub, Nat.reduceMul, Nat.reduceLeDiff, ne_eq, not_false_eq_true, Int.reduceEq, Int.reduceLT, Int.reduceLE, Int.reduceNeg, Int.reduceToNat, Int.reduceGT, Int.reduceGE, Nat.reduceLT, Nat.lt_add_one, Nat.zero_lt_succ, Nat.succ_pos, Nat.zero_le, beq_self_eq_true, k_gatepostref02_Format_0, civV, bin_quo, bin_rem, q3, q4, q5, q6, q7, q8, q9, qa, qb, r1, r2, z1, z2, i0, i1, hw7, hmi12, bA0, bA1, bA2, bA3, bA4, bA5, bA6, bA7, bA8, bA9, bA10, bA11, bA12, bA13]
  refine Cf.pu (P6 _) fun v7 => ?_
  try simp (maxSteps := 4000000) only [vm, vl, Arg.get, cells, stor, boundO, resultsV, resV, partK, loadV, Vm.part, fillC, splice, reduceIte, reduceCtorEq, Nat.reduceEqDiff, Nat.reduceAdd, Nat.reduceSub, Nat.reduceMul, Nat.reduceLeDiff, ne_eq, not_false_eq_true, Int.reduceEq, Int.reduceLT, Int.reduceLE, Int.reduceNeg, Int.reduceToNat, Int.reduceGT, Int.reduceGE, Nat.reduceLT, Nat.lt_add_one, Nat.zero_lt_succ, Nat.succ_pos, Nat.zero_le, beq_self_eq_true, k_gatepostref02_Format_0, civV, bin_quo, bin_rem, q3, q4, q5, q6, q7, q8, q9, qa, qb, r1, r2, z1, z2, i0, i1, hw7, hmi12, bA0, bA1, bA2, bA3, bA4, bA5, bA6, bA7, bA8, bA9, bA10, bA11, bA12, bA13]
theorem RFormat_ok {sec : Int} : Cf F L i_gatepostref02_Format [.int .i64 sec] h (Pu h (.str (fmtS (if 0 ≤ sec ∧ sec / 86400 ≤ 2932896 then sec else 0)))) := by
  refine run_gatepostref02_Format ?_
  simp only [p_gatepostref02_Format]
  
  by_cases h0 : sec < 0
  · rw [if_neg (by omega)]
    simp (maxSteps := 4000000) only [vm, vl, Arg.get, cells, stor, boundO, resultsV, resV, partK, loadV, Vm.part, fillC, splice, reduceIte, reduceCtorEq, Nat.reduceEqDiff, Nat.reduceAdd, Nat.reduceSub, Nat.reduceMul, Nat.reduceLeDiff, ne_eq, not_false_eq_true, Int.reduceEq, Int.reduceLT, Int.reduceLE, Int.reduceNeg, Int.reduceToNat, Int.reduceGT, Int.reduceGE, Nat.reduceLT, Nat.lt_add_one, Nat.zero_lt_succ, Nat.succ_pos, Nat.zero_le, beq_self_eq_true, h0, decide_true]
    exact Rfmt0_ok (by omega) (by omega)
  by_cases h1 : sec ≥ 253402300800
  · rw [if_neg (by omega)]
    simp (maxSteps := 4000000) only [vm, vl, Arg.get, cells, stor, boundO, resultsV, resV, partK, loadV, Vm.part, fillC, splice, reduceIte, reduceCtorEq, Nat.reduceEqDiff, Nat.reduceAdd, Nat.reduceSub, Nat.reduceMul, Nat.reduceLeDiff, ne_eq, not_false_eq_true, Int.reduceEq, Int.reduceLT, Int.reduceLE, Int.reduceNeg, Int.reduceToNat, Int.reduceGT, Int.reduceGE, Nat.reduceLT, Nat.lt_add_one, Nat.zero_lt_succ, Nat.succ_pos, Nat.zero_le, beq_self_eq_true, h0, h1, decide_true, decide_false]
    exact Rfmt0_ok (by omega) (by omega)
  · rw [if_pos (by omega)]
    simp (maxSteps := 4000000) only [vm, vl, Arg.get, cells, stor, boundO, resultsV, resV, partK, loadV, Vm.part, fillC, splice, reduceIte, reduceCtorEq, Nat.reduceEqDiff, Nat.reduceAdd, Nat.reduceSub, Nat.reduceMul, Nat.reduceLeDiff, ne_eq, not_false_eq_true, Int.reduceEq, Int.reduceLT, Int.reduceLE, Int.reduceNeg, Int.reduceToNat, Int.reduceGT, Int.reduceGE, Nat.reduceLT, Nat.lt_add_one, Nat.zero_lt_succ, Nat.succ_pos, Nat.zero_le, beq_self_eq_true, h0, h1, decide_true, decide_false]
    exact Rfmt0_ok (by omega) (by omega)
end Go.Proofs.YtfkebmdfcpnaeaaGreatDoor.Vh
end
section
set_option linter.unusedVariables false
set_option linter.unusedSimpArgs false
namespace Go.Proofs.YtfkebmdfcpnaeaaGreatDoor.Vh
open Go.Vm Go.Vt
theorem take_false {n : Nat} {r : Rd} (h : r.2 = false) : (takeR n r).2.2 = false := by unfold takeR; split; rfl; exact h
theorem need_false {p : Bs} {r : Rd} (h : r.2 = false) : (needR p r).2 = false := by unfold needR; split; exact take_false h; rfl
theorem num_false {n : Nat} {r : Rd} (h : r.2 = false) : (numR n r).2.2 = false := by unfold numR; simp only [take_false h, Bool.false_and]
theorem mon_false {r : Rd} (h : r.2 = false) : (monR r).2.2 = false := by unfold monR; split; exact take_false h; rfl
theorem clk_false {r : Rd} (h : r.2 = false) : (clkR r).2.2 = false := by
  unfold clkR
  simp only
  have h1 : (numR 2 (needR [58] (numR 2 (needR [58] (numR 2 r).2)).2)).2.2 = false := num_false (need_false (num_false (need_false (num_false h))))
  split
  · rfl
  · exact h1
theorem sec_false {r : Rd} {w y m d c : Int} (h : r.2 = false) : secR r w y m d c = .tup [.int .i64 0, .bool false] := by
  unfold secR; rw [if_neg]; rintro ⟨h1, _⟩; rw [h] at h1; cases h1
theorem fixed_false {r : Rd} (h : (needR [44, 32] (dayR false r).2).2 = false) : fixedR r = .tup [.int .i64 0, .bool false] := by
  unfold fixedR
  exact sec_false (need_false (clk_false (need_false (num_false (need_false (mon_false (need_false (num_false h))))))))
theorem take3_app {a b : Bs} (h : 3 ≤ a.length) : (a ++ b).take 3 = a.take 3 := List.take_append_of_le_length h
theorem nmD_long (j : Nat) : nmD true j = dayLs.getD j [] := rfl
theorem long_pos : ∀ j, j < 7 → 3 < (dayLs.getD j []).length ∧ (dayLs.getD j []).getD 3 0 ≠ 32 ∧ ((dayLs.getD j []).drop 3).getD 0 0 ≠ 44 := by decide +kernel
theorem day_long {w : Nat} {b : Bs} {ok : Bool} (h : w < 7) (hb : 0 < b.length) : dayR true (dayLs.getD w [] ++ b, ok) = ((w : Int), (b, ok)) := by
  have hl := fun j hj => (long_pos j hj).1
  have hf : firstN (hitD true (dayLs.getD w [] ++ b)) 7 = w := by
    refine firstN_at ?_ (fun j hj => ?_) h
    · unfold hitD
      rw [nmD_long, List.take_left' rfl]
      have : decide ((dayLs.getD w [] ++ b).length > (dayLs.getD w []).length) = true := by
        rw [decide_eq_true_eq, List.length_append]; omega
      rw [this]; simp
    · unfold hitD
      rw [nmD_long, Bool.and_eq_false_iff]
      right
      rw [beq_eq_false_iff_ne]
      intro e
      have e3 : ((dayLs.getD w []).take 3 == nmD false j) = true := by
        rw [beq_iff_eq, day_same j (by omega), ← e, List.take_take, Nat.min_eq_left (by have := hl j (by omega); omega), take3_app (by have := hl w h; omega)]
      rw [day_ne w h j hj] at e3; cases e3
  unfold dayR
  simp only [hf, if_pos h, nmD_long, List.drop_left' rfl]
end Go.Proofs.YtfkebmdfcpnaeaaGreatDoor.Vh
end
section
set_option linter.unusedVariables false
set_option linter.unusedSimpArgs false
namespace Go.Proofs.YtfkebmdfcpnaeaaGreatDoor.Vh
open Go.Vm Go.Vt
def failV : V := .tup [.int .i64 0, .bool false]
theorem need_gen {p a b : Bs} {ok : Bool} (h : a.length = p.length) : needR p (a ++ b, ok) = (b, ok && (a == p)) := by
  unfold needR
  rw [take_app h]
  by_cases e : a = p
  · rw [if_pos e]; subst e; simp
  · rw [if_neg e]; simp [e]
theorem num_gen {a b : Bs} {ok : Bool} {n : Nat} (h : a.length = n) : numR n (a ++ b, ok) = (numV a, (b, ok && a.all isDig)) := by
  unfold numR; rw [take_app h]
theorem mon_gen {a b : Bs} {ok : Bool} (h : a.length = 3) : ∃ X : Int, monR (a ++ b, ok) = (X, (b, ok && decide (lpos a monLs < 12))) ∧ (lpos a monLs < 12 → X = findI monLs a + 1) := by
  unfold monR findI; rw [take_app h]
  have l12 : monLs.length = 12 := rfl
  by_cases e : lpos a monLs < 12
  · exact ⟨lpos a monLs + 1, by simp [e], fun _ => by rw [if_pos (by omega)]⟩
  · exact ⟨0, by simp [e], fun h => absurd h e⟩
theorem seg {s : Bs} {a b : Nat} (h : a ≤ b) : (s.take b).drop a ++ s.drop b = s.drop a := by
  rw [List.drop_take]
  have : s.drop b = (s.drop a).drop (b - a) := by rw [List.drop_drop]; congr 1; omega
  rw [this, List.take_append_drop]
theorem seg_len {s : Bs} {a b : Nat} (h : b ≤ s.length) : ((s.take b).drop a).length = b - a := by
  rw [List.length_drop, List.length_take]; omega
theorem seg_one {s : Bs} {a : Nat} (h : a < s.length) : (s.take (a + 1)).drop a = [s.getD a 0] := by
  rw [List.drop_take, show a + 1 - a = 1 by omega, List.drop_eq_getElem_cons h, List.getD_eq_getElem?_getD, List.getElem?_eq_getElem h]; rfl
theorem numN_pos {s : Bs} : 0 ≤ numN s → s.all isDig = true := by
  unfold numN; split
  · intro _; assumption
  · intro h; omega
theorem numN_dig {s : Bs} (h : s.all isDig = true) : numN s = numV s := if_pos h
theorem clk_gen {ck b : Bs} {ok : Bool} (h : ck.length = 8) : ∃ X : Int, clkR (ck ++ b, ok) = (X, (b, ok && decide (0 ≤ clkN ck))) ∧ (0 ≤ clkN ck → X = clkN ck) := by
  have e : ck = ck.take 2 ++ ((ck.take 3).drop 2 ++ ((ck.take 5).drop 3 ++ ((ck.take 6).drop 5 ++ ck.drop 6))) := by
    rw [seg (by omega), seg (by omega), seg (by omega), List.take_append_drop]
  have l1 : (ck.take 2).length = 2 := by rw [List.length_take]; omega
  have l3 : ((ck.take 5).drop 3).length = 2 := seg_len (by omega)
  have l5 : (ck.drop 6).length = 2 := by rw [List.length_drop]; omega
  have s2 : (ck.take 3).drop 2 = [ck.getD 2 0] := seg_one (by omega)
  have s5 : (ck.take 6).drop 5 = [ck.getD 5 0] := seg_one (by omega)
  rw [s2, s5] at e
  have hr : clkR (ck ++ b, ok) = clkR (ck.take 2 ++ ([ck.getD 2 0] ++ ((ck.take 5).drop 3 ++ ([ck.getD 5 0] ++ (ck.drop 6 ++ b)))), ok) := by
    congr 1; congr 1
    calc ck ++ b = (ck.take 2 ++ ([ck.getD 2 0] ++ ((ck.take 5).drop 3 ++ ([ck.getD 5 0] ++ ck.drop 6)))) ++ b := by rw [← e]
      _ = _ := by simp only [List.append_assoc]
  have hc : clkN ck = if ck.getD 2 0 = 58 ∧ ck.getD 5 0 = 58 ∧ 0 ≤ numN (ck.take 2) ∧ numN (ck.take 2) ≤ 23 ∧ 0 ≤ numN ((ck.take 5).drop 3) ∧ numN ((ck.take 5).drop 3) ≤ 59 ∧ 0 ≤ numN (ck.drop 6) ∧ numN (ck.drop 6) ≤ 60 then numN (ck.take 2) * 3600 + numN ((ck.take 5).drop 3) * 60 + min (numN (ck.drop 6)) 59 else -1 := by
    unfold clkN; simp only [h, true_and]
  rw [hr, hc]
  generalize ck.take 2 = A at *
  generalize (ck.take 5).drop 3 = B at *
  generalize ck.drop 6 = C at *
  generalize ck.getD 2 0 = x at *
  generalize ck.getD 5 0 = y at *
  have a0 := numV_le (s := A) (by omega)
  have b0 := numV_le (s := B) (by omega)
  have c0 := numV_le (s := C) (by omega)
  unfold clkR
  simp only [num_gen l1, num_gen l3, num_gen l5, need_gen (p := [58]) (a := [x]) rfl, need_gen (p := [58]) (a := [y]) rfl]
  refine ⟨numV A * 3600 + numV B * 60 + min (numV C) 59, ?_, ?_⟩
  · by_cases P : x = 58 ∧ y = 58 ∧ 0 ≤ numN A ∧ numN A ≤ 23 ∧ 0 ≤ numN B ∧ numN B ≤ 59 ∧ 0 ≤ numN C ∧ numN C ≤ 60
    · rw [if_pos P]
      obtain ⟨p1, p2, p3, p4, p5, p6, p7, p8⟩ := P
      have d1 := numN_pos p3
      have d2 := numN_pos p5
      have d3 := numN_pos p7
      rw [numN_dig d1] at p3 p4 ⊢
      rw [numN_dig d2] at p5 p6 ⊢
      rw [numN_dig d3] at p7 p8 ⊢
      rw [if_neg (by omega), d1, d2, d3, p1, p2, decide_eq_true (by omega)]
      simp
    · rw [if_neg P, show decide ((0 : Int) ≤ -1) = false from rfl, Bool.and_false]
      congr 1
      split
      · rfl
      · rename_i h1
        congr 1
        rw [Bool.eq_false_iff]
        intro h2
        simp only [Bool.and_eq_true, beq_iff_eq, List.cons.injEq, and_true] at h2
        obtain ⟨⟨⟨⟨⟨_, d1⟩, p1⟩, d2⟩, p2⟩, d3⟩ := h2
        apply P
        rw [numN_dig d1, numN_dig d2, numN_dig d3]
        exact ⟨p1, p2, by omega, by omega, by omega, by omega, by omega, by omega⟩
  · intro h0
    by_cases P : x = 58 ∧ y = 58 ∧ 0 ≤ numN A ∧ numN A ≤ 23 ∧ 0 ≤ numN B ∧ numN B ≤ 59 ∧ 0 ≤ numN C ∧ numN C ≤ 60
    · rw [if_pos P]
      obtain ⟨p1, p2, p3, p4, p5, p6, p7, p8⟩ := P
      rw [numN_dig (numN_pos p3), numN_dig (numN_pos p5), numN_dig (numN_pos p7)]
    · rw [if_neg P] at h0; omega
theorem sh_name : ∀ j, j < 7 → shLs.getD j [] = nmD false j := by decide +kernel
theorem day_gen {a b : Bs} {ok : Bool} (h : a.length = 3) (hb : 0 < b.length) : (∃ w : Nat, w < 7 ∧ findI shLs a = w ∧ dayR false (a ++ b, ok) = ((w : Int), (b, ok))) ∨ (findI shLs a = -1 ∧ (dayR false (a ++ b, ok)).2.2 = false) := by
  have l7 : shLs.length = 7 := rfl
  by_cases q : ∃ j, j < 7 ∧ shLs.getD j [] = a
  · obtain ⟨j, hj, rfl⟩ := q
    left
    refine ⟨j, hj, ?_, ?_⟩
    · unfold findI
      rw [lpos_at (i := j) (by omega) (fun i hi e => ?_) rfl, if_pos (by omega)]
      have := day_ne j hj i hi
      rw [← sh_day j hj, ← sh_name i (by omega), e] at this
      simp at this
    · rw [sh_day j hj]; exact day_app hj hb
  · right
    have hn : ∀ j, j < 7 → shLs.getD j [] ≠ a := fun j hj e => q ⟨j, hj, e⟩
    refine ⟨?_, ?_⟩
    · unfold findI
      rw [lpos_none (fun j hj => hn j (by omega)), if_neg (by omega)]
    · unfold dayR
      rw [firstN_none, if_neg (by omega)]
      intro j hj
      unfold hitD
      rw [nm3 j hj, List.take_left' h, Bool.and_eq_false_iff]
      right
      rw [beq_eq_false_iff_ne, ← sh_name j hj]
      exact fun e => hn j hj e.symm
/-- The seconds of a reader that is at its end. -/
theorem sec_eq {B : Bool} {w y m d c w' y' m' d' c' : Int} (h1 : B = true → 0 ≤ c' ∧ w' = w ∧ y' = y ∧ m' = m ∧ d' = d ∧ c' = c) (h2 : 0 ≤ daysS y' m' d' → 0 ≤ c' → B = true) :
    secR ([], B) w y m d c = secN w' y' m' d' c' := by
  unfold secR secN
  by_cases hB : B = true
  · obtain ⟨c0, rfl, rfl, rfl, rfl, rfl⟩ := h1 hB
    by_cases q : 0 ≤ daysS y' m' d' ∧ (daysS y' m' d' + 3) % 7 = w'
    · rw [if_pos ⟨hB, rfl, q.1, q.2⟩, if_pos ⟨q.1, c0, q.2.symm⟩]
    · rw [if_neg (fun h => q ⟨h.2.2.1, h.2.2.2⟩), if_neg (fun h => q ⟨h.1, h.2.2.symm⟩)]
  · rw [if_neg (fun h => hB h.1), if_neg (fun h => hB (h2 h.1 h.2.1))]
theorem days_parts {y m d : Int} (h : 0 ≤ daysS y m d) : 1970 ≤ y ∧ 1 ≤ m ∧ 1 ≤ d := by
  unfold daysS at h
  split at h
  · rename_i q; exact ⟨q.1, q.2.2.1, q.2.2.2.2.1⟩
  · omega
theorem findI_pos {l : List Bs} {a : Bs} (h : 0 ≤ findI l a) : lpos a l < l.length := by
  unfold findI at h; split at h
  · assumption
  · omega
def c29 (s : Bs) : Prop := s.length = 29 ∧ (s.take 5).drop 3 = [44, 32] ∧ s.getD 7 0 = 32 ∧ s.getD 11 0 = 32 ∧ s.getD 16 0 = 32 ∧ s.drop 25 = [32, 71, 77, 84]
def f29 (s : Bs) : V := secN (findI shLs (s.take 3)) (numN ((s.take 16).drop 12)) (findI monLs ((s.take 11).drop 8) + 1) (numN ((s.take 7).drop 5)) (clkN ((s.take 25).drop 17))
theorem fixed_eq {s : Bs} (hl : s.length = 29) : fixedR (s, true) = if s.drop 25 = [32, 71, 77, 84] ∧ (s.take 5).drop 3 = [44, 32] ∧ s.getD 7 0 = 32 ∧ s.getD 11 0 = 32 ∧ s.getD 16 0 = 32 then f29 s else failV := by
  have e : s = s.take 3 ++ ((s.take 5).drop 3 ++ ((s.take 7).drop 5 ++ ((s.take 8).drop 7 ++ ((s.take 11).drop 8 ++ ((s.take 12).drop 11 ++ ((s.take 16).drop 12 ++ ((s.take 17).drop 16 ++ ((s.take 25).drop 17 ++ s.drop 25)))))))) := by
    rw [seg (by omega), seg (by omega), seg (by omega), seg (by omega), seg (by omega), seg (by omega), seg (by omega), seg (by omega), List.take_append_drop]
  rw [seg_one (a := 7) (by omega), seg_one (a := 11) (by omega), seg_one (a := 16) (by omega)] at e
  have l1 : (s.take 3).length = 3 := by rw [List.length_take]; omega
  have l2 : ((s.take 5).drop 3).length = 2 := seg_len (by omega)
  have l3 : ((s.take 7).drop 5).length = 2 := seg_len (by omega)
  have l4 : ((s.take 11).drop 8).length = 3 := seg_len (by omega)
  have l5 : ((s.take 16).drop 12).length = 4 := seg_len (by omega)
  have l6 : ((s.take 25).drop 17).length = 8 := seg_len (by omega)
  have l7 : (s.drop 25).length = 4 := by rw [List.length_drop]; omega
  unfold f29
  have e' : fixedR (s, true) = fixedR (s.take 3 ++ ((s.take 5).drop 3 ++ ((s.take 7).drop 5 ++ ([s.getD 7 0] ++ ((s.take 11).drop 8 ++ ([s.getD 11 0] ++ ((s.take 16).drop 12 ++ ([s.getD 16 0] ++ ((s.take 25).drop 17 ++ s.drop 25)))))))), true) := by rw [← e]
  rw [e']
  clear e e'
  generalize s.take 3 = A at *
  generalize (s.take 5).drop 3 = P at *
  generalize (s.take 7).drop 5 = D at *
  generalize (s.take 11).drop 8 = M at *
  generalize (s.take 16).drop 12 = Y at *
  generalize (s.take 25).drop 17 = C at *
  generalize s.drop 25 = G at *
  generalize s.getD 7 0 = x at *
  generalize s.getD 11 0 = y at *
  generalize s.getD 16 0 = z at *
  have hG : G = G ++ [] := by simp
  obtain ⟨b, hb⟩ : ∃ b, b = P ++ (D ++ ([x] ++ (M ++ ([y] ++ (Y ++ ([z] ++ (C ++ G))))))) := ⟨_, rfl⟩
  have hb0 : 0 < b.length := by rw [hb, List.length_append]; omega
  rw [← hb]
  rcases day_gen (ok := true) l1 hb0 with ⟨w, hw, ew, ed⟩ | ⟨ew, ed⟩
  · have lp : ([44, 32] : Bs).length = 2 := rfl
    have lg : ([32, 71, 77, 84] : Bs).length = 4 := rfl
    obtain ⟨X, hX, hX'⟩ := mon_gen (b := [y] ++ (Y ++ ([z] ++ (C ++ G)))) (ok := true && (P == [44, 32]) && D.all isDig && ([x] == [32])) l4
    obtain ⟨Z, hZ, hZ'⟩ := clk_gen (b := G) (ok := true && (P == [44, 32]) && D.all isDig && ([x] == [32]) && decide (lpos M monLs < 12) && ([y] == [32]) && Y.all isDig && ([z] == [32])) l6
    have hN := need_gen (p := [32, 71, 77, 84]) (a := G) (b := []) (ok := true && (P == [44, 32]) && D.all isDig && ([x] == [32]) && decide (lpos M monLs < 12) && ([y] == [32]) && Y.all isDig && ([z] == [32]) && decide (0 ≤ clkN C)) (by omega)
    rw [← hG] at hN
    subst hb
    unfold fixedR
    simp only [ed, need_gen (p := [44, 32]) (a := P) (b := D ++ ([x] ++ (M ++ ([y] ++ (Y ++ ([z] ++ (C ++ G))))))) l2, num_gen l3, need_gen (p := [32]) (a := [x]) rfl, hX, need_gen (p := [32]) (a := [y]) rfl, num_gen l5, need_gen (p := [32]) (a := [z]) rfl, hZ, hN]
    by_cases q : G = [32, 71, 77, 84] ∧ P = [44, 32] ∧ x = 32 ∧ y = 32 ∧ z = 32
    · rw [if_pos q]
      obtain ⟨q1, q2, q3, q4, q5⟩ := q
      refine sec_eq (fun hB => ?_) (fun h1 h2 => ?_)
      · simp only [Bool.and_eq_true, beq_iff_eq, decide_eq_true_eq] at hB
        obtain ⟨⟨⟨⟨⟨⟨⟨⟨⟨_, _⟩, b1⟩, _⟩, b2⟩, _⟩, b3⟩, _⟩, b4⟩, _⟩ := hB
        exact ⟨b4, ew, numN_dig b3, (hX' b2).symm, numN_dig b1, (hZ' b4).symm⟩
      · obtain ⟨p1, p2, p3⟩ := days_parts h1
        have b1 := numN_pos (s := Y) (by omega)
        have b2 := numN_pos (s := D) (by omega)
        have b3 := findI_pos (l := monLs) (a := M) (by omega)
        have b3' : lpos M monLs < 12 := b3
        simp [q1, q2, q3, q4, q5, b1, b2, b3', h2]
    · rw [if_neg q]
      refine sec_false ?_
      show _ = false
      rw [Bool.eq_false_iff]
      intro hB
      simp only [Bool.and_eq_true, beq_iff_eq, decide_eq_true_eq, List.cons.injEq, and_true] at hB
      obtain ⟨⟨⟨⟨⟨⟨⟨⟨⟨_, r1⟩, b1⟩, r2⟩, b2⟩, r3⟩, b3⟩, r4⟩, b4⟩, r5⟩ := hB
      exact q ⟨r5, r1, r2, r3, r4⟩
  · rw [fixed_false (need_false ed)]
    split
    · unfold secN
      rw [if_neg]
      rintro ⟨h1, h2, h3⟩
      omega
    · rfl
theorem plainB_eq {D C Y : Bs} {x z : UInt8} {ok : Bool} {dg : Nat} {w m : Int} (hd : D.length = dg) (hc : C.length = 8) (hy : Y.length = 4) : ∃ Z : Int, (0 ≤ clkN C → Z = clkN C) ∧
    plainB dg w m (D ++ ([x] ++ (C ++ ([z] ++ Y))), ok) = secR ([], ok && D.all isDig && ([x] == [32]) && decide (0 ≤ clkN C) && ([z] == [32]) && Y.all isDig) w (numV Y) m (numV D) Z := by
  obtain ⟨Z, hZ, hZ'⟩ := clk_gen (b := [z] ++ Y) (ok := ok && D.all isDig && ([x] == [32])) hc
  have hN := num_gen (a := Y) (b := []) (n := 4) (ok := ok && D.all isDig && ([x] == [32]) && decide (0 ≤ clkN C) && ([z] == [32])) hy
  rw [List.append_nil] at hN
  refine ⟨Z, hZ', ?_⟩
  unfold plainB
  simp only [num_gen hd, need_gen (p := [32]) (a := [x]) rfl, hZ, need_gen (p := [32]) (a := [z]) rfl, hN]
def dayP (s : Bs) : Bs := if ((s.take 10).drop 8).getD 0 0 = 32 then ((s.take 10).drop 8).drop 1 else (s.take 10).drop 8
def f24 (s : Bs) : V := secN (findI shLs (s.take 3)) (numN (s.drop 20)) (findI monLs ((s.take 7).drop 4) + 1) (numN (dayP s)) (clkN ((s.take 19).drop 11))
theorem sec_fail {w y m d c : Int} (hw : w = -1) : secN w y m d c = failV := by
  unfold secN
  rw [if_neg]; rfl
  rintro ⟨h1, h2, h3⟩
  omega
theorem plain_false {r : Rd} (h : (dayR false r).2.2 = false) : plainR r = failV := by
  unfold plainR plainB
  simp only
  split
  · exact sec_false (num_false (need_false (clk_false (need_false (num_false (take_false (need_false (mon_false (need_false h)))))))))
  · exact sec_false (num_false (need_false (clk_false (need_false (num_false (need_false (mon_false (need_false h))))))))
theorem two_of {D : Bs} (h : D.length = 2) : ∃ p q, D = [p, q] := by
  match D, h with
  | [p, q], _ => exact ⟨p, q, rfl⟩
theorem plain_eq {s : Bs} (hl : s.length = 24) : plainR (s, true) = if s.getD 3 0 = 32 ∧ s.getD 7 0 = 32 ∧ s.getD 10 0 = 32 ∧ s.getD 19 0 = 32 then f24 s else failV := by
  have e : s = s.take 3 ++ ((s.take 4).drop 3 ++ ((s.take 7).drop 4 ++ ((s.take 8).drop 7 ++ ((s.take 10).drop 8 ++ ((s.take 11).drop 10 ++ ((s.take 19).drop 11 ++ ((s.take 20).drop 19 ++ s.drop 20))))))) := by
    rw [seg (by omega), seg (by omega), seg (by omega), seg (by omega), seg (by omega), seg (by omega), seg (by omega), List.take_append_drop]
  rw [seg_one (a := 3) (by omega), seg_one (a := 7) (by omega), seg_one (a := 10) (by omega), seg_one (a := 19) (by omega)] at e
  have l1 : (s.take 3).length = 3 := by rw [List.length_take]; omega
  have l2 : ((s.take 7).drop 4).length = 3 := seg_len (by omega)
  have l3 : ((s.take 10).drop 8).length = 2 := seg_len (by omega)
  have l4 : ((s.take 19).drop 11).length = 8 := seg_len (by omega)
  have l5 : (s.drop 20).length = 4 := by rw [List.length_drop]; omega
  unfold f24 dayP
  have e' : plainR (s, true) = plainR (s.take 3 ++ ([s.getD 3 0] ++ ((s.take 7).drop 4 ++ ([s.getD 7 0] ++ ((s.take 10).drop 8 ++ ([s.getD 10 0] ++ ((s.take 19).drop 11 ++ ([s.getD 19 0] ++ s.drop 20))))))), true) := by rw [← e]
  rw [e']
  clear e e'
  generalize s.take 3 = A at *
  generalize (s.take 7).drop 4 = M at *
  generalize (s.take 10).drop 8 = D at *
  generalize (s.take 19).drop 11 = C at *
  generalize s.drop 20 = Y at *
  generalize s.getD 3 0 = x at *
  generalize s.getD 7 0 = y at *
  generalize s.getD 10 0 = z at *
  generalize s.getD 19 0 = u at *
  obtain ⟨b, hb⟩ : ∃ b, b = [x] ++ (M ++ ([y] ++ (D ++ ([z] ++ (C ++ ([u] ++ Y)))))) := ⟨_, rfl⟩
  have hb0 : 0 < b.length := by rw [hb, List.length_append, List.length_singleton]; omega
  rw [← hb]
  rcases day_gen (ok := true) l1 hb0 with ⟨w, hw, ew, ed⟩ | ⟨ew, ed⟩
  · obtain ⟨X, hX, hX'⟩ := mon_gen (b := [y] ++ (D ++ ([z] ++ (C ++ ([u] ++ Y))))) (ok := true && ([x] == [32])) l2
    subst hb
    obtain ⟨o4, ho4⟩ : ∃ o, o = (true && ([x] == [32]) && decide (lpos M monLs < 12) && ([y] == [32])) := ⟨_, rfl⟩
    have key : plainR (A ++ ([x] ++ (M ++ ([y] ++ (D ++ ([z] ++ (C ++ ([u] ++ Y))))))), true) = if D.getD 0 0 = 32 then plainB 1 w X (D.drop 1 ++ ([z] ++ (C ++ ([u] ++ Y))), o4) else plainB 2 w X (D ++ ([z] ++ (C ++ ([u] ++ Y))), o4) := by
      unfold plainR
      simp only [ed, need_gen (p := [32]) (a := [x]) rfl, hX, need_gen (p := [32]) (a := [y]) rfl, ← ho4]
      obtain ⟨p, q, rfl⟩ := two_of l3
      have eD : ([p, q] : Bs) ++ ([z] ++ (C ++ ([u] ++ Y))) = [p] ++ ([q] ++ ([z] ++ (C ++ ([u] ++ Y)))) := rfl
      have e0 : (([p, q] : Bs) ++ ([z] ++ (C ++ ([u] ++ Y)))).getD 0 0 = p := rfl
      have e1 : (([p, q] : Bs) ++ ([z] ++ (C ++ ([u] ++ Y)))).length > 0 := by rw [List.length_append]; show 0 < 2 + _; omega
      have e2 : ([p, q] : Bs).getD 0 0 = p := rfl
      have e3 : ([p, q] : Bs).drop 1 = [q] := rfl
      rw [e0, e2, e3]
      by_cases h32 : p = 32
      · rw [if_pos ⟨e1, h32⟩, if_pos h32, eD, take_app (n := 1) (a := [p]) rfl]
      · rw [if_neg (fun h => h32 h.2), if_neg h32]
    rw [key]
    obtain ⟨D', hD'⟩ : ∃ D', D' = if D.getD 0 0 = 32 then D.drop 1 else D := ⟨_, rfl⟩
    rw [← hD']
    have key2 : ∃ Z : Int, (0 ≤ clkN C → Z = clkN C) ∧ (if D.getD 0 0 = 32 then plainB 1 w X (D.drop 1 ++ ([z] ++ (C ++ ([u] ++ Y))), o4) else plainB 2 w X (D ++ ([z] ++ (C ++ ([u] ++ Y))), o4)) = secR ([], o4 && D'.all isDig && ([z] == [32]) && decide (0 ≤ clkN C) && ([u] == [32]) && Y.all isDig) w (numV Y) X (numV D') Z := by
      by_cases h32 : D.getD 0 0 = 32
      · rw [if_pos h32] at hD' ⊢
        subst hD'
        exact plainB_eq (by rw [List.length_drop]; omega) l4 l5
      · rw [if_neg h32] at hD' ⊢
        subst hD'
        exact plainB_eq l3 l4 l5
    obtain ⟨Z, hZ, ek⟩ := key2
    rw [ek]
    clear ek key hD'
    subst ho4
    by_cases q : x = 32 ∧ y = 32 ∧ z = 32 ∧ u = 32
    · rw [if_pos q]
      obtain ⟨q1, q2, q3, q4⟩ := q
      refine sec_eq (fun hB => ?_) (fun h1 h2 => ?_)
      · simp only [Bool.and_eq_true, beq_iff_eq, decide_eq_true_eq] at hB
        obtain ⟨⟨⟨⟨⟨⟨⟨⟨_, _⟩, b1⟩, _⟩, b2⟩, _⟩, b3⟩, _⟩, b4⟩ := hB
        exact ⟨b3, ew, numN_dig b4, (hX' b1).symm, numN_dig b2, (hZ b3).symm⟩
      · obtain ⟨p1, p2, p3⟩ := days_parts h1
        have b1 := numN_pos (s := Y) (by omega)
        have b2 := numN_pos (s := D') (by omega)
        have b3 := findI_pos (l := monLs) (a := M) (by omega)
        have b3' : lpos M monLs < 12 := b3
        simp [q1, q2, q3, q4, b1, b2, b3', h2]
    · rw [if_neg q]
      refine sec_false ?_
      show _ = false
      rw [Bool.eq_false_iff]
      intro hB
      simp only [Bool.and_eq_true, beq_iff_eq, decide_eq_true_eq, List.cons.injEq, and_true] at hB
      obtain ⟨⟨⟨⟨⟨⟨⟨⟨_, r1⟩, b1⟩, r2⟩, b2⟩, r3⟩, b3⟩, r4⟩, b4⟩ := hB
      exact q ⟨r1, r2, r3, r4⟩
  · rw [plain_false ed]
    split
    · rw [sec_fail ew]
    · rfl
def yrN (y : Int) : Int := if y ≥ 70 then y + 1900 else if y ≥ 0 then y + 2000 else y
def fold (w : Nat) (t : Bs) : V := secN w (yrN (numN ((t.take 11).drop 9))) (findI monLs ((t.take 8).drop 5) + 1) (numN ((t.take 4).drop 2)) (clkN ((t.take 20).drop 12))
theorem old_eq {w : Nat} {t : Bs} (hw : w < 7) (hl : t.length = 24) : oldR (dayLs.getD w [] ++ t, true) = if t.take 2 = [44, 32] ∧ t.getD 4 0 = 45 ∧ t.getD 8 0 = 45 ∧ t.getD 11 0 = 32 ∧ t.drop 20 = [32, 71, 77, 84] then fold w t else failV := by
  have ed := day_long (b := t) (ok := true) hw (by omega)
  have e : t = t.take 2 ++ ((t.take 4).drop 2 ++ ((t.take 5).drop 4 ++ ((t.take 8).drop 5 ++ ((t.take 9).drop 8 ++ ((t.take 11).drop 9 ++ ((t.take 12).drop 11 ++ ((t.take 20).drop 12 ++ t.drop 20))))))) := by
    rw [seg (by omega), seg (by omega), seg (by omega), seg (by omega), seg (by omega), seg (by omega), seg (by omega), List.take_append_drop]
  rw [seg_one (a := 4) (by omega), seg_one (a := 8) (by omega), seg_one (a := 11) (by omega)] at e
  have l1 : (t.take 2).length = 2 := by rw [List.length_take]; omega
  have l2 : ((t.take 4).drop 2).length = 2 := seg_len (by omega)
  have l3 : ((t.take 8).drop 5).length = 3 := seg_len (by omega)
  have l4 : ((t.take 11).drop 9).length = 2 := seg_len (by omega)
  have l5 : ((t.take 20).drop 12).length = 8 := seg_len (by omega)
  have l6 : (t.drop 20).length = 4 := by rw [List.length_drop]; omega
  unfold fold
  have ed' : dayR true (dayLs.getD w [] ++ t, true) = ((w : Int), (t.take 2 ++ ((t.take 4).drop 2 ++ ([t.getD 4 0] ++ ((t.take 8).drop 5 ++ ([t.getD 8 0] ++ ((t.take 11).drop 9 ++ ([t.getD 11 0] ++ ((t.take 20).drop 12 ++ t.drop 20))))))), true)) := by rw [← e]; exact ed
  generalize hs : dayLs.getD w [] ++ t = s at *
  clear e ed hs
  generalize t.take 2 = P at *
  generalize (t.take 4).drop 2 = D at *
  generalize (t.take 8).drop 5 = M at *
  generalize (t.take 11).drop 9 = Y at *
  generalize (t.take 20).drop 12 = C at *
  generalize t.drop 20 = G at *
  generalize t.getD 4 0 = x at *
  generalize t.getD 8 0 = y at *
  generalize t.getD 11 0 = z at *
  have hG : G = G ++ [] := by simp
  obtain ⟨X, hX, hX'⟩ := mon_gen (b := [y] ++ (Y ++ ([z] ++ (C ++ G)))) (ok := true && (P == [44, 32]) && D.all isDig && ([x] == [45])) l3
  obtain ⟨Z, hZ, hZ'⟩ := clk_gen (b := G) (ok := true && (P == [44, 32]) && D.all isDig && ([x] == [45]) && decide (lpos M monLs < 12) && ([y] == [45]) && Y.all isDig && ([z] == [32])) l5
  have hN := need_gen (p := [32, 71, 77, 84]) (a := G) (b := []) (ok := true && (P == [44, 32]) && D.all isDig && ([x] == [45]) && decide (lpos M monLs < 12) && ([y] == [45]) && Y.all isDig && ([z] == [32]) && decide (0 ≤ clkN C)) l6
  rw [← hG] at hN
  unfold oldR
  simp only [ed', need_gen (p := [44, 32]) (a := P) (b := D ++ ([x] ++ (M ++ ([y] ++ (Y ++ ([z] ++ (C ++ G))))))) l1, num_gen l2, need_gen (p := [45]) (a := [x]) rfl, hX, need_gen (p := [45]) (a := [y]) rfl, num_gen l4, need_gen (p := [32]) (a := [z]) rfl, hZ, hN]
  have nv := numV_le (s := Y) (by omega)
  by_cases q : P = [44, 32] ∧ x = 45 ∧ y = 45 ∧ z = 32 ∧ G = [32, 71, 77, 84]
  · rw [if_pos q]
    obtain ⟨q1, q2, q3, q4, q5⟩ := q
    refine sec_eq (fun hB => ?_) (fun h1 h2 => ?_)
    · simp only [Bool.and_eq_true, beq_iff_eq, decide_eq_true_eq] at hB
      obtain ⟨⟨⟨⟨⟨⟨⟨⟨⟨_, _⟩, b1⟩, _⟩, b2⟩, _⟩, b3⟩, _⟩, b4⟩, _⟩ := hB
      refine ⟨b4, rfl, ?_, (hX' b2).symm, numN_dig b1, (hZ' b4).symm⟩
      rw [numN_dig b3]
      unfold yrN
      split <;> (try rfl)
      rw [if_pos (by omega)]
    · obtain ⟨p1, p2, p3⟩ := days_parts h1
      have b1 := numN_pos (s := Y) (by
        unfold yrN at p1
        have := numN_le (s := Y) (by omega)
        split at p1
        · omega
        · split at p1 <;> omega)
      have b2 := numN_pos (s := D) (by omega)
      have b3 := findI_pos (l := monLs) (a := M) (by omega)
      have b3' : lpos M monLs < 12 := b3
      simp [q1, q2, q3, q4, q5, b1, b2, b3', h2]
  · rw [if_neg q]
    refine sec_false ?_
    show _ = false
    rw [Bool.eq_false_iff]
    intro hB
    simp only [Bool.and_eq_true, beq_iff_eq, decide_eq_true_eq, List.cons.injEq, and_true] at hB
    obtain ⟨⟨⟨⟨⟨⟨⟨⟨⟨_, r1⟩, b1⟩, r2⟩, b2⟩, r3⟩, b3⟩, r4⟩, b4⟩, r5⟩ := hB
    exact q ⟨r1, r2, r3, r4, r5⟩
theorem take_len {n : Nat} {r : Rd} (h : (takeR n r).2.2 = true) : r.2 = true ∧ r.1.length = n + (takeR n r).2.1.length := by
  unfold takeR at h ⊢
  split at h
  · cases h
  · rename_i q; rw [if_neg q]; exact ⟨h, by simp only [List.length_drop]; omega⟩
theorem need_len {p : Bs} {r : Rd} (h : (needR p r).2 = true) : r.2 = true ∧ r.1.length = p.length + (needR p r).1.length := by
  unfold needR at h ⊢
  split at h
  · rename_i q; rw [if_pos q]; exact take_len h
  · cases h
theorem num_len {n : Nat} {r : Rd} (h : (numR n r).2.2 = true) : r.2 = true ∧ r.1.length = n + (numR n r).2.1.length := by
  unfold numR at h ⊢
  simp only [Bool.and_eq_true] at h
  exact take_len h.1
theorem mon_len {r : Rd} (h : (monR r).2.2 = true) : r.2 = true ∧ r.1.length = 3 + (monR r).2.1.length := by
  unfold monR at h ⊢
  split at h
  · rename_i q; rw [if_pos q]; exact take_len h
  · cases h
theorem clk_len {r : Rd} (h : (clkR r).2.2 = true) : r.2 = true ∧ r.1.length = 8 + (clkR r).2.1.length := by
  unfold clkR at h ⊢
  simp only at h ⊢
  split at h
  · cases h
  · rename_i q
    rw [if_neg q]
    obtain ⟨h1, e1⟩ := num_len h
    obtain ⟨h2, e2⟩ := need_len h1
    obtain ⟨h3, e3⟩ := num_len h2
    obtain ⟨h4, e4⟩ := need_len h3
    obtain ⟨h5, e5⟩ := num_len h4
    simp only [List.length_cons, List.length_nil] at e2 e4
    exact ⟨h5, by omega⟩
theorem firstN_hit {p : Nat → Bool} : ∀ {n : Nat}, firstN p n < n → p (firstN p n) = true
  | 0, h => by omega
  | n + 1, h => by
    unfold firstN at h ⊢
    by_cases a : firstN p n < n
    · rw [if_pos a]; exact firstN_hit a
    · rw [if_neg a] at h ⊢
      by_cases b : p n = true
      · rw [if_pos b]; exact b
      · rw [if_neg b] at h; omega
theorem day_len {long : Bool} {r : Rd} (h : (dayR long r).2.2 = true) : r.2 = true ∧ ∃ w, w < 7 ∧ r.1.take (nmD long w).length = nmD long w ∧ r.1.length = (nmD long w).length + (dayR long r).2.1.length := by
  unfold dayR at h ⊢
  split at h
  · rename_i q
    rw [if_pos q]
    have hh := firstN_hit q
    generalize firstN (hitD long r.1) 7 = w at *
    unfold hitD at hh
    rw [Bool.and_eq_true, decide_eq_true_eq, beq_iff_eq] at hh
    exact ⟨h, w, q, hh.2, by simp only [List.length_drop]; omega⟩
  · cases h
theorem sec_no {r : Rd} {w y m d c : Int} (h : ¬ (r.2 = true ∧ r.1 = [])) : secR r w y m d c = failV := by
  unfold secR; rw [if_neg (fun q => h ⟨q.1, q.2.1⟩)]; rfl
theorem fixed_short {s : Bs} (h : s.length ≠ 29) : fixedR (s, true) = failV := by
  unfold fixedR
  refine sec_no fun q => h ?_
  obtain ⟨q1, q2⟩ := q
  obtain ⟨h1, e1⟩ := need_len q1
  obtain ⟨h2, e2⟩ := clk_len h1
  obtain ⟨h3, e3⟩ := need_len h2
  obtain ⟨h4, e4⟩ := num_len h3
  obtain ⟨h5, e5⟩ := need_len h4
  obtain ⟨h6, e6⟩ := mon_len h5
  obtain ⟨h7, e7⟩ := need_len h6
  obtain ⟨h8, e8⟩ := num_len h7
  obtain ⟨h9, e9⟩ := need_len h8
  obtain ⟨ha, w, hw, _, e10⟩ := day_len h9
  rw [nm3 w hw] at e10
  rw [q2] at e1
  simp only [List.length_cons, List.length_nil] at e1 e3 e5 e7 e9 e10
  omega
theorem old_len {s : Bs} (h : oldR (s, true) ≠ failV) : ∃ w, w < 7 ∧ s.take (dayLs.getD w []).length = dayLs.getD w [] ∧ s.length = (dayLs.getD w []).length + 24 := by
  unfold oldR at h
  have q := Classical.byContradiction fun q => h (sec_no q)
  obtain ⟨q1, q2⟩ := q
  obtain ⟨h1, e1⟩ := need_len q1
  obtain ⟨h2, e2⟩ := clk_len h1
  obtain ⟨h3, e3⟩ := need_len h2
  obtain ⟨h4, e4⟩ := num_len h3
  obtain ⟨h5, e5⟩ := need_len h4
  obtain ⟨h6, e6⟩ := mon_len h5
  obtain ⟨h7, e7⟩ := need_len h6
  obtain ⟨h8, e8⟩ := num_len h7
  obtain ⟨h9, e9⟩ := need_len h8
  obtain ⟨ha, w, hw, ep, e10⟩ := day_len h9
  rw [nmD_long] at e10 ep
  rw [q2] at e1
  simp only [List.length_cons, List.length_nil] at e1 e3 e5 e7 e9 e10
  exact ⟨w, hw, ep, by omega⟩
theorem plainB_len {dg : Nat} {w m : Int} {x : Rd} (h : plainB dg w m x ≠ failV) : x.2 = true ∧ x.1.length = dg + 14 := by
  unfold plainB at h
  have q := Classical.byContradiction fun q => h (sec_no q)
  obtain ⟨q1, q2⟩ := q
  obtain ⟨h1, e1⟩ := num_len q1
  obtain ⟨h2, e2⟩ := need_len h1
  obtain ⟨h3, e3⟩ := clk_len h2
  obtain ⟨h4, e4⟩ := need_len h3
  obtain ⟨h5, e5⟩ := num_len h4
  rw [q2] at e1
  simp only [List.length_cons, List.length_nil] at e1 e2 e4
  exact ⟨h5, by omega⟩
theorem plain_short {s : Bs} (h : s.length ≠ 24) : plainR (s, true) = failV := by
  refine Classical.byContradiction fun hp => h ?_
  unfold plainR at hp
  simp only at hp
  have key : (needR [32] (monR (needR [32] (dayR false (s, true)).2)).2).2 = true ∧ (needR [32] (monR (needR [32] (dayR false (s, true)).2)).2).1.length = 16 := by
    split at hp
    · obtain ⟨k1, k2⟩ := plainB_len hp
      obtain ⟨k3, k4⟩ := take_len k1
      exact ⟨k3, by omega⟩
    · exact plainB_len hp
  obtain ⟨k1, k2⟩ := key
  obtain ⟨h1, e1⟩ := need_len k1
  obtain ⟨h2, e2⟩ := mon_len h1
  obtain ⟨h3, e3⟩ := need_len h2
  obtain ⟨h4, w, hw, _, e4⟩ := day_len h3
  rw [nm3 w hw] at e4
  simp only [List.length_cons, List.length_nil] at e1 e3 e4
  omega
theorem long_len : ∀ w, w < 7 → 6 ≤ (dayLs.getD w []).length ∧ (dayLs.getD w []).length ≤ 9 := by decide +kernel
def tupV (v : V) : Prop := ∃ (n : Int) (b : Bool), v = .tup [.int .i64 n, .bool b] ∧ (b = false → n = 0)
theorem sec_tup' (r : Rd) (w y m d c : Int) : tupV (secR r w y m d c) := by
  unfold secR; split
  · exact ⟨_, true, rfl, fun h => by cases h⟩
  · exact ⟨_, false, rfl, fun _ => rfl⟩
theorem back_tup {v : V} (h : tupV v) : dateV (okV v) = v := by
  obtain ⟨n, b, rfl, hb⟩ := h
  cases b
  · rw [hb rfl]; rfl
  · rfl
theorem fixed_tup (r : Rd) : tupV (fixedR r) := by unfold fixedR; exact sec_tup' _ _ _ _ _ _
theorem old_tup (r : Rd) : tupV (oldR r) := by unfold oldR; exact sec_tup' _ _ _ _ _ _
theorem plain_tup (r : Rd) : tupV (plainR r) := by
  unfold plainR plainB
  simp only
  split <;> exact sec_tup' _ _ _ _ _ _
theorem ok_fail : okV failV = none := rfl
theorem or1 {a : Option Int} : orG a (orG none none) = a := by cases a <;> rfl
theorem or2 {a : Option Int} : orG none (orG none a) = a := rfl
theorem or3 {a : Option Int} : orG none (orG a none) = a := by cases a <;> rfl
theorem date29 {s : Bs} (h : s.length = 29) : dateV (dateS s) = fixedR (s, true) := by
  have e1 : oldR (s, true) = failV := Classical.byContradiction fun q => by
    obtain ⟨w, hw, _, e⟩ := old_len q
    have := long_len w hw
    omega
  have e2 : plainR (s, true) = failV := plain_short (by omega)
  have : dateS s = okV (fixedR (s, true)) := by
    unfold dateS formR
    simp only [e1, e2, ok_fail, or1]
  rw [this, back_tup (fixed_tup _)]
theorem date24 {s : Bs} (h : s.length = 24) : dateV (dateS s) = plainR (s, true) := by
  have e1 : oldR (s, true) = failV := Classical.byContradiction fun q => by
    obtain ⟨w, hw, _, e⟩ := old_len q
    have := long_len w hw
    omega
  have e2 : fixedR (s, true) = failV := fixed_short (by omega)
  have : dateS s = okV (plainR (s, true)) := by
    unfold dateS formR
    simp only [e1, e2, ok_fail, or2]
  rw [this, back_tup (plain_tup _)]
theorem dateO {s : Bs} (h : s.length ≠ 29) (h' : s.length ≠ 24) : dateV (dateS s) = oldR (s, true) := by
  have e1 : fixedR (s, true) = failV := fixed_short h
  have e2 : plainR (s, true) = failV := plain_short h'
  have : dateS s = okV (oldR (s, true)) := by
    unfold dateS formR
    simp only [e1, e2, ok_fail, or3]
  rw [this, back_tup (old_tup _)]
def c24 (s : Bs) : Prop := s.length = 24 ∧ s.getD 3 0 = 32 ∧ s.getD 7 0 = 32 ∧ s.getD 10 0 = 32 ∧ s.getD 19 0 = 32
def cO (s : Bs) (w : Nat) : Prop := s.length = (dayLs.getD w []).length + 24 ∧ s.take (dayLs.getD w []).length = dayLs.getD w []
def cT (t : Bs) : Prop := t.take 2 = [44, 32] ∧ t.getD 4 0 = 45 ∧ t.getD 8 0 = 45 ∧ t.getD 11 0 = 32 ∧ t.drop 20 = [32, 71, 77, 84]
theorem ref29 {s : Bs} (h : c29 s) : f29 s = dateV (dateS s) := by
  obtain ⟨h1, h2, h3, h4, h5, h6⟩ := h
  rw [date29 h1, fixed_eq h1, if_pos ⟨h6, h2, h3, h4, h5⟩]
theorem ref24 {s : Bs} (h : c24 s) : f24 s = dateV (dateS s) := by
  obtain ⟨h1, h2, h3, h4, h5⟩ := h
  rw [date24 h1, plain_eq h1, if_pos ⟨h2, h3, h4, h5⟩]
theorem refO {s : Bs} {w : Nat} (hw : w < 7) (h : cO s w) : (cT (s.drop (dayLs.getD w []).length) → fold w (s.drop (dayLs.getD w []).length) = dateV (dateS s)) ∧ (¬ cT (s.drop (dayLs.getD w []).length) → failV = dateV (dateS s)) := by
  obtain ⟨h1, h2⟩ := h
  have ll := long_len w hw
  obtain ⟨t, ht⟩ : ∃ t, t = s.drop (dayLs.getD w []).length := ⟨_, rfl⟩
  have lt : t.length = 24 := by rw [ht, List.length_drop]; omega
  have es : s = dayLs.getD w [] ++ t := by rw [ht]; conv => lhs; rw [← List.take_append_drop (dayLs.getD w []).length s, h2]
  rw [← ht, dateO (by omega) (by omega)]
  have oe := old_eq hw lt
  rw [← es] at oe
  rw [oe]
  constructor
  · intro c; unfold cT at c; rw [if_pos c]
  · intro c; unfold cT at c; rw [if_neg c]
theorem refN {s : Bs} (h1 : ¬ c29 s) (h2 : ¬ c24 s) (h3 : ∀ w, w < 7 → ¬ cO s w) : failV = dateV (dateS s) := by
  by_cases a : s.length = 29
  · rw [date29 a, fixed_eq a, if_neg]
    rintro ⟨q1, q2, q3, q4, q5⟩
    exact h1 ⟨a, q2, q3, q4, q5, q1⟩
  by_cases b : s.length = 24
  · rw [date24 b, plain_eq b, if_neg]
    intro q
    exact h2 ⟨b, q⟩
  rw [dateO a b]
  refine Classical.byContradiction fun q => ?_
  obtain ⟨w, hw, e1, e2⟩ := old_len (fun e => q e.symm)
  exact h3 w hw ⟨e2, e1⟩
end Go.Proofs.YtfkebmdfcpnaeaaGreatDoor.Vh
end
section
set_option linter.unusedVariables false
set_option linter.unusedSimpArgs false
namespace Go.Proofs.YtfkebmdfcpnaeaaGreatDoor.Vh
open Go.Vm Go.Vt
attribute [local congr] wi_congr wg_congr wgd_congr wb_congr wl_congr cf_congr
variable {L : FuncId → List V → V → Prop} {h : Heap}
theorem findI_le {l : List Bs} {a : Bs} (h : l.length ≤ 100) : -1 ≤ findI l a ∧ findI l a ≤ 100 := by unfold findI; split <;> omega
theorem secN_tup {w y m d c : Int} : ∃ (n : Int) (b : Bool), secN w y m d c = .tup [.int .i64 n, .bool b] := by unfold secN; split <;> exact ⟨_, _, rfl⟩
theorem old7_ok {u0 : Heap} {e : Env} {N0 : Env → Heap → Prop} {w : Nat} {t : Bs} {y : Int} (hl : t.length = 24) (hw : w < 7) (hy : y = yrN (numN ((t.take 11).drop 9))) : k_gatepostref02_Parse_7 L (Pu h (fold w t)) N0 e (.int .i64 w) (.str t) (.int .i64 y) (h ++ u0) := by
  
  unfold k_gatepostref02_Parse_7 fold
  have o1 : 8 ≤ t.length := by omega
  have o2 : 4 ≤ t.length := by omega
  have o3 : 20 ≤ t.length := by omega
  have f1 := findI_le (l := monLs) (a := (t.take 8).drop 5) (by decide)
  have w1 : IntKind.i64.wrap (findI monLs ((t.take 8).drop 5) + 1) = findI monLs ((t.take 8).drop 5) + 1 := wrap64 (by omega) (by omega)
  have l1 : ((t.take 4).drop 2).length ≤ 4 := by rw [seg_len (by omega)]; omega
  have l2 : ((t.take 20).drop 12).length ≤ 100 := by rw [seg_len (by omega)]; omega
  obtain ⟨n, b, et⟩ := secN_tup (w := w) (y := y) (m := findI monLs ((t.take 8).drop 5) + 1) (d := numN ((t.take 4).drop 2)) (c := clkN ((t.take 20).drop 12))
  have S : ∀ hh, Cf F L i_gatepostref02_second [.int .i64 w, .int .i64 y, .int .i64 (findI monLs ((t.take 8).drop 5) + 1), .int .i64 (numN ((t.take 4).drop 2)), .int .i64 (clkN ((t.take 20).drop 12))] hh (Pu hh (.tup [.int .i64 n, .bool b])) := fun hh => by rw [← et]; exact secN_ok (clkN_le _).2
  rw [← hy, et]
  simp (maxSteps := 4000000) only [vm, vl, Arg.get, cells, stor, boundO, resultsV, resV, partK, loadV, Vm.part, fillC, splice, reduceIte, reduceCtorEq, Nat.reduceEqDiff, Nat.reduceAdd, Nat.reduceSub, Nat.reduceMul, Nat.reduceLeDiff, ne_eq, not_false_eq_true, Int.reduceEq, Int.reduceLT, Int.reduceLE, Int.reduceNeg, Int.reduceToNat, Int.reduceGT, Int.reduceGE, Nat.reduceLT, Nat.lt_add_one, Nat.zero_lt_succ, Nat.succ_pos, Nat.zero_le, beq_self_eq_true, o1, o2, o3]
  refine Cf.pu months_ok fun u1 => ?_
  simp (maxSteps := 4000000) only [vm, vl, Arg.get, cells, stor, boundO, resultsV, resV, partK, loadV, Vm.part, fillC, splice, reduceIte, reduceCtorEq, Nat.reduceEqDiff, Nat.reduceAdd, Nat.reduceSub, Nat.reduceMul, Nat.reduceLeDiff, ne_eq, not_false_eq_true, Int.reduceEq, Int.reduceLT, Int.reduceLE, Int.reduceNeg, Int.reduceToNat, Int.reduceGT, Int.reduceGE, Nat.reduceLT, Nat.lt_add_one, Nat.zero_lt_succ, Nat.succ_pos, Nat.zero_le, beq_self_eq_true, o1, o2, o3]
  refine Cf.pu (find_ok (by decide)) fun u2 => ?_
  simp (maxSteps := 4000000) only [vm, vl, Arg.get, cells, stor, boundO, resultsV, resV, partK, loadV, Vm.part, fillC, splice, reduceIte, reduceCtorEq, Nat.reduceEqDiff, Nat.reduceAdd, Nat.reduceSub, Nat.reduceMul, Nat.reduceLeDiff, ne_eq, not_false_eq_true, Int.reduceEq, Int.reduceLT, Int.reduceLE, Int.reduceNeg, Int.reduceToNat, Int.reduceGT, Int.reduceGE, Nat.reduceLT, Nat.lt_add_one, Nat.zero_lt_succ, Nat.succ_pos, Nat.zero_le, beq_self_eq_true, o1, o2, o3, w1]
  refine Cf.pu (numN_ok l1) fun u3 => ?_
  simp (maxSteps := 4000000) only [vm, vl, Arg.get, cells, stor, boundO, resultsV, resV, partK, loadV, Vm.part, fillC, splice, reduceIte, reduceCtorEq, Nat.reduceEqDiff, Nat.reduceAdd, Nat.reduceSub, Nat.reduceMul, Nat.reduceLeDiff, ne_eq, not_false_eq_true, Int.reduceEq, Int.reduceLT, Int.reduceLE, Int.reduceNeg, Int.reduceToNat, Int.reduceGT, Int.reduceGE, Nat.reduceLT, Nat.lt_add_one, Nat.zero_lt_succ, Nat.succ_pos, Nat.zero_le, beq_self_eq_true, o1, o2, o3, w1]
  refine Cf.pu (clkN_ok l2) fun u4 => ?_
  simp (maxSteps := 4000000) only [vm, vl, Arg.get, cells, stor, boundO, resultsV, resV, partK, loadV, Vm.part, fillC, splice, reduceIte, reduceCtorEq, Nat.reduceEqDiff, Nat.reduceAdd, Nat.reduceSub, Nat.reduceMul, Nat.reduceLeDiff, ne_eq, not_false_eq_true, Int.reduceEq, Int.reduceLT, Int.reduceLE, Int.reduceNeg, Int.reduceToNat, Int.reduceGT, Int.reduceGE, Nat.reduceLT, Nat.lt_add_one, Nat.zero_lt_succ, Nat.succ_pos, Nat.zero_le, beq_self_eq_true, o1, o2, o3, w1]
  refine Cf.pu (S _) fun u5 => ?_
  simp (maxSteps := 4000000) only [vm, vl, Arg.get, cells, stor, boundO, resultsV, resV, partK, loadV, Vm.part, fillC, splice, reduceIte, reduceCtorEq, Nat.reduceEqDiff, Nat.reduceAdd, Nat.reduceSub, Nat.reduceMul, Nat.reduceLeDiff, ne_eq, not_false_eq_true, Int.reduceEq, Int.reduceLT, Int.reduceLE, Int.reduceNeg, Int.reduceToNat, Int.reduceGT, Int.reduceGE, Nat.reduceLT, Nat.lt_add_one, Nat.zero_lt_succ, Nat.succ_pos, Nat.zero_le, beq_self_eq_true]
theorem old6_ok {u0 : Heap} {e : Env} {N0 : Env → Heap → Prop} {w : Nat} {t : Bs} (hl : t.length = 24) (hw : w < 7) : k_gatepostref02_Parse_6 L (Pu h (fold w t)) N0 e (.int .i64 w) (.str t) (h ++ u0) := by
  
  unfold k_gatepostref02_Parse_6
  have o1 : 11 ≤ t.length := by omega
  have l1 : ((t.take 11).drop 9).length ≤ 4 := by rw [seg_len (by omega)]; omega
  have nl := numN_le l1
  have P := fun e y hy u => old7_ok (L := L) (h := h) (u0 := u) (N0 := N0) (e := e) (w := w) (t := t) (y := y) hl hw hy
  simp (maxSteps := 4000000) only [vm, vl, Arg.get, cells, stor, boundO, resultsV, resV, partK, loadV, Vm.part, fillC, splice, reduceIte, reduceCtorEq, Nat.reduceEqDiff, Nat.reduceAdd, Nat.reduceSub, Nat.reduceMul, Nat.reduceLeDiff, ne_eq, not_false_eq_true, Int.reduceEq, Int.reduceLT, Int.reduceLE, Int.reduceNeg, Int.reduceToNat, Int.reduceGT, Int.reduceGE, Nat.reduceLT, Nat.lt_add_one, Nat.zero_lt_succ, Nat.succ_pos, Nat.zero_le, beq_self_eq_true, o1]
  refine Cf.pu (numN_ok l1) fun u1 => ?_
  have w1 : IntKind.i64.wrap (numN ((t.take 11).drop 9) + 1900) = numN ((t.take 11).drop 9) + 1900 := wrap64 (by omega) (by omega)
  have w2 : IntKind.i64.wrap (numN ((t.take 11).drop 9) + 2000) = numN ((t.take 11).drop 9) + 2000 := wrap64 (by omega) (by omega)
  by_cases a : numN ((t.take 11).drop 9) ≥ 70
  · simp (maxSteps := 4000000) only [vm, vl, Arg.get, cells, stor, boundO, resultsV, resV, partK, loadV, Vm.part, fillC, splice, reduceIte, reduceCtorEq, Nat.reduceEqDiff, Nat.reduceAdd, Nat.reduceSub, Nat.reduceMul, Nat.reduceLeDiff, ne_eq, not_false_eq_true, Int.reduceEq, Int.reduceLT, Int.reduceLE, Int.reduceNeg, Int.reduceToNat, Int.reduceGT, Int.reduceGE, Nat.reduceLT, Nat.lt_add_one, Nat.zero_lt_succ, Nat.succ_pos, Nat.zero_le, beq_self_eq_true, a, decide_true, w1]
    exact P _ _ (by unfold yrN; rw [if_pos a]) _
  by_cases b : numN ((t.take 11).drop 9) ≥ 0
  · simp (maxSteps := 4000000) only [vm, vl, Arg.get, cells, stor, boundO, resultsV, resV, partK, loadV, Vm.part, fillC, splice, reduceIte, reduceCtorEq, Nat.reduceEqDiff, Nat.reduceAdd, Nat.reduceSub, Nat.reduceMul, Nat.reduceLeDiff, ne_eq, not_false_eq_true, Int.reduceEq, Int.reduceLT, Int.reduceLE, Int.reduceNeg, Int.reduceToNat, Int.reduceGT, Int.reduceGE, Nat.reduceLT, Nat.lt_add_one, Nat.zero_lt_succ, Nat.succ_pos, Nat.zero_le, beq_self_eq_true, a, b, decide_true, decide_false, w2]
    exact P _ _ (by unfold yrN; rw [if_neg a, if_pos b]) _
  · simp (maxSteps := 4000000) only [vm, vl, Arg.get, cells, stor, boundO, resultsV, resV, partK, loadV, Vm.part, fillC, splice, reduceIte, reduceCtorEq, Nat.reduceEqDiff, Nat.reduceAdd, Nat.reduceSub, Nat.reduceMul, Nat.reduceLeDiff, ne_eq, not_false_eq_true, Int.reduceEq, Int.reduceLT, Int.reduceLE, Int.reduceNeg, Int.reduceToNat, Int.reduceGT, Int.reduceGE, Nat.reduceLT, Nat.lt_add_one, Nat.zero_lt_succ, Nat.succ_pos, Nat.zero_le, beq_self_eq_true, a, b, decide_true, decide_false]
    exact P _ _ (by unfold yrN; rw [if_neg a, if_neg b]) _
theorem old5_ok {u0 : Heap} {e : Env} {N0 : Env → Heap → Prop} {w : Nat} {s : Bs} (hw : w < 7) (hc : cO s w) : k_gatepostref02_Parse_5 L (Pu h (dateV (dateS s))) N0 e (.str s) (.int .i64 w) (.int .i64 (dayLs.getD w []).length) (h ++ u0) := by
  
  unfold k_gatepostref02_Parse_5
  obtain ⟨r1, r2⟩ := refO hw hc
  obtain ⟨c1, c2⟩ := hc
  have ll := long_len w hw
  have o1 : (dayLs.getD w []).length ≤ s.length := by omega
  have lt : (s.drop (dayLs.getD w []).length).length = 24 := by rw [List.length_drop]; omega
  generalize dateV (dateS s) = R at *
  generalize hnw : (dayLs.getD w []).length = nw at *
  generalize ht : s.drop nw = t at *
  have P := fun e u => old6_ok (L := L) (h := h) (u0 := u) (N0 := N0) (e := e) (w := w) (t := t) lt hw
  have q1 : 2 ≤ t.length := by omega
  have q2 : 4 < t.length := by omega
  have q3 : 8 < t.length := by omega
  have q4 : 11 < t.length := by omega
  have q5 : 20 ≤ t.length := by omega
  by_cases a1 : t.take 2 = [44, 32]
  case neg =>
    have b1 : (t.take 2 == [44, 32]) = false := beq_eq_false_iff_ne.2 a1
    rw [← r2 (fun h => a1 h.1)]
    simp (maxSteps := 4000000) only [vm, vl, Arg.get, cells, stor, boundO, resultsV, resV, partK, loadV, Vm.part, fillC, splice, reduceIte, reduceCtorEq, Nat.reduceEqDiff, Nat.reduceAdd, Nat.reduceSub, Nat.reduceMul, Nat.reduceLeDiff, ne_eq, not_false_eq_true, Int.reduceEq, Int.reduceLT, Int.reduceLE, Int.reduceNeg, Int.reduceToNat, Int.reduceGT, Int.reduceGE, Nat.reduceLT, Nat.lt_add_one, Nat.zero_lt_succ, Nat.succ_pos, Nat.zero_le, beq_self_eq_true, List.take_length, ht, o1, q1, b1, Bool.not_false]
    rfl
  have b1 : (t.take 2 == [44, 32]) = true := beq_iff_eq.2 a1
  by_cases a2 : t.getD 4 0 = 45
  case neg =>
    have b2 : ¬ ((t.getD 4 0).toNat : Int) = 45 := u8_ne a2
    rw [← r2 (fun h => a2 h.2.1)]
    simp (maxSteps := 4000000) only [vm, vl, Arg.get, cells, stor, boundO, resultsV, resV, partK, loadV, Vm.part, fillC, splice, reduceIte, reduceCtorEq, Nat.reduceEqDiff, Nat.reduceAdd, Nat.reduceSub, Nat.reduceMul, Nat.reduceLeDiff, ne_eq, not_false_eq_true, Int.reduceEq, Int.reduceLT, Int.reduceLE, Int.reduceNeg, Int.reduceToNat, Int.reduceGT, Int.reduceGE, Nat.reduceLT, Nat.lt_add_one, Nat.zero_lt_succ, Nat.succ_pos, Nat.zero_le, beq_self_eq_true, List.take_length, ht, o1, q1, q2, b1, b2, Bool.not_false, Bool.not_true, decide_false]
    rfl
  have b2 : ((t.getD 4 0).toNat : Int) = 45 := by rw [a2]; rfl
  by_cases a3 : t.getD 8 0 = 45
  case neg =>
    have b3 : ¬ ((t.getD 8 0).toNat : Int) = 45 := u8_ne a3
    rw [← r2 (fun h => a3 h.2.2.1)]
    simp (maxSteps := 4000000) only [vm, vl, Arg.get, cells, stor, boundO, resultsV, resV, partK, loadV, Vm.part, fillC, splice, reduceIte, reduceCtorEq, Nat.reduceEqDiff, Nat.reduceAdd, Nat.reduceSub, Nat.reduceMul, Nat.reduceLeDiff, ne_eq, not_false_eq_true, Int.reduceEq, Int.reduceLT, Int.reduceLE, Int.reduceNeg, Int.reduceToNat, Int.reduceGT, Int.reduceGE, Nat.reduceLT, Nat.lt_add_one, Nat.zero_lt_succ, Nat.succ_pos, Nat.zero_le, beq_self_eq_true, List.take_length, ht, o1, q1, q2, q3, b1, b2, b3, Bool.not_false, Bool.not_true, decide_false, decide_true]
    rfl
  have b3 : ((t.getD 8 0).toNat : Int) = 45 := by rw [a3]; rfl
  by_cases a4 : t.getD 11 0 = 32
  case neg =>
    have b4 : ¬ ((t.getD 11 0).toNat : Int) = 32 := u8_ne a4
    rw [← r2 (fun h => a4 h.2.2.2.1)]
    simp (maxSteps := 4000000) only [vm, vl, Arg.get, cells, stor, boundO, resultsV, resV, partK, loadV, Vm.part, fillC, splice, reduceIte, reduceCtorEq, Nat.reduceEqDiff, Nat.reduceAdd, Nat.reduceSub, Nat.reduceMul, Nat.reduceLeDiff, ne_eq, not_false_eq_true, Int.reduceEq, Int.reduceLT, Int.reduceLE, Int.reduceNeg, Int.reduceToNat, Int.reduceGT, Int.reduceGE, Nat.reduceLT, Nat.lt_add_one, Nat.zero_lt_succ, Nat.succ_pos, Nat.zero_le, beq_self_eq_true, List.take_length, ht, o1, q1, q2, q3, q4, b1, b2, b3, b4, Bool.not_false, Bool.not_true, decide_false, decide_true]
    rfl
  have b4 : ((t.getD 11 0).toNat : Int) = 32 := by rw [a4]; rfl
  by_cases a5 : t.drop 20 = [32, 71, 77, 84]
  case neg =>
    have b5 : (t.drop 20 == [32, 71, 77, 84]) = false := beq_eq_false_iff_ne.2 a5
    rw [← r2 (fun h => a5 h.2.2.2.2)]
    simp (maxSteps := 4000000) only [vm, vl, Arg.get, cells, stor, boundO, resultsV, resV, partK, loadV, Vm.part, fillC, splice, reduceIte, reduceCtorEq, Nat.reduceEqDiff, Nat.reduceAdd, Nat.reduceSub, Nat.reduceMul, Nat.reduceLeDiff, ne_eq, not_false_eq_true, Int.reduceEq, Int.reduceLT, Int.reduceLE, Int.reduceNeg, Int.reduceToNat, Int.reduceGT, Int.reduceGE, Nat.reduceLT, Nat.lt_add_one, Nat.zero_lt_succ, Nat.succ_pos, Nat.zero_le, beq_self_eq_true, List.take_length, ht, o1, q1, q2, q3, q4, q5, b1, b2, b3, b4, b5, Bool.not_false, Bool.not_true, decide_false, decide_true]
    rfl
  have b5 : (t.drop 20 == [32, 71, 77, 84]) = true := beq_iff_eq.2 a5
  rw [r1 ⟨a1, a2, a3, a4, a5⟩] at P
  simp (maxSteps := 4000000) only [vm, vl, Arg.get, cells, stor, boundO, resultsV, resV, partK, loadV, Vm.part, fillC, splice, reduceIte, reduceCtorEq, Nat.reduceEqDiff, Nat.reduceAdd, Nat.reduceSub, Nat.reduceMul, Nat.reduceLeDiff, ne_eq, not_false_eq_true, Int.reduceEq, Int.reduceLT, Int.reduceLE, Int.reduceNeg, Int.reduceToNat, Int.reduceGT, Int.reduceGE, Nat.reduceLT, Nat.lt_add_one, Nat.zero_lt_succ, Nat.succ_pos, Nat.zero_le, beq_self_eq_true, List.take_length, ht, o1, q1, q2, q3, q4, q5, b1, b2, b3, b4, b5, Bool.not_false, Bool.not_true, decide_false, decide_true]
  exact P _ _
theorem loop_ok {u0 : Heap} {e : Env} {s : Bs} (hl : s.length < 9223372036854775807) (e0 : e 0 = .str s) (hN : (∀ w, w < 7 → ¬ cO s w) → failV = dateV (dateS s)) : k_gatepostref02_Parse_1 L (Pu h (dateV (dateS s))) e (h ++ u0) := by
  
  unfold k_gatepostref02_Parse_1
  have eL : ([.str [77, 111, 110, 100, 97, 121], .str [84, 117, 101, 115, 100, 97, 121], .str [87, 101, 100, 110, 101, 115, 100, 97, 121], .str [84, 104, 117, 114, 115, 100, 97, 121], .str [70, 114, 105, 100, 97, 121], .str [83, 97, 116, 117, 114, 100, 97, 121], .str [83, 117, 110, 100, 97, 121]] : List V) = dayLs.map .str := rfl
  simp (maxSteps := 4000000) only [vm, vl, Arg.get, cells, stor, reduceIte, List.all_cons, List.all_nil, List.map_cons, List.map_nil, Bool.and_true, Bool.and_self, List.length_cons, List.length_nil, Nat.reduceAdd, decide_true]
  refine l_gatepostref02_Parse_0 (fun n e h' => ∃ j : Nat, n = 7 - j ∧ j ≤ 7 ∧ e 0 = .str s ∧ e 5 = .sl 1 .full (dayLs.map .str) ∧ e 6 = .int .i64 j ∧ (∃ u, h' = h ++ u) ∧ ∀ i, i < j → ¬ cO s i) ?_ (n := 7) ⟨0, rfl, by omega, e0, rfl, rfl, ⟨u0, rfl⟩, by simp⟩
  rintro n e h' ⟨j, rfl, hj, e0, e5, e6, ⟨u, rfl⟩, hn⟩
  simp only [b_gatepostref02_Parse_0]
  by_cases h7 : j < 7
  · have h7' : (j : Int) < 7 := by omega
    have r1 : (dayLs.map V.str).getD j (.tup []) = .str (dayLs.getD j []) := aggstr_at h7
    have z1 : (dayLs.map V.str).length = 7 := rfl
    have i0 : (0 : Int) ≤ j := by omega
    have w1 : IntKind.i64.wrap ((j : Int) + 1) = ((j + 1 : Nat) : Int) := by rw [wrap64 (by omega) (by omega)]; omega
    have ll := long_len j h7
    have w2 : IntKind.i64.wrap (((dayLs.getD j []).length : Int) + 24) = ((dayLs.getD j []).length + 24 : Nat) := by rw [wrap64 (by omega) (by omega)]; omega
    have nx : ¬ cO s j → ∀ i, i < j + 1 → ¬ cO s i := fun hc i hi => by
      rcases Nat.lt_or_ge i j with h | h
      · exact hn i h
      · rw [show i = j by omega]; exact hc
    by_cases hc : cO s j
    · have P := fun e N0 u => old5_ok (L := L) (h := h) (u0 := u) (N0 := N0) (e := e) h7 hc
      obtain ⟨c1, c2⟩ := hc
      have c1' : (s.length : Int) = ((dayLs.getD j []).length + 24 : Nat) := by omega
      have c2' : (s.take (dayLs.getD j []).length == dayLs.getD j []) = true := beq_iff_eq.2 c2
      have o1 : (dayLs.getD j []).length ≤ s.length := by omega
      generalize (dayLs.map V.str) = LL at *
      generalize dayLs.getD j [] = X1 at *
      simp (maxSteps := 4000000) only [vm, vl, Arg.get, cells, stor, boundO, resultsV, resV, partK, loadV, Vm.part, fillC, splice, reduceIte, reduceCtorEq, Nat.reduceEqDiff, Nat.reduceAdd, Nat.reduceSub, Nat.reduceMul, Nat.reduceLeDiff, ne_eq, not_false_eq_true, Int.reduceEq, Int.reduceLT, Int.reduceLE, Int.reduceNeg, Int.reduceToNat, Int.reduceGT, Int.reduceGE, Nat.reduceLT, Nat.lt_add_one, Nat.zero_lt_succ, Nat.succ_pos, Nat.zero_le, beq_self_eq_true, e0, e5, e6, h7', h7, r1, z1, i0, decide_true, k_gatepostref02_Parse_3, w2, c1', c2', o1, Bool.not_true]
      exact P _ _ _
    · by_cases c1 : s.length = (dayLs.getD j []).length + 24
      · have c2 : ¬ s.take (dayLs.getD j []).length = dayLs.getD j [] := fun e => hc ⟨c1, e⟩
        have c1' : (s.length : Int) = ((dayLs.getD j []).length + 24 : Nat) := by omega
        have c2' : (s.take (dayLs.getD j []).length == dayLs.getD j []) = false := beq_eq_false_iff_ne.2 c2
        have o1 : (dayLs.getD j []).length ≤ s.length := by omega
        generalize (dayLs.map V.str) = LL at *
        generalize dayLs.getD j [] = X1 at *
        simp (maxSteps := 4000000) only [vm, vl, Arg.get, cells, stor, boundO, resultsV, resV, partK, loadV, Vm.part, fillC, splice, reduceIte, reduceCtorEq, Nat.reduceEqDiff, Nat.reduceAdd, Nat.reduceSub, Nat.reduceMul, Nat.reduceLeDiff, ne_eq, not_false_eq_true, Int.reduceEq, Int.reduceLT, Int.reduceLE, Int.reduceNeg, Int.reduceToNat, Int.reduceGT, Int.reduceGE, Nat.reduceLT, Nat.lt_add_one, Nat.zero_lt_succ, Nat.succ_pos, Nat.zero_le, beq_self_eq_true, e0, e5, e6, h7', h7, r1, z1, i0, decide_true, k_gatepostref02_Parse_3, k_gatepostref02_Parse_4, w1, w2, c1', c2', o1, Bool.not_true, Bool.not_false]
        exact ⟨7 - (j + 1), by omega, j + 1, rfl, by omega, rfl, ⟨_, rfl⟩, nx hc⟩
      · have c1' : ¬ (s.length : Int) = ((dayLs.getD j []).length + 24 : Nat) := by omega
        generalize (dayLs.map V.str) = LL at *
        generalize dayLs.getD j [] = X1 at *
        simp (maxSteps := 4000000) only [vm, vl, Arg.get, cells, stor, boundO, resultsV, resV, partK, loadV, Vm.part, fillC, splice, reduceIte, reduceCtorEq, Nat.reduceEqDiff, Nat.reduceAdd, Nat.reduceSub, Nat.reduceMul, Nat.reduceLeDiff, ne_eq, not_false_eq_true, Int.reduceEq, Int.reduceLT, Int.reduceLE, Int.reduceNeg, Int.reduceToNat, Int.reduceGT, Int.reduceGE, Nat.reduceLT, Nat.lt_add_one, Nat.zero_lt_succ, Nat.succ_pos, Nat.zero_le, beq_self_eq_true, e0, e5, e6, h7', h7, r1, z1, i0, decide_true, decide_false, k_gatepostref02_Parse_3, k_gatepostref02_Parse_4, w1, w2, c1', Bool.not_true, Bool.not_false]
        exact ⟨7 - (j + 1), by omega, j + 1, rfl, by omega, rfl, ⟨_, rfl⟩, nx hc⟩
  · have h7' : ¬ (j : Int) < 7 := by omega
    rw [← hN (fun w hw => hn w (by omega))]
    simp (maxSteps := 4000000) only [vm, vl, Arg.get, cells, stor, boundO, resultsV, resV, partK, loadV, Vm.part, fillC, splice, reduceIte, reduceCtorEq, Nat.reduceEqDiff, Nat.reduceAdd, Nat.reduceSub, Nat.reduceMul, Nat.reduceLeDiff, ne_eq, not_false_eq_true, Int.reduceEq, Int.reduceLT, Int.reduceLE, Int.reduceNeg, Int.reduceToNat, Int.reduceGT, Int.reduceGE, Nat.reduceLT, Nat.lt_add_one, Nat.zero_lt_succ, Nat.succ_pos, Nat.zero_le, beq_self_eq_true, e0, e5, e6, h7', decide_false, k_gatepostref02_Parse_2]
    rfl
theorem p8_ok {u0 : Heap} {e : Env} {s : Bs} (hl : s.length = 24) : k_gatepostref02_Parse_8 L (Pu h (f24 s)) e (.str s) (.str (dayP s)) (h ++ u0) := by
  
  unfold k_gatepostref02_Parse_8 f24
  have o1 : 3 ≤ s.length := by omega
  have o2 : 20 ≤ s.length := by omega
  have o3 : 7 ≤ s.length := by omega
  have o4 : 19 ≤ s.length := by omega
  have f0 := findI_le (l := shLs) (a := s.take 3) (by decide)
  have f1 := findI_le (l := monLs) (a := (s.take 7).drop 4) (by decide)
  have w1 : IntKind.i64.wrap (findI monLs ((s.take 7).drop 4) + 1) = findI monLs ((s.take 7).drop 4) + 1 := wrap64 (by omega) (by omega)
  have l1 : (s.drop 20).length ≤ 4 := by rw [List.length_drop]; omega
  have l2 : (dayP s).length ≤ 4 := by
    have : ((s.take 10).drop 8).length = 2 := seg_len (by omega)
    unfold dayP; split
    · rw [List.length_drop]; omega
    · omega
  have l3 : ((s.take 19).drop 11).length ≤ 100 := by rw [seg_len (by omega)]; omega
  obtain ⟨n, b, et⟩ := secN_tup (w := findI shLs (s.take 3)) (y := numN (s.drop 20)) (m := findI monLs ((s.take 7).drop 4) + 1) (d := numN (dayP s)) (c := clkN ((s.take 19).drop 11))
  have S : ∀ hh, Cf F L i_gatepostref02_second [.int .i64 (findI shLs (s.take 3)), .int .i64 (numN (s.drop 20)), .int .i64 (findI monLs ((s.take 7).drop 4) + 1), .int .i64 (numN (dayP s)), .int .i64 (clkN ((s.take 19).drop 11))] hh (Pu hh (.tup [.int .i64 n, .bool b])) := fun hh => by rw [← et]; exact secN_ok (clkN_le _).2
  rw [et]
  simp (maxSteps := 4000000) only [vm, vl, Arg.get, cells, stor, boundO, resultsV, resV, partK, loadV, Vm.part, fillC, splice, reduceIte, reduceCtorEq, Nat.reduceEqDiff, Nat.reduceAdd, Nat.reduceSub, Nat.reduceMul, Nat.reduceLeDiff, ne_eq, not_false_eq_true, Int.reduceEq, Int.reduceLT, Int.reduceLE, Int.reduceNeg, Int.reduceToNat, Int.reduceGT, Int.reduceGE, Nat.reduceLT, Nat.lt_add_one, Nat.zero_lt_succ, Nat.succ_pos, Nat.zero_le, beq_self_eq_true, List.take_length, o1, o2, o3, o4]
  refine Cf.pu short_ok fun u1 => ?_
  simp (maxSteps := 4000000) only [vm, vl, Arg.get, cells, stor, boundO, resultsV, resV, partK, loadV, Vm.part, fillC, splice, reduceIte, reduceCtorEq, Nat.reduceEqDiff, Nat.reduceAdd, Nat.reduceSub, Nat.reduceMul, Nat.reduceLeDiff, ne_eq, not_false_eq_true, Int.reduceEq, Int.reduceLT, Int.reduceLE, Int.reduceNeg, Int.reduceToNat, Int.reduceGT, Int.reduceGE, Nat.reduceLT, Nat.lt_add_one, Nat.zero_lt_succ, Nat.succ_pos, Nat.zero_le, beq_self_eq_true, List.take_length, o1, o2, o3, o4, w1]
  refine Cf.pu (find_ok (by decide)) fun u2 => ?_
  simp (maxSteps := 4000000) only [vm, vl, Arg.get, cells, stor, boundO, resultsV, resV, partK, loadV, Vm.part, fillC, splice, reduceIte, reduceCtorEq, Nat.reduceEqDiff, Nat.reduceAdd, Nat.reduceSub, Nat.reduceMul, Nat.reduceLeDiff, ne_eq, not_false_eq_true, Int.reduceEq, Int.reduceLT, Int.reduceLE, Int.reduceNeg, Int.reduceToNat, Int.reduceGT, Int.reduceGE, Nat.reduceLT, Nat.lt_add_one, Nat.zero_lt_succ, Nat.succ_pos, Nat.zero_le, beq_self_eq_true, List.take_length, o1, o2, o3, o4, w1]
  refine Cf.pu (numN_ok l1) fun u3 => ?_
  simp (maxSteps := 4000000) only [vm, vl, Arg.get, cells, stor, boundO, resultsV, resV, partK, loadV, Vm.part, fillC, splice, reduceIte, reduceCtorEq, Nat.reduceEqDiff, Nat.reduceAdd, Nat.reduceSub, Nat.reduceMul, Nat.reduceLeDiff, ne_eq, not_false_eq_true, Int.reduceEq, Int.reduceLT, Int.reduceLE, Int.reduceNeg, Int.reduceToNat, Int.reduceGT, Int.reduceGE, Nat.reduceLT, Nat.lt_add_one, Nat.zero_lt_succ, Nat.succ_pos, Nat.zero_le, beq_self_eq_true, List.take_length, o1, o2, o3, o4, w1]
  refine Cf.pu months_ok fun u4 => ?_
  simp (maxSteps := 4000000) only [vm, vl, Arg.get, cells, stor, boundO, resultsV, resV, partK, loadV, Vm.part, fillC, splice, reduceIte, reduceCtorEq, Nat.reduceEqDiff, Nat.reduceAdd, Nat.reduceSub, Nat.reduceMul, Nat.reduceLeDiff, ne_eq, not_false_eq_true, Int.reduceEq, Int.reduceLT, Int.reduceLE, Int.reduceNeg, Int.reduceToNat, Int.reduceGT, Int.reduceGE, Nat.reduceLT, Nat.lt_add_one, Nat.zero_lt_succ, Nat.succ_pos, Nat.zero_le, beq_self_eq_true, List.take_length, o1, o2, o3, o4, w1]
  refine Cf.pu (find_ok (by decide)) fun u5 => ?_
  simp (maxSteps := 4000000) only [vm, vl, Arg.get, cells, stor, boundO, resultsV, resV, partK, loadV, Vm.part, fillC, splice, reduceIte, reduceCtorEq, Nat.reduceEqDiff, Nat.reduceAdd, Nat.reduceSub, Nat.reduceMul, Nat.reduceLeDiff, ne_eq, not_false_eq_true, Int.reduceEq, Int.reduceLT, Int.reduceLE, Int.reduceNeg, Int.reduceToNat, Int.reduceGT, Int.reduceGE, Nat.reduceLT, Nat.lt_add_one, Nat.zero_lt_succ, Nat.succ_pos, Nat.zero_le, beq_self_eq_true, List.take_length, o1, o2, o3, o4, w1]
  refine Cf.pu (numN_ok l2) fun u6 => ?_
  simp (maxSteps := 4000000) only [vm, vl, Arg.get, cells, stor, boundO, resultsV, resV, partK, loadV, Vm.part, fillC, splice, reduceIte, reduceCtorEq, Nat.reduceEqDiff, Nat.reduceAdd, Nat.reduceSub, Nat.reduceMul, Nat.reduceLeDiff, ne_eq, not_false_eq_true, Int.reduceEq, Int.reduceLT, Int.reduceLE, Int.reduceNeg, Int.reduceToNat, Int.reduceGT, Int.reduceGE, Nat.reduceLT, Nat.lt_add_one, Nat.zero_lt_succ, Nat.succ_pos, Nat.zero_le, beq_self_eq_true, List.take_length, o1, o2, o3, o4, w1]
  refine Cf.pu (clkN_ok l3) fun u7 => ?_
  simp (maxSteps := 4000000) only [vm, vl, Arg.get, cells, stor, boundO, resultsV, resV, partK, loadV, Vm.part, fillC, splice, reduceIte, reduceCtorEq, Nat.reduceEqDiff, Nat.reduceAdd, Nat.reduceSub, Nat.reduceMul, Nat.reduceLeDiff, ne_eq, not_false_eq_true, Int.reduceEq, Int.reduceLT, Int.reduceLE, Int.reduceNeg, Int.reduceToNat, Int.reduceGT, Int.reduceGE, Nat.reduceLT, Nat.lt_add_one, Nat.zero_lt_succ, Nat.succ_pos, Nat.zero_le, beq_self_eq_true, List.take_length, o1, o2, o3, o4, w1]
  refine Cf.pu (S _) fun u8 => ?_
  simp (maxSteps := 4000000) only [vm, vl, Arg.get, cells, stor, boundO, resultsV, resV, partK, loadV, Vm.part, fillC, splice, reduceIte, reduceCtorEq, Nat.reduceEqDiff, Nat.reduceAdd, Nat.reduceSub, Nat.reduceMul, Nat.reduceLeDiff, ne_eq, not_false_eq_true, Int.reduceEq, Int.reduceLT, Int.reduceLE, Int.reduceNeg, Int.reduceToNat, Int.reduceGT, Int.reduceGE, Nat.reduceLT, Nat.lt_add_one, Nat.zero_lt_succ, Nat.succ_pos, Nat.zero_le, beq_self_eq_true]
theorem p0_ok {e : Env} {s : Bs} (hl : s.length < 9223372036854775807) (e0 : e 0 = .str s) (h29 : ¬ c29 s) : k_gatepostref02_Parse_0 L (Pu h (dateV (dateS s))) e (.str s) h := by
  
  unfold k_gatepostref02_Parse_0
  have P := fun e e0 h24 => loop_ok (L := L) (h := h) (u0 := []) (e := e) hl e0 (fun hw => refN h29 h24 hw)
  simp only [List.append_nil] at P
  by_cases a0 : s.length = 24
  case neg =>
    have b0 : ¬ (s.length : Int) = 24 := by omega
    simp (maxSteps := 4000000) only [vm, vl, Arg.get, cells, stor, boundO, resultsV, resV, partK, loadV, Vm.part, fillC, splice, reduceIte, reduceCtorEq, Nat.reduceEqDiff, Nat.reduceAdd, Nat.reduceSub, Nat.reduceMul, Nat.reduceLeDiff, ne_eq, not_false_eq_true, Int.reduceEq, Int.reduceLT, Int.reduceLE, Int.reduceNeg, Int.reduceToNat, Int.reduceGT, Int.reduceGE, Nat.reduceLT, Nat.lt_add_one, Nat.zero_lt_succ, Nat.succ_pos, Nat.zero_le, beq_self_eq_true, b0, decide_false]
    exact P _ (by simp [upd, e0]) (fun c => a0 c.1)
  have b0 : (s.length : Int) = 24 := by omega
  have o1 : 3 < s.length := by omega
  by_cases a1 : s.getD 3 0 = 32
  case neg =>
    have b1 : ¬ ((s.getD 3 0).toNat : Int) = 32 := u8_ne a1
    simp (maxSteps := 4000000) only [vm, vl, Arg.get, cells, stor, boundO, resultsV, resV, partK, loadV, Vm.part, fillC, splice, reduceIte, reduceCtorEq, Nat.reduceEqDiff, Nat.reduceAdd, Nat.reduceSub, Nat.reduceMul, Nat.reduceLeDiff, ne_eq, not_false_eq_true, Int.reduceEq, Int.reduceLT, Int.reduceLE, Int.reduceNeg, Int.reduceToNat, Int.reduceGT, Int.reduceGE, Nat.reduceLT, Nat.lt_add_one, Nat.zero_lt_succ, Nat.succ_pos, Nat.zero_le, beq_self_eq_true, b0, o1, b1, decide_false, decide_true]
    exact P _ (by simp [upd, e0]) (fun c => a1 c.2.1)
  have b1 : ((s.getD 3 0).toNat : Int) = 32 := by rw [a1]; rfl
  have o2 : 7 < s.length := by omega
  by_cases a2 : s.getD 7 0 = 32
  case neg =>
    have b2 : ¬ ((s.getD 7 0).toNat : Int) = 32 := u8_ne a2
    simp (maxSteps := 4000000) only [vm, vl, Arg.get, cells, stor, boundO, resultsV, resV, partK, loadV, Vm.part, fillC, splice, reduceIte, reduceCtorEq, Nat.reduceEqDiff, Nat.reduceAdd, Nat.reduceSub, Nat.reduceMul, Nat.reduceLeDiff, ne_eq, not_false_eq_true, Int.reduceEq, Int.reduceLT, Int.reduceLE, Int.reduceNeg, Int.reduceToNat, Int.reduceGT, Int.reduceGE, Nat.reduceLT, Nat.lt_add_one, Nat.zero_lt_succ, Nat.succ_pos, Nat.zero_le, beq_self_eq_true, b0, o1, b1, o2, b2, decide_false, decide_true]
    exact P _ (by simp [upd, e0]) (fun c => a2 c.2.2.1)
  have b2 : ((s.getD 7 0).toNat : Int) = 32 := by rw [a2]; rfl
  have o3 : 10 < s.length := by omega
  by_cases a3 : s.getD 10 0 = 32
  case neg =>
    have b3 : ¬ ((s.getD 10 0).toNat : Int) = 32 := u8_ne a3
    simp (maxSteps := 4000000) only [vm, vl, Arg.get, cells, stor, boundO, resultsV, resV, partK, loadV, Vm.part, fillC, splice, reduceIte, reduceCtorEq, Nat.reduceEqDiff, Nat.reduceAdd, Nat.reduceSub, Nat.reduceMul, Nat.reduceLeDiff, ne_eq, not_false_eq_true, Int.reduceEq, Int.reduceLT, Int.reduceLE, Int.reduceNeg, Int.reduceToNat, Int.reduceGT, Int.reduceGE, Nat.reduceLT, Nat.lt_add_one, Nat.zero_lt_succ, Nat.succ_pos, Nat.zero_le, beq_self_eq_true, b0, o1, b1, o2, b2, o3, b3, decide_false, decide_true]
    exact P _ (by simp [upd, e0]) (fun c => a3 c.2.2.2.1)
  have b3 : ((s.getD 10 0).toNat : Int) = 32 := by rw [a3]; rfl
  have o4 : 19 < s.length := by omega
  by_cases a4 : s.getD 19 0 = 32
  case neg =>
    have b4 : ¬ ((s.getD 19 0).toNat : Int) = 32 := u8_ne a4
    simp (maxSteps := 4000000) only [vm, vl, Arg.get, cells, stor, boundO, resultsV, resV, partK, loadV, Vm.part, fillC, splice, reduceIte, reduceCtorEq, Nat.reduceEqDiff, Nat.reduceAdd, Nat.reduceSub, Nat.reduceMul, Nat.reduceLeDiff, ne_eq, not_false_eq_true, Int.reduceEq, Int.reduceLT, Int.reduceLE, Int.reduceNeg, Int.reduceToNat, Int.reduceGT, Int.reduceGE, Nat.reduceLT, Nat.lt_add_one, Nat.zero_lt_succ, Nat.succ_pos, Nat.zero_le, beq_self_eq_true, b0, o1, b1, o2, b2, o3, b3, o4, b4, decide_false, decide_true]
    exact P _ (by simp [upd, e0]) (fun c => a4 c.2.2.2.2)
  have b4 : ((s.getD 19 0).toNat : Int) = 32 := by rw [a4]; rfl
  rw [← ref24 ⟨a0, a1, a2, a3, a4⟩]
  have o5 : 10 ≤ s.length := by omega
  have ld : ((s.take 10).drop 8).length = 2 := seg_len (by omega)
  have o6 : 0 < ((s.take 10).drop 8).length := by omega
  have o7 : 1 ≤ ((s.take 10).drop 8).length := by omega
  have P8 := fun e => p8_ok (L := L) (h := h) (u0 := []) (e := e) (s := s) a0
  simp only [List.append_nil] at P8
  by_cases d : ((s.take 10).drop 8).getD 0 0 = 32
  · have d' : ((((s.take 10).drop 8).getD 0 0).toNat : Int) = 32 := by rw [d]; rfl
    have ed : dayP s = ((s.take 10).drop 8).drop 1 := by unfold dayP; rw [if_pos d]
    rw [ed] at P8
    generalize hD : (s.take 10).drop 8 = D at *
    simp (maxSteps := 4000000) only [vm, vl, Arg.get, cells, stor, boundO, resultsV, resV, partK, loadV, Vm.part, fillC, splice, reduceIte, reduceCtorEq, Nat.reduceEqDiff, Nat.reduceAdd, Nat.reduceSub, Nat.reduceMul, Nat.reduceLeDiff, ne_eq, not_false_eq_true, Int.reduceEq, Int.reduceLT, Int.reduceLE, Int.reduceNeg, Int.reduceToNat, Int.reduceGT, Int.reduceGE, Nat.reduceLT, Nat.lt_add_one, Nat.zero_lt_succ, Nat.succ_pos, Nat.zero_le, beq_self_eq_true, b0, o1, b1, o2, b2, o3, b3, o4, b4, o5, o6, o7, hD, d', List.take_length, decide_false, decide_true]
    exact P8 _
  · have d' : ¬ ((((s.take 10).drop 8).getD 0 0).toNat : Int) = 32 := u8_ne d
    have ed : dayP s = (s.take 10).drop 8 := by unfold dayP; rw [if_neg d]
    rw [ed] at P8
    generalize hD : (s.take 10).drop 8 = D at *
    simp (maxSteps := 4000000) only [vm, vl, Arg.get, cells, stor, boundO, resultsV, resV, partK, loadV, Vm.part, fillC, splice, reduceIte, reduceCtorEq, Nat.reduceEqDiff, Nat.reduceAdd, Nat.reduceSub, Nat.reduceMul, Nat.reduceLeDiff, ne_eq, not_false_eq_true, Int.reduceEq, Int.reduceLT, Int.reduceLE, Int.reduceNeg, Int.reduceToNat, Int.reduceGT, Int.reduceGE, Nat.reduceLT, Nat.lt_add_one, Nat.zero_lt_succ, Nat.succ_pos, Nat.zero_le, beq_self_eq_true, b0, o1, b1, o2, b2, o3, b3, o4, b4, o5, o6, o7, hD, d', List.take_length, decide_false, decide_true]
    exact P8 _
theorem RParseN_ok {s : Bs} (hl : s.length < 9223372036854775807) (hc : ¬ c29 s) : Cf F L i_gatepostref02_Parse [.str s] h (Pu h (dateV (dateS s))) := by
  refine run_gatepostref02_Parse ?_
  simp only [p_gatepostref02_Parse]
  
  have P := fun e e0 h29 => p0_ok (L := L) (h := h) (e := e) hl e0 h29
  by_cases a0 : s.length = 29
  case neg =>
    have b0 : ¬ (s.length : Int) = 29 := by omega
    simp (maxSteps := 4000000) only [vm, vl, Arg.get, cells, stor, boundO, resultsV, resV, partK, loadV, Vm.part, fillC, splice, reduceIte, reduceCtorEq, Nat.reduceEqDiff, Nat.reduceAdd, Nat.reduceSub, Nat.reduceMul, Nat.reduceLeDiff, ne_eq, not_false_eq_true, Int.reduceEq, Int.reduceLT, Int.reduceLE, Int.reduceNeg, Int.reduceToNat, Int.reduceGT, Int.reduceGE, Nat.reduceLT, Nat.lt_add_one, Nat.zero_lt_succ, Nat.succ_pos, Nat.zero_le, beq_self_eq_true, b0, decide_false]
    exact P _ (by simp [upd, enterE]) (fun c => a0 c.1)
  have b0 : (s.length : Int) = 29 := by omega
  have o1 : 5 ≤ s.length := by omega
  have o2 : 7 < s.length := by omega
  have o3 : 11 < s.length := by omega
  have o4 : 16 < s.length := by omega
  have o5 : 25 ≤ s.length := by omega
  by_cases a1 : (s.take 5).drop 3 = [44, 32]
  case neg =>
    have b1 : ((s.take 5).drop 3 == [44, 32]) = false := beq_eq_false_iff_ne.2 a1
    simp (maxSteps := 4000000) only [vm, vl, Arg.get, cells, stor, boundO, resultsV, resV, partK, loadV, Vm.part, fillC, splice, reduceIte, reduceCtorEq, Nat.reduceEqDiff, Nat.reduceAdd, Nat.reduceSub, Nat.reduceMul, Nat.reduceLeDiff, ne_eq, not_false_eq_true, Int.reduceEq, Int.reduceLT, Int.reduceLE, Int.reduceNeg, Int.reduceToNat, Int.reduceGT, Int.reduceGE, Nat.reduceLT, Nat.lt_add_one, Nat.zero_lt_succ, Nat.succ_pos, Nat.zero_le, beq_self_eq_true, b0, o1, o2, o3, o4, o5, List.take_length, b1, decide_false, decide_true]
    exact P _ (by simp [upd, enterE]) (fun c => a1 c.2.1)
  have b1 : ((s.take 5).drop 3 == [44, 32]) = true := beq_iff_eq.2 a1
  by_cases a2 : s.getD 7 0 = 32
  case neg =>
    have b2 : ¬ ((s.getD 7 0).toNat : Int) = 32 := u8_ne a2
    simp (maxSteps := 4000000) only [vm, vl, Arg.get, cells, stor, boundO, resultsV, resV, partK, loadV, Vm.part, fillC, splice, reduceIte, reduceCtorEq, Nat.reduceEqDiff, Nat.reduceAdd, Nat.reduceSub, Nat.reduceMul, Nat.reduceLeDiff, ne_eq, not_false_eq_true, Int.reduceEq, Int.reduceLT, Int.reduceLE, Int.reduceNeg, Int.reduceToNat, Int.reduceGT, Int.reduceGE, Nat.reduceLT, Nat.lt_add_one, Nat.zero_lt_succ, Nat.succ_pos, Nat.zero_le, beq_self_eq_true, b0, o1, o2, o3, o4, o5, List.take_length, b1, b2, decide_false, decide_true]
    exact P _ (by simp [upd, enterE]) (fun c => a2 c.2.2.1)
  have b2 : ((s.getD 7 0).toNat : Int) = 32 := by rw [a2]; rfl
  by_cases a3 : s.getD 11 0 = 32
  case neg =>
    have b3 : ¬ ((s.getD 11 0).toNat : Int) = 32 := u8_ne a3
    simp (maxSteps := 4000000) only [vm, vl, Arg.get, cells, stor, boundO, resultsV, resV, partK, loadV, Vm.part, fillC, splice, reduceIte, reduceCtorEq, Nat.reduceEqDiff, Nat.reduceAdd, Nat.reduceSub, Nat.reduceMul, Nat.reduceLeDiff, ne_eq, not_false_eq_true, Int.reduceEq, Int.reduceLT, Int.reduceLE, Int.reduceNeg, Int.reduceToNat, Int.reduceGT, Int.reduceGE, Nat.reduceLT, Nat.lt_add_one, Nat.zero_lt_succ, Nat.succ_pos, Nat.zero_le, beq_self_eq_true, b0, o1, o2, o3, o4, o5, List.take_length, b1, b2, b3, decide_false, decide_true]
    exact P _ (by simp [upd, enterE]) (fun c => a3 c.2.2.2.1)
  have b3 : ((s.getD 11 0).toNat : Int) = 32 := by rw [a3]; rfl
  by_cases a4 : s.getD 16 0 = 32
  case neg =>
    have b4 : ¬ ((s.getD 16 0).toNat : Int) = 32 := u8_ne a4
    simp (maxSteps := 4000000) only [vm, vl, Arg.get, cells, stor, boundO, resultsV, resV, partK, loadV, Vm.part, fillC, splice, reduceIte, reduceCtorEq, Nat.reduceEqDiff, Nat.reduceAdd, Nat.reduceSub, Nat.reduceMul, Nat.reduceLeDiff, ne_eq, not_false_eq_true, Int.reduceEq, Int.reduceLT, Int.reduceLE, Int.reduceNeg, Int.reduceToNat, Int.reduceGT, Int.reduceGE, Nat.reduceLT, Nat.lt_add_one, Nat.zero_lt_succ, Nat.succ_pos, Nat.zero_le, beq_self_eq_true, b0, o1, o2, o3, o4, o5, List.take_length, b1, b2, b3, b4, decide_false, decide_true]
    exact P _ (by simp [upd, enterE]) (fun c => a4 c.2.2.2.2.1)
  have b4 : ((s.getD 16 0).toNat : Int) = 32 := by rw [a4]; rfl
  by_cases a5 : s.drop 25 = [32, 71, 77, 84]
  case neg =>
    have b5 : (s.drop 25 == [32, 71, 77, 84]) = false := beq_eq_false_iff_ne.2 a5
    simp (maxSteps := 4000000) only [vm, vl, Arg.get, cells, stor, boundO, resultsV, resV, partK, loadV, Vm.part, fillC, splice, reduceIte, reduceCtorEq, Nat.reduceEqDiff, Nat.reduceAdd, Nat.reduceSub, Nat.reduceMul, Nat.reduceLeDiff, ne_eq, not_false_eq_true, Int.reduceEq, Int.reduceLT, Int.reduceLE, Int.reduceNeg, Int.reduceToNat, Int.reduceGT, Int.reduceGE, Nat.reduceLT, Nat.lt_add_one, Nat.zero_lt_succ, Nat.succ_pos, Nat.zero_le, beq_self_eq_true, b0, o1, o2, o3, o4, o5, List.take_length, b1, b2, b3, b4, b5, decide_false, decide_true]
    exact P _ (by simp [upd, enterE]) (fun c => a5 c.2.2.2.2.2)
  have b5 : (s.drop 25 == [32, 71, 77, 84]) = true := beq_iff_eq.2 a5
  exact absurd ⟨a0, a1, a2, a3, a4, a5⟩ hc
theorem RParse29_ok {s : Bs} (hc : c29 s) : Cf F L i_gatepostref02_Parse [.str s] h (Pu h (f29 s)) := by
  refine run_gatepostref02_Parse ?_
  simp only [p_gatepostref02_Parse]
  
  obtain ⟨a0, a1, a2, a3, a4, a5⟩ := hc
  have b0 : (s.length : Int) = 29 := by omega
  have o1 : 5 ≤ s.length := by omega
  have o2 : 7 < s.length := by omega
  have o3 : 11 < s.length := by omega
  have o4 : 16 < s.length := by omega
  have o5 : 25 ≤ s.length := by omega
  have b1 : ((s.take 5).drop 3 == [44, 32]) = true := beq_iff_eq.2 a1
  have b2 : ((s.getD 7 0).toNat : Int) = 32 := by rw [a2]; rfl
  have b3 : ((s.getD 11 0).toNat : Int) = 32 := by rw [a3]; rfl
  have b4 : ((s.getD 16 0).toNat : Int) = 32 := by rw [a4]; rfl
  have b5 : (s.drop 25 == [32, 71, 77, 84]) = true := beq_iff_eq.2 a5
  unfold f29
  have q1 : 3 ≤ s.length := by omega
  have q2 : 16 ≤ s.length := by omega
  have q3 : 11 ≤ s.length := by omega
  have q4 : 7 ≤ s.length := by omega
  have f0 := findI_le (l := shLs) (a := s.take 3) (by decide)
  have f1 := findI_le (l := monLs) (a := (s.take 11).drop 8) (by decide)
  have w1 : IntKind.i64.wrap (findI monLs ((s.take 11).drop 8) + 1) = findI monLs ((s.take 11).drop 8) + 1 := wrap64 (by omega) (by omega)
  have l1 : ((s.take 16).drop 12).length ≤ 4 := by rw [seg_len (by omega)]; omega
  have l2 : ((s.take 7).drop 5).length ≤ 4 := by rw [seg_len (by omega)]; omega
  have l3 : ((s.take 25).drop 17).length ≤ 100 := by rw [seg_len (by omega)]; omega
  obtain ⟨n, b, et⟩ := secN_tup (w := findI shLs (s.take 3)) (y := numN ((s.take 16).drop 12)) (m := findI monLs ((s.take 11).drop 8) + 1) (d := numN ((s.take 7).drop 5)) (c := clkN ((s.take 25).drop 17))
  have S : ∀ hh, Cf F L i_gatepostref02_second [.int .i64 (findI shLs (s.take 3)), .int .i64 (numN ((s.take 16).drop 12)), .int .i64 (findI monLs ((s.take 11).drop 8) + 1), .int .i64 (numN ((s.take 7).drop 5)), .int .i64 (clkN ((s.take 25).drop 17))] hh (Pu hh (.tup [.int .i64 n, .bool b])) := fun hh => by rw [← et]; exact secN_ok (clkN_le _).2
  rw [et]
  simp (maxSteps := 4000000) only [vm, vl, Arg.get, cells, stor, boundO, resultsV, resV, partK, loadV, Vm.part, fillC, splice, reduceIte, reduceCtorEq, Nat.reduceEqDiff, Nat.reduceAdd, Nat.reduceSub, Nat.reduceMul, Nat.reduceLeDiff, ne_eq, not_false_eq_true, Int.reduceEq, Int.reduceLT, Int.reduceLE, Int.reduceNeg, Int.reduceToNat, Int.reduceGT, Int.reduceGE, Nat.reduceLT, Nat.lt_add_one, Nat.zero_lt_succ, Nat.succ_pos, Nat.zero_le, beq_self_eq_true, b0, o1, o2, o3, o4, o5, List.take_length, b1, b2, b3, b4, b5, q1, q2, q3, q4, w1, decide_true]
  refine Cf.pu short_ok fun u1 => ?_
  simp (maxSteps := 4000000) only [vm, vl, Arg.get, cells, stor, boundO, resultsV, resV, partK, loadV, Vm.part, fillC, splice, reduceIte, reduceCtorEq, Nat.reduceEqDiff, Nat.reduceAdd, Nat.reduceSub, Nat.reduceMul, Nat.reduceLeDiff, ne_eq, not_false_eq_true, Int.reduceEq, Int.reduceLT, Int.reduceLE, Int.reduceNeg, Int.reduceToNat, Int.reduceGT, Int.reduceGE, Nat.reduceLT, Nat.lt_add_one, Nat.zero_lt_succ, Nat.succ_pos, Nat.zero_le, beq_self_eq_true, b0, o1, o2, o3, o4, o5, List.take_length, b1, b2, b3, b4, b5, q1, q2, q3, q4, w1, decide_true]
  refine Cf.pu (find_ok (by decide)) fun u2 => ?_
  simp (maxSteps := 4000000) only [vm, vl, Arg.get, cells, stor, boundO, resultsV, resV, partK, loadV, Vm.part, fillC, splice, reduceIte, reduceCtorEq, Nat.reduceEqDiff, Nat.reduceAdd, Nat.reduceSub, Nat.reduceMul, Nat.reduceLeDiff, ne_eq, not_false_eq_true, Int.reduceEq, Int.reduceLT, Int.reduceLE, Int.reduceNeg, Int.reduceToNat, Int.reduceGT, Int.reduceGE, Nat.reduceLT, Nat.lt_add_one, Nat.zero_lt_succ, Nat.succ_pos, Nat.zero_le, beq_self_eq_true, b0, o1, o2, o3, o4, o5, List.take_length, b1, b2, b3, b4, b5, q1, q2, q3, q4, w1, decide_true]
  refine Cf.pu (numN_ok l1) fun u3 => ?_
  simp (maxSteps := 4000000) only [vm, vl, Arg.get, cells, stor, boundO, resultsV, resV, partK, loadV, Vm.part, fillC, splice, reduceIte, reduceCtorEq, Nat.reduceEqDiff, Nat.reduceAdd, Nat.reduceSub, Nat.reduceMul, Nat.reduceLeDiff, ne_eq, not_false_eq_true, Int.reduceEq, Int.reduceLT, Int.reduceLE, Int.reduceNeg, Int.reduceToNat, Int.reduceGT, Int.reduceGE, Nat.reduceLT, Nat.lt_add_one, Nat.zero_lt_succ, Nat.succ_pos, Nat.zero_le, beq_self_eq_true, b0, o1, o2, o3, o4, o5, List.take_length, b1, b2, b3, b4, b5, q1, q2, q3, q4, w1, decide_true]
  refine Cf.pu months_ok fun u4 => ?_
  simp (maxSteps := 4000000) only [vm, vl, Arg.get, cells, stor, boundO, resultsV, resV, partK, loadV, Vm.part, fillC, splice, reduceIte, reduceCtorEq, Nat.reduceEqDiff, Nat.reduceAdd, Nat.reduceSub, Nat.reduceMul, Nat.reduceLeDiff, ne_eq, not_false_eq_true, Int.reduceEq, Int.reduceLT, Int.reduceLE, Int.reduceNeg, Int.reduceToNat, Int.reduceGT, Int.reduceGE, Nat.reduceLT, Nat.lt_add_one, Nat.zero_lt_succ, Nat.succ_pos, Nat.zero_le, beq_self_eq_true, b0, o1, o2, o3, o4, o5, List.take_length, b1, b2, b3, b4, b5, q1, q2, q3, q4, w1, decide_true]
  refine Cf.pu (find_ok (by decide)) fun u5 => ?_
  simp (maxSteps := 4000000) only [vm, vl, Arg.get, cells, stor, boundO, resultsV, resV, partK, loadV, Vm.part, fillC, splice, reduceIte, reduceCtorEq, Nat.reduceEqDiff, Nat.reduceAdd, Nat.reduceSub, Nat.reduceMul, Nat.reduceLeDiff, ne_eq, not_false_eq_true, Int.reduceEq, Int.reduceLT, Int.reduceLE, Int.reduceNeg, Int.reduceToNat, Int.reduceGT, Int.reduceGE, Nat.reduceLT, Nat.lt_add_one, Nat.zero_lt_succ, Nat.succ_pos, Nat.zero_le, beq_self_eq_true, b0, o1, o2, o3, o4, o5, List.take_length, b1, b2, b3, b4, b5, q1, q2, q3, q4, w1, decide_true]
  refine Cf.pu (numN_ok l2) fun u6 => ?_
  simp (maxSteps := 4000000) only [vm, vl, Arg.get, cells, stor, boundO, resultsV, resV, partK, loadV, Vm.part, fillC, splice, reduceIte, reduceCtorEq, Nat.reduceEqDiff, Nat.reduceAdd, Nat.reduceSub, Nat.reduceMul, Nat.reduceLeDiff, ne_eq, not_false_eq_true, Int.reduceEq, Int.reduceLT, Int.reduceLE, Int.reduceNeg, Int.reduceToNat, Int.reduceGT, Int.reduceGE, Nat.reduceLT, Nat.lt_add_one, Nat.zero_lt_succ, Nat.succ_pos, Nat.zero_le, beq_self_eq_true, b0, o1, o2, o3, o4, o5, List.take_length, b1, b2, b3, b4, b5, q1, q2, q3, q4, w1, decide_true]
  refine Cf.pu (clkN_ok l3) fun u7 => ?_
  simp (maxSteps := 4000000) only [vm, vl, Arg.get, cells, stor, boundO, resultsV, resV, partK, loadV, Vm.part, fillC, splice, reduceIte, reduceCtorEq, Nat.reduceEqDiff, Nat.reduceAdd, Nat.reduceSub, Nat.reduceMul, Nat.reduceLeDiff, ne_eq, not_false_eq_true, Int.reduceEq, Int.reduceLT, Int.reduceLE, Int.reduceNeg, Int.reduceToNat, Int.reduceGT, Int.reduceGE, Nat.reduceLT, Nat.lt_add_one, Nat.zero_lt_succ, Nat.succ_pos, Nat.zero_le, beq_self_eq_true, b0, o1, o2, o3, o4, o5, List.take_length, b1, b2, b3, b4, b5, q1, q2, q3, q4, w1, decide_true]
  refine Cf.pu (S _) fun u8 => ?_
  simp (maxSteps := 4000000) only [vm, vl, Arg.get, cells, stor, boundO, resultsV, resV, partK, loadV, Vm.part, fillC, splice, reduceIte, reduceCtorEq, Nat.reduceEqDiff, Nat.reduceAdd, Nat.reduceSub, Nat.reduceMul, Nat.reduceLeDiff, ne_eq, not_false_eq_true, Int.reduceEq, Int.reduceLT, Int.reduceLE, Int.reduceNeg, Int.reduceToNat, Int.reduceGT, Int.reduceGE, Nat.reduceLT, Nat.lt_add_one, Nat.zero_lt_succ, Nat.succ_pos, Nat.zero_le, beq_self_eq_true, b0, o1, o2, o3, o4, o5, List.take_length, b1, b2, b3, b4, b5, q1, q2, q3, q4, w1, decide_true]
theorem RParse_ok {s : Bs} (hl : s.length < 9223372036854775807) : Cf F L i_gatepostref02_Parse [.str s] h (Pu h (dateV (dateS s))) := by
  by_cases hc : c29 s
  · rw [← ref29 hc]; exact RParse29_ok hc
  · exact RParseN_ok hl hc
end Go.Proofs.YtfkebmdfcpnaeaaGreatDoor.Vh
end
section
set_option linter.unusedVariables false
set_option linter.unusedSimpArgs false
namespace Go.Proofs.YtfkebmdfcpnaeaaGreatDoor.Vh
open Go.Vm Go.Vt
attribute [local congr] wi_congr wg_congr wgd_congr wb_congr wl_congr cf_congr
variable {L : FuncId → List V → V → Prop} {h : Heap}
def matchR (s own : Bs) : Bool := match tagS own with
  | some (_, t) => (match split s with
    | some l => l.any (hitT t)
    | none => false)
  | none => false
theorem matchB_eq (s own : Bs) : matchB s own = (s == [42] || matchR s own) := rfl
theorem vals_name {l : List Fld} {a b : Bs} (h : low a = low b) : valsOf l a = valsOf l b := by unfold valsOf; rw [h]
/-- What the loop over the tags asks. -/
theorem rloop_ok {x : V} {t : Bs} {w ok is : Bool} {l : List Bs} {id : Nat} {u0 : Heap} {e : Env} (hx : ListV 1 x (strs l)) (hl : l.length < 1000000000) (hz : ∀ s ∈ l, s.length ≤ 9223372036854775807)
    (hb : ∀ r : Heap, (h ++ (u0 ++ r))[id]? = some (.box [.bool w, .str t])) (e7 : e 7 = .ptr id 0) (e8 : e 8 = .bool ok) (e9 : e 9 = x) (e10 : e 10 = .bool is) (e11 : e 11 = .int .i64 0) :
    Wl F L lc_gatepostref12_Unchanged_0 (q_gatepostref12_Unchanged_0 L (Pu h (.bool (ok && is && l.any (hitT t))))) e (h ++ u0) := by
  have l1 := fun {K : V → Heap → Prop} {h : Heap} => hx.len (F := F) (L := L) (e := E0) (K := K) (h := h)
  simp only [strs_len] at l1
  refine l_gatepostref12_Unchanged_0 (fun n e h' => ∃ i, n = l.length - i ∧ i ≤ l.length ∧ e 7 = .ptr id 0 ∧ e 8 = .bool ok ∧ e 9 = x ∧ e 10 = .bool is ∧ e 11 = .int .i64 i ∧ (l.take i).any (hitT t) = false ∧ ∃ r, h' = h ++ (u0 ++ r)) ?_ (n := l.length) ⟨0, by simp, by simp, e7, e8, e9, e10, e11, by simp, [], by simp⟩
  rintro n e h' ⟨i, rfl, hi, e7, e8, e9, e10, e11, an, r, rfl⟩
  simp only [b_gatepostref12_Unchanged_0]
  
  rcases list_at [] hi with ⟨hn, rfl, hd⟩ | ⟨hl1, hl2, hd, htk⟩
  · rw [List.take_length] at an
    rw [an, Bool.and_false]
    simp (maxSteps := 4000000) only [vm, vl, Arg.get, cells, stor, boundO, resultsV, resV, partK, loadV, Vm.part, fillC, splice, reduceIte, reduceCtorEq, Nat.reduceEqDiff, Nat.reduceAdd, Nat.reduceSub, Nat.reduceMul, Nat.reduceLeDiff, ne_eq, not_false_eq_true, Int.reduceEq, Int.reduceLT, Int.reduceLE, Int.reduceNeg, Int.reduceToNat, Int.reduceGT, Int.reduceGE, Nat.reduceLT, Nat.lt_add_one, Nat.zero_lt_succ, Nat.succ_pos, Nat.zero_le, beq_self_eq_true, k_gatepostref12_Unchanged_1, k_gatepostref12_Unchanged_3, k_gatepostref12_Unchanged_5, k_gatepostref12_Unchanged_4, k_gatepostref12_Unchanged_2, k_gatepostref12_Unchanged_0, e7, e8, e9, e10, e11, l1, hn, decide_false]
  · have wr := wrap64 (x := (i : Int) + 1) (by omega) (by omega)
    have i1 := fun {K : V → Heap → Prop} {h : Heap} => hx.at (F := F) (L := L) (e := E0) (K := K) (h := h) (i := i) (by rw [strs_len]; exact hl2)
    have a1 : (strs l).getD i (.tup []) = .str (l.getD i []) := by
      unfold strs; simp [List.getD_eq_getElem?_getD, List.getElem?_eq_getElem hl2]
    have hmem : l.getD i [] ∈ l := by
      rw [List.getD_eq_getElem?_getD, List.getElem?_eq_getElem hl2]; exact List.getElem_mem _
    cases ok with
    | false => simp (maxSteps := 4000000) only [vm, vl, Arg.get, cells, stor, boundO, resultsV, resV, partK, loadV, Vm.part, fillC, splice, reduceIte, reduceCtorEq, Nat.reduceEqDiff, Nat.reduceAdd, Nat.reduceSub, Nat.reduceMul, Nat.reduceLeDiff, ne_eq, not_false_eq_true, Int.reduceEq, Int.reduceLT, Int.reduceLE, Int.reduceNeg, Int.reduceToNat, Int.reduceGT, Int.reduceGE, Nat.reduceLT, Nat.lt_add_one, Nat.zero_lt_succ, Nat.succ_pos, Nat.zero_le, beq_self_eq_true, k_gatepostref12_Unchanged_1, k_gatepostref12_Unchanged_3, k_gatepostref12_Unchanged_5, k_gatepostref12_Unchanged_4, k_gatepostref12_Unchanged_2, k_gatepostref12_Unchanged_0, e7, e8, e9, e10, e11, l1, hl1, decide_true, Bool.false_and]
    | true =>
    cases is with
    | false => simp (maxSteps := 4000000) only [vm, vl, Arg.get, cells, stor, boundO, resultsV, resV, partK, loadV, Vm.part, fillC, splice, reduceIte, reduceCtorEq, Nat.reduceEqDiff, Nat.reduceAdd, Nat.reduceSub, Nat.reduceMul, Nat.reduceLeDiff, ne_eq, not_false_eq_true, Int.reduceEq, Int.reduceLT, Int.reduceLE, Int.reduceNeg, Int.reduceToNat, Int.reduceGT, Int.reduceGE, Nat.reduceLT, Nat.lt_add_one, Nat.zero_lt_succ, Nat.succ_pos, Nat.zero_le, beq_self_eq_true, k_gatepostref12_Unchanged_1, k_gatepostref12_Unchanged_3, k_gatepostref12_Unchanged_5, k_gatepostref12_Unchanged_4, k_gatepostref12_Unchanged_2, k_gatepostref12_Unchanged_0, e7, e8, e9, e10, e11, l1, hl1, decide_true, Bool.and_false, Bool.false_and]
    | true =>
    generalize hf : l.getD i [] = f at *
    simp (maxSteps := 4000000) only [vm, vl, Arg.get, cells, stor, boundO, resultsV, resV, partK, loadV, Vm.part, fillC, splice, reduceIte, reduceCtorEq, Nat.reduceEqDiff, Nat.reduceAdd, Nat.reduceSub, Nat.reduceMul, Nat.reduceLeDiff, ne_eq, not_false_eq_true, Int.reduceEq, Int.reduceLT, Int.reduceLE, Int.reduceNeg, Int.reduceToNat, Int.reduceGT, Int.reduceGE, Nat.reduceLT, Nat.lt_add_one, Nat.zero_lt_succ, Nat.succ_pos, Nat.zero_le, beq_self_eq_true, k_gatepostref12_Unchanged_1, k_gatepostref12_Unchanged_3, k_gatepostref12_Unchanged_5, k_gatepostref12_Unchanged_4, k_gatepostref12_Unchanged_2, k_gatepostref12_Unchanged_0, e7, e8, e9, e10, e11, l1, hl1, decide_true, i1, a1]
    refine Cf.pu (rTParse_ok (hz f hmem)) fun t1 => ?_
    have hit : hitT t f = match tagS f with | some (_, u) => u == t | none => false := rfl
    have nx : hitT t f = false → (l.take (i + 1)).any (hitT t) = false := fun hq => by rw [htk, List.any_append, an]; simp [hq]
    have yes : hitT t f = true → l.any (hitT t) = true := fun hq => List.any_eq_true.2 ⟨f, hmem, hq⟩
    cases e : tagS f with
    | none =>
      rw [e] at hit
      simp (maxSteps := 4000000) only [vm, vl, Arg.get, cells, stor, boundO, resultsV, resV, partK, loadV, Vm.part, fillC, splice, reduceIte, reduceCtorEq, Nat.reduceEqDiff, Nat.reduceAdd, Nat.reduceSub, Nat.reduceMul, Nat.reduceLeDiff, ne_eq, not_false_eq_true, Int.reduceEq, Int.reduceLT, Int.reduceLE, Int.reduceNeg, Int.reduceToNat, Int.reduceGT, Int.reduceGE, Nat.reduceLT, Nat.lt_add_one, Nat.zero_lt_succ, Nat.succ_pos, Nat.zero_le, beq_self_eq_true, k_gatepostref12_Unchanged_1, k_gatepostref12_Unchanged_3, k_gatepostref12_Unchanged_5, k_gatepostref12_Unchanged_4, k_gatepostref12_Unchanged_2, k_gatepostref12_Unchanged_0, tagV, wr]
      exact ⟨l.length - (i + 1), by omega, i + 1, rfl, hl2, rfl, nx hit, _, rfl⟩
    | some p =>
      obtain ⟨w', t'⟩ := p
      rw [e] at hit
      simp only at hit
      cases q : (t' == t) with
      | false =>
        rw [q] at hit
        simp (maxSteps := 4000000) only [vm, vl, Arg.get, cells, stor, boundO, resultsV, resV, partK, loadV, Vm.part, fillC, splice, reduceIte, reduceCtorEq, Nat.reduceEqDiff, Nat.reduceAdd, Nat.reduceSub, Nat.reduceMul, Nat.reduceLeDiff, ne_eq, not_false_eq_true, Int.reduceEq, Int.reduceLT, Int.reduceLE, Int.reduceNeg, Int.reduceToNat, Int.reduceGT, Int.reduceGE, Nat.reduceLT, Nat.lt_add_one, Nat.zero_lt_succ, Nat.succ_pos, Nat.zero_le, beq_self_eq_true, k_gatepostref12_Unchanged_1, k_gatepostref12_Unchanged_3, k_gatepostref12_Unchanged_5, k_gatepostref12_Unchanged_4, k_gatepostref12_Unchanged_2, k_gatepostref12_Unchanged_0, tagV, wr, hb, q]
        exact ⟨l.length - (i + 1), by omega, i + 1, rfl, hl2, rfl, nx hit, _, rfl⟩
      | true =>
        rw [q] at hit
        have := yes hit
        simp (maxSteps := 4000000) only [vm, vl, Arg.get, cells, stor, boundO, resultsV, resV, partK, loadV, Vm.part, fillC, splice, reduceIte, reduceCtorEq, Nat.reduceEqDiff, Nat.reduceAdd, Nat.reduceSub, Nat.reduceMul, Nat.reduceLeDiff, ne_eq, not_false_eq_true, Int.reduceEq, Int.reduceLT, Int.reduceLE, Int.reduceNeg, Int.reduceToNat, Int.reduceGT, Int.reduceGE, Nat.reduceLT, Nat.lt_add_one, Nat.zero_lt_succ, Nat.succ_pos, Nat.zero_le, beq_self_eq_true, k_gatepostref12_Unchanged_1, k_gatepostref12_Unchanged_3, k_gatepostref12_Unchanged_5, k_gatepostref12_Unchanged_4, k_gatepostref12_Unchanged_2, k_gatepostref12_Unchanged_0, tagV, wr, hb, q, this]
theorem get_mid {A C : Heap} {b : O} {n : Nat} (hn : n = A.length) : (A ++ b :: C)[n]? = some b := by subst hn; simp
theorem rU2_ok {x p y : V} {meth : Bs} {ms : List V} {s tag : Bs} {u : Heap} {e : Env} (hs : s.length < 500000000) (ht : tag.length ≤ 140737488355328) (hm : ms.length = 21) (h20 : ms.getD 20 (.tup []) = .str tag) :
    k_gatepostref12_Unchanged_2 L (Pu h (.bool (matchR s tag))) e (.ptr (h.length + 1) 0) (.str s) (h ++ (O.box [.str meth, p, y, x] :: O.box ms :: u)) := by
  
  unfold k_gatepostref12_Unchanged_2
  have hm20 : 20 + 1 ≤ ms.length := by omega
  simp (maxSteps := 4000000) only [vm, vl, Arg.get, cells, stor, boundO, resultsV, resV, partK, loadV, Vm.part, fillC, splice, reduceIte, reduceCtorEq, Nat.reduceEqDiff, Nat.reduceAdd, Nat.reduceSub, Nat.reduceMul, Nat.reduceLeDiff, ne_eq, not_false_eq_true, Int.reduceEq, Int.reduceLT, Int.reduceLE, Int.reduceNeg, Int.reduceToNat, Int.reduceGT, Int.reduceGE, Nat.reduceLT, Nat.lt_add_one, Nat.zero_lt_succ, Nat.succ_pos, Nat.zero_le, beq_self_eq_true, hm20, h20, hm]
  refine Cf.pu (rTParse_ok (by omega)) fun u1 => ?_
  have sc : ∀ (A : Heap) (B : List V) (n : Nat), n = A.length → (A ++ [O.box [.bool false, .str []]]).set n (O.box B) = A ++ [O.box B] := fun A B n e => by subst e; simp
  obtain ⟨w1, t1, k1, e1⟩ := tagV_eq (tagS tag)
  have mr : matchR s tag = (k1 && (match split s with | some l => l.any (hitT t1) | none => false)) := by
    unfold matchR
    cases e4 : tagS tag with
    | none =>
      rw [e4] at e1
      unfold tagV at e1
      injection e1 with e1; injection e1 with _ e1; injection e1 with e1; injection e1 with e1
      rw [← e1]; rfl
    | some q =>
      obtain ⟨w5, t5⟩ := q
      rw [e4] at e1
      have : w5 = w1 ∧ t5 = t1 ∧ k1 = true := by
        unfold tagV at e1; simp at e1; exact ⟨e1.1.1, e1.1.2, e1.2⟩
      obtain ⟨rfl, rfl, rfl⟩ := this
      rfl
  rw [e1, mr]
  simp (maxSteps := 4000000) only [vm, vl, Arg.get, cells, stor, boundO, resultsV, resV, partK, loadV, Vm.part, fillC, splice, reduceIte, reduceCtorEq, Nat.reduceEqDiff, Nat.reduceAdd, Nat.reduceSub, Nat.reduceMul, Nat.reduceLeDiff, ne_eq, not_false_eq_true, Int.reduceEq, Int.reduceLT, Int.reduceLE, Int.reduceNeg, Int.reduceToNat, Int.reduceGT, Int.reduceGE, Nat.reduceLT, Nat.lt_add_one, Nat.zero_lt_succ, Nat.succ_pos, Nat.zero_le, beq_self_eq_true]
  refine (rSplit_ok (by omega)).mono fun v h' hp => ?_
  obtain ⟨⟨r, rfl⟩, hp⟩ := hp
  have main : ∀ (x' : V) (l : List Bs) (is : Bool) (e' : Env) (hh : Heap), ListV 1 x' (strs l) → l.length < 1000000000 → (∀ f ∈ l, f.length ≤ 9223372036854775807) → hh = h ++ (O.box [.str meth, p, y, x] :: O.box ms :: (u ++ (u1 ++ (O.box [.bool w1, .str t1] :: r)))) → e' 7 = .ptr (h.length + (u.length + (u1.length + 2))) 0 → e' 8 = .bool k1 → e' 9 = x' → e' 10 = .bool is → e' 11 = .int .i64 0 →
      Wl F L lc_gatepostref12_Unchanged_0 (q_gatepostref12_Unchanged_0 L (Pu h (.bool (k1 && is && l.any (hitT t1))))) e' hh := by
    rintro x' l is e' hh hx' hl hz rfl a b c d f
    refine rloop_ok (w := w1) hx' hl hz (fun q => ?_) a b c d f
    have := get_mid (A := h ++ (O.box [.str meth, p, y, x] :: O.box ms :: (u ++ u1))) (b := O.box [.bool w1, .str t1]) (C := r ++ q) (n := h.length + (u.length + (u1.length + 2))) (by simp; omega)
    simpa using this
  rcases hp with ⟨e2, rfl⟩ | ⟨l, x', e2, rfl, hx'⟩
  · rw [e2]
    simp (maxSteps := 4000000) only [vm, vl, Arg.get, cells, stor, boundO, resultsV, resV, partK, loadV, Vm.part, fillC, splice, reduceIte, reduceCtorEq, Nat.reduceEqDiff, Nat.reduceAdd, Nat.reduceSub, Nat.reduceMul, Nat.reduceLeDiff, ne_eq, not_false_eq_true, Int.reduceEq, Int.reduceLT, Int.reduceLE, Int.reduceNeg, Int.reduceToNat, Int.reduceGT, Int.reduceGE, Nat.reduceLT, Nat.lt_add_one, Nat.zero_lt_succ, Nat.succ_pos, Nat.zero_le, beq_self_eq_true]
    rw [show (k1 && false) = (k1 && false && ([] : List Bs).any (hitT t1)) from by simp]
    exact main .nsl [] false _ _ (.inl ⟨rfl, rfl⟩) (by simp) (by simp) (by simp) rfl rfl rfl rfl rfl
  · rw [e2]
    have sl := split_mem e2
    have sn := splitG_len (Nat.le_refl _) e2
    simp (maxSteps := 4000000) only [vm, vl, Arg.get, cells, stor, boundO, resultsV, resV, partK, loadV, Vm.part, fillC, splice, reduceIte, reduceCtorEq, Nat.reduceEqDiff, Nat.reduceAdd, Nat.reduceSub, Nat.reduceMul, Nat.reduceLeDiff, ne_eq, not_false_eq_true, Int.reduceEq, Int.reduceLT, Int.reduceLE, Int.reduceNeg, Int.reduceToNat, Int.reduceGT, Int.reduceGE, Nat.reduceLT, Nat.lt_add_one, Nat.zero_lt_succ, Nat.succ_pos, Nat.zero_le, beq_self_eq_true]
    rw [show (k1 && l.any (hitT t1)) = (k1 && true && l.any (hitT t1)) from by simp]
    exact main x' l true _ _ hx' (by simp at sn; omega) (fun f hf => by have := sl f hf; omega) (by simp) rfl rfl rfl rfl rfl
theorem rU1_ok {x p y : V} {meth : Bs} {l : List Fld} {ms : List V} {m : Int} {u : Heap} (hx : ListV 2 x (flds l)) (hl : FewF l) (hsm : sumF l < 100000) (hll : l.length < 100000) (hm : ms.length = 21) (h16 : ms.getD 16 (.tup []) = .int .i64 m) :
    k_gatepostref12_Unchanged_1 L (Pu h (.bool (decide ((valsOf l nIMS).length = 1) && sinceB (joinS (valsOf l nIMS)) m))) (.ptr h.length 0) (.ptr (h.length + 1) 0) (h ++ (O.box [.str meth, p, y, x] :: O.box ms :: u)) := by
  
  unfold k_gatepostref12_Unchanged_1
  have n1 : low nIMS = low [105, 102, 45, 109, 111, 100, 105, 102, 105, 101, 100, 45, 115, 105, 110, 99, 101] := by decide +kernel
  have g2 : ∀ hh, Cf F L i_gatepostref04_Get [x, .str [105, 102, 45, 109, 111, 100, 105, 102, 105, 101, 100, 45, 115, 105, 110, 99, 101]] hh (Pu hh (getV l [105, 102, 45, 109, 111, 100, 105, 102, 105, 101, 100, 45, 115, 105, 110, 99, 101])) := fun hh => rGet_ok hx hll hl.2.1 (by decide) hsm
  have b2 := hl.2.2 nIMS
  have hm16 : 16 + 1 ≤ ms.length := by omega
  rw [vals_name n1] at b2 ⊢
  simp only [getV] at g2
  generalize joinS (valsOf l [105, 102, 45, 109, 111, 100, 105, 102, 105, 101, 100, 45, 115, 105, 110, 99, 101]) = s2 at *
  generalize (valsOf l [105, 102, 45, 109, 111, 100, 105, 102, 105, 101, 100, 45, 115, 105, 110, 99, 101]).length = n2 at *
  have P := fun hh => RParse_ok (L := L) (h := hh) (s := s2) (by omega)
  have en : decide ((n2 : Int) = 1) = decide (n2 = 1) := by rw [decide_eq_decide]; omega
  unfold sinceB
  simp (maxSteps := 4000000) only [vm, vl, Arg.get, cells, stor, boundO, resultsV, resV, partK, loadV, Vm.part, fillC, splice, reduceIte, reduceCtorEq, Nat.reduceEqDiff, Nat.reduceAdd, Nat.reduceSub, Nat.reduceMul, Nat.reduceLeDiff, ne_eq, not_false_eq_true, Int.reduceEq, Int.reduceLT, Int.reduceLE, Int.reduceNeg, Int.reduceToNat, Int.reduceGT, Int.reduceGE, Nat.reduceLT, Nat.lt_add_one, Nat.zero_lt_succ, Nat.succ_pos, Nat.zero_le, beq_self_eq_true]
  refine Cf.pu (g2 _) fun u2 => ?_
  simp (maxSteps := 4000000) only [vm, vl, Arg.get, cells, stor, boundO, resultsV, resV, partK, loadV, Vm.part, fillC, splice, reduceIte, reduceCtorEq, Nat.reduceEqDiff, Nat.reduceAdd, Nat.reduceSub, Nat.reduceMul, Nat.reduceLeDiff, ne_eq, not_false_eq_true, Int.reduceEq, Int.reduceLT, Int.reduceLE, Int.reduceNeg, Int.reduceToNat, Int.reduceGT, Int.reduceGE, Nat.reduceLT, Nat.lt_add_one, Nat.zero_lt_succ, Nat.succ_pos, Nat.zero_le, beq_self_eq_true]
  refine Cf.pu (P _) fun u3 => ?_
  cases e2 : dateS s2 with
  | none =>
    by_cases d : n2 = 1
    · have d' : (n2 : Int) = 1 := by omega
      simp (maxSteps := 4000000) only [vm, vl, Arg.get, cells, stor, boundO, resultsV, resV, partK, loadV, Vm.part, fillC, splice, reduceIte, reduceCtorEq, Nat.reduceEqDiff, Nat.reduceAdd, Nat.reduceSub, Nat.reduceMul, Nat.reduceLeDiff, ne_eq, not_false_eq_true, Int.reduceEq, Int.reduceLT, Int.reduceLE, Int.reduceNeg, Int.reduceToNat, Int.reduceGT, Int.reduceGE, Nat.reduceLT, Nat.lt_add_one, Nat.zero_lt_succ, Nat.succ_pos, Nat.zero_le, beq_self_eq_true, en, d, d', decide_true, dateV, Bool.and_false]
    · have d' : ¬ (n2 : Int) = 1 := by omega
      simp (maxSteps := 4000000) only [vm, vl, Arg.get, cells, stor, boundO, resultsV, resV, partK, loadV, Vm.part, fillC, splice, reduceIte, reduceCtorEq, Nat.reduceEqDiff, Nat.reduceAdd, Nat.reduceSub, Nat.reduceMul, Nat.reduceLeDiff, ne_eq, not_false_eq_true, Int.reduceEq, Int.reduceLT, Int.reduceLE, Int.reduceNeg, Int.reduceToNat, Int.reduceGT, Int.reduceGE, Nat.reduceLT, Nat.lt_add_one, Nat.zero_lt_succ, Nat.succ_pos, Nat.zero_le, beq_self_eq_true, en, d, d', decide_false, dateV, Bool.false_and]
  | some t =>
    by_cases d : n2 = 1
    · have d' : (n2 : Int) = 1 := by omega
      by_cases q : m ≥ 0
      · by_cases q2 : m ≤ t
        · simp (maxSteps := 4000000) only [vm, vl, Arg.get, cells, stor, boundO, resultsV, resV, partK, loadV, Vm.part, fillC, splice, reduceIte, reduceCtorEq, Nat.reduceEqDiff, Nat.reduceAdd, Nat.reduceSub, Nat.reduceMul, Nat.reduceLeDiff, ne_eq, not_false_eq_true, Int.reduceEq, Int.reduceLT, Int.reduceLE, Int.reduceNeg, Int.reduceToNat, Int.reduceGT, Int.reduceGE, Nat.reduceLT, Nat.lt_add_one, Nat.zero_lt_succ, Nat.succ_pos, Nat.zero_le, beq_self_eq_true, en, d, d', decide_true, dateV, hm16, h16, hm, q, q2, Bool.and_self]
        · simp (maxSteps := 4000000) only [vm, vl, Arg.get, cells, stor, boundO, resultsV, resV, partK, loadV, Vm.part, fillC, splice, reduceIte, reduceCtorEq, Nat.reduceEqDiff, Nat.reduceAdd, Nat.reduceSub, Nat.reduceMul, Nat.reduceLeDiff, ne_eq, not_false_eq_true, Int.reduceEq, Int.reduceLT, Int.reduceLE, Int.reduceNeg, Int.reduceToNat, Int.reduceGT, Int.reduceGE, Nat.reduceLT, Nat.lt_add_one, Nat.zero_lt_succ, Nat.succ_pos, Nat.zero_le, beq_self_eq_true, en, d, d', decide_true, decide_false, dateV, hm16, h16, hm, q, q2, Bool.and_false]
      · simp (maxSteps := 4000000) only [vm, vl, Arg.get, cells, stor, boundO, resultsV, resV, partK, loadV, Vm.part, fillC, splice, reduceIte, reduceCtorEq, Nat.reduceEqDiff, Nat.reduceAdd, Nat.reduceSub, Nat.reduceMul, Nat.reduceLeDiff, ne_eq, not_false_eq_true, Int.reduceEq, Int.reduceLT, Int.reduceLE, Int.reduceNeg, Int.reduceToNat, Int.reduceGT, Int.reduceGE, Nat.reduceLT, Nat.lt_add_one, Nat.zero_lt_succ, Nat.succ_pos, Nat.zero_le, beq_self_eq_true, en, d, d', decide_true, decide_false, dateV, hm16, h16, hm, q, Bool.and_false, Bool.false_and]
    · have d' : ¬ (n2 : Int) = 1 := by omega
      simp (maxSteps := 4000000) only [vm, vl, Arg.get, cells, stor, boundO, resultsV, resV, partK, loadV, Vm.part, fillC, splice, reduceIte, reduceCtorEq, Nat.reduceEqDiff, Nat.reduceAdd, Nat.reduceSub, Nat.reduceMul, Nat.reduceLeDiff, ne_eq, not_false_eq_true, Int.reduceEq, Int.reduceLT, Int.reduceLE, Int.reduceNeg, Int.reduceToNat, Int.reduceGT, Int.reduceGE, Nat.reduceLT, Nat.lt_add_one, Nat.zero_lt_succ, Nat.succ_pos, Nat.zero_le, beq_self_eq_true, en, d, d', decide_false, dateV, Bool.false_and]
theorem rU0_ok {x p y : V} {meth : Bs} {l : List Fld} {ms : List V} {m : Int} {tag : Bs} {u : Heap} {e : Env} (hx : ListV 2 x (flds l)) (hl : FewF l) (hsm : sumF l < 100000) (hll : l.length < 100000) (ht : tag.length ≤ 140737488355328) (hm : ms.length = 21) (h16 : ms.getD 16 (.tup []) = .int .i64 m) (h20 : ms.getD 20 (.tup []) = .str tag) (hmeth : meth = [71, 69, 84] ∨ meth = [72, 69, 65, 68]) :
    k_gatepostref12_Unchanged_0 L (Pu h (.bool (unchS meth l tag m))) e (.ptr h.length 0) (.ptr (h.length + 1) 0) (h ++ (O.box [.str meth, p, y, x] :: O.box ms :: u)) := by
  
  unfold k_gatepostref12_Unchanged_0
  have n1 : low nINM = low [105, 102, 45, 110, 111, 110, 101, 45, 109, 97, 116, 99, 104] := by decide +kernel
  have g1 : ∀ hh, Cf F L i_gatepostref04_Get [x, .str [105, 102, 45, 110, 111, 110, 101, 45, 109, 97, 116, 99, 104]] hh (Pu hh (getV l [105, 102, 45, 110, 111, 110, 101, 45, 109, 97, 116, 99, 104])) := fun hh => rGet_ok hx hll hl.2.1 (by decide) hsm
  have b1 := hl.2.2 nINM
  have e : unchS meth l tag m = if (valsOf l nINM).length > 0 then matchB (joinS (valsOf l nINM)) tag else decide ((valsOf l nIMS).length = 1) && sinceB (joinS (valsOf l nIMS)) m := by unfold unchS; rw [if_pos hmeth]
  rw [e]
  have K1 := fun u => rU1_ok (L := L) (h := h) (u := u) (p := p) (y := y) (meth := meth) hx hl hsm hll hm h16
  generalize (decide ((valsOf l nIMS).length = 1) && sinceB (joinS (valsOf l nIMS)) m) = B at *
  rw [vals_name n1] at b1 ⊢
  simp only [getV] at g1
  have K2 := fun u e => rU2_ok (L := L) (h := h) (u := u) (e := e) (x := x) (p := p) (y := y) (meth := meth) (s := joinS (valsOf l [105, 102, 45, 110, 111, 110, 101, 45, 109, 97, 116, 99, 104])) (tag := tag) b1 ht hm h20
  rw [matchB_eq]
  generalize joinS (valsOf l [105, 102, 45, 110, 111, 110, 101, 45, 109, 97, 116, 99, 104]) = s1 at *
  generalize (valsOf l [105, 102, 45, 110, 111, 110, 101, 45, 109, 97, 116, 99, 104]).length = n1 at *
  simp (maxSteps := 4000000) only [vm, vl, Arg.get, cells, stor, boundO, resultsV, resV, partK, loadV, Vm.part, fillC, splice, reduceIte, reduceCtorEq, Nat.reduceEqDiff, Nat.reduceAdd, Nat.reduceSub, Nat.reduceMul, Nat.reduceLeDiff, ne_eq, not_false_eq_true, Int.reduceEq, Int.reduceLT, Int.reduceLE, Int.reduceNeg, Int.reduceToNat, Int.reduceGT, Int.reduceGE, Nat.reduceLT, Nat.lt_add_one, Nat.zero_lt_succ, Nat.succ_pos, Nat.zero_le, beq_self_eq_true]
  refine Cf.pu (g1 _) fun u1 => ?_
  by_cases c : n1 > 0
  · have c' : (n1 : Int) > 0 := by omega
    rw [if_pos c]
    cases q : (s1 == [42]) with
    | true => simp (maxSteps := 4000000) only [vm, vl, Arg.get, cells, stor, boundO, resultsV, resV, partK, loadV, Vm.part, fillC, splice, reduceIte, reduceCtorEq, Nat.reduceEqDiff, Nat.reduceAdd, Nat.reduceSub, Nat.reduceMul, Nat.reduceLeDiff, ne_eq, not_false_eq_true, Int.reduceEq, Int.reduceLT, Int.reduceLE, Int.reduceNeg, Int.reduceToNat, Int.reduceGT, Int.reduceGE, Nat.reduceLT, Nat.lt_add_one, Nat.zero_lt_succ, Nat.succ_pos, Nat.zero_le, beq_self_eq_true, c', q, decide_true, Bool.true_or]
    | false =>
      simp (maxSteps := 4000000) only [vm, vl, Arg.get, cells, stor, boundO, resultsV, resV, partK, loadV, Vm.part, fillC, splice, reduceIte, reduceCtorEq, Nat.reduceEqDiff, Nat.reduceAdd, Nat.reduceSub, Nat.reduceMul, Nat.reduceLeDiff, ne_eq, not_false_eq_true, Int.reduceEq, Int.reduceLT, Int.reduceLE, Int.reduceNeg, Int.reduceToNat, Int.reduceGT, Int.reduceGE, Nat.reduceLT, Nat.lt_add_one, Nat.zero_lt_succ, Nat.succ_pos, Nat.zero_le, beq_self_eq_true, c', q, decide_true, Bool.false_or]
      exact K2 _ _
  · have c' : ¬ (n1 : Int) > 0 := by omega
    rw [if_neg c]
    simp (maxSteps := 4000000) only [vm, vl, Arg.get, cells, stor, boundO, resultsV, resV, partK, loadV, Vm.part, fillC, splice, reduceIte, reduceCtorEq, Nat.reduceEqDiff, Nat.reduceAdd, Nat.reduceSub, Nat.reduceMul, Nat.reduceLeDiff, ne_eq, not_false_eq_true, Int.reduceEq, Int.reduceLT, Int.reduceLE, Int.reduceNeg, Int.reduceToNat, Int.reduceGT, Int.reduceGE, Nat.reduceLT, Nat.lt_add_one, Nat.zero_lt_succ, Nat.succ_pos, Nat.zero_le, beq_self_eq_true, c', decide_false]
    exact K1 _
theorem rUnch_ok {x p y : V} {meth : Bs} {l : List Fld} {ms : List V} {m : Int} {tag : Bs} (hx : ListV 2 x (flds l)) (hl : FewF l) (hsm : sumF l < 100000) (hll : l.length < 100000) (ht : tag.length ≤ 140737488355328) (hm : ms.length = 21) (h16 : ms.getD 16 (.tup []) = .int .i64 m) (h20 : ms.getD 20 (.tup []) = .str tag) :
    Cf F L i_gatepostref12_Unchanged [.agg [.str meth, p, y, x], .agg ms] h (Pu h (.bool (unchS meth l tag m))) := by
  refine run_gatepostref12_Unchanged ?_
  simp only [p_gatepostref12_Unchanged]
  
  have rest := fun hm' e => rU0_ok (L := L) (h := h) (e := e) (u := []) (p := p) (y := y) (meth := meth) hx hl hsm hll ht hm h16 h20 hm'
  by_cases a1 : meth = [71, 69, 84]
  · have a1' : (meth == [71, 69, 84]) = true := beq_iff_eq.2 a1
    simp (maxSteps := 4000000) only [vm, vl, Arg.get, cells, stor, boundO, resultsV, resV, partK, loadV, Vm.part, fillC, splice, reduceIte, reduceCtorEq, Nat.reduceEqDiff, Nat.reduceAdd, Nat.reduceSub, Nat.reduceMul, Nat.reduceLeDiff, ne_eq, not_false_eq_true, Int.reduceEq, Int.reduceLT, Int.reduceLE, Int.reduceNeg, Int.reduceToNat, Int.reduceGT, Int.reduceGE, Nat.reduceLT, Nat.lt_add_one, Nat.zero_lt_succ, Nat.succ_pos, Nat.zero_le, beq_self_eq_true, a1', Bool.not_true]
    exact rest (.inl a1) _
  have a1' : (meth == [71, 69, 84]) = false := beq_eq_false_iff_ne.2 a1
  by_cases a2 : meth = [72, 69, 65, 68]
  · have a2' : (meth == [72, 69, 65, 68]) = true := beq_iff_eq.2 a2
    simp (maxSteps := 4000000) only [vm, vl, Arg.get, cells, stor, boundO, resultsV, resV, partK, loadV, Vm.part, fillC, splice, reduceIte, reduceCtorEq, Nat.reduceEqDiff, Nat.reduceAdd, Nat.reduceSub, Nat.reduceMul, Nat.reduceLeDiff, ne_eq, not_false_eq_true, Int.reduceEq, Int.reduceLT, Int.reduceLE, Int.reduceNeg, Int.reduceToNat, Int.reduceGT, Int.reduceGE, Nat.reduceLT, Nat.lt_add_one, Nat.zero_lt_succ, Nat.succ_pos, Nat.zero_le, beq_self_eq_true, a1', a2', Bool.not_true, Bool.not_false]
    exact rest (.inr a2) _
  · have a2' : (meth == [72, 69, 65, 68]) = false := beq_eq_false_iff_ne.2 a2
    have e : unchS meth l tag m = false := by unfold unchS; rw [if_neg (fun h => h.elim a1 a2)]
    rw [e]
    simp (maxSteps := 4000000) only [vm, vl, Arg.get, cells, stor, boundO, resultsV, resV, partK, loadV, Vm.part, fillC, splice, reduceIte, reduceCtorEq, Nat.reduceEqDiff, Nat.reduceAdd, Nat.reduceSub, Nat.reduceMul, Nat.reduceLeDiff, ne_eq, not_false_eq_true, Int.reduceEq, Int.reduceLT, Int.reduceLE, Int.reduceNeg, Int.reduceToNat, Int.reduceGT, Int.reduceGE, Nat.reduceLT, Nat.lt_add_one, Nat.zero_lt_succ, Nat.succ_pos, Nat.zero_le, beq_self_eq_true, a1', a2', Bool.not_true, Bool.not_false]
end Go.Proofs.YtfkebmdfcpnaeaaGreatDoor.Vh
end
section
set_option linter.unusedVariables false
set_option linter.unusedSimpArgs false
namespace Go.Proofs.YtfkebmdfcpnaeaaGreatDoor.Vh
open Go.Vm Go.Vt
attribute [local congr] wi_congr wg_congr wgd_congr wb_congr wl_congr cf_congr
variable {L : FuncId → List V → V → Prop} {h : Heap}
def applB (s tag : Bs) (m : Int) : Bool := match tagS s with
  | some a => strongB (some a) (tagS tag)
  | none => (match dateS s with
    | some d => decide (d = m)
    | none => false)
set_option maxHeartbeats 1000000 in
theorem rA1_ok {x p y : V} {meth : Bs} {ms : List V} {s tag : Bs} {m : Int} {u : Heap} (hs : s.length < 500000000) (ht : tag.length ≤ 140737488355328) (hm : ms.length = 21) (h16 : ms.getD 16 (.tup []) = .int .i64 m) (h20 : ms.getD 20 (.tup []) = .str tag) :
    k_gatepostref12_Applies_1 L (Pu h (.bool (applB s tag m))) (.ptr (h.length + 1) 0) (.str s) (h ++ (O.box [.str meth, p, y, x] :: O.box ms :: u)) := by
  
  unfold k_gatepostref12_Applies_1
  have hm20 : 20 + 1 ≤ ms.length := by omega
  have hm16 : 16 + 1 ≤ ms.length := by omega
  simp (maxSteps := 4000000) only [vm, vl, Arg.get, cells, stor, boundO, resultsV, resV, partK, loadV, Vm.part, fillC, splice, reduceIte, reduceCtorEq, Nat.reduceEqDiff, Nat.reduceAdd, Nat.reduceSub, Nat.reduceMul, Nat.reduceLeDiff, ne_eq, not_false_eq_true, Int.reduceEq, Int.reduceLT, Int.reduceLE, Int.reduceNeg, Int.reduceToNat, Int.reduceGT, Int.reduceGE, Nat.reduceLT, Nat.lt_add_one, Nat.zero_lt_succ, Nat.succ_pos, Nat.zero_le, beq_self_eq_true]
  refine Cf.pu (rTParse_ok (by omega)) fun u1 => ?_
  obtain ⟨w1, t1, k1, e1⟩ := tagV_eq (tagS s)
  obtain ⟨w2, t2, k2, e2⟩ := tagV_eq (tagS tag)
  rw [e1]
  simp (maxSteps := 4000000) only [vm, vl, Arg.get, cells, stor, boundO, resultsV, resV, partK, loadV, Vm.part, fillC, splice, reduceIte, reduceCtorEq, Nat.reduceEqDiff, Nat.reduceAdd, Nat.reduceSub, Nat.reduceMul, Nat.reduceLeDiff, ne_eq, not_false_eq_true, Int.reduceEq, Int.reduceLT, Int.reduceLE, Int.reduceNeg, Int.reduceToNat, Int.reduceGT, Int.reduceGE, Nat.reduceLT, Nat.lt_add_one, Nat.zero_lt_succ, Nat.succ_pos, Nat.zero_le, beq_self_eq_true, hm20, h20, hm]
  refine Cf.pu (rTParse_ok (by omega)) fun u2 => ?_
  rw [e2]
  unfold applB
  cases e3 : tagS s with
  | some q =>
    obtain ⟨w3, t3⟩ := q
    rw [e3] at e1
    have : w3 = w1 ∧ t3 = t1 ∧ k1 = true := by
      unfold tagV at e1; simp at e1; exact ⟨e1.1.1, e1.1.2, e1.2⟩
    obtain ⟨rfl, rfl, rfl⟩ := this
    cases e4 : tagS tag with
    | none =>
      rw [e4] at e2
      have : k2 = false := by unfold tagV at e2; injection e2 with e2; injection e2 with _ e2; injection e2 with e2; injection e2 with e2; exact e2.symm
      subst this
      simp (maxSteps := 4000000) only [vm, vl, Arg.get, cells, stor, boundO, resultsV, resV, partK, loadV, Vm.part, fillC, splice, reduceIte, reduceCtorEq, Nat.reduceEqDiff, Nat.reduceAdd, Nat.reduceSub, Nat.reduceMul, Nat.reduceLeDiff, ne_eq, not_false_eq_true, Int.reduceEq, Int.reduceLT, Int.reduceLE, Int.reduceNeg, Int.reduceToNat, Int.reduceGT, Int.reduceGE, Nat.reduceLT, Nat.lt_add_one, Nat.zero_lt_succ, Nat.succ_pos, Nat.zero_le, beq_self_eq_true, strongB]
    | some q =>
      obtain ⟨w5, t5⟩ := q
      rw [e4] at e2
      have : w5 = w2 ∧ t5 = t2 ∧ k2 = true := by
        unfold tagV at e2; simp at e2; exact ⟨e2.1.1, e2.1.2, e2.2⟩
      obtain ⟨rfl, rfl, rfl⟩ := this
      cases w3 <;> cases w5 <;> cases q : (t3 == t5) <;> simp (maxSteps := 4000000) only [vm, vl, Arg.get, cells, stor, boundO, resultsV, resV, partK, loadV, Vm.part, fillC, splice, reduceIte, reduceCtorEq, Nat.reduceEqDiff, Nat.reduceAdd, Nat.reduceSub, Nat.reduceMul, Nat.reduceLeDiff, ne_eq, not_false_eq_true, Int.reduceEq, Int.reduceLT, Int.reduceLE, Int.reduceNeg, Int.reduceToNat, Int.reduceGT, Int.reduceGE, Nat.reduceLT, Nat.lt_add_one, Nat.zero_lt_succ, Nat.succ_pos, Nat.zero_le, beq_self_eq_true, strongB, Bool.not_true, Bool.not_false, q] <;> try decide
  | none =>
    rw [e3] at e1
    have : k1 = false := by unfold tagV at e1; injection e1 with e1; injection e1 with _ e1; injection e1 with e1; injection e1 with e1; exact e1.symm
    subst this
    simp (maxSteps := 4000000) only [vm, vl, Arg.get, cells, stor, boundO, resultsV, resV, partK, loadV, Vm.part, fillC, splice, reduceIte, reduceCtorEq, Nat.reduceEqDiff, Nat.reduceAdd, Nat.reduceSub, Nat.reduceMul, Nat.reduceLeDiff, ne_eq, not_false_eq_true, Int.reduceEq, Int.reduceLT, Int.reduceLE, Int.reduceNeg, Int.reduceToNat, Int.reduceGT, Int.reduceGE, Nat.reduceLT, Nat.lt_add_one, Nat.zero_lt_succ, Nat.succ_pos, Nat.zero_le, beq_self_eq_true, k_gatepostref12_Applies_2]
    refine Cf.pu (RParse_ok (by omega)) fun u5 => ?_
    cases e5 : dateS s with
    | none => simp (maxSteps := 4000000) only [vm, vl, Arg.get, cells, stor, boundO, resultsV, resV, partK, loadV, Vm.part, fillC, splice, reduceIte, reduceCtorEq, Nat.reduceEqDiff, Nat.reduceAdd, Nat.reduceSub, Nat.reduceMul, Nat.reduceLeDiff, ne_eq, not_false_eq_true, Int.reduceEq, Int.reduceLT, Int.reduceLE, Int.reduceNeg, Int.reduceToNat, Int.reduceGT, Int.reduceGE, Nat.reduceLT, Nat.lt_add_one, Nat.zero_lt_succ, Nat.succ_pos, Nat.zero_le, beq_self_eq_true, dateV]
    | some d =>
      have ec : decide (m = d) = decide (d = m) := by rw [decide_eq_decide]; exact eq_comm
      simp (maxSteps := 4000000) only [vm, vl, Arg.get, cells, stor, boundO, resultsV, resV, partK, loadV, Vm.part, fillC, splice, reduceIte, reduceCtorEq, Nat.reduceEqDiff, Nat.reduceAdd, Nat.reduceSub, Nat.reduceMul, Nat.reduceLeDiff, ne_eq, not_false_eq_true, Int.reduceEq, Int.reduceLT, Int.reduceLE, Int.reduceNeg, Int.reduceToNat, Int.reduceGT, Int.reduceGE, Nat.reduceLT, Nat.lt_add_one, Nat.zero_lt_succ, Nat.succ_pos, Nat.zero_le, beq_self_eq_true, dateV, hm16, h16, hm, ec]
set_option maxHeartbeats 1000000 in
theorem rAppl_ok {x p y : V} {meth : Bs} {l : List Fld} {ms : List V} {m : Int} {tag : Bs} (hx : ListV 2 x (flds l)) (hl : FewF l) (hsm : sumF l < 100000) (hll : l.length < 100000) (ht : tag.length ≤ 140737488355328) (hm : ms.length = 21) (h16 : ms.getD 16 (.tup []) = .int .i64 m) (h20 : ms.getD 20 (.tup []) = .str tag) :
    Cf F L i_gatepostref12_Applies [.agg [.str meth, p, y, x], .agg ms] h (Pu h (.bool (applS meth l tag m))) := by
  refine run_gatepostref12_Applies ?_
  simp only [p_gatepostref12_Applies]
  
  have n1 : low nR = low [114, 97, 110, 103, 101] := by decide +kernel
  have n2 : low nIR = low [105, 102, 45, 114, 97, 110, 103, 101] := by decide +kernel
  have g1 : ∀ hh, Cf F L i_gatepostref04_Get [x, .str [114, 97, 110, 103, 101]] hh (Pu hh (getV l [114, 97, 110, 103, 101])) := fun hh => rGet_ok hx hll hl.2.1 (by simp) hsm
  have g2 : ∀ hh, Cf F L i_gatepostref04_Get [x, .str [105, 102, 45, 114, 97, 110, 103, 101]] hh (Pu hh (getV l [105, 102, 45, 114, 97, 110, 103, 101])) := fun hh => rGet_ok hx hll hl.2.1 (by simp) hsm
  have b2 := hl.2.2 nIR
  have ea : applS meth l tag m = if (valsOf l nR).length = 1 ∧ meth = [71, 69, 84] then (if (valsOf l nIR).length = 1 then applB (joinS (valsOf l nIR)) tag m else decide ((valsOf l nIR).length = 0)) else false := by
    unfold applS applB
    generalize tagS (joinS (valsOf l nIR)) = A
    generalize dateS (joinS (valsOf l nIR)) = D
    generalize tagS tag = T
    cases A <;> cases D <;> rfl
  rw [ea, vals_name n1, vals_name n2]
  rw [vals_name n2] at b2
  simp only [getV] at g1 g2
  have K1 := fun (u : Heap) => rA1_ok (L := L) (h := h) (x := x) (p := p) (y := y) (meth := meth) (u := u) (s := joinS (valsOf l [105, 102, 45, 114, 97, 110, 103, 101])) (tag := tag) b2 ht hm h16 h20
  generalize applB (joinS (valsOf l [105, 102, 45, 114, 97, 110, 103, 101])) tag m = AB at *
  generalize joinS (valsOf l [105, 102, 45, 114, 97, 110, 103, 101]) = s2 at *
  generalize joinS (valsOf l [114, 97, 110, 103, 101]) = s1 at *
  generalize (valsOf l [105, 102, 45, 114, 97, 110, 103, 101]).length = n2' at *
  generalize (valsOf l [114, 97, 110, 103, 101]).length = n1' at *
  simp (maxSteps := 4000000) only [vm, vl, Arg.get, cells, stor, boundO, resultsV, resV, partK, loadV, Vm.part, fillC, splice, reduceIte, reduceCtorEq, Nat.reduceEqDiff, Nat.reduceAdd, Nat.reduceSub, Nat.reduceMul, Nat.reduceLeDiff, ne_eq, not_false_eq_true, Int.reduceEq, Int.reduceLT, Int.reduceLE, Int.reduceNeg, Int.reduceToNat, Int.reduceGT, Int.reduceGE, Nat.reduceLT, Nat.lt_add_one, Nat.zero_lt_succ, Nat.succ_pos, Nat.zero_le, beq_self_eq_true]
  refine Cf.pu (g1 _) fun u1 => ?_
  by_cases a1 : meth = [71, 69, 84]
  case neg =>
    have a1' : (meth == [71, 69, 84]) = false := beq_eq_false_iff_ne.2 a1
    rw [if_neg (fun h => a1 h.2)]
    simp (maxSteps := 4000000) only [vm, vl, Arg.get, cells, stor, boundO, resultsV, resV, partK, loadV, Vm.part, fillC, splice, reduceIte, reduceCtorEq, Nat.reduceEqDiff, Nat.reduceAdd, Nat.reduceSub, Nat.reduceMul, Nat.reduceLeDiff, ne_eq, not_false_eq_true, Int.reduceEq, Int.reduceLT, Int.reduceLE, Int.reduceNeg, Int.reduceToNat, Int.reduceGT, Int.reduceGE, Nat.reduceLT, Nat.lt_add_one, Nat.zero_lt_succ, Nat.succ_pos, Nat.zero_le, beq_self_eq_true, a1', decide_true, Bool.not_true, Bool.not_false]
  have a1' : (meth == [71, 69, 84]) = true := beq_iff_eq.2 a1
  by_cases c1 : n1' = 1
  case neg =>
    have c1' : ¬ (n1' : Int) = 1 := by omega
    rw [if_neg (fun h => c1 h.1)]
    simp (maxSteps := 4000000) only [vm, vl, Arg.get, cells, stor, boundO, resultsV, resV, partK, loadV, Vm.part, fillC, splice, reduceIte, reduceCtorEq, Nat.reduceEqDiff, Nat.reduceAdd, Nat.reduceSub, Nat.reduceMul, Nat.reduceLeDiff, ne_eq, not_false_eq_true, Int.reduceEq, Int.reduceLT, Int.reduceLE, Int.reduceNeg, Int.reduceToNat, Int.reduceGT, Int.reduceGE, Nat.reduceLT, Nat.lt_add_one, Nat.zero_lt_succ, Nat.succ_pos, Nat.zero_le, beq_self_eq_true, c1', a1', decide_false, Bool.not_true, Bool.not_false]
  have c1' : (n1' : Int) = 1 := by omega
  rw [if_pos ⟨c1, a1⟩]
  simp (maxSteps := 4000000) only [vm, vl, Arg.get, cells, stor, boundO, resultsV, resV, partK, loadV, Vm.part, fillC, splice, reduceIte, reduceCtorEq, Nat.reduceEqDiff, Nat.reduceAdd, Nat.reduceSub, Nat.reduceMul, Nat.reduceLeDiff, ne_eq, not_false_eq_true, Int.reduceEq, Int.reduceLT, Int.reduceLE, Int.reduceNeg, Int.reduceToNat, Int.reduceGT, Int.reduceGE, Nat.reduceLT, Nat.lt_add_one, Nat.zero_lt_succ, Nat.succ_pos, Nat.zero_le, beq_self_eq_true, c1', a1', decide_true, Bool.not_true, Bool.not_false, k_gatepostref12_Applies_0]
  refine Cf.pu (g2 _) fun u2 => ?_
  by_cases c2 : n2' = 1
  case neg =>
    have c2' : ¬ (n2' : Int) = 1 := by omega
    have e0 : decide ((n2' : Int) = 0) = decide (n2' = 0) := by rw [decide_eq_decide]; omega
    rw [if_neg c2]
    simp (maxSteps := 4000000) only [vm, vl, Arg.get, cells, stor, boundO, resultsV, resV, partK, loadV, Vm.part, fillC, splice, reduceIte, reduceCtorEq, Nat.reduceEqDiff, Nat.reduceAdd, Nat.reduceSub, Nat.reduceMul, Nat.reduceLeDiff, ne_eq, not_false_eq_true, Int.reduceEq, Int.reduceLT, Int.reduceLE, Int.reduceNeg, Int.reduceToNat, Int.reduceGT, Int.reduceGE, Nat.reduceLT, Nat.lt_add_one, Nat.zero_lt_succ, Nat.succ_pos, Nat.zero_le, beq_self_eq_true, c2', decide_false, Bool.not_false, e0]
  have c2' : (n2' : Int) = 1 := by omega
  rw [if_pos c2]
  simp (maxSteps := 4000000) only [vm, vl, Arg.get, cells, stor, boundO, resultsV, resV, partK, loadV, Vm.part, fillC, splice, reduceIte, reduceCtorEq, Nat.reduceEqDiff, Nat.reduceAdd, Nat.reduceSub, Nat.reduceMul, Nat.reduceLeDiff, ne_eq, not_false_eq_true, Int.reduceEq, Int.reduceLT, Int.reduceLE, Int.reduceNeg, Int.reduceToNat, Int.reduceGT, Int.reduceGE, Nat.reduceLT, Nat.lt_add_one, Nat.zero_lt_succ, Nat.succ_pos, Nat.zero_le, beq_self_eq_true, c2', decide_true, Bool.not_true]
  exact K1 _
end Go.Proofs.YtfkebmdfcpnaeaaGreatDoor.Vh
end
section
set_option linter.unusedVariables false
set_option linter.unusedSimpArgs false
namespace Go.Proofs.YtfkebmdfcpnaeaaGreatDoor.Vh
open Go.Vm Go.Vt
attribute [local congr] wi_congr wg_congr wgd_congr wb_congr wl_congr cf_congr
variable {L : FuncId → List V → V → Prop} {h : Heap}
def modL (m : Int) : List Fld := if m ≥ 0 ∧ m < 253402300800 then [(nIMS, fmtS m)] else []
def asksL (tag : Bs) (m : Int) : List Fld := (if (tagS tag).isSome then [(nINM, tag)] else []) ++ modL m
theorem app_first {hh : Heap} {a b : V} : appV hh 2 32 false .nsl (.sl 2 .full [.agg [a, b]]) = some (.sl 2 (.tip hh.length) [.agg [a, b]], hh ++ [.tip 2]) := by
  have r : room 1 32 = true := by decide
  simp [appV, srcElems, newRowV, flat, cells, r]
theorem vasks0_ok (HI : ItoaOk L) {x : V} {hh : Heap} {ms : List V} {m : Int} {l0 : List Fld} (G : Grow 2 h hh x (flds l0)) (hb : hh[h.length]? = some (.box ms)) (hl : l0.length ≤ 1) (hm : ms.length = 21) (h16 : ms.getD 16 (.tup []) = .int .i64 m) :
    k_validator_Asks_0 L (fun v h' => Grow 2 h h' v (flds (l0 ++ modL m))) (.ptr h.length 0) x hh := by
  
  unfold k_validator_Asks_0
  have hm16 : 16 + 1 ≤ ms.length := by omega
  by_cases c1 : m ≥ 0
  case neg =>
    have e : modL m = [] := by unfold modL; rw [if_neg (fun h => c1 h.1)]
    rw [e, List.append_nil]
    simp (maxSteps := 4000000) only [vm, vl, Arg.get, cells, stor, boundO, resultsV, resV, partK, loadV, Vm.part, fillC, splice, reduceIte, reduceCtorEq, Nat.reduceEqDiff, Nat.reduceAdd, Nat.reduceSub, Nat.reduceMul, Nat.reduceLeDiff, ne_eq, not_false_eq_true, Int.reduceEq, Int.reduceLT, Int.reduceLE, Int.reduceNeg, Int.reduceToNat, Int.reduceGT, Int.reduceGE, Nat.reduceLT, Nat.lt_add_one, Nat.zero_lt_succ, Nat.succ_pos, Nat.zero_le, beq_self_eq_true, k_validator_Asks_1, k_validator_Asks_0, hb, hm16, h16, hm, c1, decide_false, Nat.zero_add]
    exact G
  by_cases c2 : m < 253402300800
  case neg =>
    have e : modL m = [] := by unfold modL; rw [if_neg (fun h => c2 h.2)]
    rw [e, List.append_nil]
    simp (maxSteps := 4000000) only [vm, vl, Arg.get, cells, stor, boundO, resultsV, resV, partK, loadV, Vm.part, fillC, splice, reduceIte, reduceCtorEq, Nat.reduceEqDiff, Nat.reduceAdd, Nat.reduceSub, Nat.reduceMul, Nat.reduceLeDiff, ne_eq, not_false_eq_true, Int.reduceEq, Int.reduceLT, Int.reduceLE, Int.reduceNeg, Int.reduceToNat, Int.reduceGT, Int.reduceGE, Nat.reduceLT, Nat.lt_add_one, Nat.zero_lt_succ, Nat.succ_pos, Nat.zero_le, beq_self_eq_true, k_validator_Asks_1, k_validator_Asks_0, hb, hm16, h16, hm, c1, c2, decide_true, decide_false, Nat.zero_add]
    exact G
  have e : modL m = [(nIMS, fmtS m)] := by unfold modL; rw [if_pos ⟨c1, c2⟩]
  rw [e]
  simp (maxSteps := 4000000) only [vm, vl, Arg.get, cells, stor, boundO, resultsV, resV, partK, loadV, Vm.part, fillC, splice, reduceIte, reduceCtorEq, Nat.reduceEqDiff, Nat.reduceAdd, Nat.reduceSub, Nat.reduceMul, Nat.reduceLeDiff, ne_eq, not_false_eq_true, Int.reduceEq, Int.reduceLT, Int.reduceLE, Int.reduceNeg, Int.reduceToNat, Int.reduceGT, Int.reduceGE, Nat.reduceLT, Nat.lt_add_one, Nat.zero_lt_succ, Nat.succ_pos, Nat.zero_le, beq_self_eq_true, k_validator_Asks_1, k_validator_Asks_0, hb, hm16, h16, hm, c1, c2, decide_true, Nat.zero_add]
  refine Cf.pu (Format_ok HI (by omega) (by omega) (by omega)) fun u => ?_
  obtain ⟨x', h'', ha, G3⟩ := (G.more (t := u)).app (bytes := 32) (y := fldV (nIMS, fmtS m)) (by rw [flds_len]; omega)
  rw [flds_app] at G3
  simp only [fldV, nIMS] at ha
  simp (maxSteps := 4000000) only [vm, vl, Arg.get, cells, stor, boundO, resultsV, resV, partK, loadV, Vm.part, fillC, splice, reduceIte, reduceCtorEq, Nat.reduceEqDiff, Nat.reduceAdd, Nat.reduceSub, Nat.reduceMul, Nat.reduceLeDiff, ne_eq, not_false_eq_true, Int.reduceEq, Int.reduceLT, Int.reduceLE, Int.reduceNeg, Int.reduceToNat, Int.reduceGT, Int.reduceGE, Nat.reduceLT, Nat.lt_add_one, Nat.zero_lt_succ, Nat.succ_pos, Nat.zero_le, beq_self_eq_true, k_validator_Asks_1, k_validator_Asks_0, ha]
  exact G3
theorem vAsks_ok (HI : ItoaOk L) {ms : List V} {m : Int} {tag : Bs} (ht : tag.length ≤ 140737488355328) (hm : ms.length = 21) (h16 : ms.getD 16 (.tup []) = .int .i64 m) (h20 : ms.getD 20 (.tup []) = .str tag) :
    Cf F L i_validator_Asks [.agg ms] h (fun v h' => Grow 2 h h' v (flds (asksL tag m))) := by
  refine run_validator_Asks ?_
  simp only [p_validator_Asks]
  
  have hm20 : 20 + 1 ≤ ms.length := by omega
  have n1 : (O.box ms :: ([] : Heap)) = [O.box ms] := rfl
  simp (maxSteps := 4000000) only [vm, vl, Arg.get, cells, stor, boundO, resultsV, resV, partK, loadV, Vm.part, fillC, splice, reduceIte, reduceCtorEq, Nat.reduceEqDiff, Nat.reduceAdd, Nat.reduceSub, Nat.reduceMul, Nat.reduceLeDiff, ne_eq, not_false_eq_true, Int.reduceEq, Int.reduceLT, Int.reduceLE, Int.reduceNeg, Int.reduceToNat, Int.reduceGT, Int.reduceGE, Nat.reduceLT, Nat.lt_add_one, Nat.zero_lt_succ, Nat.succ_pos, Nat.zero_le, beq_self_eq_true, hm20, h20, hm]
  refine Cf.pu (TParse_ok (by omega)) fun u1 => ?_
  obtain ⟨w1, t1, k1, e1⟩ := tagV_eq (tagS tag)
  have ek : k1 = (tagS tag).isSome := by
    cases e4 : tagS tag with
    | none => rw [e4] at e1; unfold tagV at e1; simp at e1; simp [e1.2]
    | some q => obtain ⟨w5, t5⟩ := q; rw [e4] at e1; unfold tagV at e1; simp at e1; simp [e1.2]
  unfold asksL
  rw [← ek, e1]
  cases k1 with
  | false =>
    simp (maxSteps := 4000000) only [vm, vl, Arg.get, cells, stor, boundO, resultsV, resV, partK, loadV, Vm.part, fillC, splice, reduceIte, reduceCtorEq, Nat.reduceEqDiff, Nat.reduceAdd, Nat.reduceSub, Nat.reduceMul, Nat.reduceLeDiff, ne_eq, not_false_eq_true, Int.reduceEq, Int.reduceLT, Int.reduceLE, Int.reduceNeg, Int.reduceToNat, Int.reduceGT, Int.reduceGE, Nat.reduceLT, Nat.lt_add_one, Nat.zero_lt_succ, Nat.succ_pos, Nat.zero_le, beq_self_eq_true]
    refine vasks0_ok HI (l0 := []) ?_ ?_ (by simp) hm h16
    · exact Grow.nil
    · simp [List.getElem?_append]
  | true =>
    simp (maxSteps := 4000000) only [vm, vl, Arg.get, cells, stor, boundO, resultsV, resV, partK, loadV, Vm.part, fillC, splice, reduceIte, reduceCtorEq, Nat.reduceEqDiff, Nat.reduceAdd, Nat.reduceSub, Nat.reduceMul, Nat.reduceLeDiff, ne_eq, not_false_eq_true, Int.reduceEq, Int.reduceLT, Int.reduceLE, Int.reduceNeg, Int.reduceToNat, Int.reduceGT, Int.reduceGE, Nat.reduceLT, Nat.lt_add_one, Nat.zero_lt_succ, Nat.succ_pos, Nat.zero_le, beq_self_eq_true, app_first, hm20, h20, hm]
    refine vasks0_ok HI (l0 := [(nINM, tag)]) ?_ ?_ (by simp) hm h16
    · exact ⟨⟨_, rfl⟩, .inr ⟨by simp [flds], _, rfl, by simp, by simp [List.getElem?_append, flds, fldV, flat, cells]⟩⟩
    · simp [List.getElem?_append]
theorem rFmt_ok {hh : Heap} {m : Int} (h0 : 0 ≤ m) (h1 : m / 86400 ≤ 2932896) : Cf F L i_gatepostref02_Format [.int .i64 m] hh (Pu hh (.str (fmtS m))) := by
  have := RFormat_ok (L := L) (h := hh) (sec := m)
  rwa [if_pos ⟨h0, h1⟩] at this
theorem rasks0_ok {x : V} {hh : Heap} {ms : List V} {m : Int} {l0 : List Fld} (G : Grow 2 h hh x (flds l0)) (hb : hh[h.length]? = some (.box ms)) (hl : l0.length ≤ 1) (hm : ms.length = 21) (h16 : ms.getD 16 (.tup []) = .int .i64 m) :
    k_gatepostref12_Asks_0 L (fun v h' => Grow 2 h h' v (flds (l0 ++ modL m))) (.ptr h.length 0) x hh := by
  
  unfold k_gatepostref12_Asks_0
  have hm16 : 16 + 1 ≤ ms.length := by omega
  by_cases c1 : m ≥ 0
  case neg =>
    have e : modL m = [] := by unfold modL; rw [if_neg (fun h => c1 h.1)]
    rw [e, List.append_nil]
    simp (maxSteps := 4000000) only [vm, vl, Arg.get, cells, stor, boundO, resultsV, resV, partK, loadV, Vm.part, fillC, splice, reduceIte, reduceCtorEq, Nat.reduceEqDiff, Nat.reduceAdd, Nat.reduceSub, Nat.reduceMul, Nat.reduceLeDiff, ne_eq, not_false_eq_true, Int.reduceEq, Int.reduceLT, Int.reduceLE, Int.reduceNeg, Int.reduceToNat, Int.reduceGT, Int.reduceGE, Nat.reduceLT, Nat.lt_add_one, Nat.zero_lt_succ, Nat.succ_pos, Nat.zero_le, beq_self_eq_true, k_gatepostref12_Asks_1, k_gatepostref12_Asks_0, hb, hm16, h16, hm, c1, decide_false, Nat.zero_add]
    exact G
  by_cases c2 : m < 253402300800
  case neg =>
    have e : modL m = [] := by unfold modL; rw [if_neg (fun h => c2 h.2)]
    rw [e, List.append_nil]
    simp (maxSteps := 4000000) only [vm, vl, Arg.get, cells, stor, boundO, resultsV, resV, partK, loadV, Vm.part, fillC, splice, reduceIte, reduceCtorEq, Nat.reduceEqDiff, Nat.reduceAdd, Nat.reduceSub, Nat.reduceMul, Nat.reduceLeDiff, ne_eq, not_false_eq_true, Int.reduceEq, Int.reduceLT, Int.reduceLE, Int.reduceNeg, Int.reduceToNat, Int.reduceGT, Int.reduceGE, Nat.reduceLT, Nat.lt_add_one, Nat.zero_lt_succ, Nat.succ_pos, Nat.zero_le, beq_self_eq_true, k_gatepostref12_Asks_1, k_gatepostref12_Asks_0, hb, hm16, h16, hm, c1, c2, decide_true, decide_false, Nat.zero_add]
    exact G
  have e : modL m = [(nIMS, fmtS m)] := by unfold modL; rw [if_pos ⟨c1, c2⟩]
  rw [e]
  simp (maxSteps := 4000000) only [vm, vl, Arg.get, cells, stor, boundO, resultsV, resV, partK, loadV, Vm.part, fillC, splice, reduceIte, reduceCtorEq, Nat.reduceEqDiff, Nat.reduceAdd, Nat.reduceSub, Nat.reduceMul, Nat.reduceLeDiff, ne_eq, not_false_eq_true, Int.reduceEq, Int.reduceLT, Int.reduceLE, Int.reduceNeg, Int.reduceToNat, Int.reduceGT, Int.reduceGE, Nat.reduceLT, Nat.lt_add_one, Nat.zero_lt_succ, Nat.succ_pos, Nat.zero_le, beq_self_eq_true, k_gatepostref12_Asks_1, k_gatepostref12_Asks_0, hb, hm16, h16, hm, c1, c2, decide_true, Nat.zero_add]
  refine Cf.pu (rFmt_ok (by omega) (by omega)) fun u => ?_
  obtain ⟨x', h'', ha, G3⟩ := (G.more (t := u)).app (bytes := 32) (y := fldV (nIMS, fmtS m)) (by rw [flds_len]; omega)
  rw [flds_app] at G3
  simp only [fldV, nIMS] at ha
  simp (maxSteps := 4000000) only [vm, vl, Arg.get, cells, stor, boundO, resultsV, resV, partK, loadV, Vm.part, fillC, splice, reduceIte, reduceCtorEq, Nat.reduceEqDiff, Nat.reduceAdd, Nat.reduceSub, Nat.reduceMul, Nat.reduceLeDiff, ne_eq, not_false_eq_true, Int.reduceEq, Int.reduceLT, Int.reduceLE, Int.reduceNeg, Int.reduceToNat, Int.reduceGT, Int.reduceGE, Nat.reduceLT, Nat.lt_add_one, Nat.zero_lt_succ, Nat.succ_pos, Nat.zero_le, beq_self_eq_true, k_gatepostref12_Asks_1, k_gatepostref12_Asks_0, ha]
  exact G3
theorem rAsks_ok {ms : List V} {m : Int} {tag : Bs} (ht : tag.length ≤ 140737488355328) (hm : ms.length = 21) (h16 : ms.getD 16 (.tup []) = .int .i64 m) (h20 : ms.getD 20 (.tup []) = .str tag) :
    Cf F L i_gatepostref12_Asks [.agg ms] h (fun v h' => Grow 2 h h' v (flds (asksL tag m))) := by
  refine run_gatepostref12_Asks ?_
  simp only [p_gatepostref12_Asks]
  
  have hm20 : 20 + 1 ≤ ms.length := by omega
  have n1 : (O.box ms :: ([] : Heap)) = [O.box ms] := rfl
  simp (maxSteps := 4000000) only [vm, vl, Arg.get, cells, stor, boundO, resultsV, resV, partK, loadV, Vm.part, fillC, splice, reduceIte, reduceCtorEq, Nat.reduceEqDiff, Nat.reduceAdd, Nat.reduceSub, Nat.reduceMul, Nat.reduceLeDiff, ne_eq, not_false_eq_true, Int.reduceEq, Int.reduceLT, Int.reduceLE, Int.reduceNeg, Int.reduceToNat, Int.reduceGT, Int.reduceGE, Nat.reduceLT, Nat.lt_add_one, Nat.zero_lt_succ, Nat.succ_pos, Nat.zero_le, beq_self_eq_true, hm20, h20, hm]
  refine Cf.pu (rTParse_ok (by omega)) fun u1 => ?_
  obtain ⟨w1, t1, k1, e1⟩ := tagV_eq (tagS tag)
  have ek : k1 = (tagS tag).isSome := by
    cases e4 : tagS tag with
    | none => rw [e4] at e1; unfold tagV at e1; simp at e1; simp [e1.2]
    | some q => obtain ⟨w5, t5⟩ := q; rw [e4] at e1; unfold tagV at e1; simp at e1; simp [e1.2]
  unfold asksL
  rw [← ek, e1]
  cases k1 with
  | false =>
    simp (maxSteps := 4000000) only [vm, vl, Arg.get, cells, stor, boundO, resultsV, resV, partK, loadV, Vm.part, fillC, splice, reduceIte, reduceCtorEq, Nat.reduceEqDiff, Nat.reduceAdd, Nat.reduceSub, Nat.reduceMul, Nat.reduceLeDiff, ne_eq, not_false_eq_true, Int.reduceEq, Int.reduceLT, Int.reduceLE, Int.reduceNeg, Int.reduceToNat, Int.reduceGT, Int.reduceGE, Nat.reduceLT, Nat.lt_add_one, Nat.zero_lt_succ, Nat.succ_pos, Nat.zero_le, beq_self_eq_true]
    refine rasks0_ok (l0 := []) ?_ ?_ (by simp) hm h16
    · exact Grow.nil
    · simp [List.getElem?_append]
  | true =>
    simp (maxSteps := 4000000) only [vm, vl, Arg.get, cells, stor, boundO, resultsV, resV, partK, loadV, Vm.part, fillC, splice, reduceIte, reduceCtorEq, Nat.reduceEqDiff, Nat.reduceAdd, Nat.reduceSub, Nat.reduceMul, Nat.reduceLeDiff, ne_eq, not_false_eq_true, Int.reduceEq, Int.reduceLT, Int.reduceLE, Int.reduceNeg, Int.reduceToNat, Int.reduceGT, Int.reduceGE, Nat.reduceLT, Nat.lt_add_one, Nat.zero_lt_succ, Nat.succ_pos, Nat.zero_le, beq_self_eq_true, app_first, hm20, h20, hm]
    refine rasks0_ok (l0 := [(nINM, tag)]) ?_ ?_ (by simp) hm h16
    · exact ⟨⟨_, rfl⟩, .inr ⟨by simp [flds], _, rfl, by simp, by simp [List.getElem?_append, flds, fldV, flat, cells]⟩⟩
    · simp [List.getElem?_append]
end Go.Proofs.YtfkebmdfcpnaeaaGreatDoor.Vh
end
section
set_option linter.unusedVariables false
set_option linter.unusedSimpArgs false
namespace Go.Proofs.YtfkebmdfcpnaeaaGreatDoor.Vh
open Go.Vm Go.Vt
theorem rv_texts {B : Nat} {G : Gh} {w : World} {x : V} {l : List Bs} {v : Value} (hx : ListV 1 x (strs l)) (h : Rv B G w x v) : (l = [] ∧ ∃ a cap, v = .slice a 0 cap) ∨ (l ≠ [] ∧ ∃ b o cap, v = .slice (some ⟨b, o, none⟩) l.length cap ∧ l.length ≤ cap ∧ ∀ (j : Nat) s, l[j]? = some s → w.cell? ⟨b, o + j, none⟩ = some (.string ⟨s.toArray⟩)) := by
  rcases hx with ⟨he, rfl⟩ | ⟨own, rfl⟩
  · have : l = [] := by simpa [strs] using he
    subst this
    cases h
    exact .inl ⟨rfl, _, _, rfl⟩
  · generalize he : strs l = es at h
    cases h with
    | sl vs hsz hsp hcap hc h1 hr hfull htip =>
      rename_i a cap
      subst he
      rcases List.eq_nil_or_concat l with rfl | hcc
      · exact .inl ⟨rfl, _, _, rfl⟩
      · have hne : l ≠ [] := by rintro rfl; obtain ⟨l', b, h⟩ := hcc; simp at h
        have ha := hsp (by simpa [strs] using hne)
        have hf : flat (strs l) = strs l := flat_ones (by intro e he; obtain ⟨s, _, rfl⟩ := List.mem_map.1 he; rfl)
        obtain ⟨ab, ao, asp⟩ := a
        simp only at ha; subst ha
        refine .inr ⟨hne, ab, ao, cap, by rw [strs_len], by rwa [strs_len] at hcap, fun j s hj => ?_⟩
        have hjl := (List.getElem?_eq_some_iff.1 hj).1
        have h2 := (hc j (by rw [hf, strs_len]; exact hjl)).2
        have h3 := hr j (.str s) (by rw [hf]; simp [strs, hj])
        simp only at h2
        generalize hv : vs j = vj at h2 h3
        cases h3
        exact h2
def LJoin : FuncId → List V → V → Prop := fun f args v => f = i_strings_Join ∧ ∃ (x : V) (l : List Bs), ListV 1 x (strs l) ∧ l.length ≤ 140737488355328 ∧ (joinS l).length ≤ 140737488355328 ∧ args = [x, .str [44, 32]] ∧ v = .str (joinS l)
theorem join_at (w0 : World) : LibAt Tryz.prog w0 LJoin := by
  rintro f args v ⟨rfl, x, l, hx, hl, hj, rfl, rfl⟩
  refine ⟨by kernel_rfl, good_below fun B G h w vs hr hb hv => ?_⟩
  obtain ⟨a, b, rfl, ha, hs⟩ := rvs_two hv
  cases hs
  rcases rv_texts hx ha with ⟨rfl, a', cap, rfl⟩ | ⟨hne, bk, o, cap, rfl, hcap, hc⟩
  · refine (Tryz.strings_Join_none a' cap _ w).mono fun e w' ⟨h1, h2⟩ => ?_
    subst h2
    exact ⟨_, h1, .str [], Go.RowKit.Below.refl ..⟩
  · have hlt : bk < w.heap.size := by
      obtain ⟨s, hs⟩ : ∃ s, l[0]? = some s := by
        cases l with
        | nil => exact absurd rfl hne
        | cons s _ => exact ⟨s, rfl⟩
      exact World.block_lt_of_cell? w _ (hc 0 s hs)
    have hm : (l.map fun s : Bs => (⟨s.toArray⟩ : ByteArray)).map (fun x => x.data.toList) = l := by rw [List.map_map]; exact List.map_id' l
    have := Tryz.strings_Join bk o cap (l.map fun s => ⟨s.toArray⟩) ⟨[44, 32].toArray⟩ w (by
        intro j x hx
        rw [List.getElem?_map] at hx
        obtain ⟨s, h1, rfl⟩ := Option.map_eq_some_iff.1 hx
        exact hc j s h1) hlt (by simpa using hl) (by simpa using hcap) (by rw [hm]; exact hj)
    rw [hm, List.length_map] at this
    exact this.mono fun e w' ⟨h1, h2⟩ => ⟨_, h1, .str _, h2⟩
theorem joinOk {L : FuncId → List V → V → Prop} (hL : ∀ f a v, LJoin f a v → L f a v) : JoinOk L := by
  intro x l h hx hl hj
  exact wlib (hL _ _ _ ⟨rfl, x, l, hx, by omega, hj, rfl, rfl⟩) ⟨rfl, [], by simp⟩
end Go.Proofs.YtfkebmdfcpnaeaaGreatDoor.Vh
end
section
set_option linter.unusedVariables false
set_option linter.unusedSimpArgs false
namespace Go.Proofs.YtfkebmdfcpnaeaaGreatDoor.Vh
open Go.Vm Go.Vt
attribute [local congr] wi_congr wg_congr wgd_congr wb_congr wl_congr cf_congr
variable {L : FuncId → List V → V → Prop} {h : Heap}
theorem few12_ok {x : V} {l : List Fld} (hx : ListV 2 x (flds l)) (hl : l.length ≤ 140737488351232) (hz : ∀ f ∈ l, f.1.length ≤ 140737488351232 ∧ f.2.length ≤ 140737488351232) :
    Cf F L i_gatepostlaw12_few [x] h (Pu h (.bool (decide (20 * l.length + sumF l < 3000)))) := by
  refine run_gatepostlaw12_few ?_
  simp only [p_gatepostlaw12_few]
  have l1 := fun {K : V → Heap → Prop} {h : Heap} => hx.len (F := F) (L := L) (e := E0) (K := K) (h := h)
  simp only [flds_len] at l1
  have w20 := wrap64 (x := 20 * (l.length : Int)) (by omega) (by omega)
  simp (maxSteps := 4000000) only [vm, vl, Arg.get, cells, stor, boundO, resultsV, resV, partK, loadV, Vm.part, fillC, splice, reduceIte, reduceCtorEq, Nat.reduceEqDiff, Nat.reduceAdd, Nat.reduceSub, Nat.reduceMul, Nat.reduceLeDiff, ne_eq, not_false_eq_true, Int.reduceEq, Int.reduceLT, Int.reduceLE, Int.reduceNeg, Int.reduceToNat, Int.reduceGT, Int.reduceGE, Nat.reduceLT, Nat.lt_add_one, Nat.zero_lt_succ, Nat.succ_pos, Nat.zero_le, beq_self_eq_true, k_gatepostlaw12_few_0, k_gatepostlaw12_few_2, k_gatepostlaw12_few_1, l1, w20]
  refine l_gatepostlaw12_few_0 (fun n e h' => ∃ i, n = l.length - i ∧ i ≤ l.length ∧ e 0 = x ∧ e 3 = .int .i64 ((20 * l.length + sumF (l.take i) : Nat)) ∧ e 4 = .int .i64 i ∧ ∃ t, h' = h ++ t) ?_ (n := l.length) ⟨0, by simp, by simp, rfl, by simp [upd, sumF], rfl, [], by simp⟩
  rintro n e h' ⟨i, rfl, hi, e0, e3, e4, t, rfl⟩
  simp only [b_gatepostlaw12_few_0]
  generalize hS : 20 * l.length + sumF (l.take i) = S at *
  have hmono := sumF_le l i
  rcases list_at ([], []) hi with ⟨hn, rfl, hd⟩ | ⟨hl1, hl2, hd, htk⟩
  · rw [List.take_of_length_le (Nat.le_refl _)] at hS
    have d : decide ((S : Int) < 3000) = decide (20 * l.length + sumF l < 3000) := by rw [hS]; exact decide_eq_decide.2 (by omega)
    simp (maxSteps := 4000000) only [vm, vl, Arg.get, cells, stor, boundO, resultsV, resV, partK, loadV, Vm.part, fillC, splice, reduceIte, reduceCtorEq, Nat.reduceEqDiff, Nat.reduceAdd, Nat.reduceSub, Nat.reduceMul, Nat.reduceLeDiff, ne_eq, not_false_eq_true, Int.reduceEq, Int.reduceLT, Int.reduceLE, Int.reduceNeg, Int.reduceToNat, Int.reduceGT, Int.reduceGE, Nat.reduceLT, Nat.lt_add_one, Nat.zero_lt_succ, Nat.succ_pos, Nat.zero_le, beq_self_eq_true, k_gatepostlaw12_few_0, k_gatepostlaw12_few_2, k_gatepostlaw12_few_1, e0, e3, e4, hn, l1, d]
  · by_cases hs : (S : Int) < 3000
    · have w := wrap64 (x := (i : Int) + 1) (by omega) (by omega)
      have i1 := fun {K : V → Heap → Prop} {h : Heap} => hx.at (F := F) (L := L) (e := E0) (K := K) (h := h) (i := i) (by rw [flds_len]; exact hl2)
      have a1 := flds_at hl2
      have hmem : l.getD i ([], []) ∈ l := by
        rw [List.getD_eq_getElem?_getD, List.getElem?_eq_getElem hl2]; exact List.getElem_mem _
      have hst := sumF_take hl2
      have hzf := hz _ hmem
      generalize hf : l.getD i ([], []) = f at *
      have w1 := wrap64 (x := (S : Int) + f.1.length) (by omega) (by omega)
      have w2 := wrap64 (x := (S : Int) + f.1.length + f.2.length) (by omega) (by omega)
      simp (maxSteps := 4000000) only [vm, vl, Arg.get, cells, stor, boundO, resultsV, resV, partK, loadV, Vm.part, fillC, splice, reduceIte, reduceCtorEq, Nat.reduceEqDiff, Nat.reduceAdd, Nat.reduceSub, Nat.reduceMul, Nat.reduceLeDiff, ne_eq, not_false_eq_true, Int.reduceEq, Int.reduceLT, Int.reduceLE, Int.reduceNeg, Int.reduceToNat, Int.reduceGT, Int.reduceGE, Nat.reduceLT, Nat.lt_add_one, Nat.zero_lt_succ, Nat.succ_pos, Nat.zero_le, beq_self_eq_true, k_gatepostlaw12_few_0, k_gatepostlaw12_few_2, k_gatepostlaw12_few_1, e0, e3, e4, l1, hl1, hs, i1, a1, fldV, w, w1, w2]
      exact ⟨l.length - (i + 1), by omega, i + 1, rfl, hl2, by rw [hst]; congr 1; omega, rfl, t, rfl⟩
    · have d : decide ((S : Int) < 3000) = false := by simpa using hs
      have d2 : decide (20 * l.length + sumF l < 3000) = false := by simp; omega
      simp (maxSteps := 4000000) only [vm, vl, Arg.get, cells, stor, boundO, resultsV, resV, partK, loadV, Vm.part, fillC, splice, reduceIte, reduceCtorEq, Nat.reduceEqDiff, Nat.reduceAdd, Nat.reduceSub, Nat.reduceMul, Nat.reduceLeDiff, ne_eq, not_false_eq_true, Int.reduceEq, Int.reduceLT, Int.reduceLE, Int.reduceNeg, Int.reduceToNat, Int.reduceGT, Int.reduceGE, Nat.reduceLT, Nat.lt_add_one, Nat.zero_lt_succ, Nat.succ_pos, Nat.zero_le, beq_self_eq_true, k_gatepostlaw12_few_0, k_gatepostlaw12_few_2, k_gatepostlaw12_few_1, e0, e3, e4, hl1, hs, l1, d, d2]
theorem few_F {l : List Fld} (h : 20 * l.length + sumF l < 3000) : FewF l := by
  refine ⟨by omega, fun f hf => by have := sumF_mem hf; omega, fun name => ?_⟩
  have := vals_join l name
  have := vals_len l name
  omega
theorem ValidatorTells_ok (HJ : JoinOk L) (HI : ItoaOk L) {x p y : V} {meth : Bs} {l : List Fld} {ms : List V} {m : Int} {tag : Bs} (hx : ListV 2 x (flds l)) (hl : l.length ≤ 140737488351232) (hz : ∀ f ∈ l, f.1.length ≤ 140737488351232 ∧ f.2.length ≤ 140737488351232)
    (ht : tag.length ≤ 140737488351232) (hm : ms.length = 21) (h16 : ms.getD 16 (.tup []) = .int .i64 m) (h20 : ms.getD 20 (.tup []) = .str tag) :
    Cf F L i_gatepostlaw12_ValidatorTells [.agg [.str meth, p, y, x], .agg ms] h (fun v _ => v = .bool true) := by
  refine run_gatepostlaw12_ValidatorTells ?_
  simp only [p_gatepostlaw12_ValidatorTells]
  
  have hm20 : 20 + 1 ≤ ms.length := by omega
  simp (maxSteps := 4000000) only [vm, vl, Arg.get, cells, stor, boundO, resultsV, resV, partK, loadV, Vm.part, fillC, splice, reduceIte, reduceCtorEq, Nat.reduceEqDiff, Nat.reduceAdd, Nat.reduceSub, Nat.reduceMul, Nat.reduceLeDiff, ne_eq, not_false_eq_true, Int.reduceEq, Int.reduceLT, Int.reduceLE, Int.reduceNeg, Int.reduceToNat, Int.reduceGT, Int.reduceGE, Nat.reduceLT, Nat.lt_add_one, Nat.zero_lt_succ, Nat.succ_pos, Nat.zero_le, beq_self_eq_true]
  refine Cf.pu (few12_ok hx hl hz) fun u1 => ?_
  by_cases c : 20 * l.length + sumF l < 3000
  case neg => simp (maxSteps := 4000000) only [vm, vl, Arg.get, cells, stor, boundO, resultsV, resV, partK, loadV, Vm.part, fillC, splice, reduceIte, reduceCtorEq, Nat.reduceEqDiff, Nat.reduceAdd, Nat.reduceSub, Nat.reduceMul, Nat.reduceLeDiff, ne_eq, not_false_eq_true, Int.reduceEq, Int.reduceLT, Int.reduceLE, Int.reduceNeg, Int.reduceToNat, Int.reduceGT, Int.reduceGE, Nat.reduceLT, Nat.lt_add_one, Nat.zero_lt_succ, Nat.succ_pos, Nat.zero_le, beq_self_eq_true, c, decide_false, Bool.not_false]
  by_cases c2 : (tag.length : Int) > 500
  · simp (maxSteps := 4000000) only [vm, vl, Arg.get, cells, stor, boundO, resultsV, resV, partK, loadV, Vm.part, fillC, splice, reduceIte, reduceCtorEq, Nat.reduceEqDiff, Nat.reduceAdd, Nat.reduceSub, Nat.reduceMul, Nat.reduceLeDiff, ne_eq, not_false_eq_true, Int.reduceEq, Int.reduceLT, Int.reduceLE, Int.reduceNeg, Int.reduceToNat, Int.reduceGT, Int.reduceGE, Nat.reduceLT, Nat.lt_add_one, Nat.zero_lt_succ, Nat.succ_pos, Nat.zero_le, beq_self_eq_true, c, c2, decide_true, Bool.not_true, hm20, h20, hm]
  have hl2 := few_F c
  have ht2 : tag.length ≤ 140737488355328 := by omega
  have A1 := fun hh => unch_ok (L := L) (h := hh) (p := p) (y := y) (meth := meth) HJ hx hl2 ht2 hm h16 h20
  have A2 := fun hh => rUnch_ok (L := L) (h := hh) (p := p) (y := y) (meth := meth) hx hl2 (by omega) (by omega) ht2 hm h16 h20
  have A3 := fun hh => appl_ok (L := L) (h := hh) (p := p) (y := y) (meth := meth) HJ hx hl2 ht2 hm h16 h20
  have A4 := fun hh => rAppl_ok (L := L) (h := hh) (p := p) (y := y) (meth := meth) hx hl2 (by omega) (by omega) ht2 hm h16 h20
  simp (maxSteps := 4000000) only [vm, vl, Arg.get, cells, stor, boundO, resultsV, resV, partK, loadV, Vm.part, fillC, splice, reduceIte, reduceCtorEq, Nat.reduceEqDiff, Nat.reduceAdd, Nat.reduceSub, Nat.reduceMul, Nat.reduceLeDiff, ne_eq, not_false_eq_true, Int.reduceEq, Int.reduceLT, Int.reduceLE, Int.reduceNeg, Int.reduceToNat, Int.reduceGT, Int.reduceGE, Nat.reduceLT, Nat.lt_add_one, Nat.zero_lt_succ, Nat.succ_pos, Nat.zero_le, beq_self_eq_true, c, c2, decide_true, decide_false, Bool.not_true, hm20, h20, hm]
  have hmt : List.take 21 ms = ms := List.take_of_length_le (by omega)
  simp (maxSteps := 4000000) only [vm, vl, Arg.get, cells, stor, boundO, resultsV, resV, partK, loadV, Vm.part, fillC, splice, reduceIte, reduceCtorEq, Nat.reduceEqDiff, Nat.reduceAdd, Nat.reduceSub, Nat.reduceMul, Nat.reduceLeDiff, ne_eq, not_false_eq_true, Int.reduceEq, Int.reduceLT, Int.reduceLE, Int.reduceNeg, Int.reduceToNat, Int.reduceGT, Int.reduceGE, Nat.reduceLT, Nat.lt_add_one, Nat.zero_lt_succ, Nat.succ_pos, Nat.zero_le, beq_self_eq_true, k_gatepostlaw12_ValidatorTells_0, hm, hmt]
  refine Cf.pu (A1 _) fun u2 => ?_
  simp (maxSteps := 4000000) only [vm, vl, Arg.get, cells, stor, boundO, resultsV, resV, partK, loadV, Vm.part, fillC, splice, reduceIte, reduceCtorEq, Nat.reduceEqDiff, Nat.reduceAdd, Nat.reduceSub, Nat.reduceMul, Nat.reduceLeDiff, ne_eq, not_false_eq_true, Int.reduceEq, Int.reduceLT, Int.reduceLE, Int.reduceNeg, Int.reduceToNat, Int.reduceGT, Int.reduceGE, Nat.reduceLT, Nat.lt_add_one, Nat.zero_lt_succ, Nat.succ_pos, Nat.zero_le, beq_self_eq_true, hm, hmt]
  refine Cf.pu (A2 _) fun u3 => ?_
  simp (maxSteps := 4000000) only [vm, vl, Arg.get, cells, stor, boundO, resultsV, resV, partK, loadV, Vm.part, fillC, splice, reduceIte, reduceCtorEq, Nat.reduceEqDiff, Nat.reduceAdd, Nat.reduceSub, Nat.reduceMul, Nat.reduceLeDiff, ne_eq, not_false_eq_true, Int.reduceEq, Int.reduceLT, Int.reduceLE, Int.reduceNeg, Int.reduceToNat, Int.reduceGT, Int.reduceGE, Nat.reduceLT, Nat.lt_add_one, Nat.zero_lt_succ, Nat.succ_pos, Nat.zero_le, beq_self_eq_true, hm, hmt, beq_self_eq_true]
  refine Cf.pu (A3 _) fun u4 => ?_
  simp (maxSteps := 4000000) only [vm, vl, Arg.get, cells, stor, boundO, resultsV, resV, partK, loadV, Vm.part, fillC, splice, reduceIte, reduceCtorEq, Nat.reduceEqDiff, Nat.reduceAdd, Nat.reduceSub, Nat.reduceMul, Nat.reduceLeDiff, ne_eq, not_false_eq_true, Int.reduceEq, Int.reduceLT, Int.reduceLE, Int.reduceNeg, Int.reduceToNat, Int.reduceGT, Int.reduceGE, Nat.reduceLT, Nat.lt_add_one, Nat.zero_lt_succ, Nat.succ_pos, Nat.zero_le, beq_self_eq_true, hm, hmt]
  refine Cf.pu (A4 _) fun u5 => ?_
  simp (maxSteps := 4000000) only [vm, vl, Arg.get, cells, stor, boundO, resultsV, resV, partK, loadV, Vm.part, fillC, splice, reduceIte, reduceCtorEq, Nat.reduceEqDiff, Nat.reduceAdd, Nat.reduceSub, Nat.reduceMul, Nat.reduceLeDiff, ne_eq, not_false_eq_true, Int.reduceEq, Int.reduceLT, Int.reduceLE, Int.reduceNeg, Int.reduceToNat, Int.reduceGT, Int.reduceGE, Nat.reduceLT, Nat.lt_add_one, Nat.zero_lt_succ, Nat.succ_pos, Nat.zero_le, beq_self_eq_true, hm, hmt, beq_self_eq_true]
  have al : ∀ t n, (asksL t n).length ≤ 2 := by
    intro t n
    unfold asksL modL
    rw [List.length_append]
    split <;> split <;> simp
  refine (vAsks_ok HI ht2 hm h16 h20).mono fun v6 h6 G6 => ?_
  have L6 := G6.list
  obtain ⟨⟨t6, rfl⟩, _⟩ := G6
  simp (maxSteps := 4000000) only [vm, vl, Arg.get, cells, stor, boundO, resultsV, resV, partK, loadV, Vm.part, fillC, splice, reduceIte, reduceCtorEq, Nat.reduceEqDiff, Nat.reduceAdd, Nat.reduceSub, Nat.reduceMul, Nat.reduceLeDiff, ne_eq, not_false_eq_true, Int.reduceEq, Int.reduceLT, Int.reduceLE, Int.reduceNeg, Int.reduceToNat, Int.reduceGT, Int.reduceGE, Nat.reduceLT, Nat.lt_add_one, Nat.zero_lt_succ, Nat.succ_pos, Nat.zero_le, beq_self_eq_true, hm, hmt]
  refine (rAsks_ok ht2 hm h16 h20).mono fun v7 h7 G7 => ?_
  have L7 := G7.list
  refine Cf.pu (fSame_ok L6 L7 (by have := al tag m; omega) (by have := al tag m; omega)) fun u8 => ?_
  simp (maxSteps := 4000000) only [vm, vl, Arg.get, cells, stor, boundO, resultsV, resV, partK, loadV, Vm.part, fillC, splice, reduceIte, reduceCtorEq, Nat.reduceEqDiff, Nat.reduceAdd, Nat.reduceSub, Nat.reduceMul, Nat.reduceLeDiff, ne_eq, not_false_eq_true, Int.reduceEq, Int.reduceLT, Int.reduceLE, Int.reduceNeg, Int.reduceToNat, Int.reduceGT, Int.reduceGE, Nat.reduceLT, Nat.lt_add_one, Nat.zero_lt_succ, Nat.succ_pos, Nat.zero_le, beq_self_eq_true, decide_true]
  refine (vAsks_ok HI (tag := [34, 97, 34]) (m := 0) (by simp) rfl rfl rfl).mono fun v9 h9 G9 => ?_
  have L9 := G9.list
  have e5 : (flds (asksL [34, 97, 34] 0)).length = 2 := by decide +kernel
  rcases L9 with ⟨he, rfl⟩ | ⟨o, rfl⟩
  · rw [he] at e5; cases e5
  · simp (maxSteps := 4000000) only [vm, vl, Arg.get, cells, stor, boundO, resultsV, resV, partK, loadV, Vm.part, fillC, splice, reduceIte, reduceCtorEq, Nat.reduceEqDiff, Nat.reduceAdd, Nat.reduceSub, Nat.reduceMul, Nat.reduceLeDiff, ne_eq, not_false_eq_true, Int.reduceEq, Int.reduceLT, Int.reduceLE, Int.reduceNeg, Int.reduceToNat, Int.reduceGT, Int.reduceGE, Nat.reduceLT, Nat.lt_add_one, Nat.zero_lt_succ, Nat.succ_pos, Nat.zero_le, beq_self_eq_true, e5, decide_true]
theorem vsks_len : ∀ {ks : List SK} {xs : List V}, VSKs ks xs → ks.length = xs.length
  | [], [], _ => rfl
  | _ :: _, _ :: _, ⟨_, h⟩ => by simp [vsks_len h]
theorem vsks_at : ∀ {ks : List SK} {xs : List V} {i : Nat} {k : SK}, VSKs ks xs → ks[i]? = some k → VSK k (xs.getD i (.tup []))
  | k :: _, x :: _, 0, _, ⟨h, _⟩, hk => by simp at hk; subst hk; exact h
  | _ :: _, _ :: _, i + 1, _, ⟨_, h⟩, hk => by simp at hk; rw [List.getD_cons_succ]; exact vsks_at h hk
def LV : FuncId → List V → V → Prop := fun f a v => LItoa f a v ∨ LJoin f a v
theorem lv_at {w0 : World} (ht : TabAt w0) : LibAt Tryz.prog w0 LV := fun f a v h => h.elim (itoa_at ht f a v) (join_at w0 f a v)
theorem vsks_four {k1 k2 k3 k4 : SK} {xs : List V} (h : VSKs [k1, k2, k3, k4] xs) : ∃ x y z u, xs = [x, y, z, u] ∧ VSK k1 x ∧ VSK k2 y ∧ VSK k3 z ∧ VSK k4 u := by
  match xs, h with
  | [x, y, z, u], ⟨h1, h2, h3, h4, _⟩ => exact ⟨x, y, z, u, rfl, h1, h2, h3, h4⟩
theorem ValidatorTells_row {x0 x1 : V} (v0 : VPar [.l .s, .l .s, .l (.i .i64), .sl [.s, .s]] x0) (v1 : VPar [.l (.i .i64), .l .b, .l .b, .l .b, .l .b, .l .b, .l .b, .l .b, .l (.i .i64), .l (.i .i64), .l (.i .i64), .l (.i .i64), .l (.i .i64), .l (.i .i64), .l (.i .i64), .l (.i .i64), .l (.i .i64), .l (.i .i64), .l (.i .i64), .l (.i .i64), .l .s] x1) (w : World) (ht : TabAt w) (vs : List Value) (hv : Rvs w.heap.size G0 w [x0, x1] vs) :
    Calls Tryz.prog i_gatepostlaw12_ValidatorTells vs.toArray w fun e w' => e = .returned (.bool true) ∧ RowKit.Below w.heap.size w w' := by
  obtain ⟨xs, rfl, hx⟩ := v0
  obtain ⟨ms, rfl, hms⟩ := v1
  obtain ⟨a, b, c, d, rfl, ⟨s, e1, _⟩, _, _, hd⟩ := vsks_four hx
  subst e1
  obtain ⟨l, h1, h2, h3⟩ := fields_par hd
  obtain ⟨m, h16, _⟩ : VLeaf (.i .i64) (ms.getD 16 (.tup [])) := vsks_at (i := 16) (k := .l (.i .i64)) hms rfl
  obtain ⟨tag, h20, h4⟩ : VLeaf .s (ms.getD 20 (.tup [])) := vsks_at (i := 20) (k := .l .s) hms rfl
  have h5 : ms.length = 21 := (vsks_len hms).symm
  exact calls_at Vh.hm hF (lv_at ht) (ValidatorTells_ok (joinOk fun _ _ _ h => .inr h) (itoaOk fun _ _ _ h => .inl h) h1 h2 h3 h4 h5 h16 h20) hv
end Go.Proofs.YtfkebmdfcpnaeaaGreatDoor.Vh
end
