/- The reference's leap, long, year, Days, Civil on the small machine. -/
import Derived.Test.YtdgklgeddbfeaaaDoorVDays
set_option linter.unusedVariables false
set_option linter.unusedSimpArgs false
namespace Go.Proofs.YtdgklgeddbfeaaaDoor.Vh
open Go.Vm
attribute [local congr] wi_congr wg_congr wgd_congr wb_congr wl_congr cf_congr
variable {L : FuncId → List V → V → Prop} {h : Heap}
theorem Rleap_ok {y : Int} (h0 : 0 ≤ y) : Cf F L i_gatepostref02_leap [.int .i64 y] h (Pu h (.bool (decide (leapP y)))) := by
  refine run_gatepostref02_leap ?_
  simp only [p_gatepostref02_leap]
  have t1 : y.tmod 4 = y % 4 := tmod_nn h0
  have t2 : y.tmod 100 = y % 100 := tmod_nn h0
  have t3 : y.tmod 400 = y % 400 := tmod_nn h0
  unfold leapP
  by_cases a : y % 4 = 0
  · by_cases b : y % 100 = 0
    · by_cases c : y % 400 = 0
      · simp (maxSteps := 4000000) only [vm, vl, Arg.get, cells, stor, boundO, resultsV, resV, partK, loadV, Vm.part, fillC, splice, reduceIte, reduceCtorEq, Nat.reduceEqDiff, Nat.reduceAdd, Nat.reduceSub, Nat.reduceMul, Nat.reduceLeDiff, ne_eq, not_false_eq_true, Int.reduceEq, Int.reduceLT, Int.reduceLE, Int.reduceNeg, Int.reduceToNat, Int.reduceGT, Int.reduceGE, Nat.reduceLT, Nat.lt_add_one, Nat.zero_lt_succ, Nat.succ_pos, Nat.zero_le, beq_self_eq_true, bin_rem, t1, t2, t3, a, b, c, decide_true, decide_false, Bool.not_true, Bool.not_false]
        simp
      · simp (maxSteps := 4000000) only [vm, vl, Arg.get, cells, stor, boundO, resultsV, resV, partK, loadV, Vm.part, fillC, splice, reduceIte, reduceCtorEq, Nat.reduceEqDiff, Nat.reduceAdd, Nat.reduceSub, Nat.reduceMul, Nat.reduceLeDiff, ne_eq, not_false_eq_true, Int.reduceEq, Int.reduceLT, Int.reduceLE, Int.reduceNeg, Int.reduceToNat, Int.reduceGT, Int.reduceGE, Nat.reduceLT, Nat.lt_add_one, Nat.zero_lt_succ, Nat.succ_pos, Nat.zero_le, beq_self_eq_true, bin_rem, t1, t2, t3, a, b, c, decide_true, decide_false, Bool.not_true, Bool.not_false]
        simp
    · simp (maxSteps := 4000000) only [vm, vl, Arg.get, cells, stor, boundO, resultsV, resV, partK, loadV, Vm.part, fillC, splice, reduceIte, reduceCtorEq, Nat.reduceEqDiff, Nat.reduceAdd, Nat.reduceSub, Nat.reduceMul, Nat.reduceLeDiff, ne_eq, not_false_eq_true, Int.reduceEq, Int.reduceLT, Int.reduceLE, Int.reduceNeg, Int.reduceToNat, Int.reduceGT, Int.reduceGE, Nat.reduceLT, Nat.lt_add_one, Nat.zero_lt_succ, Nat.succ_pos, Nat.zero_le, beq_self_eq_true, bin_rem, t1, t2, t3, a, b, decide_true, decide_false, Bool.not_true, Bool.not_false]
      simp
  · simp (maxSteps := 4000000) only [vm, vl, Arg.get, cells, stor, boundO, resultsV, resV, partK, loadV, Vm.part, fillC, splice, reduceIte, reduceCtorEq, Nat.reduceEqDiff, Nat.reduceAdd, Nat.reduceSub, Nat.reduceMul, Nat.reduceLeDiff, ne_eq, not_false_eq_true, Int.reduceEq, Int.reduceLT, Int.reduceLE, Int.reduceNeg, Int.reduceToNat, Int.reduceGT, Int.reduceGE, Nat.reduceLT, Nat.lt_add_one, Nat.zero_lt_succ, Nat.succ_pos, Nat.zero_le, beq_self_eq_true, bin_rem, t1, t2, t3, a, decide_true, decide_false, Bool.not_true, Bool.not_false]
    simp
theorem Rlong_ok {y m : Int} (h0 : 0 ≤ y) : Cf F L i_gatepostref02_long [.int .i64 y, .int .i64 m] h (Pu h (.int .i64 (dim y m))) := by
  refine run_gatepostref02_long ?_
  simp only [p_gatepostref02_long]
  unfold dim
  by_cases a : m = 2
  · subst a
    simp (maxSteps := 4000000) only [vm, vl, Arg.get, cells, stor, boundO, resultsV, resV, partK, loadV, Vm.part, fillC, splice, reduceIte, reduceCtorEq, Nat.reduceEqDiff, Nat.reduceAdd, Nat.reduceSub, Nat.reduceMul, Nat.reduceLeDiff, ne_eq, not_false_eq_true, Int.reduceEq, Int.reduceLT, Int.reduceLE, Int.reduceNeg, Int.reduceToNat, Int.reduceGT, Int.reduceGE, Nat.reduceLT, Nat.lt_add_one, Nat.zero_lt_succ, Nat.succ_pos, Nat.zero_le, beq_self_eq_true, k_gatepostref02_long_0, k_gatepostref02_long_1, k_gatepostref02_long_2, decide_true]
    refine Cf.pu (Rleap_ok h0) fun u => ?_
    by_cases b : leapP y
    · simp (maxSteps := 4000000) only [vm, vl, Arg.get, cells, stor, boundO, resultsV, resV, partK, loadV, Vm.part, fillC, splice, reduceIte, reduceCtorEq, Nat.reduceEqDiff, Nat.reduceAdd, Nat.reduceSub, Nat.reduceMul, Nat.reduceLeDiff, ne_eq, not_false_eq_true, Int.reduceEq, Int.reduceLT, Int.reduceLE, Int.reduceNeg, Int.reduceToNat, Int.reduceGT, Int.reduceGE, Nat.reduceLT, Nat.lt_add_one, Nat.zero_lt_succ, Nat.succ_pos, Nat.zero_le, beq_self_eq_true, k_gatepostref02_long_0, k_gatepostref02_long_1, k_gatepostref02_long_2, b, decide_true, if_true]
    · simp (maxSteps := 4000000) only [vm, vl, Arg.get, cells, stor, boundO, resultsV, resV, partK, loadV, Vm.part, fillC, splice, reduceIte, reduceCtorEq, Nat.reduceEqDiff, Nat.reduceAdd, Nat.reduceSub, Nat.reduceMul, Nat.reduceLeDiff, ne_eq, not_false_eq_true, Int.reduceEq, Int.reduceLT, Int.reduceLE, Int.reduceNeg, Int.reduceToNat, Int.reduceGT, Int.reduceGE, Nat.reduceLT, Nat.lt_add_one, Nat.zero_lt_succ, Nat.succ_pos, Nat.zero_le, beq_self_eq_true, k_gatepostref02_long_0, k_gatepostref02_long_1, k_gatepostref02_long_2, b, decide_false, if_true, if_false]
  · by_cases a4 : m = 4
    · subst a4
      simp (maxSteps := 4000000) only [vm, vl, Arg.get, cells, stor, boundO, resultsV, resV, partK, loadV, Vm.part, fillC, splice, reduceIte, reduceCtorEq, Nat.reduceEqDiff, Nat.reduceAdd, Nat.reduceSub, Nat.reduceMul, Nat.reduceLeDiff, ne_eq, not_false_eq_true, Int.reduceEq, Int.reduceLT, Int.reduceLE, Int.reduceNeg, Int.reduceToNat, Int.reduceGT, Int.reduceGE, Nat.reduceLT, Nat.lt_add_one, Nat.zero_lt_succ, Nat.succ_pos, Nat.zero_le, beq_self_eq_true, k_gatepostref02_long_0, k_gatepostref02_long_1, k_gatepostref02_long_2, a, decide_true, decide_false]
      simp
    by_cases a6 : m = 6
    · subst a6
      simp (maxSteps := 4000000) only [vm, vl, Arg.get, cells, stor, boundO, resultsV, resV, partK, loadV, Vm.part, fillC, splice, reduceIte, reduceCtorEq, Nat.reduceEqDiff, Nat.reduceAdd, Nat.reduceSub, Nat.reduceMul, Nat.reduceLeDiff, ne_eq, not_false_eq_true, Int.reduceEq, Int.reduceLT, Int.reduceLE, Int.reduceNeg, Int.reduceToNat, Int.reduceGT, Int.reduceGE, Nat.reduceLT, Nat.lt_add_one, Nat.zero_lt_succ, Nat.succ_pos, Nat.zero_le, beq_self_eq_true, k_gatepostref02_long_0, k_gatepostref02_long_1, k_gatepostref02_long_2, a, a4, decide_true, decide_false]
      simp
    by_cases a9 : m = 9
    · subst a9
      simp (maxSteps := 4000000) only [vm, vl, Arg.get, cells, stor, boundO, resultsV, resV, partK, loadV, Vm.part, fillC, splice, reduceIte, reduceCtorEq, Nat.reduceEqDiff, Nat.reduceAdd, Nat.reduceSub, Nat.reduceMul, Nat.reduceLeDiff, ne_eq, not_false_eq_true, Int.reduceEq, Int.reduceLT, Int.reduceLE, Int.reduceNeg, Int.reduceToNat, Int.reduceGT, Int.reduceGE, Nat.reduceLT, Nat.lt_add_one, Nat.zero_lt_succ, Nat.succ_pos, Nat.zero_le, beq_self_eq_true, k_gatepostref02_long_0, k_gatepostref02_long_1, k_gatepostref02_long_2, a, a4, a6, decide_true, decide_false]
      simp
    by_cases a11 : m = 11
    · subst a11
      simp (maxSteps := 4000000) only [vm, vl, Arg.get, cells, stor, boundO, resultsV, resV, partK, loadV, Vm.part, fillC, splice, reduceIte, reduceCtorEq, Nat.reduceEqDiff, Nat.reduceAdd, Nat.reduceSub, Nat.reduceMul, Nat.reduceLeDiff, ne_eq, not_false_eq_true, Int.reduceEq, Int.reduceLT, Int.reduceLE, Int.reduceNeg, Int.reduceToNat, Int.reduceGT, Int.reduceGE, Nat.reduceLT, Nat.lt_add_one, Nat.zero_lt_succ, Nat.succ_pos, Nat.zero_le, beq_self_eq_true, k_gatepostref02_long_0, k_gatepostref02_long_1, k_gatepostref02_long_2, a, a4, a6, a9, decide_true, decide_false]
      simp
    simp (maxSteps := 4000000) only [vm, vl, Arg.get, cells, stor, boundO, resultsV, resV, partK, loadV, Vm.part, fillC, splice, reduceIte, reduceCtorEq, Nat.reduceEqDiff, Nat.reduceAdd, Nat.reduceSub, Nat.reduceMul, Nat.reduceLeDiff, ne_eq, not_false_eq_true, Int.reduceEq, Int.reduceLT, Int.reduceLE, Int.reduceNeg, Int.reduceToNat, Int.reduceGT, Int.reduceGE, Nat.reduceLT, Nat.lt_add_one, Nat.zero_lt_succ, Nat.succ_pos, Nat.zero_le, beq_self_eq_true, k_gatepostref02_long_0, k_gatepostref02_long_1, k_gatepostref02_long_2, a, a4, a6, a9, a11, decide_true, decide_false, or_self]
def ylen (y : Int) : Int := if leapP y then 366 else 365
theorem Ryear_ok {y : Int} (h0 : 0 ≤ y) : Cf F L i_gatepostref02_year [.int .i64 y] h (Pu h (.int .i64 (ylen y))) := by
  refine run_gatepostref02_year ?_
  simp only [p_gatepostref02_year]
  refine Cf.pu (Rleap_ok h0) fun u => ?_
  unfold ylen
  by_cases b : leapP y
  · simp (maxSteps := 4000000) only [vm, vl, Arg.get, cells, stor, boundO, resultsV, resV, partK, loadV, Vm.part, fillC, splice, reduceIte, reduceCtorEq, Nat.reduceEqDiff, Nat.reduceAdd, Nat.reduceSub, Nat.reduceMul, Nat.reduceLeDiff, ne_eq, not_false_eq_true, Int.reduceEq, Int.reduceLT, Int.reduceLE, Int.reduceNeg, Int.reduceToNat, Int.reduceGT, Int.reduceGE, Nat.reduceLT, Nat.lt_add_one, Nat.zero_lt_succ, Nat.succ_pos, Nat.zero_le, beq_self_eq_true, k_gatepostref02_year_0, b, decide_true, if_true]
  · simp (maxSteps := 4000000) only [vm, vl, Arg.get, cells, stor, boundO, resultsV, resV, partK, loadV, Vm.part, fillC, splice, reduceIte, reduceCtorEq, Nat.reduceEqDiff, Nat.reduceAdd, Nat.reduceSub, Nat.reduceMul, Nat.reduceLeDiff, ne_eq, not_false_eq_true, Int.reduceEq, Int.reduceLT, Int.reduceLE, Int.reduceNeg, Int.reduceToNat, Int.reduceGT, Int.reduceGE, Nat.reduceLT, Nat.lt_add_one, Nat.zero_lt_succ, Nat.succ_pos, Nat.zero_le, beq_self_eq_true, k_gatepostref02_year_0, b, decide_false, if_false]
theorem numD_year (y : Int) : numD (y + 1) 1 1 = numD y 1 1 + ylen y := by
  unfold ylen
  by_cases hl : leapP y
  · rw [if_pos hl]; unfold leapP at hl; unfold numD numY; simp only [show (1 : Int) ≤ 2 from by decide, if_true]; omega
  · rw [if_neg hl]; unfold leapP at hl; unfold numD numY; simp only [show (1 : Int) ≤ 2 from by decide, if_true]; omega
theorem numD_month (y m : Int) (h0 : 1 ≤ m) (h1 : m < 12) : numD y (m + 1) 1 = numD y m 1 + dim y m := by
  have hm : m = 1 ∨ m = 2 ∨ m = 3 ∨ m = 4 ∨ m = 5 ∨ m = 6 ∨ m = 7 ∨ m = 8 ∨ m = 9 ∨ m = 10 ∨ m = 11 := by omega
  rcases hm with rfl | rfl | rfl | rfl | rfl | rfl | rfl | rfl | rfl | rfl | rfl
  case inr.inl =>
    unfold numD numY dim
    simp only [show (2 : Int) + 1 = 3 from rfl, if_true]
    by_cases hl : leapP y
    · rw [if_pos hl]; unfold leapP at hl; simp; omega
    · rw [if_neg hl]; unfold leapP at hl; simp; omega
  all_goals (unfold numD numY dim; simp; try omega)
theorem numD_day (y m d : Int) : numD y m d = numD y m 1 + d - 1 := by
  unfold numD numY; split <;> omega
theorem numD_1970 : numD 1970 1 1 = 0 := by decide
theorem dim_ge (y m : Int) : 28 ≤ dim y m := by unfold dim; split <;> (try split) <;> omega
theorem numD_y_le (y : Int) (h0 : 1970 ≤ y) (h1 : y ≤ 9999) : 0 ≤ numD y 1 1 ∧ numD y 1 1 ≤ 3000000 := by
  unfold numD numY; simp only [show (1 : Int) ≤ 2 from by decide, if_true]; omega
theorem numD_m_le (y m : Int) (h0 : 1970 ≤ y) (h1 : y ≤ 9999) (m0 : 1 ≤ m) (m1 : m ≤ 12) : -1000 ≤ numD y m 1 ∧ numD y m 1 ≤ 3000000 := by
  unfold numD numY; split <;> omega
theorem rdays_m {y m d : Int} {e : Env} {t : Heap} (hy0 : 1970 ≤ y) (hy1 : y ≤ 9999) (hm0 : 1 ≤ m) (hm1 : m ≤ 12) (hd0 : 1 ≤ d) (hd1 : d ≤ dim y m) (e0 : e 0 = .int .i64 y) (e1 : e 1 = .int .i64 m) (e7 : e 7 = .int .i64 (numD y 1 1 + d - 1)) :
    k_gatepostref02_Days_1 L (Pu h (.int .i64 (numD y m d))) e (h ++ t) := by
  unfold k_gatepostref02_Days_1
  refine l_gatepostref02_Days_0 (fun n e h' => ∃ j : Int, n = (12 - j).toNat ∧ 1 ≤ j ∧ j ≤ m ∧ e 0 = .int .i64 y ∧ e 1 = .int .i64 m ∧ e 7 = .int .i64 (numD y j 1 + d - 1) ∧ e 9 = .int .i64 j ∧ ∃ t, h' = h ++ t) ?_ (n := 11) ⟨1, by decide, by omega, hm0, e0, e1, e7, rfl, t, rfl⟩
  rintro n e h' ⟨j, rfl, hj0, hj1, e0, e1, e7, e9, t, rfl⟩
  simp only [b_gatepostref02_Days_0]
  
  have dl := dim_le y m
  have bj := numD_m_le y j hy0 hy1 hj0 (by omega)
  by_cases c : j < m
  · have dj := dim_le y j
    have dj' := dim_ge y j
    have w1 : IntKind.i64.wrap (numD y j 1 + d - 1 + dim y j) = numD y (j + 1) 1 + d - 1 := by
      rw [wrap64 (by omega) (by omega), numD_month y j hj0 (by omega)]; omega
    have w2 : IntKind.i64.wrap (j + 1) = j + 1 := wrap64 (by omega) (by omega)
    simp (maxSteps := 4000000) only [vm, vl, Arg.get, cells, stor, boundO, resultsV, resV, partK, loadV, Vm.part, fillC, splice, reduceIte, reduceCtorEq, Nat.reduceEqDiff, Nat.reduceAdd, Nat.reduceSub, Nat.reduceMul, Nat.reduceLeDiff, ne_eq, not_false_eq_true, Int.reduceEq, Int.reduceLT, Int.reduceLE, Int.reduceNeg, Int.reduceToNat, Int.reduceGT, Int.reduceGE, Nat.reduceLT, Nat.lt_add_one, Nat.zero_lt_succ, Nat.succ_pos, Nat.zero_le, beq_self_eq_true, k_gatepostref02_Days_2, k_gatepostref02_Days_4, k_gatepostref02_Days_3, k_gatepostref02_Days_1, k_gatepostref02_Days_6, k_gatepostref02_Days_5, k_gatepostref02_Days_0, e0, e1, e7, e9, c, decide_true]
    refine Cf.pu (Rlong_ok (by omega)) fun u => ?_
    simp (maxSteps := 4000000) only [vm, vl, Arg.get, cells, stor, boundO, resultsV, resV, partK, loadV, Vm.part, fillC, splice, reduceIte, reduceCtorEq, Nat.reduceEqDiff, Nat.reduceAdd, Nat.reduceSub, Nat.reduceMul, Nat.reduceLeDiff, ne_eq, not_false_eq_true, Int.reduceEq, Int.reduceLT, Int.reduceLE, Int.reduceNeg, Int.reduceToNat, Int.reduceGT, Int.reduceGE, Nat.reduceLT, Nat.lt_add_one, Nat.zero_lt_succ, Nat.succ_pos, Nat.zero_le, beq_self_eq_true, k_gatepostref02_Days_2, k_gatepostref02_Days_4, k_gatepostref02_Days_3, k_gatepostref02_Days_1, k_gatepostref02_Days_6, k_gatepostref02_Days_5, k_gatepostref02_Days_0, w1, w2]
    exact ⟨(12 - (j + 1)).toNat, by omega, j + 1, rfl, by omega, by omega, rfl, rfl, t ++ u, by simp⟩
  · have : j = m := by omega
    subst this
    simp (maxSteps := 4000000) only [vm, vl, Arg.get, cells, stor, boundO, resultsV, resV, partK, loadV, Vm.part, fillC, splice, reduceIte, reduceCtorEq, Nat.reduceEqDiff, Nat.reduceAdd, Nat.reduceSub, Nat.reduceMul, Nat.reduceLeDiff, ne_eq, not_false_eq_true, Int.reduceEq, Int.reduceLT, Int.reduceLE, Int.reduceNeg, Int.reduceToNat, Int.reduceGT, Int.reduceGE, Nat.reduceLT, Nat.lt_add_one, Nat.zero_lt_succ, Nat.succ_pos, Nat.zero_le, beq_self_eq_true, k_gatepostref02_Days_2, k_gatepostref02_Days_4, k_gatepostref02_Days_3, k_gatepostref02_Days_1, k_gatepostref02_Days_6, k_gatepostref02_Days_5, k_gatepostref02_Days_0, e0, e1, e7, e9, c, decide_false]
    rw [numD_day y j d]
theorem RDays_ok {y m d : Int} : Cf F L i_gatepostref02_Days [.int .i64 y, .int .i64 m, .int .i64 d] h (Pu h (.int .i64 (daysS y m d))) := by
  refine run_gatepostref02_Days ?_
  simp only [p_gatepostref02_Days]
  by_cases a1 : y < 1970
  · rw [show daysS y m d = -1 from if_neg (by omega)]
    simp (maxSteps := 4000000) only [vm, vl, Arg.get, cells, stor, boundO, resultsV, resV, partK, loadV, Vm.part, fillC, splice, reduceIte, reduceCtorEq, Nat.reduceEqDiff, Nat.reduceAdd, Nat.reduceSub, Nat.reduceMul, Nat.reduceLeDiff, ne_eq, not_false_eq_true, Int.reduceEq, Int.reduceLT, Int.reduceLE, Int.reduceNeg, Int.reduceToNat, Int.reduceGT, Int.reduceGE, Nat.reduceLT, Nat.lt_add_one, Nat.zero_lt_succ, Nat.succ_pos, Nat.zero_le, beq_self_eq_true, k_gatepostref02_Days_2, k_gatepostref02_Days_4, k_gatepostref02_Days_3, k_gatepostref02_Days_1, k_gatepostref02_Days_6, k_gatepostref02_Days_5, k_gatepostref02_Days_0, a1, decide_true]
  by_cases a2 : y > 9999
  · rw [show daysS y m d = -1 from if_neg (by omega)]
    simp (maxSteps := 4000000) only [vm, vl, Arg.get, cells, stor, boundO, resultsV, resV, partK, loadV, Vm.part, fillC, splice, reduceIte, reduceCtorEq, Nat.reduceEqDiff, Nat.reduceAdd, Nat.reduceSub, Nat.reduceMul, Nat.reduceLeDiff, ne_eq, not_false_eq_true, Int.reduceEq, Int.reduceLT, Int.reduceLE, Int.reduceNeg, Int.reduceToNat, Int.reduceGT, Int.reduceGE, Nat.reduceLT, Nat.lt_add_one, Nat.zero_lt_succ, Nat.succ_pos, Nat.zero_le, beq_self_eq_true, k_gatepostref02_Days_2, k_gatepostref02_Days_4, k_gatepostref02_Days_3, k_gatepostref02_Days_1, k_gatepostref02_Days_6, k_gatepostref02_Days_5, k_gatepostref02_Days_0, a1, a2, decide_true, decide_false]
  by_cases a3 : m < 1
  · rw [show daysS y m d = -1 from if_neg (by omega)]
    simp (maxSteps := 4000000) only [vm, vl, Arg.get, cells, stor, boundO, resultsV, resV, partK, loadV, Vm.part, fillC, splice, reduceIte, reduceCtorEq, Nat.reduceEqDiff, Nat.reduceAdd, Nat.reduceSub, Nat.reduceMul, Nat.reduceLeDiff, ne_eq, not_false_eq_true, Int.reduceEq, Int.reduceLT, Int.reduceLE, Int.reduceNeg, Int.reduceToNat, Int.reduceGT, Int.reduceGE, Nat.reduceLT, Nat.lt_add_one, Nat.zero_lt_succ, Nat.succ_pos, Nat.zero_le, beq_self_eq_true, k_gatepostref02_Days_2, k_gatepostref02_Days_4, k_gatepostref02_Days_3, k_gatepostref02_Days_1, k_gatepostref02_Days_6, k_gatepostref02_Days_5, k_gatepostref02_Days_0, a1, a2, a3, decide_true, decide_false]
  by_cases a4 : m > 12
  · rw [show daysS y m d = -1 from if_neg (by omega)]
    simp (maxSteps := 4000000) only [vm, vl, Arg.get, cells, stor, boundO, resultsV, resV, partK, loadV, Vm.part, fillC, splice, reduceIte, reduceCtorEq, Nat.reduceEqDiff, Nat.reduceAdd, Nat.reduceSub, Nat.reduceMul, Nat.reduceLeDiff, ne_eq, not_false_eq_true, Int.reduceEq, Int.reduceLT, Int.reduceLE, Int.reduceNeg, Int.reduceToNat, Int.reduceGT, Int.reduceGE, Nat.reduceLT, Nat.lt_add_one, Nat.zero_lt_succ, Nat.succ_pos, Nat.zero_le, beq_self_eq_true, k_gatepostref02_Days_2, k_gatepostref02_Days_4, k_gatepostref02_Days_3, k_gatepostref02_Days_1, k_gatepostref02_Days_6, k_gatepostref02_Days_5, k_gatepostref02_Days_0, a1, a2, a3, a4, decide_true, decide_false]
  by_cases a5 : d < 1
  · rw [show daysS y m d = -1 from if_neg (by omega)]
    simp (maxSteps := 4000000) only [vm, vl, Arg.get, cells, stor, boundO, resultsV, resV, partK, loadV, Vm.part, fillC, splice, reduceIte, reduceCtorEq, Nat.reduceEqDiff, Nat.reduceAdd, Nat.reduceSub, Nat.reduceMul, Nat.reduceLeDiff, ne_eq, not_false_eq_true, Int.reduceEq, Int.reduceLT, Int.reduceLE, Int.reduceNeg, Int.reduceToNat, Int.reduceGT, Int.reduceGE, Nat.reduceLT, Nat.lt_add_one, Nat.zero_lt_succ, Nat.succ_pos, Nat.zero_le, beq_self_eq_true, k_gatepostref02_Days_2, k_gatepostref02_Days_4, k_gatepostref02_Days_3, k_gatepostref02_Days_1, k_gatepostref02_Days_6, k_gatepostref02_Days_5, k_gatepostref02_Days_0, a1, a2, a3, a4, a5, decide_true, decide_false]
  simp (maxSteps := 4000000) only [vm, vl, Arg.get, cells, stor, boundO, resultsV, resV, partK, loadV, Vm.part, fillC, splice, reduceIte, reduceCtorEq, Nat.reduceEqDiff, Nat.reduceAdd, Nat.reduceSub, Nat.reduceMul, Nat.reduceLeDiff, ne_eq, not_false_eq_true, Int.reduceEq, Int.reduceLT, Int.reduceLE, Int.reduceNeg, Int.reduceToNat, Int.reduceGT, Int.reduceGE, Nat.reduceLT, Nat.lt_add_one, Nat.zero_lt_succ, Nat.succ_pos, Nat.zero_le, beq_self_eq_true, k_gatepostref02_Days_2, k_gatepostref02_Days_4, k_gatepostref02_Days_3, k_gatepostref02_Days_1, k_gatepostref02_Days_6, k_gatepostref02_Days_5, k_gatepostref02_Days_0, a1, a2, a3, a4, a5, decide_true, decide_false]
  refine Cf.pu (Rlong_ok (by omega)) fun u => ?_
  by_cases a6 : d > dim y m
  · rw [show daysS y m d = -1 from if_neg (by omega)]
    simp (maxSteps := 4000000) only [vm, vl, Arg.get, cells, stor, boundO, resultsV, resV, partK, loadV, Vm.part, fillC, splice, reduceIte, reduceCtorEq, Nat.reduceEqDiff, Nat.reduceAdd, Nat.reduceSub, Nat.reduceMul, Nat.reduceLeDiff, ne_eq, not_false_eq_true, Int.reduceEq, Int.reduceLT, Int.reduceLE, Int.reduceNeg, Int.reduceToNat, Int.reduceGT, Int.reduceGE, Nat.reduceLT, Nat.lt_add_one, Nat.zero_lt_succ, Nat.succ_pos, Nat.zero_le, beq_self_eq_true, k_gatepostref02_Days_2, k_gatepostref02_Days_4, k_gatepostref02_Days_3, k_gatepostref02_Days_1, k_gatepostref02_Days_6, k_gatepostref02_Days_5, k_gatepostref02_Days_0, a6, decide_true]
  have dl := dim_le y m
  have w1 : IntKind.i64.wrap (d - 1) = d - 1 := wrap64 (by omega) (by omega)
  rw [show daysS y m d = numD y m d from if_pos ⟨by omega, by omega, by omega, by omega, by omega, by omega⟩]
  simp (maxSteps := 4000000) only [vm, vl, Arg.get, a6, decide_false, w1, k_gatepostref02_Days_0]
  refine l_gatepostref02_Days_1 (fun n e h' => ∃ j : Int, n = (y - j).toNat ∧ 1970 ≤ j ∧ j ≤ y ∧ e 0 = .int .i64 y ∧ e 1 = .int .i64 m ∧ e 7 = .int .i64 (numD j 1 1 + d - 1) ∧ e 8 = .int .i64 j ∧ ∃ t, h' = h ++ t) ?_ (n := (y - 1970).toNat) ⟨1970, rfl, by omega, by omega, rfl, rfl, by rw [numD_1970]; simp [upd], rfl, u, rfl⟩
  rintro n e h' ⟨j, rfl, hj0, hj1, e0, e1, e7, e8, t, rfl⟩
  simp only [b_gatepostref02_Days_1]
  have bj := numD_y_le j hj0 (by omega)
  by_cases c : j < y
  · have yl : 365 ≤ ylen j ∧ ylen j ≤ 366 := by unfold ylen; split <;> omega
    have w1 : IntKind.i64.wrap (numD j 1 1 + d - 1 + ylen j) = numD (j + 1) 1 1 + d - 1 := by
      rw [wrap64 (by omega) (by omega), numD_year]; omega
    have w2 : IntKind.i64.wrap (j + 1) = j + 1 := wrap64 (by omega) (by omega)
    simp (maxSteps := 4000000) only [vm, vl, Arg.get, cells, stor, boundO, resultsV, resV, partK, loadV, Vm.part, fillC, splice, reduceIte, reduceCtorEq, Nat.reduceEqDiff, Nat.reduceAdd, Nat.reduceSub, Nat.reduceMul, Nat.reduceLeDiff, ne_eq, not_false_eq_true, Int.reduceEq, Int.reduceLT, Int.reduceLE, Int.reduceNeg, Int.reduceToNat, Int.reduceGT, Int.reduceGE, Nat.reduceLT, Nat.lt_add_one, Nat.zero_lt_succ, Nat.succ_pos, Nat.zero_le, beq_self_eq_true, k_gatepostref02_Days_2, k_gatepostref02_Days_4, k_gatepostref02_Days_3, k_gatepostref02_Days_1, k_gatepostref02_Days_6, k_gatepostref02_Days_5, k_gatepostref02_Days_0, e0, e1, e7, e8, c, decide_true]
    refine Cf.pu (Ryear_ok (by omega)) fun u => ?_
    simp (maxSteps := 4000000) only [vm, vl, Arg.get, cells, stor, boundO, resultsV, resV, partK, loadV, Vm.part, fillC, splice, reduceIte, reduceCtorEq, Nat.reduceEqDiff, Nat.reduceAdd, Nat.reduceSub, Nat.reduceMul, Nat.reduceLeDiff, ne_eq, not_false_eq_true, Int.reduceEq, Int.reduceLT, Int.reduceLE, Int.reduceNeg, Int.reduceToNat, Int.reduceGT, Int.reduceGE, Nat.reduceLT, Nat.lt_add_one, Nat.zero_lt_succ, Nat.succ_pos, Nat.zero_le, beq_self_eq_true, k_gatepostref02_Days_2, k_gatepostref02_Days_4, k_gatepostref02_Days_3, k_gatepostref02_Days_1, k_gatepostref02_Days_6, k_gatepostref02_Days_5, k_gatepostref02_Days_0, w1, w2]
    exact ⟨(y - (j + 1)).toNat, by omega, j + 1, rfl, by omega, by omega, rfl, rfl, t ++ u, by simp⟩
  · have : j = y := by omega
    subst this
    simp (maxSteps := 4000000) only [vm, vl, Arg.get, e0, e1, e7, e8, c, decide_false]
    exact rdays_m hj0 (by omega) (by omega) (by omega) (by omega) (by omega) (by simp [upd, e0]) (by simp [upd, e1]) (by simp [upd, e7])
theorem numD_dec (y : Int) : numD y 12 1 + 31 = numD (y + 1) 1 1 := by
  unfold numD numY; simp; omega
theorem numD_9999 : numD 10000 1 1 = 2932897 := by decide
theorem rciv_m {day y : Int} {e : Env} {t : Heap} (h0 : 0 ≤ day) (h1 : day ≤ 2932896) (hy0 : 1970 ≤ y) (hy1 : y ≤ 9999) (a0 : numD y 1 1 ≤ day) (a1 : day < numD (y + 1) 1 1) (e0 : e 0 = .int .i64 (day - numD y 1 1)) (e5 : e 5 = .int .i64 y) :
    k_gatepostref02_Civil_1 L (Pu h (civV (civilS day))) e (h ++ t) := by
  unfold k_gatepostref02_Civil_1
  refine l_gatepostref02_Civil_0 (fun n e h' => ∃ m : Int, n = (12 - m).toNat ∧ 1 ≤ m ∧ m ≤ 12 ∧ e 0 = .int .i64 (day - numD y m 1) ∧ e 5 = .int .i64 y ∧ numD y m 1 ≤ day ∧ e 6 = .int .i64 m ∧ ∃ t, h' = h ++ t) ?_ (n := 11) ⟨1, by decide, by omega, by omega, e0, e5, a0, rfl, t, rfl⟩
  rintro n e h' ⟨m, rfl, m0, m1, e0, e5, am, e6, t, rfl⟩
  simp only [b_gatepostref02_Civil_0]
  
  have bj := numD_m_le y m hy0 hy1 m0 m1
  have dj := dim_le y m
  have dj' := dim_ge y m
  simp (maxSteps := 4000000) only [vm, vl, Arg.get, cells, stor, boundO, resultsV, resV, partK, loadV, Vm.part, fillC, splice, reduceIte, reduceCtorEq, Nat.reduceEqDiff, Nat.reduceAdd, Nat.reduceSub, Nat.reduceMul, Nat.reduceLeDiff, ne_eq, not_false_eq_true, Int.reduceEq, Int.reduceLT, Int.reduceLE, Int.reduceNeg, Int.reduceToNat, Int.reduceGT, Int.reduceGE, Nat.reduceLT, Nat.lt_add_one, Nat.zero_lt_succ, Nat.succ_pos, Nat.zero_le, beq_self_eq_true, k_gatepostref02_Civil_2, k_gatepostref02_Civil_3, k_gatepostref02_Civil_1, k_gatepostref02_Civil_4, k_gatepostref02_Civil_0, e0, e5, e6]
  refine Cf.pu (Rlong_ok (by omega)) fun u => ?_
  by_cases c : day - numD y m 1 ≥ dim y m
  · have m11 : m < 12 := by
      rcases Int.lt_or_le m 12 with h | h
      · exact h
      · exfalso
        have : m = 12 := by omega
        subst this
        have := numD_dec y
        have : dim y 12 = 31 := by unfold dim; simp
        omega
    have nm := numD_month y m m0 m11
    have w1 : IntKind.i64.wrap (day - numD y m 1 - dim y m) = day - numD y (m + 1) 1 := by
      rw [wrap64 (by omega) (by omega)]; omega
    have w2 : IntKind.i64.wrap (m + 1) = m + 1 := wrap64 (by omega) (by omega)
    simp (maxSteps := 4000000) only [vm, vl, Arg.get, cells, stor, boundO, resultsV, resV, partK, loadV, Vm.part, fillC, splice, reduceIte, reduceCtorEq, Nat.reduceEqDiff, Nat.reduceAdd, Nat.reduceSub, Nat.reduceMul, Nat.reduceLeDiff, ne_eq, not_false_eq_true, Int.reduceEq, Int.reduceLT, Int.reduceLE, Int.reduceNeg, Int.reduceToNat, Int.reduceGT, Int.reduceGE, Nat.reduceLT, Nat.lt_add_one, Nat.zero_lt_succ, Nat.succ_pos, Nat.zero_le, beq_self_eq_true, k_gatepostref02_Civil_2, k_gatepostref02_Civil_3, k_gatepostref02_Civil_1, k_gatepostref02_Civil_4, k_gatepostref02_Civil_0, e0, e5, e6, c, decide_true, w1, w2]
    refine Cf.pu (Rlong_ok (by omega)) fun u2 => ?_
    simp (maxSteps := 4000000) only [vm, vl, Arg.get, cells, stor, boundO, resultsV, resV, partK, loadV, Vm.part, fillC, splice, reduceIte, reduceCtorEq, Nat.reduceEqDiff, Nat.reduceAdd, Nat.reduceSub, Nat.reduceMul, Nat.reduceLeDiff, ne_eq, not_false_eq_true, Int.reduceEq, Int.reduceLT, Int.reduceLE, Int.reduceNeg, Int.reduceToNat, Int.reduceGT, Int.reduceGE, Nat.reduceLT, Nat.lt_add_one, Nat.zero_lt_succ, Nat.succ_pos, Nat.zero_le, beq_self_eq_true, k_gatepostref02_Civil_2, k_gatepostref02_Civil_3, k_gatepostref02_Civil_1, k_gatepostref02_Civil_4, k_gatepostref02_Civil_0, w1]
    exact ⟨(12 - (m + 1)).toNat, by omega, m + 1, rfl, by omega, by omega, rfl, by omega, rfl, t ++ (u ++ u2), by simp⟩
  · have w1 : IntKind.i64.wrap (day - numD y m 1 + 1) = day - numD y m 1 + 1 := wrap64 (by omega) (by omega)
    have cn := civil_num y m (day - numD y m 1 + 1) hy0 hy1 m0 m1 (by omega) (by omega)
    rw [numD_day, show numD y m 1 + (day - numD y m 1 + 1) - 1 = day by omega] at cn
    rw [cn.2.2]
    simp (maxSteps := 4000000) only [vm, vl, Arg.get, cells, stor, boundO, resultsV, resV, partK, loadV, Vm.part, fillC, splice, reduceIte, reduceCtorEq, Nat.reduceEqDiff, Nat.reduceAdd, Nat.reduceSub, Nat.reduceMul, Nat.reduceLeDiff, ne_eq, not_false_eq_true, Int.reduceEq, Int.reduceLT, Int.reduceLE, Int.reduceNeg, Int.reduceToNat, Int.reduceGT, Int.reduceGE, Nat.reduceLT, Nat.lt_add_one, Nat.zero_lt_succ, Nat.succ_pos, Nat.zero_le, beq_self_eq_true, k_gatepostref02_Civil_2, k_gatepostref02_Civil_3, k_gatepostref02_Civil_1, k_gatepostref02_Civil_4, k_gatepostref02_Civil_0, e0, e5, e6, c, decide_false, w1, civV]
theorem RCivil_ok {day : Int} : Cf F L i_gatepostref02_Civil [.int .i64 day] h (Pu h (civV (civA day))) := by
  refine run_gatepostref02_Civil ?_
  simp only [p_gatepostref02_Civil]
  by_cases h0 : day < 0
  · have e : civA day = (0, 0, 0) := if_neg (by omega)
    rw [e]
    simp (maxSteps := 4000000) only [vm, vl, Arg.get, cells, stor, boundO, resultsV, resV, partK, loadV, Vm.part, fillC, splice, reduceIte, reduceCtorEq, Nat.reduceEqDiff, Nat.reduceAdd, Nat.reduceSub, Nat.reduceMul, Nat.reduceLeDiff, ne_eq, not_false_eq_true, Int.reduceEq, Int.reduceLT, Int.reduceLE, Int.reduceNeg, Int.reduceToNat, Int.reduceGT, Int.reduceGE, Nat.reduceLT, Nat.lt_add_one, Nat.zero_lt_succ, Nat.succ_pos, Nat.zero_le, beq_self_eq_true, k_gatepostref02_Civil_2, k_gatepostref02_Civil_3, k_gatepostref02_Civil_1, k_gatepostref02_Civil_4, k_gatepostref02_Civil_0, h0, decide_true, civV]
  by_cases h1 : day > 2932896
  · have e : civA day = (0, 0, 0) := if_neg (by omega)
    rw [e]
    simp (maxSteps := 4000000) only [vm, vl, Arg.get, cells, stor, boundO, resultsV, resV, partK, loadV, Vm.part, fillC, splice, reduceIte, reduceCtorEq, Nat.reduceEqDiff, Nat.reduceAdd, Nat.reduceSub, Nat.reduceMul, Nat.reduceLeDiff, ne_eq, not_false_eq_true, Int.reduceEq, Int.reduceLT, Int.reduceLE, Int.reduceNeg, Int.reduceToNat, Int.reduceGT, Int.reduceGE, Nat.reduceLT, Nat.lt_add_one, Nat.zero_lt_succ, Nat.succ_pos, Nat.zero_le, beq_self_eq_true, k_gatepostref02_Civil_2, k_gatepostref02_Civil_3, k_gatepostref02_Civil_1, k_gatepostref02_Civil_4, k_gatepostref02_Civil_0, h0, h1, decide_true, decide_false, civV]
  rw [show civA day = civilS day from if_pos ⟨by omega, by omega⟩]
  simp (maxSteps := 4000000) only [vm, vl, Arg.get, cells, stor, boundO, resultsV, resV, partK, loadV, Vm.part, fillC, splice, reduceIte, reduceCtorEq, Nat.reduceEqDiff, Nat.reduceAdd, Nat.reduceSub, Nat.reduceMul, Nat.reduceLeDiff, ne_eq, not_false_eq_true, Int.reduceEq, Int.reduceLT, Int.reduceLE, Int.reduceNeg, Int.reduceToNat, Int.reduceGT, Int.reduceGE, Nat.reduceLT, Nat.lt_add_one, Nat.zero_lt_succ, Nat.succ_pos, Nat.zero_le, beq_self_eq_true, k_gatepostref02_Civil_2, k_gatepostref02_Civil_3, k_gatepostref02_Civil_1, k_gatepostref02_Civil_4, k_gatepostref02_Civil_0, h0, h1, decide_false]
  refine l_gatepostref02_Civil_1 (fun n e h' => ∃ j : Int, n = (9999 - j).toNat ∧ 1970 ≤ j ∧ j ≤ 9999 ∧ e 0 = .int .i64 (day - numD j 1 1) ∧ e 5 = .int .i64 j ∧ numD j 1 1 ≤ day ∧ ∃ t, h' = h ++ t) ?_ (n := 8029) ⟨1970, by decide, by omega, by omega, by rw [numD_1970, Int.sub_zero]; rfl, rfl, by rw [numD_1970]; omega, [], by simp⟩
  rintro n e h' ⟨j, rfl, j0, j1, e0, e5, aj, t, rfl⟩
  simp only [b_gatepostref02_Civil_1]
  have bj := numD_y_le j j0 j1
  have yl : 365 ≤ ylen j ∧ ylen j ≤ 366 := by unfold ylen; split <;> omega
  simp (maxSteps := 4000000) only [vm, vl, Arg.get, e0, e5]
  refine Cf.pu (Ryear_ok (by omega)) fun u => ?_
  have ny := numD_year j
  by_cases c : day - numD j 1 1 ≥ ylen j
  · have j9 : j < 9999 := by
      rcases Int.lt_or_le j 9999 with h | h
      · exact h
      · exfalso
        have : j = 9999 := by omega
        subst this
        have := numD_9999
        simp only [show (9999 : Int) + 1 = 10000 from rfl] at ny
        omega
    have w1 : IntKind.i64.wrap (day - numD j 1 1 - ylen j) = day - numD (j + 1) 1 1 := by
      rw [wrap64 (by omega) (by omega)]; omega
    have w2 : IntKind.i64.wrap (j + 1) = j + 1 := wrap64 (by omega) (by omega)
    simp (maxSteps := 4000000) only [vm, vl, Arg.get, e0, e5, c, decide_true, w1, w2, k_gatepostref02_Civil_4, upd, reduceIte, Nat.reduceEqDiff, reduceCtorEq]
    refine Cf.pu (Ryear_ok (by omega)) fun u2 => ?_
    simp (maxSteps := 4000000) only [vm, vl, Arg.get, w1, w2, upd, reduceIte, Nat.reduceEqDiff, reduceCtorEq]
    exact ⟨(9999 - (j + 1)).toNat, by omega, j + 1, rfl, by omega, by omega, rfl, rfl, by omega, t ++ (u ++ u2), by simp⟩
  · simp (maxSteps := 4000000) only [vm, vl, Arg.get, e0, e5, c, decide_false, List.append_assoc]
    exact rciv_m (by omega) (by omega) j0 j1 aj (by omega) (by simp [upd, e0]) (by simp [upd, e5])
end Go.Proofs.YtdgklgeddbfeaaaDoor.Vh
