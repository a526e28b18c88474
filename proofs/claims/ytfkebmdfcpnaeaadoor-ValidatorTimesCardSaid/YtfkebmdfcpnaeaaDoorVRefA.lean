/- The reference's leap, long, year, Days, Civil on the small machine. -/
import Derived.Test.YtfkebmdfcpnaeaaDoorVDateA
import Derived.Test.YtfkebmdfcpnaeaaDoorVBackA
set_option linter.unusedVariables false
set_option linter.unusedSimpArgs false
namespace Go.Proofs.YtfkebmdfcpnaeaaDoor.Vh
open Go.Vm
attribute [local congr] wi_congr wg_congr wgd_congr wb_congr wl_congr cf_congr
variable {L : FuncId → List V → V → Prop} {h : Heap}
theorem Rleap_ok {y : Int} (h0 : 0 ≤ y) : Cf F L i_gatepostref02_leap [.int .i64 y] h (Pu h (.bool (decide (leapP y)))) := by
  refine run_gatepostref02_leap ?_
  simp only [p_gatepostref02_leap]
  have t1 : y.tmod 4 = y % 4 := tmod_nn h0
  have t2 : y.tmod 100 = y % 100 := tmod_nn h0
  have t3 : y.tmod 400 = y % 400 := tmod_nn h0
  unfold leapP
  by_cases a : y % 4 = 0
  · by_cases b : y % 100 = 0
    · by_cases c : y % 400 = 0
      · simp (maxSteps := 4000000) only [vm, vl, Arg.get, cells, stor, boundO, resultsV, resV, partK, loadV, Vm.part, fillC, splice, reduceIte, reduceCtorEq, Nat.reduceEqDiff, Nat.reduceAdd, Nat.reduceSub, Nat.reduceMul, Nat.reduceLeDiff, ne_eq, not_false_eq_true, Int.reduceEq, Int.reduceLT, Int.reduceLE, Int.reduceNeg, Int.reduceToNat, Int.reduceGT, Int.reduceGE, Nat.reduceLT, Nat.lt_add_one, Nat.zero_lt_succ, Nat.succ_pos, Nat.zero_le, beq_self_eq_true, bin_rem, t1, t2, t3, a, b, c, decide_true, decide_false, Bool.not_true, Bool.not_false]
        simp
      · simp (maxSteps := 4000000) only [vm, vl, Arg.get, cells, stor, boundO, resultsV, resV, partK, loadV, Vm.part, fillC, splice, reduceIte, reduceCtorEq, Nat.reduceEqDiff, Nat.reduceAdd, Nat.reduceSub, Nat.reduceMul, Nat.reduceLeDiff, ne_eq, not_false_eq_true, Int.reduceEq, Int.reduceLT, Int.reduceLE, Int.reduceNeg, Int.reduceToNat, Int.reduceGT, Int.reduceGE, Nat.reduceLT, Nat.lt_add_one, Nat.zero_lt_succ, Nat.succ_pos, Nat.zero_le, beq_self_eq_true, bin_rem, t1, t2, t3, a, b, c, decide_true, decide_false, Bool.not_true, Bool.not_false]
        simp
    · simp (maxSteps := 4000000) only [vm, vl, Arg.get, cells, stor, boundO, resultsV, resV, partK, loadV, Vm.part, fillC, splice, reduceIte, reduceCtorEq, Nat.reduceEqDiff, Nat.reduceAdd, Nat.reduceSub, Nat.reduceMul, Nat.reduceLeDiff, ne_eq, not_false_eq_true, Int.reduceEq, Int.reduceLT, Int.reduceLE, Int.reduceNeg, Int.reduceToNat, Int.reduceGT, Int.reduceGE, Nat.reduceLT, Nat.lt_add_one, Nat.zero_lt_succ, Nat.succ_pos, Nat.zero_le, beq_self_eq_true, bin_rem, t1, t2, t3, a, b, decide_true, decide_false, Bool.not_true, Bool.not_false]
      simp
  · simp (maxSteps := 4000000) only [vm, vl, Arg.get, cells, stor, boundO, resultsV, resV, partK, loadV, Vm.part, fillC, splice, reduceIte, reduceCtorEq, Nat.reduceEqDiff, Nat.reduceAdd, Nat.reduceSub, Nat.reduceMul, Nat.reduceLeDiff, ne_eq, not_false_eq_true, Int.reduceEq, Int.reduceLT, Int.reduceLE, Int.reduceNeg, Int.reduceToNat, Int.reduceGT, Int.reduceGE, Nat.reduceLT, Nat.lt_add_one, Nat.zero_lt_succ, Nat.succ_pos, Nat.zero_le, beq_self_eq_true, bin_rem, t1, t2, t3, a, decide_true, decide_false, Bool.not_true, Bool.not_false]
    simp
theorem Rlong_ok {y m : Int} (h0 : 0 ≤ y) : Cf F L i_gatepostref02_long [.int .i64 y, .int .i64 m] h (Pu h (.int .i64 (dim y m))) := by
  refine run_gatepostref02_long ?_
  simp only [p_gatepostref02_long]
  unfold dim
  by_cases a : m = 2
  · subst a
    simp (maxSteps := 4000000) only [vm, vl, Arg.get, cells, stor, boundO, resultsV, resV, partK, loadV, Vm.part, fillC, splice, reduceIte, reduceCtorEq, Nat.reduceEqDiff, Nat.reduceAdd, Nat.reduceSub, Nat.reduceMul, Nat.reduceLeDiff, ne_eq, not_false_eq_true, Int.reduceEq, Int.reduceLT, Int.reduceLE, Int.reduceNeg, Int.reduceToNat, Int.reduceGT, Int.reduceGE, Nat.reduceLT, Nat.lt_add_one, Nat.zero_lt_succ, Nat.succ_pos, Nat.zero_le, beq_self_eq_true, k_gatepostref02_long_0, k_gatepostref02_long_1, k_gatepostref02_long_2, decide_true]
    refine Cf.pu (Rleap_ok h0) fun u => ?_
    by_cases b : leapP y
    · simp (maxSteps := 4000000) only [vm, vl, Arg.get, cells, stor, boundO, resultsV, resV, partK, loadV, Vm.part, fillC, splice, reduceIte, reduceCtorEq, Nat.reduceEqDiff, Nat.reduceAdd, Nat.reduceSub, Nat.reduceMul, Nat.reduceLeDiff, ne_eq, not_false_eq_true, Int.reduceEq, Int.reduceLT, Int.reduceLE, Int.reduceNeg, Int.reduceToNat, Int.reduceGT, Int.reduceGE, Nat.reduceLT, Nat.lt_add_one, Nat.zero_lt_succ, Nat.succ_pos, Nat.zero_le, beq_self_eq_true, k_gatepostref02_long_0, k_gatepostref02_long_1, k_gatepostref02_long_2, b, decide_true, if_true]
    · simp (maxSteps := 4000000) only [vm, vl, Arg.get, cells, stor, boundO, resultsV, resV, partK, loadV, Vm.part, fillC, splice, reduceIte, reduceCtorEq, Nat.reduceEqDiff, Nat.reduceAdd, Nat.reduceSub, Nat.reduceMul, Nat.reduceLeDiff, ne_eq, not_false_eq_true, Int.reduceEq, Int.reduceLT, Int.reduceLE, Int.reduceNeg, Int.reduceToNat, Int.reduceGT, Int.reduceGE, Nat.reduceLT, Nat.lt_add_one, Nat.zero_lt_succ, Nat.succ_pos, Nat.zero_le, beq_self_eq_true, k_gatepostref02_long_0, k_gatepostref02_long_1, k_gatepostref02_long_2, b, decide_false, if_true, if_false]
  · by_cases a4 : m = 4
    · subst a4
      simp (maxSteps := 4000000) only [vm, vl, Arg.get, cells, stor, boundO, resultsV, resV, partK, loadV, Vm.part, fillC, splice, reduceIte, reduceCtorEq, Nat.reduceEqDiff, Nat.reduceAdd, Nat.reduceSub, Nat.reduceMul, Nat.reduceLeDiff, ne_eq, not_false_eq_true, Int.reduceEq, Int.reduceLT, Int.reduceLE, Int.reduceNeg, Int.reduceToNat, Int.reduceGT, Int.reduceGE, Nat.reduceLT, Nat.lt_add_one, Nat.zero_lt_succ, Nat.succ_pos, Nat.zero_le, beq_self_eq_true, k_gatepostref02_long_0, k_gatepostref02_long_1, k_gatepostref02_long_2, a, decide_true, decide_false]
      simp
    by_cases a6 : m = 6
    · subst a6
      simp (maxSteps := 4000000) only [vm, vl, Arg.get, cells, stor, boundO, resultsV, resV, partK, loadV, Vm.part, fillC, splice, reduceIte, reduceCtorEq, Nat.reduceEqDiff, Nat.reduceAdd, Nat.reduceSub, Nat.reduceMul, Nat.reduceLeDiff, ne_eq, not_false_eq_true, Int.reduceEq, Int.reduceLT, Int.reduceLE, Int.reduceNeg, Int.reduceToNat, Int.reduceGT, Int.reduceGE, Nat.reduceLT, Nat.lt_add_one, Nat.zero_lt_succ, Nat.succ_pos, Nat.zero_le, beq_self_eq_true, k_gatepostref02_long_0, k_gatepostref02_long_1, k_gatepostref02_long_2, a, a4, decide_true, decide_false]
      simp
    by_cases a9 : m = 9
    · subst a9
      simp (maxSteps := 4000000) only [vm, vl, Arg.get, cells, stor, boundO, resultsV, resV, partK, loadV, Vm.part, fillC, splice, reduceIte, reduceCtorEq, Nat.reduceEqDiff, Nat.reduceAdd, Nat.reduceSub, Nat.reduceMul, Nat.reduceLeDiff, ne_eq, not_false_eq_true, Int.reduceEq, Int.reduceLT, Int.reduceLE, Int.reduceNeg, Int.reduceToNat, Int.reduceGT, Int.reduceGE, Nat.reduceLT, Nat.lt_add_one, Nat.zero_lt_succ, Nat.succ_pos, Nat.zero_le, beq_self_eq_true, k_gatepostref02_long_0, k_gatepostref02_long_1, k_gatepostref02_long_2, a, a4, a6, decide_true, decide_false]
      simp
    by_cases a11 : m = 11
    · subst a11
      simp (maxSteps := 4000000) only [vm, vl, Arg.get, cells, stor, boundO, resultsV, resV, partK, loadV, Vm.part, fillC, splice, reduceIte, reduceCtorEq, Nat.reduceEqDiff, Nat.reduceAdd, Nat.reduceSub, Nat.reduceMul, Nat.reduceLeDiff, ne_eq, not_false_eq_true, Int.reduceEq, Int.reduceLT, Int.reduceLE, Int.reduceNeg, Int.reduceToNat, Int.reduceGT, Int.reduceGE, Nat.reduceLT, Nat.lt_add_one, Nat.zero_lt_succ, Nat.succ_pos, Nat.zero_le, beq_self_eq_true, k_gatepostref02_long_0, k_gatepostref02_long_1, k_gatepostref02_long_2, a, a4, a6, a9, decide_true, decide_false]
      simp
    simp (maxSteps := 4000000) only [vm, vl, Arg.get, cells, stor, boundO, resultsV, resV, partK, loadV, Vm.part, fillC, splice, reduceIte, reduceCtorEq, Nat.reduceEqDiff, Nat.reduceAdd, Nat.reduceSub, Nat.reduceMul, Nat.reduceLeDiff, ne_eq, not_false_eq_true, Int.reduceEq, Int.reduceLT, Int.reduceLE, Int.reduceNeg, Int.reduceToNat, Int.reduceGT, Int.reduceGE, Nat.reduceLT, Nat.lt_add_one, Nat.zero_lt_succ, Nat.succ_pos, Nat.zero_le, beq_self_eq_true, k_gatepostref02_long_0, k_gatepostref02_long_1, k_gatepostref02_long_2, a, a4, a6, a9, a11, decide_true, decide_false, or_self]
def ylen (y : Int) : Int := if leapP y then 366 else 365
theorem Ryear_ok {y : Int} (h0 : 0 ≤ y) : Cf F L i_gatepostref02_year [.int .i64 y] h (Pu h (.int .i64 (ylen y))) := by
  refine run_gatepostref02_year ?_
  simp only [p_gatepostref02_year]
  refine Cf.pu (Rleap_ok h0) fun u => ?_
  unfold ylen
  by_cases b : leapP y
  · simp (maxSteps := 4000000) only [vm, vl, Arg.get, cells, stor, boundO, resultsV, resV, partK, loadV, Vm.part, fillC, splice, reduceIte, reduceCtorEq, Nat.reduceEqDiff, Nat.reduceAdd, Nat.reduceSub, Nat.reduceMul, Nat.reduceLeDiff, ne_eq, not_false_eq_true, Int.reduceEq, Int.reduceLT, Int.reduceLE, Int.reduceNeg, Int.reduceToNat, Int.reduceGT, Int.reduceGE, Nat.reduceLT, Nat.lt_add_one, Nat.zero_lt_succ, Nat.succ_pos, Nat.zero_le, beq_self_eq_true, k_gatepostref02_year_0, b, decide_true, if_true]
  · simp (maxSteps := 4000000) only [vm, vl, Arg.get, cells, stor, boundO, resultsV, resV, partK, loadV, Vm.part, fillC, splice, reduceIte, reduceCtorEq, Nat.reduceEqDiff, Nat.reduceAdd, Nat.reduceSub, Nat.reduceMul, Nat.reduceLeDiff, ne_eq, not_false_eq_true, Int.reduceEq, Int.reduceLT, Int.reduceLE, Int.reduceNeg, Int.reduceToNat, Int.reduceGT, Int.reduceGE, Nat.reduceLT, Nat.lt_add_one, Nat.zero_lt_succ, Nat.succ_pos, Nat.zero_le, beq_self_eq_true, k_gatepostref02_year_0, b, decide_false, if_false]
theorem numD_year (y : Int) : numD (y + 1) 1 1 = numD y 1 1 + ylen y := by
  unfold ylen
  by_cases hl : leapP y
  · rw [if_pos hl]; unfold leapP at hl; unfold numD numY; simp only [show (1 : Int) ≤ 2 from by decide, if_true]; omega
  · rw [if_neg hl]; unfold leapP at hl; unfold numD numY; simp only [show (1 : Int) ≤ 2 from by decide, if_true]; omega
theorem numD_month (y m : Int) (h0 : 1 ≤ m) (h1 : m < 12) : numD y (m + 1) 1 = numD y m 1 + dim y m := by
  have hm : m = 1 ∨ m = 2 ∨ m = 3 ∨ m = 4 ∨ m = 5 ∨ m = 6 ∨ m = 7 ∨ m = 8 ∨ m = 9 ∨ m = 10 ∨ m = 11 := by omega
  rcases hm with rfl | rfl | rfl | rfl | rfl | rfl | rfl | rfl | rfl | rfl | rfl
  case inr.inl =>
    unfold numD numY dim
    simp only [show (2 : Int) + 1 = 3 from rfl, if_true]
    by_cases hl : leapP y
    · rw [if_pos hl]; unfold leapP at hl; simp; omega
    · rw [if_neg hl]; unfold leapP at hl; simp; omega
  all_goals (unfold numD numY dim; simp; try omega)
theorem numD_day (y m d : Int) : numD y m d = numD y m 1 + d - 1 := by
  unfold numD numY; split <;> omega
theorem numD_1970 : numD 1970 1 1 = 0 := by decide
theorem dim_ge (y m : Int) : 28 ≤ dim y m := by unfold dim; split <;> (try split) <;> omega
theorem numD_y_le (y : Int) (h0 : 1970 ≤ y) (h1 : y ≤ 9999) : 0 ≤ numD y 1 1 ∧ numD y 1 1 ≤ 3000000 := by
  unfold numD numY; simp only [show (1 : Int) ≤ 2 from by decide, if_true]; omega
theorem numD_m_le (y m : Int) (h0 : 1970 ≤ y) (h1 : y ≤ 9999) (m0 : 1 ≤ m) (m1 : m ≤ 12) : -1000 ≤ numD y m 1 ∧ numD y m 1 ≤ 3000000 := by
  unfold numD numY; split <;> omega
theorem numD_dec (y : Int) : numD y 12 1 + 31 = numD (y + 1) 1 1 := by
  unfold numD numY; simp; omega
theorem numD_9999 : numD 10000 1 1 = 2932897 := by decide
theorem rciv_m {day y : Int} {e : Env} {t : Heap} (h0 : 0 ≤ day) (h1 : day ≤ 2932896) (hy0 : 1970 ≤ y) (hy1 : y ≤ 9999) (a0 : numD y 1 1 ≤ day) (a1 : day < numD (y + 1) 1 1) (e0 : e 0 = .int .i64 (day - numD y 1 1)) (e5 : e 5 = .int .i64 y) :
    k_gatepostref02_Civil_1 L (Pu h (civV (civilS day))) e (h ++ t) := by
  unfold k_gatepostref02_Civil_1
  refine l_gatepostref02_Civil_0 (fun n e h' => ∃ m : Int, n = (12 - m).toNat ∧ 1 ≤ m ∧ m ≤ 12 ∧ e 0 = .int .i64 (day - numD y m 1) ∧ e 5 = .int .i64 y ∧ numD y m 1 ≤ day ∧ e 6 = .int .i64 m ∧ ∃ t, h' = h ++ t) ?_ (n := 11) ⟨1, by decide, by omega, by omega, e0, e5, a0, rfl, t, rfl⟩
  rintro n e h' ⟨m, rfl, m0, m1, e0, e5, am, e6, t, rfl⟩
  simp only [b_gatepostref02_Civil_0]
  
  have bj := numD_m_le y m hy0 hy1 m0 m1
  have dj := dim_le y m
  have dj' := dim_ge y m
  simp (maxSteps := 4000000) only [vm, vl, Arg.get, cells, stor, boundO, resultsV, resV, partK, loadV, Vm.part, fillC, splice, reduceIte, reduceCtorEq, Nat.reduceEqDiff, Nat.reduceAdd, Nat.reduceSub, Nat.reduceMul, Nat.reduceLeDiff, ne_eq, not_false_eq_true, Int.reduceEq, Int.reduceLT, Int.reduceLE, Int.reduceNeg, Int.reduceToNat, Int.reduceGT, Int.reduceGE, Nat.reduceLT, Nat.lt_add_one, Nat.zero_lt_succ, Nat.succ_pos, Nat.zero_le, beq_self_eq_true, k_gatepostref02_Civil_2, k_gatepostref02_Civil_3, k_gatepostref02_Civil_1, k_gatepostref02_Civil_4, k_gatepostref02_Civil_0, e0, e5, e6]
  refine Cf.pu (Rlong_ok (by omega)) fun u => ?_
  by_cases c : day - numD y m 1 ≥ dim y m
  · have m11 : m < 12 := by
      rcases Int.lt_or_le m 12 with h | h
      · exact h
      · exfalso
        have : m = 12 := by omega
        subst this
        have := numD_dec y
        have : dim y 12 = 31 := by unfold dim; simp
        omega
    have nm := numD_month y m m0 m11
    have w1 : IntKind.i64.wrap (day - numD y m 1 - dim y m) = day - numD y (m + 1) 1 := by
      rw [wrap64 (by omega) (by omega)]; omega
    have w2 : IntKind.i64.wrap (m + 1) = m + 1 := wrap64 (by omega) (by omega)
    simp (maxSteps := 4000000) only [vm, vl, Arg.get, cells, stor, boundO, resultsV, resV, partK, loadV, Vm.part, fillC, splice, reduceIte, reduceCtorEq, Nat.reduceEqDiff, Nat.reduceAdd, Nat.reduceSub, Nat.reduceMul, Nat.reduceLeDiff, ne_eq, not_false_eq_true, Int.reduceEq, Int.reduceLT, Int.reduceLE, Int.reduceNeg, Int.reduceToNat, Int.reduceGT, Int.reduceGE, Nat.reduceLT, Nat.lt_add_one, Nat.zero_lt_succ, Nat.succ_pos, Nat.zero_le, beq_self_eq_true, k_gatepostref02_Civil_2, k_gatepostref02_Civil_3, k_gatepostref02_Civil_1, k_gatepostref02_Civil_4, k_gatepostref02_Civil_0, e0, e5, e6, c, decide_true, w1, w2]
    refine Cf.pu (Rlong_ok (by omega)) fun u2 => ?_
    simp (maxSteps := 4000000) only [vm, vl, Arg.get, cells, stor, boundO, resultsV, resV, partK, loadV, Vm.part, fillC, splice, reduceIte, reduceCtorEq, Nat.reduceEqDiff, Nat.reduceAdd, Nat.reduceSub, Nat.reduceMul, Nat.reduceLeDiff, ne_eq, not_false_eq_true, Int.reduceEq, Int.reduceLT, Int.reduceLE, Int.reduceNeg, Int.reduceToNat, Int.reduceGT, Int.reduceGE, Nat.reduceLT, Nat.lt_add_one, Nat.zero_lt_succ, Nat.succ_pos, Nat.zero_le, beq_self_eq_true, k_gatepostref02_Civil_2, k_gatepostref02_Civil_3, k_gatepostref02_Civil_1, k_gatepostref02_Civil_4, k_gatepostref02_Civil_0, w1]
    exact ⟨(12 - (m + 1)).toNat, by omega, m + 1, rfl, by omega, by omega, rfl, by omega, rfl, t ++ (u ++ u2), by simp⟩
  · have w1 : IntKind.i64.wrap (day - numD y m 1 + 1) = day - numD y m 1 + 1 := wrap64 (by omega) (by omega)
    have cn := civil_num y m (day - numD y m 1 + 1) hy0 hy1 m0 m1 (by omega) (by omega)
    rw [numD_day, show numD y m 1 + (day - numD y m 1 + 1) - 1 = day by omega] at cn
    rw [cn.2.2]
    simp (maxSteps := 4000000) only [vm, vl, Arg.get, cells, stor, boundO, resultsV, resV, partK, loadV, Vm.part, fillC, splice, reduceIte, reduceCtorEq, Nat.reduceEqDiff, Nat.reduceAdd, Nat.reduceSub, Nat.reduceMul, Nat.reduceLeDiff, ne_eq, not_false_eq_true, Int.reduceEq, Int.reduceLT, Int.reduceLE, Int.reduceNeg, Int.reduceToNat, Int.reduceGT, Int.reduceGE, Nat.reduceLT, Nat.lt_add_one, Nat.zero_lt_succ, Nat.succ_pos, Nat.zero_le, beq_self_eq_true, k_gatepostref02_Civil_2, k_gatepostref02_Civil_3, k_gatepostref02_Civil_1, k_gatepostref02_Civil_4, k_gatepostref02_Civil_0, e0, e5, e6, c, decide_false, w1, civV]
theorem RCivil_ok {day : Int} : Cf F L i_gatepostref02_Civil [.int .i64 day] h (Pu h (civV (civA day))) := by
  refine run_gatepostref02_Civil ?_
  simp only [p_gatepostref02_Civil]
  by_cases h0 : day < 0
  · have e : civA day = (0, 0, 0) := if_neg (by omega)
    rw [e]
    simp (maxSteps := 4000000) only [vm, vl, Arg.get, cells, stor, boundO, resultsV, resV, partK, loadV, Vm.part, fillC, splice, reduceIte, reduceCtorEq, Nat.reduceEqDiff, Nat.reduceAdd, Nat.reduceSub, Nat.reduceMul, Nat.reduceLeDiff, ne_eq, not_false_eq_true, Int.reduceEq, Int.reduceLT, Int.reduceLE, Int.reduceNeg, Int.reduceToNat, Int.reduceGT, Int.reduceGE, Nat.reduceLT, Nat.lt_add_one, Nat.zero_lt_succ, Nat.succ_pos, Nat.zero_le, beq_self_eq_true, k_gatepostref02_Civil_2, k_gatepostref02_Civil_3, k_gatepostref02_Civil_1, k_gatepostref02_Civil_4, k_gatepostref02_Civil_0, h0, decide_true, civV]
  by_cases h1 : day > 2932896
  · have e : civA day = (0, 0, 0) := if_neg (by omega)
    rw [e]
    simp (maxSteps := 4000000) only [vm, vl, Arg.get, cells, stor, boundO, resultsV, resV, partK, loadV, Vm.part, fillC, splice, reduceIte, reduceCtorEq, Nat.reduceEqDiff, Nat.reduceAdd, Nat.reduceSub, Nat.reduceMul, Nat.reduceLeDiff, ne_eq, not_false_eq_true, Int.reduceEq, Int.reduceLT, Int.reduceLE, Int.reduceNeg, Int.reduceToNat, Int.reduceGT, Int.reduceGE, Nat.reduceLT, Nat.lt_add_one, Nat.zero_lt_succ, Nat.succ_pos, Nat.zero_le, beq_self_eq_true, k_gatepostref02_Civil_2, k_gatepostref02_Civil_3, k_gatepostref02_Civil_1, k_gatepostref02_Civil_4, k_gatepostref02_Civil_0, h0, h1, decide_true, decide_false, civV]
  rw [show civA day = civilS day from if_pos ⟨by omega, by omega⟩]
  simp (maxSteps := 4000000) only [vm, vl, Arg.get, cells, stor, boundO, resultsV, resV, partK, loadV, Vm.part, fillC, splice, reduceIte, reduceCtorEq, Nat.reduceEqDiff, Nat.reduceAdd, Nat.reduceSub, Nat.reduceMul, Nat.reduceLeDiff, ne_eq, not_false_eq_true, Int.reduceEq, Int.reduceLT, Int.reduceLE, Int.reduceNeg, Int.reduceToNat, Int.reduceGT, Int.reduceGE, Nat.reduceLT, Nat.lt_add_one, Nat.zero_lt_succ, Nat.succ_pos, Nat.zero_le, beq_self_eq_true, k_gatepostref02_Civil_2, k_gatepostref02_Civil_3, k_gatepostref02_Civil_1, k_gatepostref02_Civil_4, k_gatepostref02_Civil_0, h0, h1, decide_false]
  refine l_gatepostref02_Civil_1 (fun n e h' => ∃ j : Int, n = (9999 - j).toNat ∧ 1970 ≤ j ∧ j ≤ 9999 ∧ e 0 = .int .i64 (day - numD j 1 1) ∧ e 5 = .int .i64 j ∧ numD j 1 1 ≤ day ∧ ∃ t, h' = h ++ t) ?_ (n := 8029) ⟨1970, by decide, by omega, by omega, by rw [numD_1970, Int.sub_zero]; rfl, rfl, by rw [numD_1970]; omega, [], by simp⟩
  rintro n e h' ⟨j, rfl, j0, j1, e0, e5, aj, t, rfl⟩
  simp only [b_gatepostref02_Civil_1]
  have bj := numD_y_le j j0 j1
  have yl : 365 ≤ ylen j ∧ ylen j ≤ 366 := by unfold ylen; split <;> omega
  simp (maxSteps := 4000000) only [vm, vl, Arg.get, e0, e5]
  refine Cf.pu (Ryear_ok (by omega)) fun u => ?_
  have ny := numD_year j
  by_cases c : day - numD j 1 1 ≥ ylen j
  · have j9 : j < 9999 := by
      rcases Int.lt_or_le j 9999 with h | h
      · exact h
      · exfalso
        have : j = 9999 := by omega
        subst this
        have := numD_9999
        simp only [show (9999 : Int) + 1 = 10000 from rfl] at ny
        omega
    have w1 : IntKind.i64.wrap (day - numD j 1 1 - ylen j) = day - numD (j + 1) 1 1 := by
      rw [wrap64 (by omega) (by omega)]; omega
    have w2 : IntKind.i64.wrap (j + 1) = j + 1 := wrap64 (by omega) (by omega)
    simp (maxSteps := 4000000) only [vm, vl, Arg.get, e0, e5, c, decide_true, w1, w2, k_gatepostref02_Civil_4, upd, reduceIte, Nat.reduceEqDiff, reduceCtorEq]
    refine Cf.pu (Ryear_ok (by omega)) fun u2 => ?_
    simp (maxSteps := 4000000) only [vm, vl, Arg.get, w1, w2, upd, reduceIte, Nat.reduceEqDiff, reduceCtorEq]
    exact ⟨(9999 - (j + 1)).toNat, by omega, j + 1, rfl, by omega, by omega, rfl, rfl, by omega, t ++ (u ++ u2), by simp⟩
  · simp (maxSteps := 4000000) only [vm, vl, Arg.get, e0, e5, c, decide_false, List.append_assoc]
    exact rciv_m (by omega) (by omega) j0 j1 aj (by omega) (by simp [upd, e0]) (by simp [upd, e5])
open Go.Vm Go.Vt
attribute [local congr] wi_congr wg_congr wgd_congr wb_congr wl_congr cf_congr
def shLs : List Bs := [[77, 111, 110], [84, 117, 101], [87, 101, 100], [84, 104, 117], [70, 114, 105], [83, 97, 116], [83, 117, 110]]
theorem short_ok : Cf F L i_gatepostref02_short [] h (Pu h (.sl 1 .full (shLs.map .str))) := by
  refine run_gatepostref02_short ?_
  simp only [p_gatepostref02_short]
  simp (maxSteps := 4000000) only [vm, vl, Arg.get, cells, stor, reduceIte, List.all_cons, List.all_nil, List.map_cons, List.map_nil, Bool.and_true, Bool.and_self, List.length_cons, List.length_nil, Nat.reduceAdd, decide_true]
  rfl
theorem months_ok : Cf F L i_gatepostref02_months [] h (Pu h (.sl 1 .full (monLs.map .str))) := by
  refine run_gatepostref02_months ?_
  simp only [p_gatepostref02_months]
  simp (maxSteps := 4000000) only [vm, vl, Arg.get, cells, stor, reduceIte, List.all_cons, List.all_nil, List.map_cons, List.map_nil, Bool.and_true, Bool.and_self, List.length_cons, List.length_nil, Nat.reduceAdd, decide_true]
  rfl
def findI (l : List Bs) (s : Bs) : Int := if lpos s l < l.length then (lpos s l : Int) else -1
theorem lst_at {K : V → Heap → Prop} {e : Env} {hh : Heap} {l : List Bs} {o : Own} {i : Nat} (hi : i < l.length) : wi F L (.ixaSl 1 (.c (.sl 1 o (l.map .str))) (.c (.int .i64 i))) e hh K = K (.iptr [.str (l.getD i [])]) hh := by
  rw [ListV.at (es := l.map V.str) (.inr ⟨_, rfl⟩) (by simpa using hi), aggstr_at hi]; rfl
theorem lst_len {K : V → Heap → Prop} {e : Env} {hh : Heap} {l : List Bs} {o : Own} : wi F L (.len 1 (.c (.sl 1 o (l.map .str)))) e hh K = K (.int .i64 l.length) hh := by
  rw [ListV.len (es := l.map V.str) (.inr ⟨_, rfl⟩), List.length_map]
def numN (s : Bs) : Int := if s.all isDig then numV s else -1
theorem numN_le {s : Bs} (hl : s.length ≤ 4) : -1 ≤ numN s ∧ numN s ≤ 283305 := by
  have := numV_le hl
  unfold numN; split <;> omega
def clkN (s : Bs) : Int :=
  if s.length = 8 ∧ s.getD 2 0 = 58 ∧ s.getD 5 0 = 58 ∧ 0 ≤ numN (s.take 2) ∧ numN (s.take 2) ≤ 23 ∧ 0 ≤ numN ((s.take 5).drop 3) ∧ numN ((s.take 5).drop 3) ≤ 59 ∧ 0 ≤ numN (s.drop 6) ∧ numN (s.drop 6) ≤ 60 then
    numN (s.take 2) * 3600 + numN ((s.take 5).drop 3) * 60 + min (numN (s.drop 6)) 59
  else -1
theorem clkN_le (s : Bs) : -1 ≤ clkN s ∧ clkN s ≤ 86399 := by unfold clkN; split <;> omega
theorem clkN_no {s : Bs} {t : Heap} (h1 : ¬ (s.length = 8 ∧ s.getD 2 0 = 58 ∧ s.getD 5 0 = 58 ∧ 0 ≤ numN (s.take 2) ∧ numN (s.take 2) ≤ 23 ∧ 0 ≤ numN ((s.take 5).drop 3) ∧ numN ((s.take 5).drop 3) ≤ 59 ∧ 0 ≤ numN (s.drop 6) ∧ numN (s.drop 6) ≤ 60)) : clkN s = -1 := if_neg h1
theorem u8_ne {a b : UInt8} (h : ¬ a = b) : ¬ ((a.toNat : Int) = (b.toNat : Int)) := fun e => h (UInt8.toNat_inj.1 (by omega))
def secN (w y m d c : Int) : V := if 0 ≤ daysS y m d ∧ 0 ≤ c ∧ w = (daysS y m d + 3) % 7 then .tup [.int .i64 (daysS y m d * 86400 + c), .bool true] else .tup [.int .i64 0, .bool false]
theorem two_cut : ∀ k, k < 10 → (([48, 49, 50, 51, 52, 53, 54, 55, 56, 57] : Bs).take (k + 1)).drop k = [UInt8.ofNat (48 + k)] := by decide +kernel
theorem Rtwo_ok {n : Nat} (hn : n < 100) : Cf F L i_gatepostref02_two [.int .i64 n] h (Pu h (.str (two n))) := by
  refine run_gatepostref02_two ?_
  simp only [p_gatepostref02_two]
  have q1 : IntKind.i64.wrap ((n : Int).tdiv 10) = (n / 10 : Nat) := by rw [wdiv (by omega) (by omega) (by omega)]; omega
  have q2 : (n : Int).tmod 10 = (n % 10 : Nat) := by rw [tmod_nn (by omega)]; omega
  have w1 : IntKind.i64.wrap (((n / 10 : Nat) : Int) + 1) = ((n / 10 + 1 : Nat) : Int) := by rw [wrap64 (by omega) (by omega)]; omega
  have w2 : IntKind.i64.wrap (((n % 10 : Nat) : Int) + 1) = ((n % 10 + 1 : Nat) : Int) := by rw [wrap64 (by omega) (by omega)]; omega
  have c1 := two_cut (n / 10) (by omega)
  have c2 := two_cut (n % 10) (by omega)
  have ha : n / 10 < 10 := by omega
  have hb : n % 10 < 10 := by omega
  have e : two n = [UInt8.ofNat (48 + n / 10)] ++ [UInt8.ofNat (48 + n % 10)] := rfl
  rw [e]
  have b1 : binV .add (.str [UInt8.ofNat (48 + n / 10)]) (.str [UInt8.ofNat (48 + n % 10)]) = some (.str ([UInt8.ofNat (48 + n / 10)] ++ [UInt8.ofNat (48 + n % 10)])) := bin_sadd (by show 1 + 1 ≤ _; omega)
  generalize n / 10 = a at *
  generalize n % 10 = b at *
  have l1 : a ≤ a + 1 := by omega
  have l2 : b ≤ b + 1 := by omega
  have l3 : a + 1 ≤ 10 := by omega
  have l4 : b + 1 ≤ 10 := by omega
  generalize [UInt8.ofNat (48 + a)] = X at *
  generalize [UInt8.ofNat (48 + b)] = Y at *
  have LD : ([48, 49, 50, 51, 52, 53, 54, 55, 56, 57] : Bs).length = 10 := rfl
  generalize ([48, 49, 50, 51, 52, 53, 54, 55, 56, 57] : Bs) = D at *
  simp (maxSteps := 4000000) only [vm, vl, Arg.get, cells, stor, boundO, resultsV, resV, partK, loadV, Vm.part, fillC, splice, reduceIte, reduceCtorEq, Nat.reduceEqDiff, Nat.reduceAdd, Nat.reduceSub, Nat.reduceMul, Nat.reduceLeDiff, ne_eq, not_false_eq_true, Int.reduceEq, Int.reduceLT, Int.reduceLE, Int.reduceNeg, Int.reduceToNat, Int.reduceGT, Int.reduceGE, Nat.reduceLT, Nat.lt_add_one, Nat.zero_lt_succ, Nat.succ_pos, Nat.zero_le, beq_self_eq_true, bin_quo, bin_rem, q1, q2, w1, w2, LD, l1, l2, l3, l4, c1, c2, b1]
open Go.Vm Go.Vt
attribute [local congr] wi_congr wg_congr wgd_congr wb_congr wl_congr cf_congr
theorem sh_day : ∀ w, w < 7 → shLs.getD w [] = (dayLs.getD w []).take 3 := by decide +kernel
theorem Rfmt0_ok {sec : Int} (h0 : 0 ≤ sec) (h1 : sec / 86400 ≤ 2932896) : k_gatepostref02_Format_0 L (Pu h (.str (fmtS sec))) (.int .i64 sec) h := by
  
  obtain ⟨y, m, d, hc, y0, y1, m0, m1, d0, d1, _⟩ := civil_ok (sec / 86400) (by omega) h1
  have d2 := dim_le y m
  have ha : civA (sec / 86400) = (y, m, d) := by rw [civA, if_pos ⟨by omega, h1⟩, hc]
  have q1 : IntKind.i64.wrap (sec.tdiv 86400) = sec / 86400 := wdiv h0 (by omega) (by omega)
  have q2 : sec.tmod 86400 = sec % 86400 := tmod_nn h0
  have hF : fmtS sec = (dayLs.getD ((sec / 86400 + 3) % 7).toNat []).take 3 ++ [44, 32] ++ two d.toNat ++ [32] ++ monLs.getD (m - 1).toNat [] ++ [32] ++ (two (y.toNat / 100) ++ two (y.toNat % 100)) ++ [32] ++ two (sec % 86400 / 3600).toNat ++ [58] ++ two (sec % 86400 / 60 % 60).toNat ++ [58] ++ two (sec % 86400 % 60).toNat ++ [32, 71, 77, 84] := by
    unfold fmtS
    simp only [hc]
  generalize fmtS sec = fs at *
  simp (maxSteps := 4000000) only [vm, vl, Arg.get, cells, stor, boundO, resultsV, resV, partK, loadV, Vm.part, fillC, splice, reduceIte, reduceCtorEq, Nat.reduceEqDiff, Nat.reduceAdd, Nat.reduceSub, Nat.reduceMul, Nat.reduceLeDiff, ne_eq, not_false_eq_true, Int.reduceEq, Int.reduceLT, Int.reduceLE, Int.reduceNeg, Int.reduceToNat, Int.reduceGT, Int.reduceGE, Nat.reduceLT, Nat.lt_add_one, Nat.zero_lt_succ, Nat.succ_pos, Nat.zero_le, beq_self_eq_true, k_gatepostref02_Format_0, bin_quo, bin_rem, q1, q2]
  refine Cf.pu RCivil_ok fun t => ?_
  rw [ha]
  have dd0 : 0 ≤ sec / 86400 := by omega
  have c0 : 0 ≤ sec % 86400 := by omega
  have c1 : sec % 86400 < 86400 := by omega
  generalize sec % 86400 = c at *
  generalize sec / 86400 = day at *
  obtain ⟨w, hw, hw7⟩ : ∃ w : Nat, (day + 3) % 7 = w ∧ w < 7 := ⟨((day + 3) % 7).toNat, by omega, by omega⟩
  obtain ⟨mi, hmi, hmi12⟩ : ∃ i : Nat, m = (i : Int) + 1 ∧ i < 12 := ⟨(m - 1).toNat, by omega, by omega⟩
  obtain ⟨yn, rfl⟩ : ∃ n : Nat, y = n := ⟨y.toNat, by omega⟩
  obtain ⟨dn', rfl⟩ : ∃ n : Nat, d = n := ⟨d.toNat, by omega⟩
  obtain ⟨ch, hch⟩ : ∃ n : Nat, c / 3600 = n := ⟨(c / 3600).toNat, by omega⟩
  obtain ⟨cm, hcm⟩ : ∃ n : Nat, c / 60 % 60 = n := ⟨(c / 60 % 60).toNat, by omega⟩
  obtain ⟨cs, hcs⟩ : ∃ n : Nat, c % 60 = n := ⟨(c % 60).toNat, by omega⟩
  have q3 : IntKind.i64.wrap (day + 3) = day + 3 := wrap64 (by omega) (by omega)
  have q4 : (day + 3).tmod 7 = (w : Int) := by rw [tmod_nn (by omega), hw]
  have q5 : IntKind.i64.wrap (m - 1) = (mi : Int) := by rw [wrap64 (by omega) (by omega)]; omega
  have q6 : IntKind.i64.wrap (c.tdiv 3600) = (ch : Int) := by rw [wdiv c0 (by omega) (by omega), hch]
  have q7 : IntKind.i64.wrap (c.tdiv 60) = c / 60 := wdiv c0 (by omega) (by omega)
  have q8 : (c / 60).tmod 60 = (cm : Int) := by rw [tmod_nn (by omega), hcm]
  have q9 : c.tmod 60 = (cs : Int) := by rw [tmod_nn c0, hcs]
  have qa : IntKind.i64.wrap ((yn : Int).tdiv 100) = (yn / 100 : Nat) := by rw [wdiv (by omega) (by omega) (by omega)]; omega
  have qb : (yn : Int).tmod 100 = (yn % 100 : Nat) := by rw [tmod_nn (by omega)]; omega
  obtain ⟨u1, u2⟩ := day3 w hw7
  have u3 := mon3 mi hmi12
  have e1 : ((dn' : Int)).toNat = dn' := by omega
  have e2 : ((yn : Int)).toNat = yn := by omega
  have e3 : (m - 1).toNat = mi := by omega
  rw [hw, hch, hcm, hcs, e1, e2, e3, Int.toNat_natCast, Int.toNat_natCast, Int.toNat_natCast, Int.toNat_natCast] at hF
  have r1 : (shLs.map V.str).getD w (.tup []) = .str ((dayLs.getD w []).take 3) := by rw [aggstr_at hw7, sh_day w hw7]
  have r2 : (monLs.map V.str).getD mi (.tup []) = .str (monLs.getD mi []) := aggstr_at hmi12
  have z1 : (shLs.map V.str).length = 7 := rfl
  have z2 : (monLs.map V.str).length = 12 := rfl
  have i0 : (0 : Int) ≤ w := by omega
  have i1 : (0 : Int) ≤ mi := by omega
  have S1 : ∀ hh, Cf F L i_gatepostref02_short [] hh (Pu hh (.sl 1 .full (shLs.map .str))) := fun hh => short_ok
  have S2 : ∀ hh, Cf F L i_gatepostref02_months [] hh (Pu hh (.sl 1 .full (monLs.map .str))) := fun hh => months_ok
  have P1 : ∀ hh, Cf F L i_gatepostref02_two [.int .i64 (dn' : Int)] hh (Pu hh (.str (two dn'))) := fun hh => Rtwo_ok (by omega)
  have P2 : ∀ hh, Cf F L i_gatepostref02_two [.int .i64 ((yn / 100 : Nat) : Int)] hh (Pu hh (.str (two (yn / 100)))) := fun hh => Rtwo_ok (by omega)
  have P3 : ∀ hh, Cf F L i_gatepostref02_two [.int .i64 ((yn % 100 : Nat) : Int)] hh (Pu hh (.str (two (yn % 100)))) := fun hh => Rtwo_ok (by omega)
  have P4 : ∀ hh, Cf F L i_gatepostref02_two [.int .i64 (ch : Int)] hh (Pu hh (.str (two ch))) := fun hh => Rtwo_ok (by omega)
  have P5 : ∀ hh, Cf F L i_gatepostref02_two [.int .i64 (cm : Int)] hh (Pu hh (.str (two cm))) := fun hh => Rtwo_ok (by omega)
  have P6 : ∀ hh, Cf F L i_gatepostref02_two [.int .i64 (cs : Int)] hh (Pu hh (.str (two cs))) := fun hh => Rtwo_ok (by omega)
  have hp1 : (two dn').length = 2 := rfl
  have hp2 : (two (yn / 100)).length = 2 := rfl
  have hp3 : (two (yn % 100)).length = 2 := rfl
  have hp4 : (two ch).length = 2 := rfl
  have hp5 : (two cm).length = 2 := rfl
  have hp6 : (two cs).length = 2 := rfl
  generalize (shLs.map V.str) = LS at *
  generalize (monLs.map V.str) = LM at *
  generalize two dn' = p1 at *
  generalize two (yn / 100) = p2 at *
  generalize two (yn % 100) = p3 at *
  generalize two ch = p4 at *
  generalize two cm = p5 at *
  generalize two cs = p6 at *
  generalize yn / 100 = ya at *
  generalize yn % 100 = yb at *
  generalize (dayLs.getD w []).take 3 = dn at *
  generalize monLs.getD mi [] = mn at *
  have hdn := u2
  have hmn := u3
  obtain ⟨A0, hA0⟩ : ∃ A : Bs, A = dn ++ [44, 32] := ⟨_, rfl⟩
  have lA0 : A0.length = 5 := by rw [hA0, List.length_append]; simp only [hdn, hmn, hp1, hp2, hp3, hp4, hp5, hp6, List.length_cons, List.length_nil]
  have bA0 : binV .add (.str dn) (.str [44, 32]) = some (.str A0) := by rw [hA0]; exact bin_sadd (by simp only [hdn, hmn, hp1, hp2, hp3, hp4, hp5, hp6, List.length_cons, List.length_nil]; omega)
  obtain ⟨A1, hA1⟩ : ∃ A : Bs, A = A0 ++ p1 := ⟨_, rfl⟩
  have lA1 : A1.length = 7 := by rw [hA1, List.length_append]; simp only [hdn, hmn, hp1, hp2, hp3, hp4, hp5, hp6, lA0, List.length_cons, List.length_nil]
  have bA1 : binV .add (.str A0) (.str p1) = some (.str A1) := by rw [hA1]; exact bin_sadd (by simp only [hdn, hmn, hp1, hp2, hp3, hp4, hp5, hp6, lA0, List.length_cons, List.length_nil]; omega)
  obtain ⟨A2, hA2⟩ : ∃ A : Bs, A = A1 ++ [32] := ⟨_, rfl⟩
  have lA2 : A2.length = 8 := by rw [hA2, List.length_append]; simp only [hdn, hmn, hp1, hp2, hp3, hp4, hp5, hp6, lA0, lA1, List.length_cons, List.length_nil]
  have bA2 : binV .add (.str A1) (.str [32]) = some (.str A2) := by rw [hA2]; exact bin_sadd (by simp only [hdn, hmn, hp1, hp2, hp3, hp4, hp5, hp6, lA0, lA1, List.length_cons, List.length_nil]; omega)
  obtain ⟨A3, hA3⟩ : ∃ A : Bs, A = A2 ++ mn := ⟨_, rfl⟩
  have lA3 : A3.length = 11 := by rw [hA3, List.length_append]; simp only [hdn, hmn, hp1, hp2, hp3, hp4, hp5, hp6, lA0, lA1, lA2, List.length_cons, List.length_nil]
  have bA3 : binV .add (.str A2) (.str mn) = some (.str A3) := by rw [hA3]; exact bin_sadd (by simp only [hdn, hmn, hp1, hp2, hp3, hp4, hp5, hp6, lA0, lA1, lA2, List.length_cons, List.length_nil]; omega)
  obtain ⟨A4, hA4⟩ : ∃ A : Bs, A = A3 ++ [32] := ⟨_, rfl⟩
  have lA4 : A4.length = 12 := by rw [hA4, List.length_append]; simp only [hdn, hmn, hp1, hp2, hp3, hp4, hp5, hp6, lA0, lA1, lA2, lA3, List.length_cons, List.length_nil]
  have bA4 : binV .add (.str A3) (.str [32]) = some (.str A4) := by rw [hA4]; exact bin_sadd (by simp only [hdn, hmn, hp1, hp2, hp3, hp4, hp5, hp6, lA0, lA1, lA2, lA3, List.length_cons, List.length_nil]; omega)
  obtain ⟨A5, hA5⟩ : ∃ A : Bs, A = A4 ++ p2 := ⟨_, rfl⟩
  have lA5 : A5.length = 14 := by rw [hA5, List.length_append]; simp only [hdn, hmn, hp1, hp2, hp3, hp4, hp5, hp6, lA0, lA1, lA2, lA3, lA4, List.length_cons, List.length_nil]
  have bA5 : binV .add (.str A4) (.str p2) = some (.str A5) := by rw [hA5]; exact bin_sadd (by simp only [hdn, hmn, hp1, hp2, hp3, hp4, hp5, hp6, lA0, lA1, lA2, lA3, lA4, List.length_cons, List.length_nil]; omega)
  obtain ⟨A6, hA6⟩ : ∃ A : Bs, A = A5 ++ p3 := ⟨_, rfl⟩
  have lA6 : A6.length = 16 := by rw [hA6, List.length_append]; simp only [hdn, hmn, hp1, hp2, hp3, hp4, hp5, hp6, lA0, lA1, lA2, lA3, lA4, lA5, List.length_cons, List.length_nil]
  have bA6 : binV .add (.str A5) (.str p3) = some (.str A6) := by rw [hA6]; exact bin_sadd (by simp only [hdn, hmn, hp1, hp2, hp3, hp4, hp5, hp6, lA0, lA1, lA2, lA3, lA4, lA5, List.length_cons, List.length_nil]; omega)
  obtain ⟨A7, hA7⟩ : ∃ A : Bs, A = A6 ++ [32] := ⟨_, rfl⟩
  have lA7 : A7.length = 17 := by rw [hA7, List.length_append]; simp only [hdn, hmn, hp1, hp2, hp3, hp4, hp5, hp6, lA0, lA1, lA2, lA3, lA4, lA5, lA6, List.length_cons, List.length_nil]
  have bA7 : binV .add (.str A6) (.str [32]) = some (.str A7) := by rw [hA7]; exact bin_sadd (by simp only [hdn, hmn, hp1, hp2, hp3, hp4, hp5, hp6, lA0, lA1, lA2, lA3, lA4, lA5, lA6, List.length_cons, List.length_nil]; omega)
  obtain ⟨A8, hA8⟩ : ∃ A : Bs, A = A7 ++ p4 := ⟨_, rfl⟩
  have lA8 : A8.length = 19 := by rw [hA8, List.length_append]; simp only [hdn, hmn, hp1, hp2, hp3, hp4, hp5, hp6, lA0, lA1, lA2, lA3, lA4, lA5, lA6, lA7, List.length_cons, List.length_nil]
  have bA8 : binV .add (.str A7) (.str p4) = some (.str A8) := by rw [hA8]; exact bin_sadd (by simp only [hdn, hmn, hp1, hp2, hp3, hp4, hp5, hp6, lA0, lA1, lA2, lA3, lA4, lA5, lA6, lA7, List.length_cons, List.length_nil]; omega)
  obtain ⟨A9, hA9⟩ : ∃ A : Bs, A = A8 ++ [58] := ⟨_, rfl⟩
  have lA9 : A9.length = 20 := by rw [hA9, List.length_append]; simp only [hdn, hmn, hp1, hp2, hp3, hp4, hp5, hp6, lA0, lA1, lA2, lA3, lA4, lA5, lA6, lA7, lA8, List.length_cons, List.length_nil]
  have bA9 : binV .add (.str A8) (.str [58]) = some (.str A9) := by rw [hA9]; exact bin_sadd (by simp only [hdn, hmn, hp1, hp2, hp3, hp4, hp5, hp6, lA0, lA1, lA2, lA3, lA4, lA5, lA6, lA7, lA8, List.length_cons, List.length_nil]; omega)
  obtain ⟨A10, hA10⟩ : ∃ A : Bs, A = A9 ++ p5 := ⟨_, rfl⟩
  have lA10 : A10.length = 22 := by rw [hA10, List.length_append]; simp only [hdn, hmn, hp1, hp2, hp3, hp4, hp5, hp6, lA0, lA1, lA2, lA3, lA4, lA5, lA6, lA7, lA8, lA9, List.length_cons, List.length_nil]
  have bA10 : binV .add (.str A9) (.str p5) = some (.str A10) := by rw [hA10]; exact bin_sadd (by simp only [hdn, hmn, hp1, hp2, hp3, hp4, hp5, hp6, lA0, lA1, lA2, lA3, lA4, lA5, lA6, lA7, lA8, lA9, List.length_cons, List.length_nil]; omega)
  obtain ⟨A11, hA11⟩ : ∃ A : Bs, A = A10 ++ [58] := ⟨_, rfl⟩
  have lA11 : A11.length = 23 := by rw [hA11, List.length_append]; simp only [hdn, hmn, hp1, hp2, hp3, hp4, hp5, hp6, lA0, lA1, lA2, lA3, lA4, lA5, lA6, lA7, lA8, lA9, lA10, List.length_cons, List.length_nil]
  have bA11 : binV .add (.str A10) (.str [58]) = some (.str A11) := by rw [hA11]; exact bin_sadd (by simp only [hdn, hmn, hp1, hp2, hp3, hp4, hp5, hp6, lA0, lA1, lA2, lA3, lA4, lA5, lA6, lA7, lA8, lA9, lA10, List.length_cons, List.length_nil]; omega)
  obtain ⟨A12, hA12⟩ : ∃ A : Bs, A = A11 ++ p6 := ⟨_, rfl⟩
  have lA12 : A12.length = 25 := by rw [hA12, List.length_append]; simp only [hdn, hmn, hp1, hp2, hp3, hp4, hp5, hp6, lA0, lA1, lA2, lA3, lA4, lA5, lA6, lA7, lA8, lA9, lA10, lA11, List.length_cons, List.length_nil]
  have bA12 : binV .add (.str A11) (.str p6) = some (.str A12) := by rw [hA12]; exact bin_sadd (by simp only [hdn, hmn, hp1, hp2, hp3, hp4, hp5, hp6, lA0, lA1, lA2, lA3, lA4, lA5, lA6, lA7, lA8, lA9, lA10, lA11, List.length_cons, List.length_nil]; omega)
  obtain ⟨A13, hA13⟩ : ∃ A : Bs, A = A12 ++ [32, 71, 77, 84] := ⟨_, rfl⟩
  have lA13 : A13.length = 29 := by rw [hA13, List.length_append]; simp only [hdn, hmn, hp1, hp2, hp3, hp4, hp5, hp6, lA0, lA1, lA2, lA3, lA4, lA5, lA6, lA7, lA8, lA9, lA10, lA11, lA12, List.length_cons, List.length_nil]
  have bA13 : binV .add (.str A12) (.str [32, 71, 77, 84]) = some (.str A13) := by rw [hA13]; exact bin_sadd (by simp only [hdn, hmn, hp1, hp2, hp3, hp4, hp5, hp6, lA0, lA1, lA2, lA3, lA4, lA5, lA6, lA7, lA8, lA9, lA10, lA11, lA12, List.length_cons, List.length_nil]; omega)
  have eF : fs = A13 := by rw [hF, hA13, hA12, hA11, hA10, hA9, hA8, hA7, hA6, hA5, hA4, hA3, hA2, hA1, hA0]; simp only [List.append_assoc]
  subst eF
  simp (maxSteps := 4000000) only [vm, vl, Arg.get, cells, stor, boundO, resultsV, resV, partK, loadV, Vm.part, fillC, splice, reduceIte, reduceCtorEq, Nat.reduceEqDiff, Nat.reduceAdd, Nat.reduceSub, Nat.reduceMul, Nat.reduceLeDiff, ne_eq, not_false_eq_true, Int.reduceEq, Int.reduceLT, Int.reduceLE, Int.reduceNeg, Int.reduceToNat, Int.reduceGT, Int.reduceGE, Nat.reduceLT, Nat.lt_add_one, Nat.zero_lt_succ, Nat.succ_pos, Nat.zero_le, beq_self_eq_true, k_gatepostref02_Format_0, civV, bin_quo, bin_rem, q3, q4, q5, q6, q7, q8, q9, qa, qb, r1, r2, z1, z2, i0, i1, hw7, hmi12, bA0, bA1, bA2, bA3, bA4, bA5, bA6, bA7, bA8, bA9, bA10, bA11, bA12, bA13]
  refine Cf.pu (S1 _) fun v0 => ?_
  try simp (maxSteps := 4000000) only [vm, vl, Arg.get, cells, stor, boundO, resultsV, resV, partK, loadV, Vm.part, fillC, splice, reduceIte, reduceCtorEq, Nat.reduceEqDiff, Nat.reduceAdd, Nat.reduceSub, Nat.reduceMul, Nat.reduceLeDiff, ne_eq, not_false_eq_true, Int.reduceEq, Int.reduceLT, Int.reduceLE, Int.reduceNeg, Int.reduceToNat, Int.reduceGT, Int.reduceGE, Nat.reduceLT, Nat.lt_add_one, Nat.zero_lt_succ, Nat.succ_pos, Nat.zero_le, beq_self_eq_true, k_gatepostref02_Format_0, civV, bin_quo, bin_rem, q3, q4, q5, q6, q7, q8, q9, qa, qb, r1, r2, z1, z2, i0, i1, hw7, hmi12, bA0, bA1, bA2, bA3, bA4, bA5, bA6, bA7, bA8, bA9, bA10, bA11, bA12, bA13]
  refine Cf.pu (P1 _) fun v1 => ?_
  try simp (maxSteps := 4000000) only [vm, vl, Arg.get, cells, stor, boundO, resultsV, resV, partK, loadV, Vm.part, fillC, splice, reduceIte, reduceCtorEq, Nat.reduceEqDiff, Nat.reduceAdd, Nat.reduceSub, Nat.reduceMul, Nat.reduceLeDiff, ne_eq, not_false_eq_true, Int.reduceEq, Int.reduceLT, Int.reduceLE, Int.reduceNeg, Int.reduceToNat, Int.reduceGT, Int.reduceGE, Nat.reduceLT, Nat.lt_add_one, Nat.zero_lt_succ, Nat.succ_pos, Nat.zero_le, beq_self_eq_true, k_gatepostref02_Format_0, civV, bin_quo, bin_rem, q3, q4, q5, q6, q7, q8, q9, qa, qb, r1, r2, z1, z2, i0, i1, hw7, hmi12, bA0, bA1, bA2, bA3, bA4, bA5, bA6, bA7, bA8, bA9, bA10, bA11, bA12, bA13]
  refine Cf.pu (S2 _) fun v2 => ?_
  try simp (maxSteps := 4000000) only [vm, vl, Arg.get, cells, stor, boundO, resultsV, resV, partK, loadV, Vm.part, fillC, splice, reduceIte, reduceCtorEq, Nat.reduceEqDiff, Nat.reduceAdd, Nat.reduceSub, Nat.reduceMul, Nat.reduceLeDiff, ne_eq, not_false_eq_true, Int.reduceEq, Int.reduceLT, Int.reduceLE, Int.reduceNeg, Int.reduceToNat, Int.reduceGT, Int.reduceGE, Nat.reduceLT, Nat.lt_add_one, Nat.zero_lt_succ, Nat.succ_pos, Nat.zero_le, beq_self_eq_true, k_gatepostref02_Format_0, civV, bin_quo, bin_rem, q3, q4, q5, q6, q7, q8, q9, qa, qb, r1, r2, z1, z2, i0, i1, hw7, hmi12, bA0, bA1, bA2, bA3, bA4, bA5, bA6, bA7, bA8, bA9, bA10, bA11, bA12, bA13]
  refine Cf.pu (P2 _) fun v3 => ?_
  try simp (maxSteps := 4000000) only [vm, vl, Arg.get, cells, stor, boundO, resultsV, resV, partK, loadV, Vm.part, fillC, splice, reduceIte, reduceCtorEq, Nat.reduceEqDiff, Nat.reduceAdd, Nat.reduceSub, Nat.reduceMul, Nat.reduceLeDiff, ne_eq, not_false_eq_true, Int.reduceEq, Int.reduceLT, Int.reduceLE, Int.reduceNeg, Int.reduceToNat, Int.reduceGT, Int.reduceGE, Nat.reduceLT, Nat.lt_add_one, Nat.zero_lt_succ, Nat.succ_pos, Nat.zero_le, beq_self_eq_true, k_gatepostref02_Format_0, civV, bin_quo, bin_rem, q3, q4, q5, q6, q7, q8, q9, qa, qb, r1, r2, z1, z2, i0, i1, hw7, hmi12, bA0, bA1, bA2, bA3, bA4, bA5, bA6, bA7, bA8, bA9, bA10, bA11, bA12, bA13]
  refine Cf.pu (P3 _) fun v4 => ?_
  try simp (maxSteps := 4000000) only [vm, vl, Arg.get, cells, stor, boundO, resultsV, resV, partK, loadV, Vm.part, fillC, splice, reduceIte, reduceCtorEq, Nat.reduceEqDiff, Nat.reduceAdd, Nat.reduceSub, Nat.reduceMul, Nat.reduceLeDiff, ne_eq, not_false_eq_true, Int.reduceEq, Int.reduceLT, Int.reduceLE, Int.reduceNeg, Int.reduceToNat, Int.reduceGT, Int.reduceGE, Nat.reduceLT, Nat.lt_add_one, Nat.zero_lt_succ, Nat.succ_pos, Nat.zero_le, beq_self_eq_true, k_gatepostref02_Format_0, civV, bin_quo, bin_rem, q3, q4, q5, q6, q7, q8, q9, qa, qb, r1, r2, z1, z2, i0, i1, hw7, hmi12, bA0, bA1, bA2, bA3, bA4, bA5, bA6, bA7, bA8, bA9, bA10, bA11, bA12, bA13]
  refine Cf.pu (P4 _) fun v5 => ?_
  try simp (maxSteps := 4000000) only [vm, vl, Arg.get, cells, stor, boundO, resultsV, resV, partK, loadV, Vm.part, fillC, splice, reduceIte, reduceCtorEq, Nat.reduceEqDiff, Nat.reduceAdd, Nat.reduceSub, Nat.reduceMul, Nat.reduceLeDiff, ne_eq, not_false_eq_true, Int.reduceEq, Int.reduceLT, Int.reduceLE, Int.reduceNeg, Int.reduceToNat, Int.reduceGT, Int.reduceGE, Nat.reduceLT, Nat.lt_add_one, Nat.zero_lt_succ, Nat.succ_pos, Nat.zero_le, beq_self_eq_true, k_gatepostref02_Format_0, civV, bin_quo, bin_rem, q3, q4, q5, q6, q7, q8, q9, qa, qb, r1, r2, z1, z2, i0, i1, hw7, hmi12, bA0, bA1, bA2, bA3, bA4, bA5, bA6, bA7, bA8, bA9, bA10, bA11, bA12, bA13]
  refine Cf.pu (P5 _) fun v6 => ?_
  try simp (maxSteps := 4000000) only [vm, vl, Arg.get, cells, stor, boundO, resultsV, resV, partK, loadV, Vm.part, fillC, splice, reduceIte, reduceCtorEq, Nat.reduceEqDiff, Nat.reduceAdd, Nat.reduceSub, Nat.reduceMul, Nat.reduceLeDiff, ne_eq, not_false_eq_true, Int.reduceEq, Int.reduceLT, Int.reduceLE, Int.reduceNeg, Int.reduceToNat, Int.reduceGT, Int.reduceGE, Nat.reduceLT, Nat.lt_add_one, Nat.zero_lt_succ, Nat.succ_pos, Nat.zero_le, beq_self_eq_true, k_gatepostref02_Format_0, civV, bin_quo, bin_rem, q3, q4, q5, q6, q7, q8, q9, qa, qb, r1, r2, z1, z2, i0, i1, hw7, hmi12, bA0, bA1, bA2, bA3, bA4, bA5, bA6, bA7, bA8, bA9, bA10, bA11, bA12, bA13]
  refine Cf.pu (P6 _) fun v7 => ?_
  try simp (maxSteps := 4000000) only [vm, vl, Arg.get, cells, stor, boundO, resultsV, resV, partK, loadV, Vm.part, fillC, splice, reduceIte, reduceCtorEq, Nat.reduceEqDiff, Nat.reduceAdd, Nat.reduceSub, Nat.reduceMul, Nat.reduceLeDiff, ne_eq, not_false_eq_true, Int.reduceEq, Int.reduceLT, Int.reduceLE, Int.reduceNeg, Int.reduceToNat, Int.reduceGT, Int.reduceGE, Nat.reduceLT, Nat.lt_add_one, Nat.zero_lt_succ, Nat.succ_pos, Nat.zero_le, beq_self_eq_true, k_gatepostref02_Format_0, civV, bin_quo, bin_rem, q3, q4, q5, q6, q7, q8, q9, qa, qb, r1, r2, z1, z2, i0, i1, hw7, hmi12, bA0, bA1, bA2, bA3, bA4, bA5, bA6, bA7, bA8, bA9, bA10, bA11, bA12, bA13]
theorem RFormat_ok {sec : Int} : Cf F L i_gatepostref02_Format [.int .i64 sec] h (Pu h (.str (fmtS (if 0 ≤ sec ∧ sec / 86400 ≤ 2932896 then sec else 0)))) := by
  refine run_gatepostref02_Format ?_
  simp only [p_gatepostref02_Format]
  
  by_cases h0 : sec < 0
  · rw [if_neg (by omega)]
    simp (maxSteps := 4000000) only [vm, vl, Arg.get, cells, stor, boundO, resultsV, resV, partK, loadV, Vm.part, fillC, splice, reduceIte, reduceCtorEq, Nat.reduceEqDiff, Nat.reduceAdd, Nat.reduceSub, Nat.reduceMul, Nat.reduceLeDiff, ne_eq, not_false_eq_true, Int.reduceEq, Int.reduceLT, Int.reduceLE, Int.reduceNeg, Int.reduceToNat, Int.reduceGT, Int.reduceGE, Nat.reduceLT, Nat.lt_add_one, Nat.zero_lt_succ, Nat.succ_pos, Nat.zero_le, beq_self_eq_true, h0, decide_true]
    exact Rfmt0_ok (by omega) (by omega)
  by_cases h1 : sec ≥ 253402300800
  · rw [if_neg (by omega)]
    simp (maxSteps := 4000000) only [vm, vl, Arg.get, cells, stor, boundO, resultsV, resV, partK, loadV, Vm.part, fillC, splice, reduceIte, reduceCtorEq, Nat.reduceEqDiff, Nat.reduceAdd, Nat.reduceSub, Nat.reduceMul, Nat.reduceLeDiff, ne_eq, not_false_eq_true, Int.reduceEq, Int.reduceLT, Int.reduceLE, Int.reduceNeg, Int.reduceToNat, Int.reduceGT, Int.reduceGE, Nat.reduceLT, Nat.lt_add_one, Nat.zero_lt_succ, Nat.succ_pos, Nat.zero_le, beq_self_eq_true, h0, h1, decide_true, decide_false]
    exact Rfmt0_ok (by omega) (by omega)
  · rw [if_pos (by omega)]
    simp (maxSteps := 4000000) only [vm, vl, Arg.get, cells, stor, boundO, resultsV, resV, partK, loadV, Vm.part, fillC, splice, reduceIte, reduceCtorEq, Nat.reduceEqDiff, Nat.reduceAdd, Nat.reduceSub, Nat.reduceMul, Nat.reduceLeDiff, ne_eq, not_false_eq_true, Int.reduceEq, Int.reduceLT, Int.reduceLE, Int.reduceNeg, Int.reduceToNat, Int.reduceGT, Int.reduceGE, Nat.reduceLT, Nat.lt_add_one, Nat.zero_lt_succ, Nat.succ_pos, Nat.zero_le, beq_self_eq_true, h0, h1, decide_true, decide_false]
    exact Rfmt0_ok (by omega) (by omega)
end Go.Proofs.YtfkebmdfcpnaeaaDoor.Vh
