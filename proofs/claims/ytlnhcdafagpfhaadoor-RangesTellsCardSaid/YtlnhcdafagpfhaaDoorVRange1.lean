/- Package ranges on the small machine: may, fine, Resolve. -/
import Derived.Test.YtlnhcdafagpfhaaDoorVNum
import Derived.Test.YtlnhcdafagpfhaaDoorVCutP
set_option linter.unusedVariables false
set_option linter.unusedSimpArgs false
namespace Go.Proofs.YtlnhcdafagpfhaaDoor.Vh
open Go.Vm Go.Vt
attribute [local congr] wi_congr wg_congr wgd_congr wb_congr wl_congr cf_congr
variable {L : FuncId → List V → V → Prop} {h : Heap}
def pairV (a b : Int) : V := .agg [.int .i64 a, .int .i64 b]
theorem eq_ints {a b c d : Int} : eqV (.agg [.i, .i]) (.agg [.int .i64 a, .int .i64 b]) (.agg [.int .i64 c, .int .i64 d]) = some (decide (a = c) && decide (b = d)) := by
  by_cases h1 : a = c <;> by_cases h2 : b = d <;> simp [eqV, eqLeaves, eqLeaf, h1, h2]
def mayB (f t long : Int) : Bool := decide (¬ (long < -1 ∨ long > 1048576 ∨ f < 0 ∨ f > t ∨ t > 1048576) ∧ ((long = -1 ∧ f < t) ∨ (long ≠ -1 ∧ t ≤ long)))
theorem may_ok {f t long : Int} : Cf F L i_ranges_may [.agg [.int .i64 f, .int .i64 t], .int .i64 long] h (Pu h (.bool (mayB f t long))) := by
  refine run_ranges_may ?_
  simp only [p_ranges_may]
  by_cases a1 : long < -1
  · rw [show mayB f t long = false from decide_eq_false (by omega)]
    simp (maxSteps := 4000000) only [vm, vl, Arg.get, cells, stor, boundO, resultsV, resV, partK, loadV, Vm.part, fillC, splice, reduceIte, reduceCtorEq, Nat.reduceEqDiff, Nat.reduceAdd, Nat.reduceSub, Nat.reduceMul, Nat.reduceLeDiff, ne_eq, not_false_eq_true, Int.reduceEq, Int.reduceLT, Int.reduceLE, Int.reduceNeg, Int.reduceToNat, Int.reduceGT, Int.reduceGE, Nat.reduceLT, Nat.lt_add_one, Nat.zero_lt_succ, Nat.succ_pos, Nat.zero_le, beq_self_eq_true, k_ranges_may_0, a1, decide_true, decide_false]
  by_cases a2 : long > 1048576
  · rw [show mayB f t long = false from decide_eq_false (by omega)]
    simp (maxSteps := 4000000) only [vm, vl, Arg.get, cells, stor, boundO, resultsV, resV, partK, loadV, Vm.part, fillC, splice, reduceIte, reduceCtorEq, Nat.reduceEqDiff, Nat.reduceAdd, Nat.reduceSub, Nat.reduceMul, Nat.reduceLeDiff, ne_eq, not_false_eq_true, Int.reduceEq, Int.reduceLT, Int.reduceLE, Int.reduceNeg, Int.reduceToNat, Int.reduceGT, Int.reduceGE, Nat.reduceLT, Nat.lt_add_one, Nat.zero_lt_succ, Nat.succ_pos, Nat.zero_le, beq_self_eq_true, k_ranges_may_0, a1, a2, decide_true, decide_false]
  by_cases a3 : f < 0
  · rw [show mayB f t long = false from decide_eq_false (by omega)]
    simp (maxSteps := 4000000) only [vm, vl, Arg.get, cells, stor, boundO, resultsV, resV, partK, loadV, Vm.part, fillC, splice, reduceIte, reduceCtorEq, Nat.reduceEqDiff, Nat.reduceAdd, Nat.reduceSub, Nat.reduceMul, Nat.reduceLeDiff, ne_eq, not_false_eq_true, Int.reduceEq, Int.reduceLT, Int.reduceLE, Int.reduceNeg, Int.reduceToNat, Int.reduceGT, Int.reduceGE, Nat.reduceLT, Nat.lt_add_one, Nat.zero_lt_succ, Nat.succ_pos, Nat.zero_le, beq_self_eq_true, k_ranges_may_0, a1, a2, a3, decide_true, decide_false]
  by_cases a4 : f > t
  · rw [show mayB f t long = false from decide_eq_false (by omega)]
    simp (maxSteps := 4000000) only [vm, vl, Arg.get, cells, stor, boundO, resultsV, resV, partK, loadV, Vm.part, fillC, splice, reduceIte, reduceCtorEq, Nat.reduceEqDiff, Nat.reduceAdd, Nat.reduceSub, Nat.reduceMul, Nat.reduceLeDiff, ne_eq, not_false_eq_true, Int.reduceEq, Int.reduceLT, Int.reduceLE, Int.reduceNeg, Int.reduceToNat, Int.reduceGT, Int.reduceGE, Nat.reduceLT, Nat.lt_add_one, Nat.zero_lt_succ, Nat.succ_pos, Nat.zero_le, beq_self_eq_true, k_ranges_may_0, a1, a2, a3, a4, decide_true, decide_false]
  by_cases a5 : t > 1048576
  · rw [show mayB f t long = false from decide_eq_false (by omega)]
    simp (maxSteps := 4000000) only [vm, vl, Arg.get, cells, stor, boundO, resultsV, resV, partK, loadV, Vm.part, fillC, splice, reduceIte, reduceCtorEq, Nat.reduceEqDiff, Nat.reduceAdd, Nat.reduceSub, Nat.reduceMul, Nat.reduceLeDiff, ne_eq, not_false_eq_true, Int.reduceEq, Int.reduceLT, Int.reduceLE, Int.reduceNeg, Int.reduceToNat, Int.reduceGT, Int.reduceGE, Nat.reduceLT, Nat.lt_add_one, Nat.zero_lt_succ, Nat.succ_pos, Nat.zero_le, beq_self_eq_true, k_ranges_may_0, a1, a2, a3, a4, a5, decide_true, decide_false]
  by_cases a6 : long = -1
  · by_cases a7 : f < t
    · rw [show mayB f t long = true from decide_eq_true (by omega)]
      simp (maxSteps := 4000000) only [vm, vl, Arg.get, cells, stor, boundO, resultsV, resV, partK, loadV, Vm.part, fillC, splice, reduceIte, reduceCtorEq, Nat.reduceEqDiff, Nat.reduceAdd, Nat.reduceSub, Nat.reduceMul, Nat.reduceLeDiff, ne_eq, not_false_eq_true, Int.reduceEq, Int.reduceLT, Int.reduceLE, Int.reduceNeg, Int.reduceToNat, Int.reduceGT, Int.reduceGE, Nat.reduceLT, Nat.lt_add_one, Nat.zero_lt_succ, Nat.succ_pos, Nat.zero_le, beq_self_eq_true, k_ranges_may_0, a1, a2, a3, a4, a5, a6, a7, decide_true, decide_false]
    · rw [show mayB f t long = false from decide_eq_false (by omega)]
      simp (maxSteps := 4000000) only [vm, vl, Arg.get, cells, stor, boundO, resultsV, resV, partK, loadV, Vm.part, fillC, splice, reduceIte, reduceCtorEq, Nat.reduceEqDiff, Nat.reduceAdd, Nat.reduceSub, Nat.reduceMul, Nat.reduceLeDiff, ne_eq, not_false_eq_true, Int.reduceEq, Int.reduceLT, Int.reduceLE, Int.reduceNeg, Int.reduceToNat, Int.reduceGT, Int.reduceGE, Nat.reduceLT, Nat.lt_add_one, Nat.zero_lt_succ, Nat.succ_pos, Nat.zero_le, beq_self_eq_true, k_ranges_may_0, a1, a2, a3, a4, a5, a6, a7, decide_true, decide_false, Bool.not_true, Bool.not_false]
  · by_cases a8 : t ≤ long
    · rw [show mayB f t long = true from decide_eq_true (by omega)]
      simp (maxSteps := 4000000) only [vm, vl, Arg.get, cells, stor, boundO, resultsV, resV, partK, loadV, Vm.part, fillC, splice, reduceIte, reduceCtorEq, Nat.reduceEqDiff, Nat.reduceAdd, Nat.reduceSub, Nat.reduceMul, Nat.reduceLeDiff, ne_eq, not_false_eq_true, Int.reduceEq, Int.reduceLT, Int.reduceLE, Int.reduceNeg, Int.reduceToNat, Int.reduceGT, Int.reduceGE, Nat.reduceLT, Nat.lt_add_one, Nat.zero_lt_succ, Nat.succ_pos, Nat.zero_le, beq_self_eq_true, k_ranges_may_0, a1, a2, a3, a4, a5, a6, a8, decide_true, decide_false, Bool.not_true, Bool.not_false]
    · rw [show mayB f t long = false from decide_eq_false (by omega)]
      simp (maxSteps := 4000000) only [vm, vl, Arg.get, cells, stor, boundO, resultsV, resV, partK, loadV, Vm.part, fillC, splice, reduceIte, reduceCtorEq, Nat.reduceEqDiff, Nat.reduceAdd, Nat.reduceSub, Nat.reduceMul, Nat.reduceLeDiff, ne_eq, not_false_eq_true, Int.reduceEq, Int.reduceLT, Int.reduceLE, Int.reduceNeg, Int.reduceToNat, Int.reduceGT, Int.reduceGE, Nat.reduceLT, Nat.lt_add_one, Nat.zero_lt_succ, Nat.succ_pos, Nat.zero_le, beq_self_eq_true, k_ranges_may_0, a1, a2, a3, a4, a5, a6, a8, decide_true, decide_false, Bool.not_true, Bool.not_false]
def fineB (f t : Int) : Bool := decide (f ≥ -1 ∧ t ≥ -1 ∧ f ≤ 1099511627776 ∧ t ≤ 1099511627776 ∧ ¬ (f = -1 ∧ t = -1) ∧ (f = -1 ∨ t = -1 ∨ f ≤ t))
theorem rfine_ok {f t : Int} : Cf F L i_ranges_fine [.agg [.int .i64 f, .int .i64 t]] h (Pu h (.bool (fineB f t))) := by
  refine run_ranges_fine ?_
  simp only [p_ranges_fine]
  have q0 : ∀ (a b c d : Int), eqV (.agg [.i, .i]) (.agg [.int .i64 a, .int .i64 b]) (.agg [.int .i64 c, .int .i64 d]) = some (decide (a = c) && decide (b = d)) := fun _ _ _ _ => eq_ints
  by_cases a1 : f ≥ -1
  case neg =>
    rw [show fineB f t = false from decide_eq_false (by omega)]
    simp (maxSteps := 4000000) only [vm, vl, Arg.get, cells, stor, boundO, resultsV, resV, partK, loadV, Vm.part, fillC, splice, reduceIte, reduceCtorEq, Nat.reduceEqDiff, Nat.reduceAdd, Nat.reduceSub, Nat.reduceMul, Nat.reduceLeDiff, ne_eq, not_false_eq_true, Int.reduceEq, Int.reduceLT, Int.reduceLE, Int.reduceNeg, Int.reduceToNat, Int.reduceGT, Int.reduceGE, Nat.reduceLT, Nat.lt_add_one, Nat.zero_lt_succ, Nat.succ_pos, Nat.zero_le, beq_self_eq_true, a1, decide_true, decide_false, q0]
  by_cases a2 : t ≥ -1
  case neg =>
    rw [show fineB f t = false from decide_eq_false (by omega)]
    simp (maxSteps := 4000000) only [vm, vl, Arg.get, cells, stor, boundO, resultsV, resV, partK, loadV, Vm.part, fillC, splice, reduceIte, reduceCtorEq, Nat.reduceEqDiff, Nat.reduceAdd, Nat.reduceSub, Nat.reduceMul, Nat.reduceLeDiff, ne_eq, not_false_eq_true, Int.reduceEq, Int.reduceLT, Int.reduceLE, Int.reduceNeg, Int.reduceToNat, Int.reduceGT, Int.reduceGE, Nat.reduceLT, Nat.lt_add_one, Nat.zero_lt_succ, Nat.succ_pos, Nat.zero_le, beq_self_eq_true, a1, a2, decide_true, decide_false, q0]
  by_cases a3 : f ≤ 1099511627776
  case neg =>
    rw [show fineB f t = false from decide_eq_false (by omega)]
    simp (maxSteps := 4000000) only [vm, vl, Arg.get, cells, stor, boundO, resultsV, resV, partK, loadV, Vm.part, fillC, splice, reduceIte, reduceCtorEq, Nat.reduceEqDiff, Nat.reduceAdd, Nat.reduceSub, Nat.reduceMul, Nat.reduceLeDiff, ne_eq, not_false_eq_true, Int.reduceEq, Int.reduceLT, Int.reduceLE, Int.reduceNeg, Int.reduceToNat, Int.reduceGT, Int.reduceGE, Nat.reduceLT, Nat.lt_add_one, Nat.zero_lt_succ, Nat.succ_pos, Nat.zero_le, beq_self_eq_true, a1, a2, a3, decide_true, decide_false, q0]
  by_cases a4 : t ≤ 1099511627776
  case neg =>
    rw [show fineB f t = false from decide_eq_false (by omega)]
    simp (maxSteps := 4000000) only [vm, vl, Arg.get, cells, stor, boundO, resultsV, resV, partK, loadV, Vm.part, fillC, splice, reduceIte, reduceCtorEq, Nat.reduceEqDiff, Nat.reduceAdd, Nat.reduceSub, Nat.reduceMul, Nat.reduceLeDiff, ne_eq, not_false_eq_true, Int.reduceEq, Int.reduceLT, Int.reduceLE, Int.reduceNeg, Int.reduceToNat, Int.reduceGT, Int.reduceGE, Nat.reduceLT, Nat.lt_add_one, Nat.zero_lt_succ, Nat.succ_pos, Nat.zero_le, beq_self_eq_true, a1, a2, a3, a4, decide_true, decide_false, q0]
  by_cases a5 : f = -1
  · by_cases a6 : t = -1
    · rw [show fineB f t = false from decide_eq_false (by omega)]
      simp (maxSteps := 4000000) only [vm, vl, Arg.get, cells, stor, boundO, resultsV, resV, partK, loadV, Vm.part, fillC, splice, reduceIte, reduceCtorEq, Nat.reduceEqDiff, Nat.reduceAdd, Nat.reduceSub, Nat.reduceMul, Nat.reduceLeDiff, ne_eq, not_false_eq_true, Int.reduceEq, Int.reduceLT, Int.reduceLE, Int.reduceNeg, Int.reduceToNat, Int.reduceGT, Int.reduceGE, Nat.reduceLT, Nat.lt_add_one, Nat.zero_lt_succ, Nat.succ_pos, Nat.zero_le, beq_self_eq_true, a1, a2, a3, a4, a5, a6, decide_true, decide_false, q0, Bool.and_self, Bool.not_true, Bool.not_false, Bool.and_true, Bool.and_false]
    · rw [show fineB f t = true from decide_eq_true (by omega)]
      simp (maxSteps := 4000000) only [vm, vl, Arg.get, cells, stor, boundO, resultsV, resV, partK, loadV, Vm.part, fillC, splice, reduceIte, reduceCtorEq, Nat.reduceEqDiff, Nat.reduceAdd, Nat.reduceSub, Nat.reduceMul, Nat.reduceLeDiff, ne_eq, not_false_eq_true, Int.reduceEq, Int.reduceLT, Int.reduceLE, Int.reduceNeg, Int.reduceToNat, Int.reduceGT, Int.reduceGE, Nat.reduceLT, Nat.lt_add_one, Nat.zero_lt_succ, Nat.succ_pos, Nat.zero_le, beq_self_eq_true, a1, a2, a3, a4, a5, a6, decide_true, decide_false, q0, Bool.and_self, Bool.not_true, Bool.not_false, Bool.and_true, Bool.and_false]
  · by_cases a6 : t = -1
    · rw [show fineB f t = true from decide_eq_true (by omega)]
      simp (maxSteps := 4000000) only [vm, vl, Arg.get, cells, stor, boundO, resultsV, resV, partK, loadV, Vm.part, fillC, splice, reduceIte, reduceCtorEq, Nat.reduceEqDiff, Nat.reduceAdd, Nat.reduceSub, Nat.reduceMul, Nat.reduceLeDiff, ne_eq, not_false_eq_true, Int.reduceEq, Int.reduceLT, Int.reduceLE, Int.reduceNeg, Int.reduceToNat, Int.reduceGT, Int.reduceGE, Nat.reduceLT, Nat.lt_add_one, Nat.zero_lt_succ, Nat.succ_pos, Nat.zero_le, beq_self_eq_true, a1, a2, a3, a4, a5, a6, decide_true, decide_false, q0, Bool.and_self, Bool.not_true, Bool.not_false, Bool.false_and, Bool.true_and]
    · by_cases a7 : f ≤ t
      · rw [show fineB f t = true from decide_eq_true (by omega)]
        simp (maxSteps := 4000000) only [vm, vl, Arg.get, cells, stor, boundO, resultsV, resV, partK, loadV, Vm.part, fillC, splice, reduceIte, reduceCtorEq, Nat.reduceEqDiff, Nat.reduceAdd, Nat.reduceSub, Nat.reduceMul, Nat.reduceLeDiff, ne_eq, not_false_eq_true, Int.reduceEq, Int.reduceLT, Int.reduceLE, Int.reduceNeg, Int.reduceToNat, Int.reduceGT, Int.reduceGE, Nat.reduceLT, Nat.lt_add_one, Nat.zero_lt_succ, Nat.succ_pos, Nat.zero_le, beq_self_eq_true, a1, a2, a3, a4, a5, a6, a7, decide_true, decide_false, q0, Bool.and_self, Bool.not_true, Bool.not_false, Bool.false_and, Bool.true_and]
      · rw [show fineB f t = false from decide_eq_false (by omega)]
        simp (maxSteps := 4000000) only [vm, vl, Arg.get, cells, stor, boundO, resultsV, resV, partK, loadV, Vm.part, fillC, splice, reduceIte, reduceCtorEq, Nat.reduceEqDiff, Nat.reduceAdd, Nat.reduceSub, Nat.reduceMul, Nat.reduceLeDiff, ne_eq, not_false_eq_true, Int.reduceEq, Int.reduceLT, Int.reduceLE, Int.reduceNeg, Int.reduceToNat, Int.reduceGT, Int.reduceGE, Nat.reduceLT, Nat.lt_add_one, Nat.zero_lt_succ, Nat.succ_pos, Nat.zero_le, beq_self_eq_true, a1, a2, a3, a4, a5, a6, a7, decide_true, decide_false, q0, Bool.and_self, Bool.not_true, Bool.not_false, Bool.false_and, Bool.true_and]
def clipS (f t long : Int) : Int × Int := if f = -1 then (max 0 (long - t), long) else if t ≠ -1 ∧ t < long then (f, t + 1) else (f, long)
def resS (f t long : Int) : Option (Int × Int) := if 0 ≤ long ∧ long ≤ 1048576 ∧ fineB f t = true ∧ (clipS f t long).1 < (clipS f t long).2 then some (clipS f t long) else none
def resV' : Option (Int × Int) → V
  | some (a, b) => .tup [.agg [.int .i64 a, .int .i64 b], .bool true]
  | none => .tup [.agg [.int .i64 0, .int .i64 0], .bool false]
theorem resV_no {f t long : Int} (h : ¬ (0 ≤ long ∧ long ≤ 1048576 ∧ fineB f t = true ∧ (clipS f t long).1 < (clipS f t long).2)) : resV' (resS f t long) = .tup [.agg [.int .i64 0, .int .i64 0], .bool false] := by unfold resS; rw [if_neg h]; rfl
theorem resV_yes {f t long a b : Int} (h1 : 0 ≤ long) (h2 : long ≤ 1048576) (hf : fineB f t = true) (e : clipS f t long = (a, b)) : resV' (resS f t long) = if a ≥ b then .tup [.agg [.int .i64 0, .int .i64 0], .bool false] else .tup [.agg [.int .i64 a, .int .i64 b], .bool true] := by
  by_cases q : a ≥ b
  · rw [if_pos q, resV_no (fun h => by rw [e] at h; have := h.2.2.2; simp only at this; omega)]
  · rw [if_neg q]; unfold resS; rw [e, if_pos ⟨by omega, by omega, hf, by simp only; omega⟩]; rfl
theorem Resolve_n1 {f t long : Int} (a1 : long < 0) : Cf F L i_ranges_Resolve [.agg [.int .i64 f, .int .i64 t], .int .i64 long] h (Pu h (.tup [.agg [.int .i64 0, .int .i64 0], .bool false])) := by
  refine run_ranges_Resolve ?_
  simp only [p_ranges_Resolve]
  
  simp (maxSteps := 4000000) only [vm, vl, Arg.get, cells, stor, boundO, resultsV, resV, partK, loadV, Vm.part, fillC, splice, reduceIte, reduceCtorEq, Nat.reduceEqDiff, Nat.reduceAdd, Nat.reduceSub, Nat.reduceMul, Nat.reduceLeDiff, ne_eq, not_false_eq_true, Int.reduceEq, Int.reduceLT, Int.reduceLE, Int.reduceNeg, Int.reduceToNat, Int.reduceGT, Int.reduceGE, Nat.reduceLT, Nat.lt_add_one, Nat.zero_lt_succ, Nat.succ_pos, Nat.zero_le, beq_self_eq_true, a1, decide_true, decide_false]
theorem Resolve_n2 {f t long : Int} (a1 : ¬ long < 0) (a2 : long > 1048576) : Cf F L i_ranges_Resolve [.agg [.int .i64 f, .int .i64 t], .int .i64 long] h (Pu h (.tup [.agg [.int .i64 0, .int .i64 0], .bool false])) := by
  refine run_ranges_Resolve ?_
  simp only [p_ranges_Resolve]
  
  simp (maxSteps := 4000000) only [vm, vl, Arg.get, cells, stor, boundO, resultsV, resV, partK, loadV, Vm.part, fillC, splice, reduceIte, reduceCtorEq, Nat.reduceEqDiff, Nat.reduceAdd, Nat.reduceSub, Nat.reduceMul, Nat.reduceLeDiff, ne_eq, not_false_eq_true, Int.reduceEq, Int.reduceLT, Int.reduceLE, Int.reduceNeg, Int.reduceToNat, Int.reduceGT, Int.reduceGE, Nat.reduceLT, Nat.lt_add_one, Nat.zero_lt_succ, Nat.succ_pos, Nat.zero_le, beq_self_eq_true, a1, a2, decide_true, decide_false]
theorem Resolve_n3 {f t long : Int} (a1 : ¬ long < 0) (a2 : ¬ long > 1048576) (hf : fineB f t = false) : Cf F L i_ranges_Resolve [.agg [.int .i64 f, .int .i64 t], .int .i64 long] h (Pu h (.tup [.agg [.int .i64 0, .int .i64 0], .bool false])) := by
  refine run_ranges_Resolve ?_
  simp only [p_ranges_Resolve]
  
  have P := fun hh => rfine_ok (L := L) (h := hh) (f := f) (t := t)
  rw [hf] at P
  simp (maxSteps := 4000000) only [vm, vl, Arg.get, cells, stor, boundO, resultsV, resV, partK, loadV, Vm.part, fillC, splice, reduceIte, reduceCtorEq, Nat.reduceEqDiff, Nat.reduceAdd, Nat.reduceSub, Nat.reduceMul, Nat.reduceLeDiff, ne_eq, not_false_eq_true, Int.reduceEq, Int.reduceLT, Int.reduceLE, Int.reduceNeg, Int.reduceToNat, Int.reduceGT, Int.reduceGE, Nat.reduceLT, Nat.lt_add_one, Nat.zero_lt_succ, Nat.succ_pos, Nat.zero_le, beq_self_eq_true, a1, a2, decide_true, decide_false]
  refine Cf.pu (P _) fun u => ?_
  simp (maxSteps := 4000000) only [vm, vl, Arg.get, cells, stor, boundO, resultsV, resV, partK, loadV, Vm.part, fillC, splice, reduceIte, reduceCtorEq, Nat.reduceEqDiff, Nat.reduceAdd, Nat.reduceSub, Nat.reduceMul, Nat.reduceLeDiff, ne_eq, not_false_eq_true, Int.reduceEq, Int.reduceLT, Int.reduceLE, Int.reduceNeg, Int.reduceToNat, Int.reduceGT, Int.reduceGE, Nat.reduceLT, Nat.lt_add_one, Nat.zero_lt_succ, Nat.succ_pos, Nat.zero_le, beq_self_eq_true, Bool.not_false]
theorem Resolve_no {f t long : Int} (hn : ¬ (0 ≤ long ∧ long ≤ 1048576 ∧ fineB f t = true)) : Cf F L i_ranges_Resolve [.agg [.int .i64 f, .int .i64 t], .int .i64 long] h (Pu h (resV' (resS f t long))) := by
  rw [resV_no (fun h => hn ⟨h.1, h.2.1, h.2.2.1⟩)]
  by_cases a1 : long < 0
  · exact Resolve_n1 a1
  by_cases a2 : long > 1048576
  · exact Resolve_n2 a1 a2
  cases hf : fineB f t with
  | false => exact Resolve_n3 a1 a2 hf
  | true => exact absurd ⟨by omega, by omega, hf⟩ hn
theorem Resolve_b1 {t long : Int} (h1 : 0 ≤ long) (h2 : long ≤ 1048576) (hf : fineB (-1) t = true) : Cf F L i_ranges_Resolve [.agg [.int .i64 (-1), .int .i64 t], .int .i64 long] h (Pu h (resV' (resS (-1) t long))) := by
  refine run_ranges_Resolve ?_
  simp only [p_ranges_Resolve]
  
  have a1 : ¬ long < 0 := by omega
  have a2 : ¬ long > 1048576 := by omega
  have hb := of_decide_eq_true hf
  have e : clipS (-1) t long = (max 0 (long - t), long) := rfl
  have w1 : IntKind.i64.wrap (long - t) = long - t := wrap64 (by omega) (by omega)
  rw [resV_yes h1 h2 hf e]
  generalize hm : max 0 (long - t) = m at *
  simp (maxSteps := 4000000) only [vm, vl, Arg.get, cells, stor, boundO, resultsV, resV, partK, loadV, Vm.part, fillC, splice, reduceIte, reduceCtorEq, Nat.reduceEqDiff, Nat.reduceAdd, Nat.reduceSub, Nat.reduceMul, Nat.reduceLeDiff, ne_eq, not_false_eq_true, Int.reduceEq, Int.reduceLT, Int.reduceLE, Int.reduceNeg, Int.reduceToNat, Int.reduceGT, Int.reduceGE, Nat.reduceLT, Nat.lt_add_one, Nat.zero_lt_succ, Nat.succ_pos, Nat.zero_le, beq_self_eq_true, a1, a2, decide_true, decide_false]
  
  refine Cf.pu rfine_ok fun u => ?_
  by_cases q : m ≥ long
  · rw [if_pos q]
    simp (maxSteps := 4000000) only [vm, vl, Arg.get, cells, stor, boundO, resultsV, resV, partK, loadV, Vm.part, fillC, splice, reduceIte, reduceCtorEq, Nat.reduceEqDiff, Nat.reduceAdd, Nat.reduceSub, Nat.reduceMul, Nat.reduceLeDiff, ne_eq, not_false_eq_true, Int.reduceEq, Int.reduceLT, Int.reduceLE, Int.reduceNeg, Int.reduceToNat, Int.reduceGT, Int.reduceGE, Nat.reduceLT, Nat.lt_add_one, Nat.zero_lt_succ, Nat.succ_pos, Nat.zero_le, beq_self_eq_true, k_ranges_Resolve_1, k_ranges_Resolve_0, hf, Bool.not_true, decide_true, decide_false, w1, mx2, hm, q]
  · rw [if_neg q]
    simp (maxSteps := 4000000) only [vm, vl, Arg.get, cells, stor, boundO, resultsV, resV, partK, loadV, Vm.part, fillC, splice, reduceIte, reduceCtorEq, Nat.reduceEqDiff, Nat.reduceAdd, Nat.reduceSub, Nat.reduceMul, Nat.reduceLeDiff, ne_eq, not_false_eq_true, Int.reduceEq, Int.reduceLT, Int.reduceLE, Int.reduceNeg, Int.reduceToNat, Int.reduceGT, Int.reduceGE, Nat.reduceLT, Nat.lt_add_one, Nat.zero_lt_succ, Nat.succ_pos, Nat.zero_le, beq_self_eq_true, k_ranges_Resolve_1, k_ranges_Resolve_0, hf, Bool.not_true, decide_true, decide_false, w1, mx2, hm, q]
theorem Resolve_b2 {f long : Int} (h1 : 0 ≤ long) (h2 : long ≤ 1048576) (hf : fineB f (-1) = true) : Cf F L i_ranges_Resolve [.agg [.int .i64 f, .int .i64 (-1)], .int .i64 long] h (Pu h (resV' (resS f (-1) long))) := by
  refine run_ranges_Resolve ?_
  simp only [p_ranges_Resolve]
  
  have a1 : ¬ long < 0 := by omega
  have a2 : ¬ long > 1048576 := by omega
  have hb := of_decide_eq_true hf
  have b1 : ¬ f = -1 := by omega
  have e : clipS f (-1) long = (f, long) := by unfold clipS; rw [if_neg b1, if_neg (fun h => h.1 rfl)]
  rw [resV_yes h1 h2 hf e]
  simp (maxSteps := 4000000) only [vm, vl, Arg.get, cells, stor, boundO, resultsV, resV, partK, loadV, Vm.part, fillC, splice, reduceIte, reduceCtorEq, Nat.reduceEqDiff, Nat.reduceAdd, Nat.reduceSub, Nat.reduceMul, Nat.reduceLeDiff, ne_eq, not_false_eq_true, Int.reduceEq, Int.reduceLT, Int.reduceLE, Int.reduceNeg, Int.reduceToNat, Int.reduceGT, Int.reduceGE, Nat.reduceLT, Nat.lt_add_one, Nat.zero_lt_succ, Nat.succ_pos, Nat.zero_le, beq_self_eq_true, a1, a2, decide_true, decide_false]
  
  refine Cf.pu rfine_ok fun u => ?_
  by_cases q : f ≥ long
  · rw [if_pos q]
    simp (maxSteps := 4000000) only [vm, vl, Arg.get, cells, stor, boundO, resultsV, resV, partK, loadV, Vm.part, fillC, splice, reduceIte, reduceCtorEq, Nat.reduceEqDiff, Nat.reduceAdd, Nat.reduceSub, Nat.reduceMul, Nat.reduceLeDiff, ne_eq, not_false_eq_true, Int.reduceEq, Int.reduceLT, Int.reduceLE, Int.reduceNeg, Int.reduceToNat, Int.reduceGT, Int.reduceGE, Nat.reduceLT, Nat.lt_add_one, Nat.zero_lt_succ, Nat.succ_pos, Nat.zero_le, beq_self_eq_true, k_ranges_Resolve_1, k_ranges_Resolve_0, hf, Bool.not_true, Bool.not_false, b1, decide_true, decide_false, q]
  · rw [if_neg q]
    simp (maxSteps := 4000000) only [vm, vl, Arg.get, cells, stor, boundO, resultsV, resV, partK, loadV, Vm.part, fillC, splice, reduceIte, reduceCtorEq, Nat.reduceEqDiff, Nat.reduceAdd, Nat.reduceSub, Nat.reduceMul, Nat.reduceLeDiff, ne_eq, not_false_eq_true, Int.reduceEq, Int.reduceLT, Int.reduceLE, Int.reduceNeg, Int.reduceToNat, Int.reduceGT, Int.reduceGE, Nat.reduceLT, Nat.lt_add_one, Nat.zero_lt_succ, Nat.succ_pos, Nat.zero_le, beq_self_eq_true, k_ranges_Resolve_1, k_ranges_Resolve_0, hf, Bool.not_true, Bool.not_false, b1, decide_true, decide_false, q]
theorem Resolve_b3 {f t long : Int} (h1 : 0 ≤ long) (h2 : long ≤ 1048576) (b1 : ¬ f = -1) (b2 : ¬ t = -1) (b3 : t < long) (hf : fineB f t = true) : Cf F L i_ranges_Resolve [.agg [.int .i64 f, .int .i64 t], .int .i64 long] h (Pu h (resV' (resS f t long))) := by
  refine run_ranges_Resolve ?_
  simp only [p_ranges_Resolve]
  
  have a1 : ¬ long < 0 := by omega
  have a2 : ¬ long > 1048576 := by omega
  have hb := of_decide_eq_true hf
  have e : clipS f t long = (f, t + 1) := by unfold clipS; rw [if_neg b1, if_pos ⟨b2, b3⟩]
  have w1 : IntKind.i64.wrap (t + 1) = t + 1 := wrap64 (by omega) (by omega)
  rw [resV_yes h1 h2 hf e]
  simp (maxSteps := 4000000) only [vm, vl, Arg.get, cells, stor, boundO, resultsV, resV, partK, loadV, Vm.part, fillC, splice, reduceIte, reduceCtorEq, Nat.reduceEqDiff, Nat.reduceAdd, Nat.reduceSub, Nat.reduceMul, Nat.reduceLeDiff, ne_eq, not_false_eq_true, Int.reduceEq, Int.reduceLT, Int.reduceLE, Int.reduceNeg, Int.reduceToNat, Int.reduceGT, Int.reduceGE, Nat.reduceLT, Nat.lt_add_one, Nat.zero_lt_succ, Nat.succ_pos, Nat.zero_le, beq_self_eq_true, a1, a2, decide_true, decide_false]
  
  refine Cf.pu rfine_ok fun u => ?_
  by_cases q : f ≥ t + 1
  · rw [if_pos q]
    simp (maxSteps := 4000000) only [vm, vl, Arg.get, cells, stor, boundO, resultsV, resV, partK, loadV, Vm.part, fillC, splice, reduceIte, reduceCtorEq, Nat.reduceEqDiff, Nat.reduceAdd, Nat.reduceSub, Nat.reduceMul, Nat.reduceLeDiff, ne_eq, not_false_eq_true, Int.reduceEq, Int.reduceLT, Int.reduceLE, Int.reduceNeg, Int.reduceToNat, Int.reduceGT, Int.reduceGE, Nat.reduceLT, Nat.lt_add_one, Nat.zero_lt_succ, Nat.succ_pos, Nat.zero_le, beq_self_eq_true, k_ranges_Resolve_1, k_ranges_Resolve_0, hf, Bool.not_true, Bool.not_false, b1, b2, b3, decide_true, decide_false, q, w1]
  · rw [if_neg q]
    simp (maxSteps := 4000000) only [vm, vl, Arg.get, cells, stor, boundO, resultsV, resV, partK, loadV, Vm.part, fillC, splice, reduceIte, reduceCtorEq, Nat.reduceEqDiff, Nat.reduceAdd, Nat.reduceSub, Nat.reduceMul, Nat.reduceLeDiff, ne_eq, not_false_eq_true, Int.reduceEq, Int.reduceLT, Int.reduceLE, Int.reduceNeg, Int.reduceToNat, Int.reduceGT, Int.reduceGE, Nat.reduceLT, Nat.lt_add_one, Nat.zero_lt_succ, Nat.succ_pos, Nat.zero_le, beq_self_eq_true, k_ranges_Resolve_1, k_ranges_Resolve_0, hf, Bool.not_true, Bool.not_false, b1, b2, b3, decide_true, decide_false, q, w1]
theorem Resolve_b4 {f t long : Int} (h1 : 0 ≤ long) (h2 : long ≤ 1048576) (b1 : ¬ f = -1) (b2 : ¬ t = -1) (b3 : ¬ t < long) (hf : fineB f t = true) : Cf F L i_ranges_Resolve [.agg [.int .i64 f, .int .i64 t], .int .i64 long] h (Pu h (resV' (resS f t long))) := by
  refine run_ranges_Resolve ?_
  simp only [p_ranges_Resolve]
  
  have a1 : ¬ long < 0 := by omega
  have a2 : ¬ long > 1048576 := by omega
  have hb := of_decide_eq_true hf
  have e : clipS f t long = (f, long) := by unfold clipS; rw [if_neg b1, if_neg (fun h => b3 h.2)]
  rw [resV_yes h1 h2 hf e]
  simp (maxSteps := 4000000) only [vm, vl, Arg.get, cells, stor, boundO, resultsV, resV, partK, loadV, Vm.part, fillC, splice, reduceIte, reduceCtorEq, Nat.reduceEqDiff, Nat.reduceAdd, Nat.reduceSub, Nat.reduceMul, Nat.reduceLeDiff, ne_eq, not_false_eq_true, Int.reduceEq, Int.reduceLT, Int.reduceLE, Int.reduceNeg, Int.reduceToNat, Int.reduceGT, Int.reduceGE, Nat.reduceLT, Nat.lt_add_one, Nat.zero_lt_succ, Nat.succ_pos, Nat.zero_le, beq_self_eq_true, a1, a2, decide_true, decide_false]
  
  refine Cf.pu rfine_ok fun u => ?_
  by_cases q : f ≥ long
  · rw [if_pos q]
    simp (maxSteps := 4000000) only [vm, vl, Arg.get, cells, stor, boundO, resultsV, resV, partK, loadV, Vm.part, fillC, splice, reduceIte, reduceCtorEq, Nat.reduceEqDiff, Nat.reduceAdd, Nat.reduceSub, Nat.reduceMul, Nat.reduceLeDiff, ne_eq, not_false_eq_true, Int.reduceEq, Int.reduceLT, Int.reduceLE, Int.reduceNeg, Int.reduceToNat, Int.reduceGT, Int.reduceGE, Nat.reduceLT, Nat.lt_add_one, Nat.zero_lt_succ, Nat.succ_pos, Nat.zero_le, beq_self_eq_true, k_ranges_Resolve_1, k_ranges_Resolve_0, hf, Bool.not_true, Bool.not_false, b1, b2, b3, decide_true, decide_false, q]
  · rw [if_neg q]
    simp (maxSteps := 4000000) only [vm, vl, Arg.get, cells, stor, boundO, resultsV, resV, partK, loadV, Vm.part, fillC, splice, reduceIte, reduceCtorEq, Nat.reduceEqDiff, Nat.reduceAdd, Nat.reduceSub, Nat.reduceMul, Nat.reduceLeDiff, ne_eq, not_false_eq_true, Int.reduceEq, Int.reduceLT, Int.reduceLE, Int.reduceNeg, Int.reduceToNat, Int.reduceGT, Int.reduceGE, Nat.reduceLT, Nat.lt_add_one, Nat.zero_lt_succ, Nat.succ_pos, Nat.zero_le, beq_self_eq_true, k_ranges_Resolve_1, k_ranges_Resolve_0, hf, Bool.not_true, Bool.not_false, b1, b2, b3, decide_true, decide_false, q]
theorem Resolve_ok {f t long : Int} : Cf F L i_ranges_Resolve [.agg [.int .i64 f, .int .i64 t], .int .i64 long] h (Pu h (resV' (resS f t long))) := by
  by_cases c : 0 ≤ long ∧ long ≤ 1048576 ∧ fineB f t = true
  · obtain ⟨h1, h2, hf⟩ := c
    by_cases b1 : f = -1
    · subst b1; exact Resolve_b1 h1 h2 hf
    by_cases b2 : t = -1
    · subst b2; exact Resolve_b2 h1 h2 hf
    by_cases b3 : t < long
    · exact Resolve_b3 h1 h2 b1 b2 b3 hf
    · exact Resolve_b4 h1 h2 b1 b2 b3 hf
  · exact Resolve_no c
end Go.Proofs.YtlnhcdafagpfhaaDoor.Vh
