/- Package ranges on the small machine: one, Parse, Pick. -/
import Derived.Test.YtlnhcdafagpfhaaDoorVRRef
import Derived.Test.YtlnhcdafagpfhaaDoorVSplitM
import Derived.Test.YtlnhcdafagpfhaaDoorVmGrow
set_option linter.unusedVariables false
set_option linter.unusedSimpArgs false
namespace Go.Proofs.YtlnhcdafagpfhaaDoor.Vh
open Go.Vm Go.Vt
attribute [local congr] wi_congr wg_congr wgd_congr wb_congr wl_congr cf_congr
variable {L : FuncId → List V → V → Prop} {h : Heap}
def numbM (x : Bs) : Int := if (numS x 1099511627776).2 then (numS x 1099511627776).1 else -1
theorem numbM_le (x : Bs) : -1 ≤ numbM x ∧ numbM x ≤ 1099511627776 := by
  have := numS_le x (most := 1099511627776) (by omega)
  unfold numbM; split <;> omega
theorem one1_ok {s : Bs} (hs : s.length ≤ 9223372036854775806) : Cf F L i_ranges_one_1 [.str s] h (Pu h (.int .i64 (numbM s))) := by
  refine run_ranges_one_1 ?_
  simp only [p_ranges_one_1]
  refine Cf.pu (Number_ok hs (by omega) (by omega)) fun t => ?_
  unfold numbM
  generalize numS s 1099511627776 = n at *
  obtain ⟨n, ok⟩ := n
  cases ok with
  | true => simp (maxSteps := 4000000) only [vm, vl, Arg.get, cells, stor, boundO, resultsV, resV, partK, loadV, Vm.part, fillC, splice, reduceIte, reduceCtorEq, Nat.reduceEqDiff, Nat.reduceAdd, Nat.reduceSub, Nat.reduceMul, Nat.reduceLeDiff, ne_eq, not_false_eq_true, Int.reduceEq, Int.reduceLT, Int.reduceLE, Int.reduceNeg, Int.reduceToNat, Int.reduceGT, Int.reduceGE, Nat.reduceLT, Nat.lt_add_one, Nat.zero_lt_succ, Nat.succ_pos, Nat.zero_le, beq_self_eq_true, k_ranges_one_1_0, if_true]
  | false => simp (maxSteps := 4000000) only [vm, vl, Arg.get, cells, stor, boundO, resultsV, resV, partK, loadV, Vm.part, fillC, splice, reduceIte, reduceCtorEq, Nat.reduceEqDiff, Nat.reduceAdd, Nat.reduceSub, Nat.reduceMul, Nat.reduceLeDiff, ne_eq, not_false_eq_true, Int.reduceEq, Int.reduceLT, Int.reduceLE, Int.reduceNeg, Int.reduceToNat, Int.reduceGT, Int.reduceGE, Nat.reduceLT, Nat.lt_add_one, Nat.zero_lt_succ, Nat.succ_pos, Nat.zero_le, beq_self_eq_true, k_ranges_one_1_0, Bool.false_eq_true, if_false]
def oneW (s : Bs) : Int × Int := (numbM (s.take (pos 45 s)), numbM (s.drop (pos 45 s + 1)))
def oneB (s : Bs) : Bool := decide (pos 45 s < s.length ∧ ¬ (s.take (pos 45 s) ≠ [] ∧ (oneW s).1 = -1) ∧ ¬ (s.drop (pos 45 s + 1) ≠ [] ∧ (oneW s).2 = -1) ∧ ¬ ((oneW s).1 = -1 ∧ (oneW s).2 = -1))
def oneV (s : Bs) : V := if oneB s then .tup [.agg [.int .i64 (oneW s).1, .int .i64 (oneW s).2], .bool (fineB (oneW s).1 (oneW s).2)] else .tup [.agg [.int .i64 0, .int .i64 0], .bool false]
theorem one_no {s : Bs} (h : ¬ (pos 45 s < s.length ∧ ¬ (s.take (pos 45 s) ≠ [] ∧ (oneW s).1 = -1) ∧ ¬ (s.drop (pos 45 s + 1) ≠ [] ∧ (oneW s).2 = -1) ∧ ¬ ((oneW s).1 = -1 ∧ (oneW s).2 = -1))) : oneV s = .tup [.agg [.int .i64 0, .int .i64 0], .bool false] := by
  unfold oneV; rw [show oneB s = false from decide_eq_false h]; rfl
theorem one_yes {s : Bs} (h : pos 45 s < s.length ∧ ¬ (s.take (pos 45 s) ≠ [] ∧ (oneW s).1 = -1) ∧ ¬ (s.drop (pos 45 s + 1) ≠ [] ∧ (oneW s).2 = -1) ∧ ¬ ((oneW s).1 = -1 ∧ (oneW s).2 = -1)) : oneV s = .tup [.agg [.int .i64 (oneW s).1, .int .i64 (oneW s).2], .bool (fineB (oneW s).1 (oneW s).2)] := by
  unfold oneV; rw [show oneB s = true from decide_eq_true h]; rfl
theorem one_ok' (HI : IndexOk L) {s : Bs} (hs : s.length ≤ 9223372036854775000) : Cf F L i_ranges_one [.str s] h (Pu h (oneV s)) := by
  refine run_ranges_one ?_
  simp only [p_ranges_one]
  
  have q0 : ∀ (a b c d : Int), eqV (.agg [.i, .i]) (.agg [.int .i64 a, .int .i64 b]) (.agg [.int .i64 c, .int .i64 d]) = some (decide (a = c) && decide (b = d)) := fun _ _ _ _ => eq_ints
  have CU := fun hh => Cut_ok (L := L) (h := hh) (s := s) (c := 45) HI (by omega)
  unfold cutS at CU
  have n1 := one_no (s := s)
  have y1 := one_yes (s := s)
  have ew : oneW s = (numbM (s.take (pos 45 s)), numbM (s.drop (pos 45 s + 1))) := rfl
  rw [ew] at n1 y1
  simp only at n1 y1
  have la : (s.take (pos 45 s)).length ≤ 9223372036854775806 := by rw [List.length_take]; omega
  have lb : (s.drop (pos 45 s + 1)).length ≤ 9223372036854775806 := by rw [List.length_drop]; omega
  have N1 := fun hh => one1_ok (L := L) (h := hh) la
  have N2 := fun hh => one1_ok (L := L) (h := hh) lb
  generalize oneV s = R at *
  generalize s.take (pos 45 s) = A at *
  generalize s.drop (pos 45 s + 1) = B at *
  generalize numbM A = a at *
  generalize numbM B = b at *
  simp (maxSteps := 4000000) only [vm, vl, Arg.get, cells, stor, boundO, resultsV, resV, partK, loadV, Vm.part, fillC, splice, reduceIte, reduceCtorEq, Nat.reduceEqDiff, Nat.reduceAdd, Nat.reduceSub, Nat.reduceMul, Nat.reduceLeDiff, ne_eq, not_false_eq_true, Int.reduceEq, Int.reduceLT, Int.reduceLE, Int.reduceNeg, Int.reduceToNat, Int.reduceGT, Int.reduceGE, Nat.reduceLT, Nat.lt_add_one, Nat.zero_lt_succ, Nat.succ_pos, Nat.zero_le, beq_self_eq_true]
  refine Cf.pu (CU _) fun u1 => ?_
  simp (maxSteps := 4000000) only [vm, vl, Arg.get, cells, stor, boundO, resultsV, resV, partK, loadV, Vm.part, fillC, splice, reduceIte, reduceCtorEq, Nat.reduceEqDiff, Nat.reduceAdd, Nat.reduceSub, Nat.reduceMul, Nat.reduceLeDiff, ne_eq, not_false_eq_true, Int.reduceEq, Int.reduceLT, Int.reduceLE, Int.reduceNeg, Int.reduceToNat, Int.reduceGT, Int.reduceGE, Nat.reduceLT, Nat.lt_add_one, Nat.zero_lt_succ, Nat.succ_pos, Nat.zero_le, beq_self_eq_true]
  refine Cf.pu (N1 _) fun u2 => ?_
  simp (maxSteps := 4000000) only [vm, vl, Arg.get, cells, stor, boundO, resultsV, resV, partK, loadV, Vm.part, fillC, splice, reduceIte, reduceCtorEq, Nat.reduceEqDiff, Nat.reduceAdd, Nat.reduceSub, Nat.reduceMul, Nat.reduceLeDiff, ne_eq, not_false_eq_true, Int.reduceEq, Int.reduceLT, Int.reduceLE, Int.reduceNeg, Int.reduceToNat, Int.reduceGT, Int.reduceGE, Nat.reduceLT, Nat.lt_add_one, Nat.zero_lt_succ, Nat.succ_pos, Nat.zero_le, beq_self_eq_true]
  refine Cf.pu (N2 _) fun u3 => ?_
  by_cases c1 : pos 45 s < s.length
  case neg =>
    rw [n1 (fun h => c1 h.1)]
    simp (maxSteps := 4000000) only [vm, vl, Arg.get, cells, stor, boundO, resultsV, resV, partK, loadV, Vm.part, fillC, splice, reduceIte, reduceCtorEq, Nat.reduceEqDiff, Nat.reduceAdd, Nat.reduceSub, Nat.reduceMul, Nat.reduceLeDiff, ne_eq, not_false_eq_true, Int.reduceEq, Int.reduceLT, Int.reduceLE, Int.reduceNeg, Int.reduceToNat, Int.reduceGT, Int.reduceGE, Nat.reduceLT, Nat.lt_add_one, Nat.zero_lt_succ, Nat.succ_pos, Nat.zero_le, beq_self_eq_true, c1, decide_false, Bool.not_false]
  by_cases c2 : A ≠ [] ∧ a = -1
  · obtain ⟨c2a, c2b⟩ := c2
    have c2' : (A == []) = false := beq_eq_false_iff_ne.2 c2a
    rw [n1 (fun h => h.2.1 ⟨c2a, c2b⟩)]
    simp (maxSteps := 4000000) only [vm, vl, Arg.get, cells, stor, boundO, resultsV, resV, partK, loadV, Vm.part, fillC, splice, reduceIte, reduceCtorEq, Nat.reduceEqDiff, Nat.reduceAdd, Nat.reduceSub, Nat.reduceMul, Nat.reduceLeDiff, ne_eq, not_false_eq_true, Int.reduceEq, Int.reduceLT, Int.reduceLE, Int.reduceNeg, Int.reduceToNat, Int.reduceGT, Int.reduceGE, Nat.reduceLT, Nat.lt_add_one, Nat.zero_lt_succ, Nat.succ_pos, Nat.zero_le, beq_self_eq_true, c1, decide_true, Bool.not_true, Bool.not_false, c2', c2b]
  by_cases c3 : B ≠ [] ∧ b = -1
  · obtain ⟨c3a, c3b⟩ := c3
    have c3' : (B == []) = false := beq_eq_false_iff_ne.2 c3a
    rw [n1 (fun h => h.2.2.1 ⟨c3a, c3b⟩)]
    by_cases d : A = []
    · have d' : (A == []) = true := beq_iff_eq.2 d
      simp (maxSteps := 4000000) only [vm, vl, Arg.get, cells, stor, boundO, resultsV, resV, partK, loadV, Vm.part, fillC, splice, reduceIte, reduceCtorEq, Nat.reduceEqDiff, Nat.reduceAdd, Nat.reduceSub, Nat.reduceMul, Nat.reduceLeDiff, ne_eq, not_false_eq_true, Int.reduceEq, Int.reduceLT, Int.reduceLE, Int.reduceNeg, Int.reduceToNat, Int.reduceGT, Int.reduceGE, Nat.reduceLT, Nat.lt_add_one, Nat.zero_lt_succ, Nat.succ_pos, Nat.zero_le, beq_self_eq_true, c1, decide_true, decide_false, Bool.not_true, Bool.not_false, d', c3', c3b]
    · have d' : (A == []) = false := beq_eq_false_iff_ne.2 d
      have d2 : ¬ a = -1 := fun e => c2 ⟨d, e⟩
      simp (maxSteps := 4000000) only [vm, vl, Arg.get, cells, stor, boundO, resultsV, resV, partK, loadV, Vm.part, fillC, splice, reduceIte, reduceCtorEq, Nat.reduceEqDiff, Nat.reduceAdd, Nat.reduceSub, Nat.reduceMul, Nat.reduceLeDiff, ne_eq, not_false_eq_true, Int.reduceEq, Int.reduceLT, Int.reduceLE, Int.reduceNeg, Int.reduceToNat, Int.reduceGT, Int.reduceGE, Nat.reduceLT, Nat.lt_add_one, Nat.zero_lt_succ, Nat.succ_pos, Nat.zero_le, beq_self_eq_true, c1, decide_true, decide_false, Bool.not_true, Bool.not_false, d', d2, c3', c3b]
  have e2 : (A == []) = true ∨ ((A == []) = false ∧ ¬ a = -1) := by
    by_cases d : A = []
    · exact .inl (beq_iff_eq.2 d)
    · exact .inr ⟨beq_eq_false_iff_ne.2 d, fun e => c2 ⟨d, e⟩⟩
  have e3 : (B == []) = true ∨ ((B == []) = false ∧ ¬ b = -1) := by
    by_cases d : B = []
    · exact .inl (beq_iff_eq.2 d)
    · exact .inr ⟨beq_eq_false_iff_ne.2 d, fun e => c3 ⟨d, e⟩⟩
  by_cases c4 : a = -1 ∧ b = -1
  · obtain ⟨c4a, c4b⟩ := c4
    rw [n1 (fun h => h.2.2.2 ⟨c4a, c4b⟩)]
    rcases e2 with e2 | ⟨_, e⟩
    case inr => exact absurd c4a e
    rcases e3 with e3 | ⟨_, e⟩
    case inr => exact absurd c4b e
    simp (maxSteps := 4000000) only [vm, vl, Arg.get, cells, stor, boundO, resultsV, resV, partK, loadV, Vm.part, fillC, splice, reduceIte, reduceCtorEq, Nat.reduceEqDiff, Nat.reduceAdd, Nat.reduceSub, Nat.reduceMul, Nat.reduceLeDiff, ne_eq, not_false_eq_true, Int.reduceEq, Int.reduceLT, Int.reduceLE, Int.reduceNeg, Int.reduceToNat, Int.reduceGT, Int.reduceGE, Nat.reduceLT, Nat.lt_add_one, Nat.zero_lt_succ, Nat.succ_pos, Nat.zero_le, beq_self_eq_true, c1, decide_true, decide_false, Bool.not_true, Bool.not_false, e2, e3, c4a, c4b, q0, Bool.and_self]
  · rw [y1 ⟨c1, c2, c3, c4⟩]
    have c4' : (decide (a = -1) && decide (b = -1)) = false := by
      rw [Bool.and_eq_false_iff, decide_eq_false_iff_not, decide_eq_false_iff_not]; omega
    rcases e2 with e2 | ⟨e2, e2'⟩ <;> rcases e3 with e3 | ⟨e3, e3'⟩
    · simp (maxSteps := 4000000) only [vm, vl, Arg.get, cells, stor, boundO, resultsV, resV, partK, loadV, Vm.part, fillC, splice, reduceIte, reduceCtorEq, Nat.reduceEqDiff, Nat.reduceAdd, Nat.reduceSub, Nat.reduceMul, Nat.reduceLeDiff, ne_eq, not_false_eq_true, Int.reduceEq, Int.reduceLT, Int.reduceLE, Int.reduceNeg, Int.reduceToNat, Int.reduceGT, Int.reduceGE, Nat.reduceLT, Nat.lt_add_one, Nat.zero_lt_succ, Nat.succ_pos, Nat.zero_le, beq_self_eq_true, c1, decide_true, decide_false, Bool.not_true, Bool.not_false, e2, e3, q0, c4', k_ranges_one_0]
      refine Cf.pu rfine_ok fun u4 => ?_
      simp (maxSteps := 4000000) only [vm, vl, Arg.get, cells, stor, boundO, resultsV, resV, partK, loadV, Vm.part, fillC, splice, reduceIte, reduceCtorEq, Nat.reduceEqDiff, Nat.reduceAdd, Nat.reduceSub, Nat.reduceMul, Nat.reduceLeDiff, ne_eq, not_false_eq_true, Int.reduceEq, Int.reduceLT, Int.reduceLE, Int.reduceNeg, Int.reduceToNat, Int.reduceGT, Int.reduceGE, Nat.reduceLT, Nat.lt_add_one, Nat.zero_lt_succ, Nat.succ_pos, Nat.zero_le, beq_self_eq_true]
    · simp (maxSteps := 4000000) only [vm, vl, Arg.get, cells, stor, boundO, resultsV, resV, partK, loadV, Vm.part, fillC, splice, reduceIte, reduceCtorEq, Nat.reduceEqDiff, Nat.reduceAdd, Nat.reduceSub, Nat.reduceMul, Nat.reduceLeDiff, ne_eq, not_false_eq_true, Int.reduceEq, Int.reduceLT, Int.reduceLE, Int.reduceNeg, Int.reduceToNat, Int.reduceGT, Int.reduceGE, Nat.reduceLT, Nat.lt_add_one, Nat.zero_lt_succ, Nat.succ_pos, Nat.zero_le, beq_self_eq_true, c1, decide_true, decide_false, Bool.not_true, Bool.not_false, e2, e3, e3', q0, c4', k_ranges_one_0, Bool.and_false]
      refine Cf.pu rfine_ok fun u4 => ?_
      simp (maxSteps := 4000000) only [vm, vl, Arg.get, cells, stor, boundO, resultsV, resV, partK, loadV, Vm.part, fillC, splice, reduceIte, reduceCtorEq, Nat.reduceEqDiff, Nat.reduceAdd, Nat.reduceSub, Nat.reduceMul, Nat.reduceLeDiff, ne_eq, not_false_eq_true, Int.reduceEq, Int.reduceLT, Int.reduceLE, Int.reduceNeg, Int.reduceToNat, Int.reduceGT, Int.reduceGE, Nat.reduceLT, Nat.lt_add_one, Nat.zero_lt_succ, Nat.succ_pos, Nat.zero_le, beq_self_eq_true]
    · simp (maxSteps := 4000000) only [vm, vl, Arg.get, cells, stor, boundO, resultsV, resV, partK, loadV, Vm.part, fillC, splice, reduceIte, reduceCtorEq, Nat.reduceEqDiff, Nat.reduceAdd, Nat.reduceSub, Nat.reduceMul, Nat.reduceLeDiff, ne_eq, not_false_eq_true, Int.reduceEq, Int.reduceLT, Int.reduceLE, Int.reduceNeg, Int.reduceToNat, Int.reduceGT, Int.reduceGE, Nat.reduceLT, Nat.lt_add_one, Nat.zero_lt_succ, Nat.succ_pos, Nat.zero_le, beq_self_eq_true, c1, decide_true, decide_false, Bool.not_true, Bool.not_false, e2, e2', e3, q0, c4', k_ranges_one_0, Bool.false_and]
      refine Cf.pu rfine_ok fun u4 => ?_
      simp (maxSteps := 4000000) only [vm, vl, Arg.get, cells, stor, boundO, resultsV, resV, partK, loadV, Vm.part, fillC, splice, reduceIte, reduceCtorEq, Nat.reduceEqDiff, Nat.reduceAdd, Nat.reduceSub, Nat.reduceMul, Nat.reduceLeDiff, ne_eq, not_false_eq_true, Int.reduceEq, Int.reduceLT, Int.reduceLE, Int.reduceNeg, Int.reduceToNat, Int.reduceGT, Int.reduceGE, Nat.reduceLT, Nat.lt_add_one, Nat.zero_lt_succ, Nat.succ_pos, Nat.zero_le, beq_self_eq_true]
    · simp (maxSteps := 4000000) only [vm, vl, Arg.get, cells, stor, boundO, resultsV, resV, partK, loadV, Vm.part, fillC, splice, reduceIte, reduceCtorEq, Nat.reduceEqDiff, Nat.reduceAdd, Nat.reduceSub, Nat.reduceMul, Nat.reduceLeDiff, ne_eq, not_false_eq_true, Int.reduceEq, Int.reduceLT, Int.reduceLE, Int.reduceNeg, Int.reduceToNat, Int.reduceGT, Int.reduceGE, Nat.reduceLT, Nat.lt_add_one, Nat.zero_lt_succ, Nat.succ_pos, Nat.zero_le, beq_self_eq_true, c1, decide_true, decide_false, Bool.not_true, Bool.not_false, e2, e2', e3, e3', q0, c4', k_ranges_one_0, Bool.and_false]
      refine Cf.pu rfine_ok fun u4 => ?_
      simp (maxSteps := 4000000) only [vm, vl, Arg.get, cells, stor, boundO, resultsV, resV, partK, loadV, Vm.part, fillC, splice, reduceIte, reduceCtorEq, Nat.reduceEqDiff, Nat.reduceAdd, Nat.reduceSub, Nat.reduceMul, Nat.reduceLeDiff, ne_eq, not_false_eq_true, Int.reduceEq, Int.reduceLT, Int.reduceLE, Int.reduceNeg, Int.reduceToNat, Int.reduceGT, Int.reduceGE, Nat.reduceLT, Nat.lt_add_one, Nat.zero_lt_succ, Nat.succ_pos, Nat.zero_le, beq_self_eq_true]
end Go.Proofs.YtlnhcdafagpfhaaDoor.Vh
