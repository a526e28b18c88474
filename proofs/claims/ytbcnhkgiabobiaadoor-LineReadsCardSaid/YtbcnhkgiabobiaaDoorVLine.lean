/- Package line's targets, reasons and lines, with the reference's, on the small machine. -/
import Derived.Test.YtbcnhkgiabobiaaDoorVRef1
import Derived.Test.YtbcnhkgiabobiaaDoorVItoa
set_option linter.unusedVariables false
set_option linter.unusedSimpArgs false
namespace Go.Proofs.YtbcnhkgiabobiaaDoor.Vh
open Go.Vm Go.Vt
attribute [local congr] wi_congr wg_congr wgd_congr wb_congr wl_congr cf_congr
variable {L : FuncId → List V → V → Prop} {h : Heap}
def tgtB (c : UInt8) : Bool := decide (32 < (c.toNat : Int) ∧ (c.toNat : Int) ≤ 126)
def rsnB (c : UInt8) : Bool := decide ((c.toNat : Int) = 9 ∨ (32 ≤ (c.toNat : Int) ∧ (c.toNat : Int) ≠ 127))
def tgtS (s : Bs) : Bool := !s.isEmpty && s.all tgtB
def rsnS (s : Bs) : Bool := s.all rsnB
theorem isTarget_ok {s : Bs} (hs : s.length < 9223372036854775807) : Cf F L i_line_isTarget [.str s] h (Pu h (.bool (tgtS s))) := by
  refine run_line_isTarget ?_
  simp only [p_line_isTarget]
  simp (maxSteps := 4000000) only [vm, vl, Arg.get, cells, stor, boundO, resultsV, resV, partK, loadV, Vm.part, fillC, splice, reduceIte, reduceCtorEq, Nat.reduceEqDiff, Nat.reduceAdd, Nat.reduceSub, Nat.reduceMul, Nat.reduceLeDiff, ne_eq, not_false_eq_true, Int.reduceEq, Int.reduceLT, Int.reduceLE, Int.reduceNeg, Int.reduceToNat, Int.reduceGT, Int.reduceGE, Nat.reduceLT, Nat.lt_add_one, Nat.zero_lt_succ, Nat.succ_pos, Nat.zero_le, beq_self_eq_true, k_line_isTarget_0, k_line_isTarget_2, k_line_isTarget_1]
  refine l_line_isTarget_0 (fun n e h' => ∃ i, n = s.length - i ∧ i ≤ s.length ∧ e 0 = .str s ∧ e 5 = .int .i64 s.length ∧ e 6 = .int .i64 i ∧ (∃ t, h' = h ++ t) ∧ s.all tgtB = (s.drop i).all tgtB) ?_ (n := s.length) ⟨0, by simp, by simp, rfl, rfl, rfl, ⟨[], by simp⟩, rfl⟩
  rintro n e h' ⟨i, rfl, hi, e0, e5, e6, ⟨t, rfl⟩, hall⟩
  simp only [b_line_isTarget_0]
  rcases str_at hi with ⟨hn, rfl, hd⟩ | ⟨c, hl, hl', hc, hd⟩
  · simp (maxSteps := 4000000) only [vm, vl, Arg.get, cells, stor, boundO, resultsV, resV, partK, loadV, Vm.part, fillC, splice, reduceIte, reduceCtorEq, Nat.reduceEqDiff, Nat.reduceAdd, Nat.reduceSub, Nat.reduceMul, Nat.reduceLeDiff, ne_eq, not_false_eq_true, Int.reduceEq, Int.reduceLT, Int.reduceLE, Int.reduceNeg, Int.reduceToNat, Int.reduceGT, Int.reduceGE, Nat.reduceLT, Nat.lt_add_one, Nat.zero_lt_succ, Nat.succ_pos, Nat.zero_le, beq_self_eq_true, k_line_isTarget_0, k_line_isTarget_2, k_line_isTarget_1, e0, e5, e6, hn]
    rw [tgtS, hall, hd]
    cases s <;> simp
  · have w := wrap64 (x := (i : Int) + 1) (by omega) (by omega)
    rw [hd, List.all_cons] at hall
    by_cases c1 : (c.toNat : Int) ≤ 32
    · have q : tgtB c = false := by simp [tgtB]; omega
      simp (maxSteps := 4000000) only [vm, vl, Arg.get, cells, stor, boundO, resultsV, resV, partK, loadV, Vm.part, fillC, splice, reduceIte, reduceCtorEq, Nat.reduceEqDiff, Nat.reduceAdd, Nat.reduceSub, Nat.reduceMul, Nat.reduceLeDiff, ne_eq, not_false_eq_true, Int.reduceEq, Int.reduceLT, Int.reduceLE, Int.reduceNeg, Int.reduceToNat, Int.reduceGT, Int.reduceGE, Nat.reduceLT, Nat.lt_add_one, Nat.zero_lt_succ, Nat.succ_pos, Nat.zero_le, beq_self_eq_true, k_line_isTarget_0, k_line_isTarget_2, k_line_isTarget_1, e0, e5, e6, hl, hc, hl', c1, decide_true]
      rw [tgtS, hall, q]; simp
    · by_cases c2 : (c.toNat : Int) > 126
      · have q : tgtB c = false := by simp [tgtB]; omega
        simp (maxSteps := 4000000) only [vm, vl, Arg.get, cells, stor, boundO, resultsV, resV, partK, loadV, Vm.part, fillC, splice, reduceIte, reduceCtorEq, Nat.reduceEqDiff, Nat.reduceAdd, Nat.reduceSub, Nat.reduceMul, Nat.reduceLeDiff, ne_eq, not_false_eq_true, Int.reduceEq, Int.reduceLT, Int.reduceLE, Int.reduceNeg, Int.reduceToNat, Int.reduceGT, Int.reduceGE, Nat.reduceLT, Nat.lt_add_one, Nat.zero_lt_succ, Nat.succ_pos, Nat.zero_le, beq_self_eq_true, k_line_isTarget_0, k_line_isTarget_2, k_line_isTarget_1, e0, e5, e6, hl, hc, hl', c1, c2, decide_true, decide_false]
        rw [tgtS, hall, q]; simp
      · have q : tgtB c = true := by simp [tgtB]; omega
        simp (maxSteps := 4000000) only [vm, vl, Arg.get, cells, stor, boundO, resultsV, resV, partK, loadV, Vm.part, fillC, splice, reduceIte, reduceCtorEq, Nat.reduceEqDiff, Nat.reduceAdd, Nat.reduceSub, Nat.reduceMul, Nat.reduceLeDiff, ne_eq, not_false_eq_true, Int.reduceEq, Int.reduceLT, Int.reduceLE, Int.reduceNeg, Int.reduceToNat, Int.reduceGT, Int.reduceGE, Nat.reduceLT, Nat.lt_add_one, Nat.zero_lt_succ, Nat.succ_pos, Nat.zero_le, beq_self_eq_true, k_line_isTarget_0, k_line_isTarget_2, k_line_isTarget_1, e0, e5, e6, hl, hc, hl', c1, c2, decide_true, decide_false, w]
        exact ⟨s.length - (i + 1), by omega, i + 1, rfl, hl', rfl, ⟨t, rfl⟩, by rw [hall, q]; simp⟩
theorem rtarget_ok {s : Bs} (hs : s.length < 9223372036854775807) : Cf F L i_gatepostref03_target [.str s] h (Pu h (.bool (tgtS s))) := by
  refine run_gatepostref03_target ?_
  simp only [p_gatepostref03_target]
  refine l_gatepostref03_target_0 (fun n e h' => ∃ i, n = s.length - i ∧ i ≤ s.length ∧ e 0 = .str s ∧ e 3 = .int .i64 i ∧ (∃ t, h' = h ++ t) ∧ s.all tgtB = (s.drop i).all tgtB) ?_ (n := s.length) ⟨0, by simp, by simp, rfl, rfl, ⟨[], by simp⟩, rfl⟩
  rintro n e h' ⟨i, rfl, hi, e0, e3, ⟨t, rfl⟩, hall⟩
  simp only [b_gatepostref03_target_0]
  rcases str_at hi with ⟨hn, rfl, hd⟩ | ⟨c, hl, hl', hc, hd⟩
  · simp (maxSteps := 4000000) only [vm, vl, Arg.get, cells, stor, boundO, resultsV, resV, partK, loadV, Vm.part, fillC, splice, reduceIte, reduceCtorEq, Nat.reduceEqDiff, Nat.reduceAdd, Nat.reduceSub, Nat.reduceMul, Nat.reduceLeDiff, ne_eq, not_false_eq_true, Int.reduceEq, Int.reduceLT, Int.reduceLE, Int.reduceNeg, Int.reduceToNat, Int.reduceGT, Int.reduceGE, Nat.reduceLT, Nat.lt_add_one, Nat.zero_lt_succ, Nat.succ_pos, Nat.zero_le, beq_self_eq_true, k_gatepostref03_target_0, k_gatepostref03_target_2, k_gatepostref03_target_1, e0, e3, hn]
    rw [tgtS, hall, hd]
    cases s <;> simp
  · have w := wrap64 (x := (i : Int) + 1) (by omega) (by omega)
    rw [hd, List.all_cons] at hall
    by_cases c1 : (c.toNat : Int) < 33
    · have q : tgtB c = false := by simp [tgtB]; omega
      simp (maxSteps := 4000000) only [vm, vl, Arg.get, cells, stor, boundO, resultsV, resV, partK, loadV, Vm.part, fillC, splice, reduceIte, reduceCtorEq, Nat.reduceEqDiff, Nat.reduceAdd, Nat.reduceSub, Nat.reduceMul, Nat.reduceLeDiff, ne_eq, not_false_eq_true, Int.reduceEq, Int.reduceLT, Int.reduceLE, Int.reduceNeg, Int.reduceToNat, Int.reduceGT, Int.reduceGE, Nat.reduceLT, Nat.lt_add_one, Nat.zero_lt_succ, Nat.succ_pos, Nat.zero_le, beq_self_eq_true, k_gatepostref03_target_0, k_gatepostref03_target_2, k_gatepostref03_target_1, e0, e3, hl, hc, hl', c1, decide_true]
      rw [tgtS, hall, q]; simp
    · by_cases c2 : (c.toNat : Int) > 126
      · have q : tgtB c = false := by simp [tgtB]; omega
        simp (maxSteps := 4000000) only [vm, vl, Arg.get, cells, stor, boundO, resultsV, resV, partK, loadV, Vm.part, fillC, splice, reduceIte, reduceCtorEq, Nat.reduceEqDiff, Nat.reduceAdd, Nat.reduceSub, Nat.reduceMul, Nat.reduceLeDiff, ne_eq, not_false_eq_true, Int.reduceEq, Int.reduceLT, Int.reduceLE, Int.reduceNeg, Int.reduceToNat, Int.reduceGT, Int.reduceGE, Nat.reduceLT, Nat.lt_add_one, Nat.zero_lt_succ, Nat.succ_pos, Nat.zero_le, beq_self_eq_true, k_gatepostref03_target_0, k_gatepostref03_target_2, k_gatepostref03_target_1, e0, e3, hl, hc, hl', c1, c2, decide_true, decide_false]
        rw [tgtS, hall, q]; simp
      · have q : tgtB c = true := by simp [tgtB]; omega
        simp (maxSteps := 4000000) only [vm, vl, Arg.get, cells, stor, boundO, resultsV, resV, partK, loadV, Vm.part, fillC, splice, reduceIte, reduceCtorEq, Nat.reduceEqDiff, Nat.reduceAdd, Nat.reduceSub, Nat.reduceMul, Nat.reduceLeDiff, ne_eq, not_false_eq_true, Int.reduceEq, Int.reduceLT, Int.reduceLE, Int.reduceNeg, Int.reduceToNat, Int.reduceGT, Int.reduceGE, Nat.reduceLT, Nat.lt_add_one, Nat.zero_lt_succ, Nat.succ_pos, Nat.zero_le, beq_self_eq_true, k_gatepostref03_target_0, k_gatepostref03_target_2, k_gatepostref03_target_1, e0, e3, hl, hc, hl', c1, c2, decide_true, decide_false, w]
        exact ⟨s.length - (i + 1), by omega, i + 1, rfl, hl', rfl, ⟨t, rfl⟩, by rw [hall, q]; simp⟩
theorem isReason_ok {s : Bs} (hs : s.length < 9223372036854775807) : Cf F L i_line_isReason [.str s] h (Pu h (.bool (rsnS s))) := by
  refine run_line_isReason ?_
  simp only [p_line_isReason]
  simp (maxSteps := 4000000) only [vm, vl, Arg.get, cells, stor, boundO, resultsV, resV, partK, loadV, Vm.part, fillC, splice, reduceIte, reduceCtorEq, Nat.reduceEqDiff, Nat.reduceAdd, Nat.reduceSub, Nat.reduceMul, Nat.reduceLeDiff, ne_eq, not_false_eq_true, Int.reduceEq, Int.reduceLT, Int.reduceLE, Int.reduceNeg, Int.reduceToNat, Int.reduceGT, Int.reduceGE, Nat.reduceLT, Nat.lt_add_one, Nat.zero_lt_succ, Nat.succ_pos, Nat.zero_le, beq_self_eq_true, k_line_isReason_0, k_line_isReason_2, k_line_isReason_1]
  refine l_line_isReason_0 (fun n e h' => ∃ i, n = s.length - i ∧ i ≤ s.length ∧ e 0 = .str s ∧ e 6 = .int .i64 s.length ∧ e 7 = .int .i64 i ∧ (∃ t, h' = h ++ t) ∧ s.all rsnB = (s.drop i).all rsnB) ?_ (n := s.length) ⟨0, by simp, by simp, rfl, rfl, rfl, ⟨[], by simp⟩, rfl⟩
  rintro n e h' ⟨i, rfl, hi, e0, e6, e7, ⟨t, rfl⟩, hall⟩
  simp only [b_line_isReason_0]
  rcases str_at hi with ⟨hn, rfl, hd⟩ | ⟨c, hl, hl', hc, hd⟩
  · simp (maxSteps := 4000000) only [vm, vl, Arg.get, cells, stor, boundO, resultsV, resV, partK, loadV, Vm.part, fillC, splice, reduceIte, reduceCtorEq, Nat.reduceEqDiff, Nat.reduceAdd, Nat.reduceSub, Nat.reduceMul, Nat.reduceLeDiff, ne_eq, not_false_eq_true, Int.reduceEq, Int.reduceLT, Int.reduceLE, Int.reduceNeg, Int.reduceToNat, Int.reduceGT, Int.reduceGE, Nat.reduceLT, Nat.lt_add_one, Nat.zero_lt_succ, Nat.succ_pos, Nat.zero_le, beq_self_eq_true, k_line_isReason_0, k_line_isReason_2, k_line_isReason_1, e0, e6, e7, hn]
    rw [rsnS, hall, hd]; rfl
  · have w := wrap64 (x := (i : Int) + 1) (by omega) (by omega)
    rw [hd, List.all_cons] at hall
    have no : rsnB c = false → false = rsnS s := by intro q; rw [rsnS, hall, q]; rfl
    have yes : rsnB c = true → s.all rsnB = (s.drop (i + 1)).all rsnB := by intro q; rw [hall, q]; rfl
    by_cases c1 : (c.toNat : Int) < 32
    · by_cases c2 : (c.toNat : Int) = 9
      · have q : rsnB c = true := by simp [rsnB]; omega
        have c3 : ¬ (c.toNat : Int) = 127 := by omega
        simp (maxSteps := 4000000) only [vm, vl, Arg.get, cells, stor, boundO, resultsV, resV, partK, loadV, Vm.part, fillC, splice, reduceIte, reduceCtorEq, Nat.reduceEqDiff, Nat.reduceAdd, Nat.reduceSub, Nat.reduceMul, Nat.reduceLeDiff, ne_eq, not_false_eq_true, Int.reduceEq, Int.reduceLT, Int.reduceLE, Int.reduceNeg, Int.reduceToNat, Int.reduceGT, Int.reduceGE, Nat.reduceLT, Nat.lt_add_one, Nat.zero_lt_succ, Nat.succ_pos, Nat.zero_le, beq_self_eq_true, k_line_isReason_0, k_line_isReason_2, k_line_isReason_1, e0, e6, e7, hl, hc, hl', c1, c2, w, decide_true, decide_false, Bool.not_true]
        exact ⟨s.length - (i + 1), by omega, i + 1, rfl, hl', rfl, ⟨t, rfl⟩, yes q⟩
      · have q : rsnB c = false := by simp [rsnB]; omega
        simp (maxSteps := 4000000) only [vm, vl, Arg.get, cells, stor, boundO, resultsV, resV, partK, loadV, Vm.part, fillC, splice, reduceIte, reduceCtorEq, Nat.reduceEqDiff, Nat.reduceAdd, Nat.reduceSub, Nat.reduceMul, Nat.reduceLeDiff, ne_eq, not_false_eq_true, Int.reduceEq, Int.reduceLT, Int.reduceLE, Int.reduceNeg, Int.reduceToNat, Int.reduceGT, Int.reduceGE, Nat.reduceLT, Nat.lt_add_one, Nat.zero_lt_succ, Nat.succ_pos, Nat.zero_le, beq_self_eq_true, k_line_isReason_0, k_line_isReason_2, k_line_isReason_1, e0, e6, e7, hl, hc, hl', c1, c2, w, decide_true, decide_false, Bool.not_false]
        exact no q
    · by_cases c3 : (c.toNat : Int) = 127
      · have q : rsnB c = false := by simp [rsnB]; omega
        simp (maxSteps := 4000000) only [vm, vl, Arg.get, cells, stor, boundO, resultsV, resV, partK, loadV, Vm.part, fillC, splice, reduceIte, reduceCtorEq, Nat.reduceEqDiff, Nat.reduceAdd, Nat.reduceSub, Nat.reduceMul, Nat.reduceLeDiff, ne_eq, not_false_eq_true, Int.reduceEq, Int.reduceLT, Int.reduceLE, Int.reduceNeg, Int.reduceToNat, Int.reduceGT, Int.reduceGE, Nat.reduceLT, Nat.lt_add_one, Nat.zero_lt_succ, Nat.succ_pos, Nat.zero_le, beq_self_eq_true, k_line_isReason_0, k_line_isReason_2, k_line_isReason_1, e0, e6, e7, hl, hc, hl', c1, c3, w, decide_true, decide_false]
        exact no q
      · have q : rsnB c = true := by simp [rsnB]; omega
        simp (maxSteps := 4000000) only [vm, vl, Arg.get, cells, stor, boundO, resultsV, resV, partK, loadV, Vm.part, fillC, splice, reduceIte, reduceCtorEq, Nat.reduceEqDiff, Nat.reduceAdd, Nat.reduceSub, Nat.reduceMul, Nat.reduceLeDiff, ne_eq, not_false_eq_true, Int.reduceEq, Int.reduceLT, Int.reduceLE, Int.reduceNeg, Int.reduceToNat, Int.reduceGT, Int.reduceGE, Nat.reduceLT, Nat.lt_add_one, Nat.zero_lt_succ, Nat.succ_pos, Nat.zero_le, beq_self_eq_true, k_line_isReason_0, k_line_isReason_2, k_line_isReason_1, e0, e6, e7, hl, hc, hl', c1, c3, w, decide_true, decide_false]
        exact ⟨s.length - (i + 1), by omega, i + 1, rfl, hl', rfl, ⟨t, rfl⟩, yes q⟩
theorem rreason_ok {s : Bs} (hs : s.length < 9223372036854775807) : Cf F L i_gatepostref03_reason [.str s] h (Pu h (.bool (rsnS s))) := by
  refine run_gatepostref03_reason ?_
  simp only [p_gatepostref03_reason]
  refine l_gatepostref03_reason_0 (fun n e h' => ∃ i, n = s.length - i ∧ i ≤ s.length ∧ e 0 = .str s ∧ e 3 = .int .i64 i ∧ (∃ t, h' = h ++ t) ∧ s.all rsnB = (s.drop i).all rsnB) ?_ (n := s.length) ⟨0, by simp, by simp, rfl, rfl, ⟨[], by simp⟩, rfl⟩
  rintro n e h' ⟨i, rfl, hi, e0, e3, ⟨t, rfl⟩, hall⟩
  simp only [b_gatepostref03_reason_0]
  rcases str_at hi with ⟨hn, rfl, hd⟩ | ⟨c, hl, hl', hc, hd⟩
  · simp (maxSteps := 4000000) only [vm, vl, Arg.get, cells, stor, boundO, resultsV, resV, partK, loadV, Vm.part, fillC, splice, reduceIte, reduceCtorEq, Nat.reduceEqDiff, Nat.reduceAdd, Nat.reduceSub, Nat.reduceMul, Nat.reduceLeDiff, ne_eq, not_false_eq_true, Int.reduceEq, Int.reduceLT, Int.reduceLE, Int.reduceNeg, Int.reduceToNat, Int.reduceGT, Int.reduceGE, Nat.reduceLT, Nat.lt_add_one, Nat.zero_lt_succ, Nat.succ_pos, Nat.zero_le, beq_self_eq_true, k_gatepostref03_reason_0, k_gatepostref03_reason_2, k_gatepostref03_reason_1, e0, e3, hn]
    rw [rsnS, hall, hd]; rfl
  · have w := wrap64 (x := (i : Int) + 1) (by omega) (by omega)
    rw [hd, List.all_cons] at hall
    have no : rsnB c = false → false = rsnS s := by intro q; rw [rsnS, hall, q]; rfl
    have yes : rsnB c = true → s.all rsnB = (s.drop (i + 1)).all rsnB := by intro q; rw [hall, q]; rfl
    by_cases c2 : (c.toNat : Int) = 9
    · have q : rsnB c = true := by simp [rsnB]; omega
      simp (maxSteps := 4000000) only [vm, vl, Arg.get, cells, stor, boundO, resultsV, resV, partK, loadV, Vm.part, fillC, splice, reduceIte, reduceCtorEq, Nat.reduceEqDiff, Nat.reduceAdd, Nat.reduceSub, Nat.reduceMul, Nat.reduceLeDiff, ne_eq, not_false_eq_true, Int.reduceEq, Int.reduceLT, Int.reduceLE, Int.reduceNeg, Int.reduceToNat, Int.reduceGT, Int.reduceGE, Nat.reduceLT, Nat.lt_add_one, Nat.zero_lt_succ, Nat.succ_pos, Nat.zero_le, beq_self_eq_true, k_gatepostref03_reason_0, k_gatepostref03_reason_2, k_gatepostref03_reason_1, e0, e3, hl, hc, hl', c2, w, decide_true, decide_false, Bool.not_true]
      exact ⟨s.length - (i + 1), by omega, i + 1, rfl, hl', rfl, ⟨t, rfl⟩, yes q⟩
    · by_cases c1 : (c.toNat : Int) < 32
      · have q : rsnB c = false := by simp [rsnB]; omega
        simp (maxSteps := 4000000) only [vm, vl, Arg.get, cells, stor, boundO, resultsV, resV, partK, loadV, Vm.part, fillC, splice, reduceIte, reduceCtorEq, Nat.reduceEqDiff, Nat.reduceAdd, Nat.reduceSub, Nat.reduceMul, Nat.reduceLeDiff, ne_eq, not_false_eq_true, Int.reduceEq, Int.reduceLT, Int.reduceLE, Int.reduceNeg, Int.reduceToNat, Int.reduceGT, Int.reduceGE, Nat.reduceLT, Nat.lt_add_one, Nat.zero_lt_succ, Nat.succ_pos, Nat.zero_le, beq_self_eq_true, k_gatepostref03_reason_0, k_gatepostref03_reason_2, k_gatepostref03_reason_1, e0, e3, hl, hc, hl', c1, c2, w, decide_true, decide_false, Bool.not_false]
        exact no q
      · by_cases c3 : (c.toNat : Int) = 127
        · have q : rsnB c = false := by simp [rsnB]; omega
          simp (maxSteps := 4000000) only [vm, vl, Arg.get, cells, stor, boundO, resultsV, resV, partK, loadV, Vm.part, fillC, splice, reduceIte, reduceCtorEq, Nat.reduceEqDiff, Nat.reduceAdd, Nat.reduceSub, Nat.reduceMul, Nat.reduceLeDiff, ne_eq, not_false_eq_true, Int.reduceEq, Int.reduceLT, Int.reduceLE, Int.reduceNeg, Int.reduceToNat, Int.reduceGT, Int.reduceGE, Nat.reduceLT, Nat.lt_add_one, Nat.zero_lt_succ, Nat.succ_pos, Nat.zero_le, beq_self_eq_true, k_gatepostref03_reason_0, k_gatepostref03_reason_2, k_gatepostref03_reason_1, e0, e3, hl, hc, hl', c1, c2, c3, w, decide_true, decide_false, Bool.not_false]
          exact no q
        · have q : rsnB c = true := by simp [rsnB]; omega
          simp (maxSteps := 4000000) only [vm, vl, Arg.get, cells, stor, boundO, resultsV, resV, partK, loadV, Vm.part, fillC, splice, reduceIte, reduceCtorEq, Nat.reduceEqDiff, Nat.reduceAdd, Nat.reduceSub, Nat.reduceMul, Nat.reduceLeDiff, ne_eq, not_false_eq_true, Int.reduceEq, Int.reduceLT, Int.reduceLE, Int.reduceNeg, Int.reduceToNat, Int.reduceGT, Int.reduceGE, Nat.reduceLT, Nat.lt_add_one, Nat.zero_lt_succ, Nat.succ_pos, Nat.zero_le, beq_self_eq_true, k_gatepostref03_reason_0, k_gatepostref03_reason_2, k_gatepostref03_reason_1, e0, e3, hl, hc, hl', c1, c2, c3, w, decide_true, decide_false, Bool.not_false]
          exact ⟨s.length - (i + 1), by omega, i + 1, rfl, hl', rfl, ⟨t, rfl⟩, yes q⟩
end Go.Proofs.YtbcnhkgiabobiaaDoor.Vh
