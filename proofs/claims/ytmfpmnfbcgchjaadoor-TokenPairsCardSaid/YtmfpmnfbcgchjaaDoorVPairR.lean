/- The document's Pair. -/
import Derived.Test.YtmfpmnfbcgchjaaDoorVUnqL
set_option linter.unusedVariables false
set_option linter.unusedSimpArgs false
namespace Go.Proofs.YtmfpmnfbcgchjaaDoor.Vh
open Go.Vm Go.Vt
attribute [local congr] wi_congr wg_congr wgd_congr wb_congr wl_congr cf_congr
variable {L : FuncId → List V → V → Prop} {h : Heap}
theorem q61 {c : UInt8} : decide ((c.toNat : Int) = 61) = decide (c = 61) := byte_all (p := fun c => decide ((c.toNat : Int) = 61) = decide (c = 61)) (by decide +kernel) c
theorem rPair0_ok {s : Bs} {t : Heap} {k : Nat} (hs : s.length < 1000000000) (hk : k ≤ s.length) (hp : pos 61 s = k) :
    k_gatepostref01_Pair_0 L (Pu h (pairV (pairS s))) (.str s) (.int .i64 k) (h ++ t) := by
  
  unfold k_gatepostref01_Pair_0
  have b1 : (s.take k).length < 1000000000 := by rw [List.length_take]; omega
  have b2 : (s.drop (k + 1)).length < 1000000000 := by rw [List.length_drop]; omega
  unfold pairS
  simp only
  rw [hp]
  have t0 : (0 : Int) ≤ (k : Int) := by omega
  have t1 : ((k : Nat) : Int).toNat = k := by omega
  by_cases hlt : k < s.length
  · rw [if_pos hlt]
    have h1 : k + 1 ≤ s.length := hlt
    have e1 : decide ((k : Int) = (s.length : Int)) = false := by simp; omega
    have w := wrap64 (x := (k : Int) + 1) (by omega) (by omega)
    have t2 : (0 : Int) ≤ (k : Int) + 1 := by omega
    have t3 : ((k : Int) + 1).toNat = k + 1 := by omega
    
    simp (maxSteps := 4000000) only [vm, vl, Arg.get, cells, stor, boundO, resultsV, resV, partK, loadV, Vm.part, fillC, splice, reduceIte, reduceCtorEq, Nat.reduceEqDiff, Nat.reduceAdd, Nat.reduceSub, Nat.reduceMul, Nat.reduceLeDiff, ne_eq, not_false_eq_true, Int.reduceEq, Int.reduceLT, Int.reduceLE, Int.reduceNeg, Int.reduceToNat, Int.reduceGT, Int.reduceGE, Nat.reduceLT, Nat.lt_add_one, Nat.zero_lt_succ, Nat.succ_pos, Nat.zero_le, beq_self_eq_true, t0, t1, hk, Nat.zero_le, List.drop_zero]
    generalize hn : s.take k = n at *
    refine Cf.pu (rIs_ok (by omega)) fun u => ?_
    cases q1 : isTok n with
    | false => simp (maxSteps := 4000000) only [vm, vl, Arg.get, cells, stor, boundO, resultsV, resV, partK, loadV, Vm.part, fillC, splice, reduceIte, reduceCtorEq, Nat.reduceEqDiff, Nat.reduceAdd, Nat.reduceSub, Nat.reduceMul, Nat.reduceLeDiff, ne_eq, not_false_eq_true, Int.reduceEq, Int.reduceLT, Int.reduceLE, Int.reduceNeg, Int.reduceToNat, Int.reduceGT, Int.reduceGE, Nat.reduceLT, Nat.lt_add_one, Nat.zero_lt_succ, Nat.succ_pos, Nat.zero_le, beq_self_eq_true, pairV, Bool.not_false]
    | true =>
      simp (maxSteps := 4000000) only [vm, vl, Arg.get, cells, stor, boundO, resultsV, resV, partK, loadV, Vm.part, fillC, splice, reduceIte, reduceCtorEq, Nat.reduceEqDiff, Nat.reduceAdd, Nat.reduceSub, Nat.reduceMul, Nat.reduceLeDiff, ne_eq, not_false_eq_true, Int.reduceEq, Int.reduceLT, Int.reduceLE, Int.reduceNeg, Int.reduceToNat, Int.reduceGT, Int.reduceGE, Nat.reduceLT, Nat.lt_add_one, Nat.zero_lt_succ, Nat.succ_pos, Nat.zero_le, beq_self_eq_true, q1, Bool.not_true, k_gatepostref01_Pair_1, k_gatepostref01_Pair_2, e1, w, t2, t3, h1, hlt, Nat.le_refl, List.take_length]
      generalize hv : s.drop (k + 1) = v at *
      refine Cf.pu (rIs_ok (by omega)) fun u2 => ?_
      cases q2 : isTok v with
      | true => simp (maxSteps := 4000000) only [vm, vl, Arg.get, cells, stor, boundO, resultsV, resV, partK, loadV, Vm.part, fillC, splice, reduceIte, reduceCtorEq, Nat.reduceEqDiff, Nat.reduceAdd, Nat.reduceSub, Nat.reduceMul, Nat.reduceLeDiff, ne_eq, not_false_eq_true, Int.reduceEq, Int.reduceLT, Int.reduceLE, Int.reduceNeg, Int.reduceToNat, Int.reduceGT, Int.reduceGE, Nat.reduceLT, Nat.lt_add_one, Nat.zero_lt_succ, Nat.succ_pos, Nat.zero_le, beq_self_eq_true, q2, t0, t1, hk, Nat.zero_le, List.drop_zero, hn, pairV]
      | false =>
        simp (maxSteps := 4000000) only [vm, vl, Arg.get, cells, stor, boundO, resultsV, resV, partK, loadV, Vm.part, fillC, splice, reduceIte, reduceCtorEq, Nat.reduceEqDiff, Nat.reduceAdd, Nat.reduceSub, Nat.reduceMul, Nat.reduceLeDiff, ne_eq, not_false_eq_true, Int.reduceEq, Int.reduceLT, Int.reduceLE, Int.reduceNeg, Int.reduceToNat, Int.reduceGT, Int.reduceGE, Nat.reduceLT, Nat.lt_add_one, Nat.zero_lt_succ, Nat.succ_pos, Nat.zero_le, beq_self_eq_true, q2, k_gatepostref01_Pair_3]
        refine (rUnq_ok (by omega)).mono fun x h' hx => ?_
        obtain ⟨x, ⟨rfl, r, rfl⟩, hx⟩ := hx
        cases q3 : (unqP v).2 with
        | false => simp (maxSteps := 4000000) only [vm, vl, Arg.get, cells, stor, boundO, resultsV, resV, partK, loadV, Vm.part, fillC, splice, reduceIte, reduceCtorEq, Nat.reduceEqDiff, Nat.reduceAdd, Nat.reduceSub, Nat.reduceMul, Nat.reduceLeDiff, ne_eq, not_false_eq_true, Int.reduceEq, Int.reduceLT, Int.reduceLE, Int.reduceNeg, Int.reduceToNat, Int.reduceGT, Int.reduceGE, Nat.reduceLT, Nat.lt_add_one, Nat.zero_lt_succ, Nat.succ_pos, Nat.zero_le, beq_self_eq_true, q3, Bool.not_false, pairV]
        | true =>
          have := hx q3
          subst this
          simp (maxSteps := 4000000) only [vm, vl, Arg.get, cells, stor, boundO, resultsV, resV, partK, loadV, Vm.part, fillC, splice, reduceIte, reduceCtorEq, Nat.reduceEqDiff, Nat.reduceAdd, Nat.reduceSub, Nat.reduceMul, Nat.reduceLeDiff, ne_eq, not_false_eq_true, Int.reduceEq, Int.reduceLT, Int.reduceLE, Int.reduceNeg, Int.reduceToNat, Int.reduceGT, Int.reduceGE, Nat.reduceLT, Nat.lt_add_one, Nat.zero_lt_succ, Nat.succ_pos, Nat.zero_le, beq_self_eq_true, q3, Bool.not_true, k_gatepostref01_Pair_4, t0, t1, hk, Nat.zero_le, List.drop_zero, hn, pairV]
  · rw [if_neg hlt]
    have he : k = s.length := by omega
    subst he
    have e1 : decide ((s.length : Int) = (s.length : Int)) = true := by simp
    have tk : s.take s.length = s := List.take_length
    have dk : s.drop (s.length + 1) = [] := by rw [List.drop_eq_nil_iff]; omega
    rw [tk, dk]
    
    simp (maxSteps := 4000000) only [vm, vl, Arg.get, cells, stor, boundO, resultsV, resV, partK, loadV, Vm.part, fillC, splice, reduceIte, reduceCtorEq, Nat.reduceEqDiff, Nat.reduceAdd, Nat.reduceSub, Nat.reduceMul, Nat.reduceLeDiff, ne_eq, not_false_eq_true, Int.reduceEq, Int.reduceLT, Int.reduceLE, Int.reduceNeg, Int.reduceToNat, Int.reduceGT, Int.reduceGE, Nat.reduceLT, Nat.lt_add_one, Nat.zero_lt_succ, Nat.succ_pos, Nat.zero_le, beq_self_eq_true, t0, t1, hk, Nat.zero_le, List.drop_zero, tk]
    refine Cf.pu (rIs_ok (by omega)) fun u => ?_
    cases q1 : isTok s with
    | false => simp (maxSteps := 4000000) only [vm, vl, Arg.get, cells, stor, boundO, resultsV, resV, partK, loadV, Vm.part, fillC, splice, reduceIte, reduceCtorEq, Nat.reduceEqDiff, Nat.reduceAdd, Nat.reduceSub, Nat.reduceMul, Nat.reduceLeDiff, ne_eq, not_false_eq_true, Int.reduceEq, Int.reduceLT, Int.reduceLE, Int.reduceNeg, Int.reduceToNat, Int.reduceGT, Int.reduceGE, Nat.reduceLT, Nat.lt_add_one, Nat.zero_lt_succ, Nat.succ_pos, Nat.zero_le, beq_self_eq_true, q1, pairV, Bool.not_false]
    | true => simp (maxSteps := 4000000) only [vm, vl, Arg.get, cells, stor, boundO, resultsV, resV, partK, loadV, Vm.part, fillC, splice, reduceIte, reduceCtorEq, Nat.reduceEqDiff, Nat.reduceAdd, Nat.reduceSub, Nat.reduceMul, Nat.reduceLeDiff, ne_eq, not_false_eq_true, Int.reduceEq, Int.reduceLT, Int.reduceLE, Int.reduceNeg, Int.reduceToNat, Int.reduceGT, Int.reduceGE, Nat.reduceLT, Nat.lt_add_one, Nat.zero_lt_succ, Nat.succ_pos, Nat.zero_le, beq_self_eq_true, q1, Bool.not_true, k_gatepostref01_Pair_1, e1, pairV]
theorem rPair_ok {s : Bs} (hs : s.length < 1000000000) : Cf F L i_gatepostref01_Pair [.str s] h (Pu h (pairV (pairS s))) := by
  refine run_gatepostref01_Pair ?_
  simp only [p_gatepostref01_Pair]
  
  refine l_gatepostref01_Pair_0 (fun n e h' => ∃ k : Nat, n = s.length - k ∧ k ≤ s.length ∧ e 0 = .str s ∧ e 6 = .int .i64 k ∧ (∀ j, j < k → s.getD j 0 ≠ 61) ∧ ∃ t, h' = h ++ t) ?_ (n := s.length) ⟨0, by simp, by simp, rfl, rfl, by simp, [], by simp⟩
  rintro n e h' ⟨k, rfl, hk, e0, e6, hno, t, rfl⟩
  simp only [b_gatepostref01_Pair_0]
  rcases str_at hk with ⟨hn, rfl, hd⟩ | ⟨c, hl, hl', hc, hd⟩
  · simp (maxSteps := 4000000) only [vm, vl, Arg.get, cells, stor, boundO, resultsV, resV, partK, loadV, Vm.part, fillC, splice, reduceIte, reduceCtorEq, Nat.reduceEqDiff, Nat.reduceAdd, Nat.reduceSub, Nat.reduceMul, Nat.reduceLeDiff, ne_eq, not_false_eq_true, Int.reduceEq, Int.reduceLT, Int.reduceLE, Int.reduceNeg, Int.reduceToNat, Int.reduceGT, Int.reduceGE, Nat.reduceLT, Nat.lt_add_one, Nat.zero_lt_succ, Nat.succ_pos, Nat.zero_le, beq_self_eq_true, e0, e6, hn]
    exact rPair0_ok hs hk (pos_none hno)
  · have w := wrap64 (x := (k : Int) + 1) (by omega) (by omega)
    have k61 := q61 (c := c)
    by_cases c61 : c = 61
    · subst c61
      have k61' : ((UInt8.toNat 61 : Nat) : Int) = 61 := rfl
      simp (maxSteps := 4000000) only [vm, vl, Arg.get, cells, stor, boundO, resultsV, resV, partK, loadV, Vm.part, fillC, splice, reduceIte, reduceCtorEq, Nat.reduceEqDiff, Nat.reduceAdd, Nat.reduceSub, Nat.reduceMul, Nat.reduceLeDiff, ne_eq, not_false_eq_true, Int.reduceEq, Int.reduceLT, Int.reduceLE, Int.reduceNeg, Int.reduceToNat, Int.reduceGT, Int.reduceGE, Nat.reduceLT, Nat.lt_add_one, Nat.zero_lt_succ, Nat.succ_pos, Nat.zero_le, beq_self_eq_true, e0, e6, hl, hl', hc, k61', decide_true, Bool.not_true]
      exact rPair0_ok hs hk (pos_at hl' hno hc)
    · have k61' : ¬ (c.toNat : Int) = 61 := by rw [← decide_eq_false_iff_not, k61]; simpa using c61
      simp (maxSteps := 4000000) only [vm, vl, Arg.get, cells, stor, boundO, resultsV, resV, partK, loadV, Vm.part, fillC, splice, reduceIte, reduceCtorEq, Nat.reduceEqDiff, Nat.reduceAdd, Nat.reduceSub, Nat.reduceMul, Nat.reduceLeDiff, ne_eq, not_false_eq_true, Int.reduceEq, Int.reduceLT, Int.reduceLE, Int.reduceNeg, Int.reduceToNat, Int.reduceGT, Int.reduceGE, Nat.reduceLT, Nat.lt_add_one, Nat.zero_lt_succ, Nat.succ_pos, Nat.zero_le, beq_self_eq_true, e0, e6, hl, hl', hc, k61', decide_false, Bool.not_false, k_gatepostref01_Pair_5, w]
      refine ⟨s.length - (k + 1), by omega, k + 1, rfl, hl', rfl, ?_, t, rfl⟩
      intro j hj
      rcases Nat.lt_or_ge j k with h1 | h1
      · exact hno j h1
      · have : j = k := by omega
        subst this; rw [hc]; exact c61
end Go.Proofs.YtmfpmnfbcgchjaaDoor.Vh
