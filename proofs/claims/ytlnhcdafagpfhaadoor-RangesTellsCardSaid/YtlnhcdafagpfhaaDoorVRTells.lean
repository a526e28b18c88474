/- The reference's ranges on the small machine; RangesTells. -/
import Derived.Test.YtlnhcdafagpfhaaDoorVRParse
set_option linter.unusedVariables false
set_option linter.unusedSimpArgs false
namespace Go.Proofs.YtlnhcdafagpfhaaDoor.Vh
open Go.Vm Go.Vt
attribute [local congr] wi_congr wg_congr wgd_congr wb_congr wl_congr cf_congr
variable {L : FuncId → List V → V → Prop} {h : Heap}
def roneV (s : Bs) : V :=
  if pos 45 s < s.length then
    (if pos 45 s = 0 then .tup [.agg [.int .i64 (-1), .int .i64 (numS (s.drop (pos 45 s + 1)) 1099511627776).1], .bool (numS (s.drop (pos 45 s + 1)) 1099511627776).2]
    else if pos 45 s + 1 = s.length then .tup [.agg [.int .i64 (numS (s.take (pos 45 s)) 1099511627776).1, .int .i64 (-1)], .bool (numS (s.take (pos 45 s)) 1099511627776).2]
    else .tup [.agg [.int .i64 (numS (s.take (pos 45 s)) 1099511627776).1, .int .i64 (numS (s.drop (pos 45 s + 1)) 1099511627776).1], .bool ((numS (s.take (pos 45 s)) 1099511627776).2 && (numS (s.drop (pos 45 s + 1)) 1099511627776).2 && decide ((numS (s.take (pos 45 s)) 1099511627776).1 ≤ (numS (s.drop (pos 45 s + 1)) 1099511627776).1))])
  else .tup [.agg [.int .i64 0, .int .i64 0], .bool false]
theorem rone_tup (s : Bs) : ∃ a b : Int, roneV s = .tup [.agg [.int .i64 a, .int .i64 b], .bool (okW s)] ∧ (okW s = true → (a, b) = oneW s) := by
  have hw : oneW s = (numbM (s.take (pos 45 s)), numbM (s.drop (pos 45 s + 1))) := rfl
  have na := numS_le (s.take (pos 45 s)) (most := 1099511627776) (by omega)
  have nb := numS_le (s.drop (pos 45 s + 1)) (most := 1099511627776) (by omega)
  have ma : numbM (s.take (pos 45 s)) = if (numS (s.take (pos 45 s)) 1099511627776).2 then (numS (s.take (pos 45 s)) 1099511627776).1 else -1 := rfl
  have mb : numbM (s.drop (pos 45 s + 1)) = if (numS (s.drop (pos 45 s + 1)) 1099511627776).2 then (numS (s.drop (pos 45 s + 1)) 1099511627776).1 else -1 := rfl
  have he : ∀ x : Bs, x = [] → numS x 1099511627776 = (0, false) := by rintro x rfl; rfl
  have lt : (s.take (pos 45 s)).length = pos 45 s := by have := pos_le 45 s; rw [List.length_take]; omega
  have ld : (s.drop (pos 45 s + 1)).length = s.length - (pos 45 s + 1) := List.length_drop
  have ow : okW s = (decide (pos 45 s < s.length ∧ ¬ (s.take (pos 45 s) ≠ [] ∧ numbM (s.take (pos 45 s)) = -1) ∧ ¬ (s.drop (pos 45 s + 1) ≠ [] ∧ numbM (s.drop (pos 45 s + 1)) = -1) ∧ ¬ (numbM (s.take (pos 45 s)) = -1 ∧ numbM (s.drop (pos 45 s + 1)) = -1)) && fineB (numbM (s.take (pos 45 s))) (numbM (s.drop (pos 45 s + 1)))) := rfl
  unfold roneV
  rw [ow, hw]
  generalize s.take (pos 45 s) = A at *
  generalize s.drop (pos 45 s + 1) = B at *
  generalize hna : numS A 1099511627776 = NA at *
  generalize hnb : numS B 1099511627776 = NB at *
  obtain ⟨a, oka⟩ := NA
  obtain ⟨b, okb⟩ := NB
  simp only at *
  by_cases c : pos 45 s < s.length
  case neg =>
    rw [if_neg c]
    refine ⟨0, 0, ?_, ?_⟩
    · rw [decide_eq_false (fun h => c h.1), Bool.false_and]
    · rw [decide_eq_false (fun h => c h.1), Bool.false_and]; intro h; cases h
  rw [if_pos c]
  by_cases z : pos 45 s = 0
  · rw [if_pos z]
    have hA : A = [] := List.eq_nil_of_length_eq_zero (by omega)
    have eA := he A hA
    rw [hna] at eA
    injection eA with e1 e2
    subst e1 e2
    cases okb with
    | false =>
      refine ⟨-1, b, ?_, ?_⟩
      · rw [ma, mb, decide_eq_false (fun h => h.2.2.2 ⟨rfl, rfl⟩), Bool.false_and]
      · rw [ma, mb, decide_eq_false (fun h => h.2.2.2 ⟨rfl, rfl⟩), Bool.false_and]; intro h; cases h
    | true =>
      have f1 : fineB (-1) b = true := decide_eq_true (by omega)
      have d1 : decide (pos 45 s < s.length ∧ ¬ (A ≠ [] ∧ (-1 : Int) = -1) ∧ ¬ (B ≠ [] ∧ b = -1) ∧ ¬ ((-1 : Int) = -1 ∧ b = -1)) = true := decide_eq_true ⟨c, fun h => h.1 hA, fun h => by omega, fun h => by omega⟩
      rw [show numbM A = -1 from ma.trans rfl, show numbM B = b from mb.trans rfl]
      exact ⟨-1, b, by rw [d1, f1]; rfl, fun _ => rfl⟩
  rw [if_neg z]
  have hA : A ≠ [] := fun h => z (by rw [h] at lt; simpa using lt.symm)
  by_cases q : pos 45 s + 1 = s.length
  · rw [if_pos q]
    have hB : B = [] := List.eq_nil_of_length_eq_zero (by omega)
    have eB := he B hB
    rw [hnb] at eB
    injection eB with e1 e2
    subst e1 e2
    cases oka with
    | false =>
      refine ⟨a, -1, ?_, ?_⟩
      · rw [ma, mb, decide_eq_false (fun h => h.2.2.2 ⟨rfl, rfl⟩), Bool.false_and]
      · rw [ma, mb, decide_eq_false (fun h => h.2.2.2 ⟨rfl, rfl⟩), Bool.false_and]; intro h; cases h
    | true =>
      have f1 : fineB a (-1) = true := decide_eq_true (by omega)
      have d1 : decide (pos 45 s < s.length ∧ ¬ (A ≠ [] ∧ a = -1) ∧ ¬ (B ≠ [] ∧ (-1 : Int) = -1) ∧ ¬ (a = -1 ∧ (-1 : Int) = -1)) = true := decide_eq_true ⟨c, fun h => by omega, fun h => h.1 hB, fun h => by omega⟩
      rw [show numbM A = a from ma.trans rfl, show numbM B = -1 from mb.trans rfl]
      exact ⟨a, -1, by rw [d1, f1]; rfl, fun _ => rfl⟩
  rw [if_neg q]
  have hB : B ≠ [] := fun h => q (by rw [h] at ld; simp at ld; omega)
  cases oka with
  | false =>
    have d0 : decide (pos 45 s < s.length ∧ ¬ (A ≠ [] ∧ (-1 : Int) = -1) ∧ ¬ (B ≠ [] ∧ numbM B = -1) ∧ ¬ ((-1 : Int) = -1 ∧ numbM B = -1)) = false := decide_eq_false (fun h => h.2.1 ⟨hA, rfl⟩)
    rw [show numbM A = -1 from ma.trans rfl, d0]
    exact ⟨a, b, by simp only [Bool.false_and], fun h => by rw [Bool.false_and] at h; cases h⟩
  | true =>
    cases okb with
    | false =>
      have d0 : decide (pos 45 s < s.length ∧ ¬ (A ≠ [] ∧ numbM A = -1) ∧ ¬ (B ≠ [] ∧ (-1 : Int) = -1) ∧ ¬ (numbM A = -1 ∧ (-1 : Int) = -1)) = false := decide_eq_false (fun h => h.2.2.1 ⟨hB, rfl⟩)
      rw [show numbM B = -1 from mb.trans rfl, d0]
      exact ⟨a, b, by simp only [Bool.false_and, Bool.and_false], fun h => by rw [Bool.false_and] at h; cases h⟩
    | true =>
      have d1 : decide (pos 45 s < s.length ∧ ¬ (A ≠ [] ∧ a = -1) ∧ ¬ (B ≠ [] ∧ b = -1) ∧ ¬ (a = -1 ∧ b = -1)) = true := decide_eq_true ⟨c, fun h => by omega, fun h => by omega, fun h => by omega⟩
      have f1 : fineB a b = decide (a ≤ b) := by unfold fineB; rw [decide_eq_decide]; omega
      rw [show numbM A = a from ma.trans rfl, show numbM B = b from mb.trans rfl]
      exact ⟨a, b, by rw [d1, f1]; simp only [Bool.true_and, Bool.and_self], fun _ => rfl⟩
theorem rone1_ok {s : Bs} {k : Nat} (hs : s.length ≤ 9223372036854775000) (hk : k < s.length) (ek : pos 45 s = k) : k_gatepostref14_one_1 L (Pu h (roneV s)) (.str s) (.ptr h.length 0) (.int .i64 k) (h ++ [O.box [.int .i64 0, .int .i64 0]]) := by
  
  unfold k_gatepostref14_one_1 roneV
  rw [ek, if_pos hk]
  have z1 : (0 : Int) ≤ k := by omega
  have z2 : k ≤ s.length := by omega
  have z3 : k + 1 ≤ s.length := by omega
  have w1 : IntKind.i64.wrap ((k : Int) + 1) = ((k + 1 : Nat) : Int) := by rw [wrap64 (by omega) (by omega)]; omega
  have la : (s.take k).length ≤ 9223372036854775806 := by rw [List.length_take]; omega
  have lb : (s.drop (k + 1)).length ≤ 9223372036854775806 := by rw [List.length_drop]; omega
  have NA := fun hh => rNumber_ok (L := L) (h := hh) la (show (-4000000000000000000 : Int) ≤ 1099511627776 by omega) (by omega)
  have NB := fun hh => rNumber_ok (L := L) (h := hh) lb (show (-4000000000000000000 : Int) ≤ 1099511627776 by omega) (by omega)
  generalize hA : s.take k = A at *
  generalize hB : s.drop (k + 1) = B at *
  generalize numS A 1099511627776 = na' at *
  generalize numS B 1099511627776 = nb' at *
  obtain ⟨a, oka⟩ := na'
  obtain ⟨b, okb⟩ := nb'
  simp only at *
  simp (maxSteps := 4000000) only [vm, vl, Arg.get, cells, stor, boundO, resultsV, resV, partK, loadV, Vm.part, fillC, splice, reduceIte, reduceCtorEq, Nat.reduceEqDiff, Nat.reduceAdd, Nat.reduceSub, Nat.reduceMul, Nat.reduceLeDiff, ne_eq, not_false_eq_true, Int.reduceEq, Int.reduceLT, Int.reduceLE, Int.reduceNeg, Int.reduceToNat, Int.reduceGT, Int.reduceGE, Nat.reduceLT, Nat.lt_add_one, Nat.zero_lt_succ, Nat.succ_pos, Nat.zero_le, beq_self_eq_true, z1, z2, hA]
  refine Cf.pu (NA _) fun u1 => ?_
  simp (maxSteps := 4000000) only [vm, vl, Arg.get, cells, stor, boundO, resultsV, resV, partK, loadV, Vm.part, fillC, splice, reduceIte, reduceCtorEq, Nat.reduceEqDiff, Nat.reduceAdd, Nat.reduceSub, Nat.reduceMul, Nat.reduceLeDiff, ne_eq, not_false_eq_true, Int.reduceEq, Int.reduceLT, Int.reduceLE, Int.reduceNeg, Int.reduceToNat, Int.reduceGT, Int.reduceGE, Nat.reduceLT, Nat.lt_add_one, Nat.zero_lt_succ, Nat.succ_pos, Nat.zero_le, beq_self_eq_true, z1, z3, w1, hB, List.take_length]
  refine Cf.pu (NB _) fun u2 => ?_
  by_cases c : k = 0
  · have c' : (k : Int) = 0 := by omega
    rw [if_pos c]
    simp (maxSteps := 4000000) only [vm, vl, Arg.get, cells, stor, boundO, resultsV, resV, partK, loadV, Vm.part, fillC, splice, reduceIte, reduceCtorEq, Nat.reduceEqDiff, Nat.reduceAdd, Nat.reduceSub, Nat.reduceMul, Nat.reduceLeDiff, ne_eq, not_false_eq_true, Int.reduceEq, Int.reduceLT, Int.reduceLE, Int.reduceNeg, Int.reduceToNat, Int.reduceGT, Int.reduceGE, Nat.reduceLT, Nat.lt_add_one, Nat.zero_lt_succ, Nat.succ_pos, Nat.zero_le, beq_self_eq_true, c', decide_true]
  have c' : ¬ (k : Int) = 0 := by omega
  rw [if_neg c]
  by_cases q : k + 1 = s.length
  · have q' : ((k + 1 : Nat) : Int) = s.length := by omega
    rw [if_pos q]
    simp (maxSteps := 4000000) only [vm, vl, Arg.get, cells, stor, boundO, resultsV, resV, partK, loadV, Vm.part, fillC, splice, reduceIte, reduceCtorEq, Nat.reduceEqDiff, Nat.reduceAdd, Nat.reduceSub, Nat.reduceMul, Nat.reduceLeDiff, ne_eq, not_false_eq_true, Int.reduceEq, Int.reduceLT, Int.reduceLE, Int.reduceNeg, Int.reduceToNat, Int.reduceGT, Int.reduceGE, Nat.reduceLT, Nat.lt_add_one, Nat.zero_lt_succ, Nat.succ_pos, Nat.zero_le, beq_self_eq_true, c', w1, q', decide_true, decide_false, k_gatepostref14_one_2]
  have q' : ¬ ((k + 1 : Nat) : Int) = s.length := by omega
  rw [if_neg q]
  cases oka with
  | false => simp (maxSteps := 4000000) only [vm, vl, Arg.get, cells, stor, boundO, resultsV, resV, partK, loadV, Vm.part, fillC, splice, reduceIte, reduceCtorEq, Nat.reduceEqDiff, Nat.reduceAdd, Nat.reduceSub, Nat.reduceMul, Nat.reduceLeDiff, ne_eq, not_false_eq_true, Int.reduceEq, Int.reduceLT, Int.reduceLE, Int.reduceNeg, Int.reduceToNat, Int.reduceGT, Int.reduceGE, Nat.reduceLT, Nat.lt_add_one, Nat.zero_lt_succ, Nat.succ_pos, Nat.zero_le, beq_self_eq_true, c', w1, q', decide_false, k_gatepostref14_one_2, k_gatepostref14_one_3, Bool.false_and]
  | true =>
    cases okb with
    | false => simp (maxSteps := 4000000) only [vm, vl, Arg.get, cells, stor, boundO, resultsV, resV, partK, loadV, Vm.part, fillC, splice, reduceIte, reduceCtorEq, Nat.reduceEqDiff, Nat.reduceAdd, Nat.reduceSub, Nat.reduceMul, Nat.reduceLeDiff, ne_eq, not_false_eq_true, Int.reduceEq, Int.reduceLT, Int.reduceLE, Int.reduceNeg, Int.reduceToNat, Int.reduceGT, Int.reduceGE, Nat.reduceLT, Nat.lt_add_one, Nat.zero_lt_succ, Nat.succ_pos, Nat.zero_le, beq_self_eq_true, c', w1, q', decide_false, k_gatepostref14_one_2, k_gatepostref14_one_3, Bool.false_and, Bool.and_false]
    | true => simp (maxSteps := 4000000) only [vm, vl, Arg.get, cells, stor, boundO, resultsV, resV, partK, loadV, Vm.part, fillC, splice, reduceIte, reduceCtorEq, Nat.reduceEqDiff, Nat.reduceAdd, Nat.reduceSub, Nat.reduceMul, Nat.reduceLeDiff, ne_eq, not_false_eq_true, Int.reduceEq, Int.reduceLT, Int.reduceLE, Int.reduceNeg, Int.reduceToNat, Int.reduceGT, Int.reduceGE, Nat.reduceLT, Nat.lt_add_one, Nat.zero_lt_succ, Nat.succ_pos, Nat.zero_le, beq_self_eq_true, c', w1, q', decide_false, k_gatepostref14_one_2, k_gatepostref14_one_3, Bool.true_and]
theorem rone_ok {s : Bs} (hs : s.length ≤ 9223372036854775000) : Cf F L i_gatepostref14_one [.str s] h (Pu h (roneV s)) := by
  refine run_gatepostref14_one ?_
  simp only [p_gatepostref14_one]
  
  simp (maxSteps := 4000000) only [vm, vl, Arg.get, cells, stor, boundO, resultsV, resV, partK, loadV, Vm.part, fillC, splice, reduceIte, reduceCtorEq, Nat.reduceEqDiff, Nat.reduceAdd, Nat.reduceSub, Nat.reduceMul, Nat.reduceLeDiff, ne_eq, not_false_eq_true, Int.reduceEq, Int.reduceLT, Int.reduceLE, Int.reduceNeg, Int.reduceToNat, Int.reduceGT, Int.reduceGE, Nat.reduceLT, Nat.lt_add_one, Nat.zero_lt_succ, Nat.succ_pos, Nat.zero_le, beq_self_eq_true]
  refine l_gatepostref14_one_0 (fun n e h' => ∃ k : Nat, n = s.length - k ∧ k ≤ s.length ∧ e 0 = .str s ∧ e 2 = .ptr h.length 0 ∧ e 4 = .int .i64 k ∧ h' = h ++ [O.box [.int .i64 0, .int .i64 0]] ∧ ∀ j, j < k → s.getD j 0 ≠ 45) ?_ (n := s.length) ⟨0, by simp, by simp, rfl, rfl, rfl, rfl, by simp⟩
  rintro n e h' ⟨k, rfl, hk, e0, e2, e4, rfl, hn⟩
  simp only [b_gatepostref14_one_0]
  by_cases q : k < s.length
  · have q1 : (k : Int) < s.length := by omega
    by_cases p : s.getD k 0 = 45
    · have p' : ((s.getD k 0).toNat : Int) = 45 := by rw [p]; rfl
      have ek : pos 45 s = k := pos_at q hn p
      have r1 : ¬ (k : Int) = s.length := by omega
      simp (maxSteps := 4000000) only [vm, vl, Arg.get, cells, stor, boundO, resultsV, resV, partK, loadV, Vm.part, fillC, splice, reduceIte, reduceCtorEq, Nat.reduceEqDiff, Nat.reduceAdd, Nat.reduceSub, Nat.reduceMul, Nat.reduceLeDiff, ne_eq, not_false_eq_true, Int.reduceEq, Int.reduceLT, Int.reduceLE, Int.reduceNeg, Int.reduceToNat, Int.reduceGT, Int.reduceGE, Nat.reduceLT, Nat.lt_add_one, Nat.zero_lt_succ, Nat.succ_pos, Nat.zero_le, beq_self_eq_true, e0, e2, e4, q, q1, p', decide_true, decide_false, Bool.not_true, k_gatepostref14_one_0, r1]
      exact rone1_ok hs q ek
    · have p' : ¬ ((s.getD k 0).toNat : Int) = 45 := fun e => p (UInt8.toNat_inj.1 (by have : (45 : UInt8).toNat = 45 := rfl; omega))
      have w1 : IntKind.i64.wrap ((k : Int) + 1) = ((k + 1 : Nat) : Int) := by rw [wrap64 (by omega) (by omega)]; omega
      simp (maxSteps := 4000000) only [vm, vl, Arg.get, cells, stor, boundO, resultsV, resV, partK, loadV, Vm.part, fillC, splice, reduceIte, reduceCtorEq, Nat.reduceEqDiff, Nat.reduceAdd, Nat.reduceSub, Nat.reduceMul, Nat.reduceLeDiff, ne_eq, not_false_eq_true, Int.reduceEq, Int.reduceLT, Int.reduceLE, Int.reduceNeg, Int.reduceToNat, Int.reduceGT, Int.reduceGE, Nat.reduceLT, Nat.lt_add_one, Nat.zero_lt_succ, Nat.succ_pos, Nat.zero_le, beq_self_eq_true, e0, e2, e4, q, q1, p', decide_true, decide_false, Bool.not_false, k_gatepostref14_one_4, w1]
      refine ⟨s.length - (k + 1), by omega, k + 1, rfl, by omega, rfl, ?_⟩
      intro j hj
      rcases Nat.lt_or_ge j k with h1 | h1
      · exact hn j h1
      · rw [show j = k by omega]; exact p
  · have q1 : ¬ (k : Int) < s.length := by omega
    have em : k = s.length := by omega
    subst em
    have pn : pos 45 s = s.length := pos_none fun j hj => hn j (by omega)
    rw [show roneV s = .tup [.agg [.int .i64 0, .int .i64 0], .bool false] by unfold roneV; rw [if_neg (by omega)]]
    simp (maxSteps := 4000000) only [vm, vl, Arg.get, cells, stor, boundO, resultsV, resV, partK, loadV, Vm.part, fillC, splice, reduceIte, reduceCtorEq, Nat.reduceEqDiff, Nat.reduceAdd, Nat.reduceSub, Nat.reduceMul, Nat.reduceLeDiff, ne_eq, not_false_eq_true, Int.reduceEq, Int.reduceLT, Int.reduceLE, Int.reduceNeg, Int.reduceToNat, Int.reduceGT, Int.reduceGE, Nat.reduceLT, Nat.lt_add_one, Nat.zero_lt_succ, Nat.succ_pos, Nat.zero_le, beq_self_eq_true, e0, e2, e4, q1, eq_self, decide_true, decide_false, k_gatepostref14_one_0]
theorem rRes_n1 {f t long : Int} (a1 : long < 0) : Cf F L i_gatepostref14_Resolve [.agg [.int .i64 f, .int .i64 t], .int .i64 long] h (Pu h (.tup [.agg [.int .i64 0, .int .i64 0], .bool false])) := by
  refine run_gatepostref14_Resolve ?_
  simp only [p_gatepostref14_Resolve]
  
  simp (maxSteps := 4000000) only [vm, vl, Arg.get, cells, stor, boundO, resultsV, resV, partK, loadV, Vm.part, fillC, splice, reduceIte, reduceCtorEq, Nat.reduceEqDiff, Nat.reduceAdd, Nat.reduceSub, Nat.reduceMul, Nat.reduceLeDiff, ne_eq, not_false_eq_true, Int.reduceEq, Int.reduceLT, Int.reduceLE, Int.reduceNeg, Int.reduceToNat, Int.reduceGT, Int.reduceGE, Nat.reduceLT, Nat.lt_add_one, Nat.zero_lt_succ, Nat.succ_pos, Nat.zero_le, beq_self_eq_true, a1, decide_true, decide_false]
theorem rRes_n2 {f t long : Int} (a1 : ¬ long < 0) (a2 : long > 1048576) : Cf F L i_gatepostref14_Resolve [.agg [.int .i64 f, .int .i64 t], .int .i64 long] h (Pu h (.tup [.agg [.int .i64 0, .int .i64 0], .bool false])) := by
  refine run_gatepostref14_Resolve ?_
  simp only [p_gatepostref14_Resolve]
  
  simp (maxSteps := 4000000) only [vm, vl, Arg.get, cells, stor, boundO, resultsV, resV, partK, loadV, Vm.part, fillC, splice, reduceIte, reduceCtorEq, Nat.reduceEqDiff, Nat.reduceAdd, Nat.reduceSub, Nat.reduceMul, Nat.reduceLeDiff, ne_eq, not_false_eq_true, Int.reduceEq, Int.reduceLT, Int.reduceLE, Int.reduceNeg, Int.reduceToNat, Int.reduceGT, Int.reduceGE, Nat.reduceLT, Nat.lt_add_one, Nat.zero_lt_succ, Nat.succ_pos, Nat.zero_le, beq_self_eq_true, a1, a2, decide_true, decide_false]
theorem rRes_n3 {f t long : Int} (a1 : ¬ long < 0) (a2 : ¬ long > 1048576) (a3 : f < -1) : Cf F L i_gatepostref14_Resolve [.agg [.int .i64 f, .int .i64 t], .int .i64 long] h (Pu h (.tup [.agg [.int .i64 0, .int .i64 0], .bool false])) := by
  refine run_gatepostref14_Resolve ?_
  simp only [p_gatepostref14_Resolve]
  
  simp (maxSteps := 4000000) only [vm, vl, Arg.get, cells, stor, boundO, resultsV, resV, partK, loadV, Vm.part, fillC, splice, reduceIte, reduceCtorEq, Nat.reduceEqDiff, Nat.reduceAdd, Nat.reduceSub, Nat.reduceMul, Nat.reduceLeDiff, ne_eq, not_false_eq_true, Int.reduceEq, Int.reduceLT, Int.reduceLE, Int.reduceNeg, Int.reduceToNat, Int.reduceGT, Int.reduceGE, Nat.reduceLT, Nat.lt_add_one, Nat.zero_lt_succ, Nat.succ_pos, Nat.zero_le, beq_self_eq_true, a1, a2, a3, decide_true, decide_false]
theorem rRes_n4 {f t long : Int} (a1 : ¬ long < 0) (a2 : ¬ long > 1048576) (a3 : ¬ f < -1) (a4 : t < -1) : Cf F L i_gatepostref14_Resolve [.agg [.int .i64 f, .int .i64 t], .int .i64 long] h (Pu h (.tup [.agg [.int .i64 0, .int .i64 0], .bool false])) := by
  refine run_gatepostref14_Resolve ?_
  simp only [p_gatepostref14_Resolve]
  
  simp (maxSteps := 4000000) only [vm, vl, Arg.get, cells, stor, boundO, resultsV, resV, partK, loadV, Vm.part, fillC, splice, reduceIte, reduceCtorEq, Nat.reduceEqDiff, Nat.reduceAdd, Nat.reduceSub, Nat.reduceMul, Nat.reduceLeDiff, ne_eq, not_false_eq_true, Int.reduceEq, Int.reduceLT, Int.reduceLE, Int.reduceNeg, Int.reduceToNat, Int.reduceGT, Int.reduceGE, Nat.reduceLT, Nat.lt_add_one, Nat.zero_lt_succ, Nat.succ_pos, Nat.zero_le, beq_self_eq_true, a1, a2, a3, a4, decide_true, decide_false]
theorem rRes_n5 {f t long : Int} (a1 : ¬ long < 0) (a2 : ¬ long > 1048576) (a3 : ¬ f < -1) (a4 : ¬ t < -1) (a5 : f > 1099511627776) : Cf F L i_gatepostref14_Resolve [.agg [.int .i64 f, .int .i64 t], .int .i64 long] h (Pu h (.tup [.agg [.int .i64 0, .int .i64 0], .bool false])) := by
  refine run_gatepostref14_Resolve ?_
  simp only [p_gatepostref14_Resolve]
  
  simp (maxSteps := 4000000) only [vm, vl, Arg.get, cells, stor, boundO, resultsV, resV, partK, loadV, Vm.part, fillC, splice, reduceIte, reduceCtorEq, Nat.reduceEqDiff, Nat.reduceAdd, Nat.reduceSub, Nat.reduceMul, Nat.reduceLeDiff, ne_eq, not_false_eq_true, Int.reduceEq, Int.reduceLT, Int.reduceLE, Int.reduceNeg, Int.reduceToNat, Int.reduceGT, Int.reduceGE, Nat.reduceLT, Nat.lt_add_one, Nat.zero_lt_succ, Nat.succ_pos, Nat.zero_le, beq_self_eq_true, a1, a2, a3, a4, a5, decide_true, decide_false]
theorem rRes_n6 {f t long : Int} (a1 : ¬ long < 0) (a2 : ¬ long > 1048576) (a3 : ¬ f < -1) (a4 : ¬ t < -1) (a5 : ¬ f > 1099511627776) (a6 : t > 1099511627776) : Cf F L i_gatepostref14_Resolve [.agg [.int .i64 f, .int .i64 t], .int .i64 long] h (Pu h (.tup [.agg [.int .i64 0, .int .i64 0], .bool false])) := by
  refine run_gatepostref14_Resolve ?_
  simp only [p_gatepostref14_Resolve]
  
  simp (maxSteps := 4000000) only [vm, vl, Arg.get, cells, stor, boundO, resultsV, resV, partK, loadV, Vm.part, fillC, splice, reduceIte, reduceCtorEq, Nat.reduceEqDiff, Nat.reduceAdd, Nat.reduceSub, Nat.reduceMul, Nat.reduceLeDiff, ne_eq, not_false_eq_true, Int.reduceEq, Int.reduceLT, Int.reduceLE, Int.reduceNeg, Int.reduceToNat, Int.reduceGT, Int.reduceGE, Nat.reduceLT, Nat.lt_add_one, Nat.zero_lt_succ, Nat.succ_pos, Nat.zero_le, beq_self_eq_true, a1, a2, a3, a4, a5, a6, decide_true, decide_false]
theorem rRes_n7 {f t long : Int} (a1 : ¬ long < 0) (a2 : ¬ long > 1048576) (a3 : ¬ f < -1) (a4 : ¬ t < -1) (a5 : ¬ f > 1099511627776) (a6 : ¬ t > 1099511627776) (a7 : f = -1) (a8 : t = -1) : Cf F L i_gatepostref14_Resolve [.agg [.int .i64 f, .int .i64 t], .int .i64 long] h (Pu h (.tup [.agg [.int .i64 0, .int .i64 0], .bool false])) := by
  refine run_gatepostref14_Resolve ?_
  simp only [p_gatepostref14_Resolve]
  
  simp (maxSteps := 4000000) only [vm, vl, Arg.get, cells, stor, boundO, resultsV, resV, partK, loadV, Vm.part, fillC, splice, reduceIte, reduceCtorEq, Nat.reduceEqDiff, Nat.reduceAdd, Nat.reduceSub, Nat.reduceMul, Nat.reduceLeDiff, ne_eq, not_false_eq_true, Int.reduceEq, Int.reduceLT, Int.reduceLE, Int.reduceNeg, Int.reduceToNat, Int.reduceGT, Int.reduceGE, Nat.reduceLT, Nat.lt_add_one, Nat.zero_lt_succ, Nat.succ_pos, Nat.zero_le, beq_self_eq_true, a1, a2, a3, a4, a5, a6, a7, a8, decide_true, decide_false]
theorem rRes_n8 {f t long : Int} (a1 : ¬ long < 0) (a2 : ¬ long > 1048576) (a3 : ¬ f < -1) (a4 : ¬ t < -1) (a5 : ¬ f > 1099511627776) (a6 : ¬ t > 1099511627776) (a7 : ¬ f = -1) (b1 : f ≥ 0) (b2 : t ≥ 0) (b3 : f > t) : Cf F L i_gatepostref14_Resolve [.agg [.int .i64 f, .int .i64 t], .int .i64 long] h (Pu h (.tup [.agg [.int .i64 0, .int .i64 0], .bool false])) := by
  refine run_gatepostref14_Resolve ?_
  simp only [p_gatepostref14_Resolve]
  
  simp (maxSteps := 4000000) only [vm, vl, Arg.get, cells, stor, boundO, resultsV, resV, partK, loadV, Vm.part, fillC, splice, reduceIte, reduceCtorEq, Nat.reduceEqDiff, Nat.reduceAdd, Nat.reduceSub, Nat.reduceMul, Nat.reduceLeDiff, ne_eq, not_false_eq_true, Int.reduceEq, Int.reduceLT, Int.reduceLE, Int.reduceNeg, Int.reduceToNat, Int.reduceGT, Int.reduceGE, Nat.reduceLT, Nat.lt_add_one, Nat.zero_lt_succ, Nat.succ_pos, Nat.zero_le, beq_self_eq_true, a1, a2, a3, a4, a5, a6, a7, b1, b2, b3, decide_true, decide_false]
theorem rRes_p1 {f t long : Int} (a1 : ¬ long < 0) (a2 : ¬ long > 1048576) (a3 : ¬ f < -1) (a4 : ¬ t < -1) (a5 : ¬ f > 1099511627776) (a6 : ¬ t > 1099511627776) (a7 : f = -1) (a8 : ¬ t = -1) (b0 : ¬ (-1 : Int) ≥ 0) (c1 : t = 0) : Cf F L i_gatepostref14_Resolve [.agg [.int .i64 f, .int .i64 t], .int .i64 long] h (Pu h (.tup [.agg [.int .i64 0, .int .i64 0], .bool false])) := by
  refine run_gatepostref14_Resolve ?_
  simp only [p_gatepostref14_Resolve]
  
  simp (maxSteps := 4000000) only [vm, vl, Arg.get, cells, stor, boundO, resultsV, resV, partK, loadV, Vm.part, fillC, splice, reduceIte, reduceCtorEq, Nat.reduceEqDiff, Nat.reduceAdd, Nat.reduceSub, Nat.reduceMul, Nat.reduceLeDiff, ne_eq, not_false_eq_true, Int.reduceEq, Int.reduceLT, Int.reduceLE, Int.reduceNeg, Int.reduceToNat, Int.reduceGT, Int.reduceGE, Nat.reduceLT, Nat.lt_add_one, Nat.zero_lt_succ, Nat.succ_pos, Nat.zero_le, beq_self_eq_true, a1, a2, a3, a4, a5, a6, a7, a8, b0, c1, k_gatepostref14_Resolve_0, decide_true, decide_false]
theorem rRes_p2 {f t long : Int} (a1 : ¬ long < 0) (a2 : ¬ long > 1048576) (a3 : ¬ f < -1) (a4 : ¬ t < -1) (a5 : ¬ f > 1099511627776) (a6 : ¬ t > 1099511627776) (a7 : f = -1) (a8 : ¬ t = -1) (b0 : ¬ (-1 : Int) ≥ 0) (c1 : ¬ t = 0) (c2 : long = 0) : Cf F L i_gatepostref14_Resolve [.agg [.int .i64 f, .int .i64 t], .int .i64 long] h (Pu h (.tup [.agg [.int .i64 0, .int .i64 0], .bool false])) := by
  refine run_gatepostref14_Resolve ?_
  simp only [p_gatepostref14_Resolve]
  
  simp (maxSteps := 4000000) only [vm, vl, Arg.get, cells, stor, boundO, resultsV, resV, partK, loadV, Vm.part, fillC, splice, reduceIte, reduceCtorEq, Nat.reduceEqDiff, Nat.reduceAdd, Nat.reduceSub, Nat.reduceMul, Nat.reduceLeDiff, ne_eq, not_false_eq_true, Int.reduceEq, Int.reduceLT, Int.reduceLE, Int.reduceNeg, Int.reduceToNat, Int.reduceGT, Int.reduceGE, Nat.reduceLT, Nat.lt_add_one, Nat.zero_lt_succ, Nat.succ_pos, Nat.zero_le, beq_self_eq_true, a1, a2, a3, a4, a5, a6, a7, a8, b0, c1, c2, k_gatepostref14_Resolve_0, decide_true, decide_false]
theorem rRes_p3 {f t long : Int} (a1 : ¬ long < 0) (a2 : ¬ long > 1048576) (a3 : ¬ f < -1) (a4 : ¬ t < -1) (a5 : ¬ f > 1099511627776) (a6 : ¬ t > 1099511627776) (a7 : f = -1) (a8 : ¬ t = -1) (b0 : ¬ (-1 : Int) ≥ 0) (c1 : ¬ t = 0) (c2 : ¬ long = 0) (c3 : t < long) (w1 : IntKind.i64.wrap (long - t) = long - t) : Cf F L i_gatepostref14_Resolve [.agg [.int .i64 f, .int .i64 t], .int .i64 long] h (Pu h (.tup [.agg [.int .i64 (long - t), .int .i64 long], .bool true])) := by
  refine run_gatepostref14_Resolve ?_
  simp only [p_gatepostref14_Resolve]
  
  simp (maxSteps := 4000000) only [vm, vl, Arg.get, cells, stor, boundO, resultsV, resV, partK, loadV, Vm.part, fillC, splice, reduceIte, reduceCtorEq, Nat.reduceEqDiff, Nat.reduceAdd, Nat.reduceSub, Nat.reduceMul, Nat.reduceLeDiff, ne_eq, not_false_eq_true, Int.reduceEq, Int.reduceLT, Int.reduceLE, Int.reduceNeg, Int.reduceToNat, Int.reduceGT, Int.reduceGE, Nat.reduceLT, Nat.lt_add_one, Nat.zero_lt_succ, Nat.succ_pos, Nat.zero_le, beq_self_eq_true, a1, a2, a3, a4, a5, a6, a7, a8, b0, c1, c2, c3, w1, k_gatepostref14_Resolve_0, k_gatepostref14_Resolve_4, k_gatepostref14_Resolve_5, decide_true, decide_false]
theorem rRes_p4 {f t long : Int} (a1 : ¬ long < 0) (a2 : ¬ long > 1048576) (a3 : ¬ f < -1) (a4 : ¬ t < -1) (a5 : ¬ f > 1099511627776) (a6 : ¬ t > 1099511627776) (a7 : f = -1) (a8 : ¬ t = -1) (b0 : ¬ (-1 : Int) ≥ 0) (c1 : ¬ t = 0) (c2 : ¬ long = 0) (c3 : ¬ t < long) : Cf F L i_gatepostref14_Resolve [.agg [.int .i64 f, .int .i64 t], .int .i64 long] h (Pu h (.tup [.agg [.int .i64 0, .int .i64 long], .bool true])) := by
  refine run_gatepostref14_Resolve ?_
  simp only [p_gatepostref14_Resolve]
  
  simp (maxSteps := 4000000) only [vm, vl, Arg.get, cells, stor, boundO, resultsV, resV, partK, loadV, Vm.part, fillC, splice, reduceIte, reduceCtorEq, Nat.reduceEqDiff, Nat.reduceAdd, Nat.reduceSub, Nat.reduceMul, Nat.reduceLeDiff, ne_eq, not_false_eq_true, Int.reduceEq, Int.reduceLT, Int.reduceLE, Int.reduceNeg, Int.reduceToNat, Int.reduceGT, Int.reduceGE, Nat.reduceLT, Nat.lt_add_one, Nat.zero_lt_succ, Nat.succ_pos, Nat.zero_le, beq_self_eq_true, a1, a2, a3, a4, a5, a6, a7, a8, b0, c1, c2, c3, k_gatepostref14_Resolve_0, k_gatepostref14_Resolve_4, k_gatepostref14_Resolve_5, decide_true, decide_false]
theorem rRes_k {f t long : Int} {u : Heap} {R : V} (a7 : ¬ f = -1) (hf : fineB f t = true) (h1 : 0 ≤ long) (h2 : long ≤ 1048576) (hR : R = resV' (resS f t long)) : k_gatepostref14_Resolve_0 L (Pu h R) (.int .i64 long) (.ptr h.length 0) (.ptr (h.length + 1) 0) (h ++ (O.box [.int .i64 f, .int .i64 t] :: O.box [.int .i64 0, .int .i64 0] :: u)) := by
  
  unfold k_gatepostref14_Resolve_0
  have hb := of_decide_eq_true hf
  subst hR
  by_cases c1 : f ≥ long
  · rw [resV_no (fun h => by
      have := h.2.2.2
      unfold clipS at this
      rw [if_neg a7] at this
      split at this <;> (simp only at this; omega))]
    simp (maxSteps := 4000000) only [vm, vl, Arg.get, cells, stor, boundO, resultsV, resV, partK, loadV, Vm.part, fillC, splice, reduceIte, reduceCtorEq, Nat.reduceEqDiff, Nat.reduceAdd, Nat.reduceSub, Nat.reduceMul, Nat.reduceLeDiff, ne_eq, not_false_eq_true, Int.reduceEq, Int.reduceLT, Int.reduceLE, Int.reduceNeg, Int.reduceToNat, Int.reduceGT, Int.reduceGE, Nat.reduceLT, Nat.lt_add_one, Nat.zero_lt_succ, Nat.succ_pos, Nat.zero_le, beq_self_eq_true, a7, c1, decide_true, decide_false, k_gatepostref14_Resolve_1]
  by_cases c2 : t = -1
  · have e : clipS f t long = (f, long) := by unfold clipS; rw [if_neg a7, if_neg (fun h => h.1 c2)]
    rw [resV_yes h1 h2 hf e, if_neg (by omega)]
    simp (maxSteps := 4000000) only [vm, vl, Arg.get, cells, stor, boundO, resultsV, resV, partK, loadV, Vm.part, fillC, splice, reduceIte, reduceCtorEq, Nat.reduceEqDiff, Nat.reduceAdd, Nat.reduceSub, Nat.reduceMul, Nat.reduceLeDiff, ne_eq, not_false_eq_true, Int.reduceEq, Int.reduceLT, Int.reduceLE, Int.reduceNeg, Int.reduceToNat, Int.reduceGT, Int.reduceGE, Nat.reduceLT, Nat.lt_add_one, Nat.zero_lt_succ, Nat.succ_pos, Nat.zero_le, beq_self_eq_true, a7, c1, c2, decide_true, decide_false, k_gatepostref14_Resolve_1, k_gatepostref14_Resolve_2]
  by_cases c3 : t ≥ long
  · have e : clipS f t long = (f, long) := by unfold clipS; rw [if_neg a7, if_neg (fun h => by omega)]
    rw [resV_yes h1 h2 hf e, if_neg (by omega)]
    simp (maxSteps := 4000000) only [vm, vl, Arg.get, cells, stor, boundO, resultsV, resV, partK, loadV, Vm.part, fillC, splice, reduceIte, reduceCtorEq, Nat.reduceEqDiff, Nat.reduceAdd, Nat.reduceSub, Nat.reduceMul, Nat.reduceLeDiff, ne_eq, not_false_eq_true, Int.reduceEq, Int.reduceLT, Int.reduceLE, Int.reduceNeg, Int.reduceToNat, Int.reduceGT, Int.reduceGE, Nat.reduceLT, Nat.lt_add_one, Nat.zero_lt_succ, Nat.succ_pos, Nat.zero_le, beq_self_eq_true, a7, c1, c2, c3, decide_true, decide_false, k_gatepostref14_Resolve_1, k_gatepostref14_Resolve_2]
  · have e : clipS f t long = (f, t + 1) := by unfold clipS; rw [if_neg a7, if_pos ⟨c2, by omega⟩]
    have w1 : IntKind.i64.wrap (t + 1) = t + 1 := wrap64 (by omega) (by omega)
    rw [resV_yes h1 h2 hf e, if_neg (by omega)]
    simp (maxSteps := 4000000) only [vm, vl, Arg.get, cells, stor, boundO, resultsV, resV, partK, loadV, Vm.part, fillC, splice, reduceIte, reduceCtorEq, Nat.reduceEqDiff, Nat.reduceAdd, Nat.reduceSub, Nat.reduceMul, Nat.reduceLeDiff, ne_eq, not_false_eq_true, Int.reduceEq, Int.reduceLT, Int.reduceLE, Int.reduceNeg, Int.reduceToNat, Int.reduceGT, Int.reduceGE, Nat.reduceLT, Nat.lt_add_one, Nat.zero_lt_succ, Nat.succ_pos, Nat.zero_le, beq_self_eq_true, a7, c1, c2, c3, w1, decide_true, decide_false, k_gatepostref14_Resolve_1, k_gatepostref14_Resolve_2, k_gatepostref14_Resolve_3]
theorem rRes_q1 {f t long : Int} (a1 : ¬ long < 0) (a2 : ¬ long > 1048576) (a3 : ¬ f < -1) (a4 : ¬ t < -1) (a5 : ¬ f > 1099511627776) (a6 : ¬ t > 1099511627776) (a7 : ¬ f = -1) (hf : fineB f t = true) (b1 : f ≥ 0) (b2 : t ≥ 0) (b3 : ¬ f > t) : Cf F L i_gatepostref14_Resolve [.agg [.int .i64 f, .int .i64 t], .int .i64 long] h (Pu h (resV' (resS f t long))) := by
  refine run_gatepostref14_Resolve ?_
  simp only [p_gatepostref14_Resolve]
  
  have key := rRes_k (L := L) (h := h) (u := []) a7 hf (by omega) (by omega) (rfl : resV' (resS f t long) = _)
  generalize resV' (resS f t long) = R at *
  simp (maxSteps := 4000000) only [vm, vl, Arg.get, cells, stor, boundO, resultsV, resV, partK, loadV, Vm.part, fillC, splice, reduceIte, reduceCtorEq, Nat.reduceEqDiff, Nat.reduceAdd, Nat.reduceSub, Nat.reduceMul, Nat.reduceLeDiff, ne_eq, not_false_eq_true, Int.reduceEq, Int.reduceLT, Int.reduceLE, Int.reduceNeg, Int.reduceToNat, Int.reduceGT, Int.reduceGE, Nat.reduceLT, Nat.lt_add_one, Nat.zero_lt_succ, Nat.succ_pos, Nat.zero_le, beq_self_eq_true, a1, a2, a3, a4, a5, a6, a7, b1, b2, b3, decide_true, decide_false]
  exact key
theorem rRes_q2 {f t long : Int} (a1 : ¬ long < 0) (a2 : ¬ long > 1048576) (a3 : ¬ f < -1) (a4 : ¬ t < -1) (a5 : ¬ f > 1099511627776) (a6 : ¬ t > 1099511627776) (a7 : ¬ f = -1) (hf : fineB f t = true) (b1 : f ≥ 0) (b2 : ¬ t ≥ 0) : Cf F L i_gatepostref14_Resolve [.agg [.int .i64 f, .int .i64 t], .int .i64 long] h (Pu h (resV' (resS f t long))) := by
  refine run_gatepostref14_Resolve ?_
  simp only [p_gatepostref14_Resolve]
  
  have key := rRes_k (L := L) (h := h) (u := []) a7 hf (by omega) (by omega) (rfl : resV' (resS f t long) = _)
  generalize resV' (resS f t long) = R at *
  simp (maxSteps := 4000000) only [vm, vl, Arg.get, cells, stor, boundO, resultsV, resV, partK, loadV, Vm.part, fillC, splice, reduceIte, reduceCtorEq, Nat.reduceEqDiff, Nat.reduceAdd, Nat.reduceSub, Nat.reduceMul, Nat.reduceLeDiff, ne_eq, not_false_eq_true, Int.reduceEq, Int.reduceLT, Int.reduceLE, Int.reduceNeg, Int.reduceToNat, Int.reduceGT, Int.reduceGE, Nat.reduceLT, Nat.lt_add_one, Nat.zero_lt_succ, Nat.succ_pos, Nat.zero_le, beq_self_eq_true, a1, a2, a3, a4, a5, a6, a7, b1, b2, decide_true, decide_false]
  exact key
theorem rResolve_ok {f t long : Int} : Cf F L i_gatepostref14_Resolve [.agg [.int .i64 f, .int .i64 t], .int .i64 long] h (Pu h (resV' (resS f t long))) := by
  by_cases a1 : long < 0
  · rw [resV_no (fun h => by omega)]; exact rRes_n1 a1
  by_cases a2 : long > 1048576
  · rw [resV_no (fun h => by omega)]; exact rRes_n2 a1 a2
  by_cases a3 : f < -1
  · rw [resV_no (fun h => by have := of_decide_eq_true h.2.2.1; omega)]; exact rRes_n3 a1 a2 a3
  by_cases a4 : t < -1
  · rw [resV_no (fun h => by have := of_decide_eq_true h.2.2.1; omega)]; exact rRes_n4 a1 a2 a3 a4
  by_cases a5 : f > 1099511627776
  · rw [resV_no (fun h => by have := of_decide_eq_true h.2.2.1; omega)]; exact rRes_n5 a1 a2 a3 a4 a5
  by_cases a6 : t > 1099511627776
  · rw [resV_no (fun h => by have := of_decide_eq_true h.2.2.1; omega)]; exact rRes_n6 a1 a2 a3 a4 a5 a6
  by_cases a7 : f = -1
  · by_cases a8 : t = -1
    · rw [resV_no (fun h => by have := of_decide_eq_true h.2.2.1; omega)]; exact rRes_n7 a1 a2 a3 a4 a5 a6 a7 a8
    have hf : fineB f t = true := decide_eq_true (by omega)
    have e : clipS f t long = (max 0 (long - t), long) := by unfold clipS; rw [if_pos a7]
    rw [resV_yes (by omega) (by omega) hf e]
    by_cases c1 : t = 0
    · rw [if_pos (by omega)]; exact rRes_p1 a1 a2 a3 a4 a5 a6 a7 a8 (by omega) c1
    by_cases c2 : long = 0
    · rw [if_pos (by omega)]; exact rRes_p2 a1 a2 a3 a4 a5 a6 a7 a8 (by omega) c1 c2
    rw [if_neg (by omega)]
    by_cases c3 : t < long
    · rw [show max 0 (long - t) = long - t by omega]; exact rRes_p3 a1 a2 a3 a4 a5 a6 a7 a8 (by omega) c1 c2 c3 (wrap64 (by omega) (by omega))
    · rw [show max 0 (long - t) = 0 by omega]; exact rRes_p4 a1 a2 a3 a4 a5 a6 a7 a8 (by omega) c1 c2 c3
  · by_cases b2 : t ≥ 0
    · by_cases b3 : f > t
      · rw [resV_no (fun h => by have := of_decide_eq_true h.2.2.1; omega)]; exact rRes_n8 a1 a2 a3 a4 a5 a6 a7 (by omega) b2 b3
      · exact rRes_q1 a1 a2 a3 a4 a5 a6 a7 (decide_eq_true (by omega)) (by omega) b2 b3
    · exact rRes_q2 a1 a2 a3 a4 a5 a6 a7 (decide_eq_true (by omega)) (by omega) b2
end Go.Proofs.YtlnhcdafagpfhaaDoor.Vh
