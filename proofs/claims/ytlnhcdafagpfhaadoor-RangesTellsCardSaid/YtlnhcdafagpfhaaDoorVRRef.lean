/- The reference's Content and Read on the small machine; RangesContent. -/
import Derived.Test.YtlnhcdafagpfhaaDoorVRBack
set_option linter.unusedVariables false
set_option linter.unusedSimpArgs false
namespace Go.Proofs.YtlnhcdafagpfhaaDoor.Vh
open Go.Vm Go.Vt
attribute [local congr] wi_congr wg_congr wgd_congr wb_congr wl_congr cf_congr
variable {L : FuncId → List V → V → Prop} {h : Heap}
theorem dig_cut : ∀ k, k < 10 → (([48, 49, 50, 51, 52, 53, 54, 55, 56, 57] : Bs).take (k + 1)).drop k = [UInt8.ofNat (48 + k)] := by decide +kernel
theorem Rdig1_ok {n : Nat} (hn : n < 10) : Cf F L i_gatepostref14_digits [.int .i64 n] h (Pu h (.str (Go.Lib.decDigits n))) := by
  refine run_gatepostref14_digits ?_
  simp only [p_gatepostref14_digits]
  
  rw [Go.Lib.decDigits_one hn]
  have c := dig_cut n hn
  have w1 : IntKind.i64.wrap ((n : Int) + 1) = ((n + 1 : Nat) : Int) := by rw [wrap64 (by omega) (by omega)]; omega
  have l1 : n ≤ n + 1 := by omega
  have l3 : n + 1 ≤ 10 := by omega
  have n10 : (n : Int) < 10 := by omega
  generalize [UInt8.ofNat (48 + n)] = X at *
  have LD : ([48, 49, 50, 51, 52, 53, 54, 55, 56, 57] : Bs).length = 10 := rfl
  generalize ([48, 49, 50, 51, 52, 53, 54, 55, 56, 57] : Bs) = D at *
  simp (maxSteps := 4000000) only [vm, vl, Arg.get, cells, stor, boundO, resultsV, resV, partK, loadV, Vm.part, fillC, splice, reduceIte, reduceCtorEq, Nat.reduceEqDiff, Nat.reduceAdd, Nat.reduceSub, Nat.reduceMul, Nat.reduceLeDiff, ne_eq, not_false_eq_true, Int.reduceEq, Int.reduceLT, Int.reduceLE, Int.reduceNeg, Int.reduceToNat, Int.reduceGT, Int.reduceGE, Nat.reduceLT, Nat.lt_add_one, Nat.zero_lt_succ, Nat.succ_pos, Nat.zero_le, beq_self_eq_true, n10, decide_true, w1, LD, l1, l3, c]
theorem Rdig2_ok {k n : Nat} (hk : k ≤ 6) (hn : n < 100000000) (h1 : ¬ n < 10) (l1 : (Go.Lib.decDigits (n / 10)).length ≤ 7) (ih : ∀ hh, Cf F L i_gatepostref14_digits [.int .i64 ((n / 10 : Nat) : Int)] hh (Pu hh (.str (Go.Lib.decDigits (n / 10))))) : Cf F L i_gatepostref14_digits [.int .i64 n] h (Pu h (.str (Go.Lib.decDigits n))) := by
  refine run_gatepostref14_digits ?_
  simp only [p_gatepostref14_digits]
  have ih2 := fun hh => Rdig1_ok (L := L) (h := hh) (n := n % 10) (by omega)
  have l2 : (Go.Lib.decDigits (n % 10)).length ≤ 1 := dec_len 0 (n % 10) (by omega)
  rw [Go.Lib.decDigits_one (show n % 10 < 10 by omega)] at ih2 l2
  rw [dec_step (by omega)]
  have n10 : ¬ (n : Int) < 10 := by omega
  have q1 : IntKind.i64.wrap ((n : Int).tdiv 10) = ((n / 10 : Nat) : Int) := by rw [wquo (by omega) (by omega) (by omega)]; omega
  have q2 : (n : Int).tmod 10 = ((n % 10 : Nat) : Int) := by rw [Int.tmod_eq_emod_of_nonneg (by omega)]; omega
  have br : binV .rem (.int .i64 (n : Int)) (.int .i64 10) = some (.int .i64 ((n : Int).tmod 10)) := by simp [binV, binI]
  have bA : binV .add (.str (Go.Lib.decDigits (n / 10))) (.str [UInt8.ofNat (48 + n % 10)]) = some (.str (Go.Lib.decDigits (n / 10) ++ [UInt8.ofNat (48 + n % 10)])) := bin_sadd (by omega)
  generalize Go.Lib.decDigits (n / 10) = X at *
  generalize [UInt8.ofNat (48 + n % 10)] = Y at *
  simp (maxSteps := 4000000) only [vm, vl, Arg.get, cells, stor, boundO, resultsV, resV, partK, loadV, Vm.part, fillC, splice, reduceIte, reduceCtorEq, Nat.reduceEqDiff, Nat.reduceAdd, Nat.reduceSub, Nat.reduceMul, Nat.reduceLeDiff, ne_eq, not_false_eq_true, Int.reduceEq, Int.reduceLT, Int.reduceLE, Int.reduceNeg, Int.reduceToNat, Int.reduceGT, Int.reduceGE, Nat.reduceLT, Nat.lt_add_one, Nat.zero_lt_succ, Nat.succ_pos, Nat.zero_le, beq_self_eq_true, k_gatepostref14_digits_0, n10, decide_false, q1, bin_quo', br, q2]
  refine Cf.pu (ih _) fun u1 => ?_
  try simp (maxSteps := 4000000) only [vm, vl, Arg.get, cells, stor, boundO, resultsV, resV, partK, loadV, Vm.part, fillC, splice, reduceIte, reduceCtorEq, Nat.reduceEqDiff, Nat.reduceAdd, Nat.reduceSub, Nat.reduceMul, Nat.reduceLeDiff, ne_eq, not_false_eq_true, Int.reduceEq, Int.reduceLT, Int.reduceLE, Int.reduceNeg, Int.reduceToNat, Int.reduceGT, Int.reduceGE, Nat.reduceLT, Nat.lt_add_one, Nat.zero_lt_succ, Nat.succ_pos, Nat.zero_le, beq_self_eq_true, k_gatepostref14_digits_0, br, q2]
  refine Cf.pu (ih2 _) fun u2 => ?_
  simp (maxSteps := 4000000) only [vm, vl, Arg.get, cells, stor, boundO, resultsV, resV, partK, loadV, Vm.part, fillC, splice, reduceIte, reduceCtorEq, Nat.reduceEqDiff, Nat.reduceAdd, Nat.reduceSub, Nat.reduceMul, Nat.reduceLeDiff, ne_eq, not_false_eq_true, Int.reduceEq, Int.reduceLT, Int.reduceLE, Int.reduceNeg, Int.reduceToNat, Int.reduceGT, Int.reduceGE, Nat.reduceLT, Nat.lt_add_one, Nat.zero_lt_succ, Nat.succ_pos, Nat.zero_le, beq_self_eq_true, k_gatepostref14_digits_0, bA]
theorem Rdig_ok : ∀ (k n : Nat) {h : Heap}, k ≤ 6 → n < 10 ^ (k + 1) → Cf F L i_gatepostref14_digits [.int .i64 n] h (Pu h (.str (Go.Lib.decDigits n)))
  | 0, n, h, hk, hn => Rdig1_ok (by omega)
  | k + 1, n, h, hk, hn => by
    by_cases h1 : n < 10
    · exact Rdig1_ok h1
    have n64 : n < 100000000 := Nat.lt_of_lt_of_le hn (Nat.le_trans (Nat.pow_le_pow_right (by omega) (show k + 1 + 1 ≤ 8 by omega)) (by decide))
    exact Rdig2_ok hk n64 h1 (Nat.le_trans (dec_len k (n / 10) (by rw [Nat.pow_succ] at hn; omega)) (by omega)) fun hh => Rdig_ok k (n / 10) (by omega) (by rw [Nat.pow_succ] at hn; omega)
theorem Rdigits_ok {n : Int} (h0 : 0 ≤ n) (h1 : n ≤ 9999999) : Cf F L i_gatepostref14_digits [.int .i64 n] h (Pu h (.str (Go.Lib.itoa n))) := by
  obtain ⟨k, rfl⟩ : ∃ k : Nat, n = k := ⟨n.toNat, by omega⟩
  rw [itoa_nat']
  exact Rdig_ok 6 k (by omega) (by omega)
def rightB (f t long : Int) : Bool := decide (¬ (long < -1 ∨ long > 1048576 ∨ f < 0 ∨ f > t ∨ t > 1048576 ∨ (long ≥ 0 ∧ t > long)) ∧ (f < t ∨ long ≥ 0))
theorem right_may (f t long : Int) : rightB f t long = mayB f t long := by unfold rightB mayB; rw [decide_eq_decide]; omega
theorem right_ok {f t long : Int} : Cf F L i_gatepostref14_right [.agg [.int .i64 f, .int .i64 t], .int .i64 long] h (Pu h (.bool (mayB f t long))) := by
  rw [← right_may]
  refine run_gatepostref14_right ?_
  simp only [p_gatepostref14_right]
  by_cases a1 : long < -1
  · rw [show rightB f t long = false from decide_eq_false (by omega)]
    simp (maxSteps := 4000000) only [vm, vl, Arg.get, cells, stor, boundO, resultsV, resV, partK, loadV, Vm.part, fillC, splice, reduceIte, reduceCtorEq, Nat.reduceEqDiff, Nat.reduceAdd, Nat.reduceSub, Nat.reduceMul, Nat.reduceLeDiff, ne_eq, not_false_eq_true, Int.reduceEq, Int.reduceLT, Int.reduceLE, Int.reduceNeg, Int.reduceToNat, Int.reduceGT, Int.reduceGE, Nat.reduceLT, Nat.lt_add_one, Nat.zero_lt_succ, Nat.succ_pos, Nat.zero_le, beq_self_eq_true, k_gatepostref14_right_0, a1, decide_true, decide_false]
  by_cases a2 : long > 1048576
  · rw [show rightB f t long = false from decide_eq_false (by omega)]
    simp (maxSteps := 4000000) only [vm, vl, Arg.get, cells, stor, boundO, resultsV, resV, partK, loadV, Vm.part, fillC, splice, reduceIte, reduceCtorEq, Nat.reduceEqDiff, Nat.reduceAdd, Nat.reduceSub, Nat.reduceMul, Nat.reduceLeDiff, ne_eq, not_false_eq_true, Int.reduceEq, Int.reduceLT, Int.reduceLE, Int.reduceNeg, Int.reduceToNat, Int.reduceGT, Int.reduceGE, Nat.reduceLT, Nat.lt_add_one, Nat.zero_lt_succ, Nat.succ_pos, Nat.zero_le, beq_self_eq_true, k_gatepostref14_right_0, a1, a2, decide_true, decide_false]
  by_cases a3 : f < 0
  · rw [show rightB f t long = false from decide_eq_false (by omega)]
    simp (maxSteps := 4000000) only [vm, vl, Arg.get, cells, stor, boundO, resultsV, resV, partK, loadV, Vm.part, fillC, splice, reduceIte, reduceCtorEq, Nat.reduceEqDiff, Nat.reduceAdd, Nat.reduceSub, Nat.reduceMul, Nat.reduceLeDiff, ne_eq, not_false_eq_true, Int.reduceEq, Int.reduceLT, Int.reduceLE, Int.reduceNeg, Int.reduceToNat, Int.reduceGT, Int.reduceGE, Nat.reduceLT, Nat.lt_add_one, Nat.zero_lt_succ, Nat.succ_pos, Nat.zero_le, beq_self_eq_true, k_gatepostref14_right_0, a1, a2, a3, decide_true, decide_false]
  by_cases a4 : f > t
  · rw [show rightB f t long = false from decide_eq_false (by omega)]
    simp (maxSteps := 4000000) only [vm, vl, Arg.get, cells, stor, boundO, resultsV, resV, partK, loadV, Vm.part, fillC, splice, reduceIte, reduceCtorEq, Nat.reduceEqDiff, Nat.reduceAdd, Nat.reduceSub, Nat.reduceMul, Nat.reduceLeDiff, ne_eq, not_false_eq_true, Int.reduceEq, Int.reduceLT, Int.reduceLE, Int.reduceNeg, Int.reduceToNat, Int.reduceGT, Int.reduceGE, Nat.reduceLT, Nat.lt_add_one, Nat.zero_lt_succ, Nat.succ_pos, Nat.zero_le, beq_self_eq_true, k_gatepostref14_right_0, a1, a2, a3, a4, decide_true, decide_false]
  by_cases a5 : t > 1048576
  · rw [show rightB f t long = false from decide_eq_false (by omega)]
    simp (maxSteps := 4000000) only [vm, vl, Arg.get, cells, stor, boundO, resultsV, resV, partK, loadV, Vm.part, fillC, splice, reduceIte, reduceCtorEq, Nat.reduceEqDiff, Nat.reduceAdd, Nat.reduceSub, Nat.reduceMul, Nat.reduceLeDiff, ne_eq, not_false_eq_true, Int.reduceEq, Int.reduceLT, Int.reduceLE, Int.reduceNeg, Int.reduceToNat, Int.reduceGT, Int.reduceGE, Nat.reduceLT, Nat.lt_add_one, Nat.zero_lt_succ, Nat.succ_pos, Nat.zero_le, beq_self_eq_true, k_gatepostref14_right_0, a1, a2, a3, a4, a5, decide_true, decide_false]
  by_cases a6 : long ≥ 0
  · by_cases a7 : t > long
    · rw [show rightB f t long = false from decide_eq_false (by omega)]
      simp (maxSteps := 4000000) only [vm, vl, Arg.get, cells, stor, boundO, resultsV, resV, partK, loadV, Vm.part, fillC, splice, reduceIte, reduceCtorEq, Nat.reduceEqDiff, Nat.reduceAdd, Nat.reduceSub, Nat.reduceMul, Nat.reduceLeDiff, ne_eq, not_false_eq_true, Int.reduceEq, Int.reduceLT, Int.reduceLE, Int.reduceNeg, Int.reduceToNat, Int.reduceGT, Int.reduceGE, Nat.reduceLT, Nat.lt_add_one, Nat.zero_lt_succ, Nat.succ_pos, Nat.zero_le, beq_self_eq_true, k_gatepostref14_right_0, a1, a2, a3, a4, a5, a6, a7, decide_true, decide_false]
    · rw [show rightB f t long = true from decide_eq_true (by omega)]
      by_cases a8 : f < t
      · simp (maxSteps := 4000000) only [vm, vl, Arg.get, cells, stor, boundO, resultsV, resV, partK, loadV, Vm.part, fillC, splice, reduceIte, reduceCtorEq, Nat.reduceEqDiff, Nat.reduceAdd, Nat.reduceSub, Nat.reduceMul, Nat.reduceLeDiff, ne_eq, not_false_eq_true, Int.reduceEq, Int.reduceLT, Int.reduceLE, Int.reduceNeg, Int.reduceToNat, Int.reduceGT, Int.reduceGE, Nat.reduceLT, Nat.lt_add_one, Nat.zero_lt_succ, Nat.succ_pos, Nat.zero_le, beq_self_eq_true, k_gatepostref14_right_0, a1, a2, a3, a4, a5, a6, a7, a8, decide_true, decide_false]
      · simp (maxSteps := 4000000) only [vm, vl, Arg.get, cells, stor, boundO, resultsV, resV, partK, loadV, Vm.part, fillC, splice, reduceIte, reduceCtorEq, Nat.reduceEqDiff, Nat.reduceAdd, Nat.reduceSub, Nat.reduceMul, Nat.reduceLeDiff, ne_eq, not_false_eq_true, Int.reduceEq, Int.reduceLT, Int.reduceLE, Int.reduceNeg, Int.reduceToNat, Int.reduceGT, Int.reduceGE, Nat.reduceLT, Nat.lt_add_one, Nat.zero_lt_succ, Nat.succ_pos, Nat.zero_le, beq_self_eq_true, k_gatepostref14_right_0, a1, a2, a3, a4, a5, a6, a7, a8, decide_true, decide_false]
  · by_cases a8 : f < t
    · rw [show rightB f t long = true from decide_eq_true (by omega)]
      simp (maxSteps := 4000000) only [vm, vl, Arg.get, cells, stor, boundO, resultsV, resV, partK, loadV, Vm.part, fillC, splice, reduceIte, reduceCtorEq, Nat.reduceEqDiff, Nat.reduceAdd, Nat.reduceSub, Nat.reduceMul, Nat.reduceLeDiff, ne_eq, not_false_eq_true, Int.reduceEq, Int.reduceLT, Int.reduceLE, Int.reduceNeg, Int.reduceToNat, Int.reduceGT, Int.reduceGE, Nat.reduceLT, Nat.lt_add_one, Nat.zero_lt_succ, Nat.succ_pos, Nat.zero_le, beq_self_eq_true, k_gatepostref14_right_0, a1, a2, a3, a4, a5, a6, a8, decide_true, decide_false]
    · rw [show rightB f t long = false from decide_eq_false (by omega)]
      simp (maxSteps := 4000000) only [vm, vl, Arg.get, cells, stor, boundO, resultsV, resV, partK, loadV, Vm.part, fillC, splice, reduceIte, reduceCtorEq, Nat.reduceEqDiff, Nat.reduceAdd, Nat.reduceSub, Nat.reduceMul, Nat.reduceLeDiff, ne_eq, not_false_eq_true, Int.reduceEq, Int.reduceLT, Int.reduceLE, Int.reduceNeg, Int.reduceToNat, Int.reduceGT, Int.reduceGE, Nat.reduceLT, Nat.lt_add_one, Nat.zero_lt_succ, Nat.succ_pos, Nat.zero_le, beq_self_eq_true, k_gatepostref14_right_0, a1, a2, a3, a4, a5, a6, a8, decide_true, decide_false]
theorem rcont1_ok {f t long : Int} {u : Heap} {all : Bs} (hm : mayB f t long = true) (hall : all = if long ≠ -1 then Go.Lib.itoa long else [42]) (h2 : all.length ≤ 100) : k_gatepostref14_Content_1 L (Pu h (.tup [.str (contT f t long), .int .i64 0])) (.ptr h.length 0) (.str all) (h ++ (O.box [.int .i64 f, .int .i64 t] :: u)) := by
  
  unfold k_gatepostref14_Content_1 contT
  rw [← hall]
  have hb := of_decide_eq_true hm
  by_cases c : f = t
  · rw [if_neg (by omega)]
    have a1 : binV .add (.str [98, 121, 116, 101, 115, 32, 42, 47]) (.str all) = some (.str ([98, 121, 116, 101, 115, 32] ++ ([42] ++ ([47] ++ all)))) := bin_sadd (s := [98, 121, 116, 101, 115, 32, 42, 47]) (by simp only [List.length_cons, List.length_nil]; omega)
    simp (maxSteps := 4000000) only [vm, vl, Arg.get, cells, stor, boundO, resultsV, resV, partK, loadV, Vm.part, fillC, splice, reduceIte, reduceCtorEq, Nat.reduceEqDiff, Nat.reduceAdd, Nat.reduceSub, Nat.reduceMul, Nat.reduceLeDiff, ne_eq, not_false_eq_true, Int.reduceEq, Int.reduceLT, Int.reduceLE, Int.reduceNeg, Int.reduceToNat, Int.reduceGT, Int.reduceGE, Nat.reduceLT, Nat.lt_add_one, Nat.zero_lt_succ, Nat.succ_pos, Nat.zero_le, beq_self_eq_true, c, decide_true, a1]
  · rw [if_pos (by omega)]
    have lf := itoa_len (n := f) (by omega) (by omega)
    have lt := itoa_len (n := t - 1) (by omega) (by omega)
    have w1 : IntKind.i64.wrap (t - 1) = t - 1 := wrap64 (by omega) (by omega)
    obtain ⟨A, hA⟩ : ∃ A : Bs, A = [98, 121, 116, 101, 115, 32] ++ Go.Lib.itoa f := ⟨_, rfl⟩
    obtain ⟨B, hB⟩ : ∃ B : Bs, B = A ++ [45] := ⟨_, rfl⟩
    obtain ⟨C, hC⟩ : ∃ C : Bs, C = B ++ Go.Lib.itoa (t - 1) := ⟨_, rfl⟩
    obtain ⟨D, hD⟩ : ∃ D : Bs, D = C ++ [47] := ⟨_, rfl⟩
    obtain ⟨E, hE⟩ : ∃ E : Bs, E = D ++ all := ⟨_, rfl⟩
    have e : [98, 121, 116, 101, 115, 32] ++ (Go.Lib.itoa f ++ [45] ++ Go.Lib.itoa (t - 1) ++ ([47] ++ all)) = E := by rw [hE, hD, hC, hB, hA]; simp only [List.append_assoc]
    rw [e]
    have lA : A.length ≤ 13 := by rw [hA, List.length_append]; simp only [List.length_cons, List.length_nil]; omega
    have lB : B.length ≤ 14 := by rw [hB, List.length_append]; simp only [List.length_cons, List.length_nil]; omega
    have lC : C.length ≤ 21 := by rw [hC, List.length_append]; omega
    have lD : D.length ≤ 22 := by rw [hD, List.length_append]; simp only [List.length_cons, List.length_nil]; omega
    have a1 : binV .add (.str [98, 121, 116, 101, 115, 32]) (.str (Go.Lib.itoa f)) = some (.str A) := by rw [hA]; exact bin_sadd (by simp only [List.length_cons, List.length_nil]; omega)
    have a2 : binV .add (.str A) (.str [45]) = some (.str B) := by rw [hB]; exact bin_sadd (by simp only [List.length_cons, List.length_nil]; omega)
    have a3 : binV .add (.str B) (.str (Go.Lib.itoa (t - 1))) = some (.str C) := by rw [hC]; exact bin_sadd (by omega)
    have a4 : binV .add (.str C) (.str [47]) = some (.str D) := by rw [hD]; exact bin_sadd (by simp only [List.length_cons, List.length_nil]; omega)
    have a5 : binV .add (.str D) (.str all) = some (.str E) := by rw [hE]; exact bin_sadd (by omega)
    have I1 : ∀ hh, Cf F L i_gatepostref14_digits [.int .i64 f] hh (Pu hh (.str (Go.Lib.itoa f))) := fun hh => Rdigits_ok (by omega) (by omega)
    have I2 : ∀ hh, Cf F L i_gatepostref14_digits [.int .i64 (t - 1)] hh (Pu hh (.str (Go.Lib.itoa (t - 1)))) := fun hh => Rdigits_ok (by omega) (by omega)
    clear e hA hC
    generalize Go.Lib.itoa f = X at *
    generalize Go.Lib.itoa (t - 1) = Y at *
    simp (maxSteps := 4000000) only [vm, vl, Arg.get, cells, stor, boundO, resultsV, resV, partK, loadV, Vm.part, fillC, splice, reduceIte, reduceCtorEq, Nat.reduceEqDiff, Nat.reduceAdd, Nat.reduceSub, Nat.reduceMul, Nat.reduceLeDiff, ne_eq, not_false_eq_true, Int.reduceEq, Int.reduceLT, Int.reduceLE, Int.reduceNeg, Int.reduceToNat, Int.reduceGT, Int.reduceGE, Nat.reduceLT, Nat.lt_add_one, Nat.zero_lt_succ, Nat.succ_pos, Nat.zero_le, beq_self_eq_true, c, decide_false, k_gatepostref14_Content_2]
    refine Cf.pu (I1 _) fun u1 => ?_
    simp (maxSteps := 4000000) only [vm, vl, Arg.get, cells, stor, boundO, resultsV, resV, partK, loadV, Vm.part, fillC, splice, reduceIte, reduceCtorEq, Nat.reduceEqDiff, Nat.reduceAdd, Nat.reduceSub, Nat.reduceMul, Nat.reduceLeDiff, ne_eq, not_false_eq_true, Int.reduceEq, Int.reduceLT, Int.reduceLE, Int.reduceNeg, Int.reduceToNat, Int.reduceGT, Int.reduceGE, Nat.reduceLT, Nat.lt_add_one, Nat.zero_lt_succ, Nat.succ_pos, Nat.zero_le, beq_self_eq_true, a1, a2, a3, a4, a5, w1]
    refine Cf.pu (I2 _) fun u2 => ?_
    simp (maxSteps := 4000000) only [vm, vl, Arg.get, cells, stor, boundO, resultsV, resV, partK, loadV, Vm.part, fillC, splice, reduceIte, reduceCtorEq, Nat.reduceEqDiff, Nat.reduceAdd, Nat.reduceSub, Nat.reduceMul, Nat.reduceLeDiff, ne_eq, not_false_eq_true, Int.reduceEq, Int.reduceLT, Int.reduceLE, Int.reduceNeg, Int.reduceToNat, Int.reduceGT, Int.reduceGE, Nat.reduceLT, Nat.lt_add_one, Nat.zero_lt_succ, Nat.succ_pos, Nat.zero_le, beq_self_eq_true, a1, a2, a3, a4, a5, w1]
theorem RContent_ok {f t long : Int} : Cf F L i_gatepostref14_Content [.agg [.int .i64 f, .int .i64 t], .int .i64 long] h (Pu h (contV f t long)) := by
  refine run_gatepostref14_Content ?_
  simp only [p_gatepostref14_Content]
  
  unfold contV
  simp (maxSteps := 4000000) only [vm, vl, Arg.get, cells, stor, boundO, resultsV, resV, partK, loadV, Vm.part, fillC, splice, reduceIte, reduceCtorEq, Nat.reduceEqDiff, Nat.reduceAdd, Nat.reduceSub, Nat.reduceMul, Nat.reduceLeDiff, ne_eq, not_false_eq_true, Int.reduceEq, Int.reduceLT, Int.reduceLE, Int.reduceNeg, Int.reduceToNat, Int.reduceGT, Int.reduceGE, Nat.reduceLT, Nat.lt_add_one, Nat.zero_lt_succ, Nat.succ_pos, Nat.zero_le, beq_self_eq_true]
  refine Cf.pu right_ok fun u => ?_
  cases hm : mayB f t long with
  | false => simp (maxSteps := 4000000) only [vm, vl, Arg.get, cells, stor, boundO, resultsV, resV, partK, loadV, Vm.part, fillC, splice, reduceIte, reduceCtorEq, Nat.reduceEqDiff, Nat.reduceAdd, Nat.reduceSub, Nat.reduceMul, Nat.reduceLeDiff, ne_eq, not_false_eq_true, Int.reduceEq, Int.reduceLT, Int.reduceLE, Int.reduceNeg, Int.reduceToNat, Int.reduceGT, Int.reduceGE, Nat.reduceLT, Nat.lt_add_one, Nat.zero_lt_succ, Nat.succ_pos, Nat.zero_le, beq_self_eq_true, hm, Bool.not_false]
  | true =>
    have hb := of_decide_eq_true hm
    by_cases c : long ≥ 0
    · have ll := itoa_len (n := long) (by omega) (by omega)
      simp (maxSteps := 4000000) only [vm, vl, Arg.get, cells, stor, boundO, resultsV, resV, partK, loadV, Vm.part, fillC, splice, reduceIte, reduceCtorEq, Nat.reduceEqDiff, Nat.reduceAdd, Nat.reduceSub, Nat.reduceMul, Nat.reduceLeDiff, ne_eq, not_false_eq_true, Int.reduceEq, Int.reduceLT, Int.reduceLE, Int.reduceNeg, Int.reduceToNat, Int.reduceGT, Int.reduceGE, Nat.reduceLT, Nat.lt_add_one, Nat.zero_lt_succ, Nat.succ_pos, Nat.zero_le, beq_self_eq_true, hm, Bool.not_true, k_gatepostref14_Content_0, c, decide_true]
      refine Cf.pu (Rdigits_ok (by omega) (by omega)) fun u2 => ?_
      simp (maxSteps := 4000000) only [vm, vl, Arg.get, cells, stor, boundO, resultsV, resV, partK, loadV, Vm.part, fillC, splice, reduceIte, reduceCtorEq, Nat.reduceEqDiff, Nat.reduceAdd, Nat.reduceSub, Nat.reduceMul, Nat.reduceLeDiff, ne_eq, not_false_eq_true, Int.reduceEq, Int.reduceLT, Int.reduceLE, Int.reduceNeg, Int.reduceToNat, Int.reduceGT, Int.reduceGE, Nat.reduceLT, Nat.lt_add_one, Nat.zero_lt_succ, Nat.succ_pos, Nat.zero_le, beq_self_eq_true]
      exact rcont1_ok (all := Go.Lib.itoa long) hm (by rw [if_pos (by omega)]) (by omega)
    · simp (maxSteps := 4000000) only [vm, vl, Arg.get, cells, stor, boundO, resultsV, resV, partK, loadV, Vm.part, fillC, splice, reduceIte, reduceCtorEq, Nat.reduceEqDiff, Nat.reduceAdd, Nat.reduceSub, Nat.reduceMul, Nat.reduceLeDiff, ne_eq, not_false_eq_true, Int.reduceEq, Int.reduceLT, Int.reduceLE, Int.reduceNeg, Int.reduceToNat, Int.reduceGT, Int.reduceGE, Nat.reduceLT, Nat.lt_add_one, Nat.zero_lt_succ, Nat.succ_pos, Nat.zero_le, beq_self_eq_true, hm, Bool.not_true, k_gatepostref14_Content_0, c, decide_false]
      exact rcont1_ok (all := [42]) hm (by rw [if_neg (by omega)]) (by simp)
theorem endS_no {x : Int × Int × Bool} {long : Int} (h : x.2.2 = false) : readV (endS x long) = .tup [.agg [.int .i64 0, .int .i64 0], .int .i64 0, .bool false] := by
  unfold endS; rw [if_neg (fun q => by rw [h] at q; cases q.1)]; rfl
theorem partS_no {part : Bs} {ok : Bool} (h : ok = false) : (partS part ok).2.2 = false := by
  subst h; unfold partS; split
  · rfl
  · simp only [Bool.false_and]
theorem longS_no {all : Bs} {ok : Bool} (h : ok = false) : (longS all ok).2 = false := by
  subst h; unfold longS; split
  · rfl
  · simp only [Bool.false_and]
theorem rend_ok {a b long : Int} {t1 t3 : Heap} : k_gatepostref14_Read_4 L (Pu h (readV (endS (a, b, true) long))) (.ptr h.length 0) (.int .i64 long) (.ptr (h.length + (t1.length + 1)) 0)
    (h ++ (O.box [.int .i64 0, .int .i64 0] :: (t1 ++ (O.box [.int .i64 a, .int .i64 b] :: t3)))) := by
  
  unfold k_gatepostref14_Read_4
  have P := fun hh => right_ok (L := L) (h := hh) (f := a) (t := b) (long := long)
  simp (maxSteps := 4000000) only [vm, vl, Arg.get, cells, stor, boundO, resultsV, resV, partK, loadV, Vm.part, fillC, splice, reduceIte, reduceCtorEq, Nat.reduceEqDiff, Nat.reduceAdd, Nat.reduceSub, Nat.reduceMul, Nat.reduceLeDiff, ne_eq, not_false_eq_true, Int.reduceEq, Int.reduceLT, Int.reduceLE, Int.reduceNeg, Int.reduceToNat, Int.reduceGT, Int.reduceGE, Nat.reduceLT, Nat.lt_add_one, Nat.zero_lt_succ, Nat.succ_pos, Nat.zero_le, beq_self_eq_true]
  refine Cf.pu (P _) fun u => ?_
  cases hm : mayB a b long with
  | false =>
    rw [show endS (a, b, true) long = none from if_neg (fun h => by rw [hm] at h; cases h.2)]
    simp (maxSteps := 4000000) only [vm, vl, Arg.get, cells, stor, boundO, resultsV, resV, partK, loadV, Vm.part, fillC, splice, reduceIte, reduceCtorEq, Nat.reduceEqDiff, Nat.reduceAdd, Nat.reduceSub, Nat.reduceMul, Nat.reduceLeDiff, ne_eq, not_false_eq_true, Int.reduceEq, Int.reduceLT, Int.reduceLE, Int.reduceNeg, Int.reduceToNat, Int.reduceGT, Int.reduceGE, Nat.reduceLT, Nat.lt_add_one, Nat.zero_lt_succ, Nat.succ_pos, Nat.zero_le, beq_self_eq_true, hm, readV, Bool.not_false]
  | true =>
    rw [show endS (a, b, true) long = some (a, b, long) from if_pos ⟨rfl, hm⟩]
    simp (maxSteps := 4000000) only [vm, vl, Arg.get, cells, stor, boundO, resultsV, resV, partK, loadV, Vm.part, fillC, splice, reduceIte, reduceCtorEq, Nat.reduceEqDiff, Nat.reduceAdd, Nat.reduceSub, Nat.reduceMul, Nat.reduceLeDiff, ne_eq, not_false_eq_true, Int.reduceEq, Int.reduceLT, Int.reduceLE, Int.reduceNeg, Int.reduceToNat, Int.reduceGT, Int.reduceGE, Nat.reduceLT, Nat.lt_add_one, Nat.zero_lt_succ, Nat.succ_pos, Nat.zero_le, beq_self_eq_true, hm, readV, Bool.not_true, k_gatepostref14_Read_5]
theorem rpart7_ok {rest : Bs} {k m : Nat} {long : Int} {t1 t3 : Heap} (hl : rest.length ≤ 9223372036854775000) (hk : k ≤ rest.length) (hmk : m < k) (hm : m = pos 45 (rest.take k)) (hp : ¬ rest.take k = [42]) :
    k_gatepostref14_Read_7 L (Pu h (readV (endS (partS (rest.take k) true) long))) (.str rest) (.ptr h.length 0) (.int .i64 k) (.int .i64 long) (.ptr (h.length + (t1.length + 1)) 0) (.int .i64 m)
    (h ++ (O.box [.int .i64 0, .int .i64 0] :: (t1 ++ (O.box [.int .i64 0, .int .i64 0] :: t3)))) := by
  
  unfold k_gatepostref14_Read_7
  have lt : (rest.take k).length = k := by rw [List.length_take]; omega
  have e1 : (rest.take k).take m = rest.take m := by rw [List.take_take, Nat.min_eq_left (by omega)]
  have e : partS (rest.take k) true = ((numS (rest.take m) 1048577).1, (numS ((rest.take k).drop (m + 1)) 1048577).1 + 1, (numS (rest.take m) 1048577).2 && (numS ((rest.take k).drop (m + 1)) 1048577).2 && true && decide ((numS (rest.take m) 1048577).1 < (numS ((rest.take k).drop (m + 1)) 1048577).1 + 1)) := by
    unfold partS
    rw [if_neg hp, ← hm, e1, lt, decide_eq_true hmk, Bool.true_and]
  rw [e]
  have R4 := fun a b t3 => rend_ok (L := L) (h := h) (a := a) (b := b) (long := long) (t1 := t1) (t3 := t3)
  have la : (rest.take m).length ≤ 9223372036854775806 := by rw [List.length_take]; omega
  have lb : ((rest.take k).drop (m + 1)).length ≤ 9223372036854775806 := by rw [List.length_drop]; omega
  have na := numS_le (rest.take m) (most := 1048577) (by omega)
  have nb := numS_le ((rest.take k).drop (m + 1)) (most := 1048577) (by omega)
  have NA := fun hh => rNumber_ok (L := L) (h := hh) la (show (-4000000000000000000 : Int) ≤ 1048577 by omega) (by omega)
  have NB := fun hh => rNumber_ok (L := L) (h := hh) lb (show (-4000000000000000000 : Int) ≤ 1048577 by omega) (by omega)
  have z1 : (0 : Int) ≤ m := by omega
  have z2 : m ≤ rest.length := by omega
  have w1 : IntKind.i64.wrap ((m : Int) + 1) = ((m + 1 : Nat) : Int) := by rw [wrap64 (by omega) (by omega)]; omega
  have z3 : m + 1 ≤ k := by omega
  generalize hA : rest.take m = A at *
  generalize hB : (rest.take k).drop (m + 1) = B at *
  have w2 : IntKind.i64.wrap ((numS B 1048577).1 + 1) = (numS B 1048577).1 + 1 := wrap64 (by omega) (by omega)
  generalize numS A 1048577 = na' at *
  generalize numS B 1048577 = nb' at *
  obtain ⟨a, oka⟩ := na'
  obtain ⟨b, okb⟩ := nb'
  simp only at *
  simp (maxSteps := 4000000) only [vm, vl, Arg.get, cells, stor, boundO, resultsV, resV, partK, loadV, Vm.part, fillC, splice, reduceIte, reduceCtorEq, Nat.reduceEqDiff, Nat.reduceAdd, Nat.reduceSub, Nat.reduceMul, Nat.reduceLeDiff, ne_eq, not_false_eq_true, Int.reduceEq, Int.reduceLT, Int.reduceLE, Int.reduceNeg, Int.reduceToNat, Int.reduceGT, Int.reduceGE, Nat.reduceLT, Nat.lt_add_one, Nat.zero_lt_succ, Nat.succ_pos, Nat.zero_le, beq_self_eq_true, z1, z2, z3, hk, hA]
  refine Cf.pu (NA _) fun u1 => ?_
  simp (maxSteps := 4000000) only [vm, vl, Arg.get, cells, stor, boundO, resultsV, resV, partK, loadV, Vm.part, fillC, splice, reduceIte, reduceCtorEq, Nat.reduceEqDiff, Nat.reduceAdd, Nat.reduceSub, Nat.reduceMul, Nat.reduceLeDiff, ne_eq, not_false_eq_true, Int.reduceEq, Int.reduceLT, Int.reduceLE, Int.reduceNeg, Int.reduceToNat, Int.reduceGT, Int.reduceGE, Nat.reduceLT, Nat.lt_add_one, Nat.zero_lt_succ, Nat.succ_pos, Nat.zero_le, beq_self_eq_true, z1, z2, z3, hk, w1, hB]
  refine Cf.pu (NB _) fun u2 => ?_
  cases oka with
  | false =>
    rw [endS_no (by simp only [Bool.false_and])]
    simp (maxSteps := 4000000) only [vm, vl, Arg.get, cells, stor, boundO, resultsV, resV, partK, loadV, Vm.part, fillC, splice, reduceIte, reduceCtorEq, Nat.reduceEqDiff, Nat.reduceAdd, Nat.reduceSub, Nat.reduceMul, Nat.reduceLeDiff, ne_eq, not_false_eq_true, Int.reduceEq, Int.reduceLT, Int.reduceLE, Int.reduceNeg, Int.reduceToNat, Int.reduceGT, Int.reduceGE, Nat.reduceLT, Nat.lt_add_one, Nat.zero_lt_succ, Nat.succ_pos, Nat.zero_le, beq_self_eq_true, w2, Bool.not_false]
  | true =>
    cases okb with
    | false =>
      rw [endS_no (by simp only [Bool.false_and, Bool.and_false])]
      simp (maxSteps := 4000000) only [vm, vl, Arg.get, cells, stor, boundO, resultsV, resV, partK, loadV, Vm.part, fillC, splice, reduceIte, reduceCtorEq, Nat.reduceEqDiff, Nat.reduceAdd, Nat.reduceSub, Nat.reduceMul, Nat.reduceLeDiff, ne_eq, not_false_eq_true, Int.reduceEq, Int.reduceLT, Int.reduceLE, Int.reduceNeg, Int.reduceToNat, Int.reduceGT, Int.reduceGE, Nat.reduceLT, Nat.lt_add_one, Nat.zero_lt_succ, Nat.succ_pos, Nat.zero_le, beq_self_eq_true, w2, Bool.not_false, Bool.not_true]
    | true =>
      by_cases q : a > b
      · rw [decide_eq_false (by omega : ¬ a < b + 1), endS_no rfl]
        simp (maxSteps := 4000000) only [vm, vl, Arg.get, cells, stor, boundO, resultsV, resV, partK, loadV, Vm.part, fillC, splice, reduceIte, reduceCtorEq, Nat.reduceEqDiff, Nat.reduceAdd, Nat.reduceSub, Nat.reduceMul, Nat.reduceLeDiff, ne_eq, not_false_eq_true, Int.reduceEq, Int.reduceLT, Int.reduceLE, Int.reduceNeg, Int.reduceToNat, Int.reduceGT, Int.reduceGE, Nat.reduceLT, Nat.lt_add_one, Nat.zero_lt_succ, Nat.succ_pos, Nat.zero_le, beq_self_eq_true, w2, Bool.not_true, q, decide_true]
      · rw [decide_eq_true (by omega : a < b + 1)]
        simp (maxSteps := 4000000) only [vm, vl, Arg.get, cells, stor, boundO, resultsV, resV, partK, loadV, Vm.part, fillC, splice, reduceIte, reduceCtorEq, Nat.reduceEqDiff, Nat.reduceAdd, Nat.reduceSub, Nat.reduceMul, Nat.reduceLeDiff, ne_eq, not_false_eq_true, Int.reduceEq, Int.reduceLT, Int.reduceLE, Int.reduceNeg, Int.reduceToNat, Int.reduceGT, Int.reduceGE, Nat.reduceLT, Nat.lt_add_one, Nat.zero_lt_succ, Nat.succ_pos, Nat.zero_le, beq_self_eq_true, w2, Bool.not_true, q, decide_false]
        exact R4 _ _ _
theorem getD_take {s : Bs} {j k : Nat} (h : j < k) : (s.take k).getD j 0 = s.getD j 0 := by
  simp only [List.getD_eq_getElem?_getD, List.getElem?_take, if_pos h]
theorem rpart_ok {e : Env} {rest : Bs} {k : Nat} {long : Int} {t1 : Heap} (hl : rest.length ≤ 9223372036854775000) (hk : k ≤ rest.length) (e0 : e 0 = .str rest) (e2 : e 2 = .ptr h.length 0) (e5 : e 5 = .int .i64 k) (e6 : e 6 = .int .i64 long) :
    k_gatepostref14_Read_3 L (Pu h (readV (endS (partS (rest.take k) true) long))) e (.str rest) (.ptr h.length 0) (.int .i64 k) (.int .i64 long) (h ++ (O.box [.int .i64 0, .int .i64 0] :: t1)) := by
  
  unfold k_gatepostref14_Read_3
  have z1 : (0 : Int) ≤ k := by omega
  by_cases c : rest.take k = [42]
  · have c' : (rest.take k == [42]) = true := beq_iff_eq.2 c
    rw [show partS (rest.take k) true = (0, 0, true) from if_pos c]
    simp (maxSteps := 4000000) only [vm, vl, Arg.get, cells, stor, boundO, resultsV, resV, partK, loadV, Vm.part, fillC, splice, reduceIte, reduceCtorEq, Nat.reduceEqDiff, Nat.reduceAdd, Nat.reduceSub, Nat.reduceMul, Nat.reduceLeDiff, ne_eq, not_false_eq_true, Int.reduceEq, Int.reduceLT, Int.reduceLE, Int.reduceNeg, Int.reduceToNat, Int.reduceGT, Int.reduceGE, Nat.reduceLT, Nat.lt_add_one, Nat.zero_lt_succ, Nat.succ_pos, Nat.zero_le, beq_self_eq_true, z1, hk, c', Bool.not_true]
    exact rend_ok (t3 := [])
  · have c' : (rest.take k == [42]) = false := beq_eq_false_iff_ne.2 c
    have lt : (rest.take k).length = k := by rw [List.length_take]; omega
    simp (maxSteps := 4000000) only [vm, vl, Arg.get, cells, stor, boundO, resultsV, resV, partK, loadV, Vm.part, fillC, splice, reduceIte, reduceCtorEq, Nat.reduceEqDiff, Nat.reduceAdd, Nat.reduceSub, Nat.reduceMul, Nat.reduceLeDiff, ne_eq, not_false_eq_true, Int.reduceEq, Int.reduceLT, Int.reduceLE, Int.reduceNeg, Int.reduceToNat, Int.reduceGT, Int.reduceGE, Nat.reduceLT, Nat.lt_add_one, Nat.zero_lt_succ, Nat.succ_pos, Nat.zero_le, beq_self_eq_true, z1, hk, c', Bool.not_false]
    refine l_gatepostref14_Read_0 (fun n e h' => ∃ m : Nat, n = k - m ∧ m ≤ k ∧ e 0 = .str rest ∧ e 2 = .ptr h.length 0 ∧ e 5 = .int .i64 k ∧ e 6 = .int .i64 long ∧ e 9 = .ptr (h.length + (t1.length + 1)) 0 ∧ e 10 = .int .i64 m ∧ h' = h ++ (O.box [.int .i64 0, .int .i64 0] :: (t1 ++ [O.box [.int .i64 0, .int .i64 0]])) ∧ ∀ j, j < m → rest.getD j 0 ≠ 45) ?_ (n := k) ⟨0, by simp, by simp, by simp [upd, e0], by simp [upd, e2], by simp [upd, e5], by simp [upd, e6], by simp [upd], rfl, rfl, by simp⟩
    rintro n e h' ⟨m, rfl, hm, e0, e2, e5, e6, e9, e10, rfl, hn⟩
    simp only [b_gatepostref14_Read_0]
    by_cases q : m < k
    · have q1 : (m : Int) < k := by omega
      have q2 : m < rest.length := by omega
      by_cases p : rest.getD m 0 = 45
      · have p' : ((rest.getD m 0).toNat : Int) = 45 := by rw [p]; rfl
        have em : m = pos 45 (rest.take k) := (pos_at (by omega) (fun j hj => by rw [getD_take (by omega)]; exact hn j hj) (by rw [getD_take q]; exact p)).symm
        have r1 : ¬ (m : Int) = k := by omega
        simp (maxSteps := 4000000) only [vm, vl, Arg.get, cells, stor, boundO, resultsV, resV, partK, loadV, Vm.part, fillC, splice, reduceIte, reduceCtorEq, Nat.reduceEqDiff, Nat.reduceAdd, Nat.reduceSub, Nat.reduceMul, Nat.reduceLeDiff, ne_eq, not_false_eq_true, Int.reduceEq, Int.reduceLT, Int.reduceLE, Int.reduceNeg, Int.reduceToNat, Int.reduceGT, Int.reduceGE, Nat.reduceLT, Nat.lt_add_one, Nat.zero_lt_succ, Nat.succ_pos, Nat.zero_le, beq_self_eq_true, e0, e2, e5, e6, e9, e10, q1, q2, p', decide_true, decide_false, Bool.not_true, k_gatepostref14_Read_6, r1]
        exact rpart7_ok (t3 := []) hl hk q em c
      · have p' : ¬ ((rest.getD m 0).toNat : Int) = 45 := fun e => p (UInt8.toNat_inj.1 (by have : (45 : UInt8).toNat = 45 := rfl; omega))
        have w1 : IntKind.i64.wrap ((m : Int) + 1) = ((m + 1 : Nat) : Int) := by rw [wrap64 (by omega) (by omega)]; omega
        simp (maxSteps := 4000000) only [vm, vl, Arg.get, cells, stor, boundO, resultsV, resV, partK, loadV, Vm.part, fillC, splice, reduceIte, reduceCtorEq, Nat.reduceEqDiff, Nat.reduceAdd, Nat.reduceSub, Nat.reduceMul, Nat.reduceLeDiff, ne_eq, not_false_eq_true, Int.reduceEq, Int.reduceLT, Int.reduceLE, Int.reduceNeg, Int.reduceToNat, Int.reduceGT, Int.reduceGE, Nat.reduceLT, Nat.lt_add_one, Nat.zero_lt_succ, Nat.succ_pos, Nat.zero_le, beq_self_eq_true, e0, e2, e5, e6, e9, e10, q1, q2, p', decide_true, decide_false, Bool.not_false, k_gatepostref14_Read_8, w1]
        refine ⟨k - (m + 1), by omega, m + 1, rfl, by omega, rfl, ?_⟩
        intro j hj
        rcases Nat.lt_or_ge j m with h1 | h1
        · exact hn j h1
        · rw [show j = m by omega]; exact p
    · have q1 : ¬ (m : Int) < k := by omega
      have em : m = k := by omega
      subst em
      have pn : pos 45 (rest.take m) = (rest.take m).length := pos_none fun j hj => by rw [getD_take (by omega)]; exact hn j (by omega)
      have e : (partS (rest.take m) true).2.2 = false := by
        unfold partS
        rw [if_neg c, pn, decide_eq_false (Nat.lt_irrefl _)]
        simp only [Bool.and_false, Bool.false_and]
      rw [endS_no e]
      simp (maxSteps := 4000000) only [vm, vl, Arg.get, cells, stor, boundO, resultsV, resV, partK, loadV, Vm.part, fillC, splice, reduceIte, reduceCtorEq, Nat.reduceEqDiff, Nat.reduceAdd, Nat.reduceSub, Nat.reduceMul, Nat.reduceLeDiff, ne_eq, not_false_eq_true, Int.reduceEq, Int.reduceLT, Int.reduceLE, Int.reduceNeg, Int.reduceToNat, Int.reduceGT, Int.reduceGE, Nat.reduceLT, Nat.lt_add_one, Nat.zero_lt_succ, Nat.succ_pos, Nat.zero_le, beq_self_eq_true, e0, e2, e5, e6, e9, e10, q1, decide_true, decide_false, k_gatepostref14_Read_6]
theorem rlong_ok {e : Env} {rest : Bs} {k : Nat} {t1 : Heap} (hl : rest.length ≤ 9223372036854775000) (hk : k < rest.length) (e0 : e 0 = .str rest) (e2 : e 2 = .ptr h.length 0) (e5 : e 5 = .int .i64 k) :
    k_gatepostref14_Read_2 L (Pu h (readV (endS (partS (rest.take k) (longS (rest.drop (k + 1)) true).2) (longS (rest.drop (k + 1)) true).1))) e (.str rest) (.ptr h.length 0) (.int .i64 k) (h ++ (O.box [.int .i64 0, .int .i64 0] :: t1)) := by
  
  unfold k_gatepostref14_Read_2
  have z1 : (0 : Int) ≤ k := by omega
  have z3 : k + 1 ≤ rest.length := by omega
  have w1 : IntKind.i64.wrap ((k : Int) + 1) = ((k + 1 : Nat) : Int) := by rw [wrap64 (by omega) (by omega)]; omega
  have lb : (rest.drop (k + 1)).length ≤ 9223372036854775806 := by rw [List.length_drop]; omega
  have NB := fun hh => rNumber_ok (L := L) (h := hh) lb (show (-4000000000000000000 : Int) ≤ 1048577 by omega) (by omega)
  have P := fun e long t1 => rpart_ok (L := L) (h := h) (e := e) (rest := rest) (k := k) (long := long) (t1 := t1) hl (by omega)
  by_cases c : rest.drop (k + 1) = [42]
  · have c' : (rest.drop (k + 1) == [42]) = true := beq_iff_eq.2 c
    rw [show longS (rest.drop (k + 1)) true = (-1, true) from if_pos c]
    simp (maxSteps := 4000000) only [vm, vl, Arg.get, cells, stor, boundO, resultsV, resV, partK, loadV, Vm.part, fillC, splice, reduceIte, reduceCtorEq, Nat.reduceEqDiff, Nat.reduceAdd, Nat.reduceSub, Nat.reduceMul, Nat.reduceLeDiff, ne_eq, not_false_eq_true, Int.reduceEq, Int.reduceLT, Int.reduceLE, Int.reduceNeg, Int.reduceToNat, Int.reduceGT, Int.reduceGE, Nat.reduceLT, Nat.lt_add_one, Nat.zero_lt_succ, Nat.succ_pos, Nat.zero_le, beq_self_eq_true, z1, z3, w1, List.take_length, c', Bool.not_true]
    exact P _ _ _ (by simp [upd, e0]) (by simp [upd, e2]) (by simp [upd, e5]) (by simp [upd])
  · have c' : (rest.drop (k + 1) == [42]) = false := beq_eq_false_iff_ne.2 c
    rw [show longS (rest.drop (k + 1)) true = ((numS (rest.drop (k + 1)) 1048577).1, true && (numS (rest.drop (k + 1)) 1048577).2) from if_neg c]
    generalize hB : rest.drop (k + 1) = B at *
    generalize numS B 1048577 = nb' at *
    obtain ⟨b, okb⟩ := nb'
    simp only at *
    simp (maxSteps := 4000000) only [vm, vl, Arg.get, cells, stor, boundO, resultsV, resV, partK, loadV, Vm.part, fillC, splice, reduceIte, reduceCtorEq, Nat.reduceEqDiff, Nat.reduceAdd, Nat.reduceSub, Nat.reduceMul, Nat.reduceLeDiff, ne_eq, not_false_eq_true, Int.reduceEq, Int.reduceLT, Int.reduceLE, Int.reduceNeg, Int.reduceToNat, Int.reduceGT, Int.reduceGE, Nat.reduceLT, Nat.lt_add_one, Nat.zero_lt_succ, Nat.succ_pos, Nat.zero_le, beq_self_eq_true, z1, z3, w1, List.take_length, hB, c', Bool.not_false]
    refine Cf.pu (NB _) fun u => ?_
    cases okb with
    | false =>
      rw [endS_no (partS_no (by rfl))]
      simp (maxSteps := 4000000) only [vm, vl, Arg.get, cells, stor, boundO, resultsV, resV, partK, loadV, Vm.part, fillC, splice, reduceIte, reduceCtorEq, Nat.reduceEqDiff, Nat.reduceAdd, Nat.reduceSub, Nat.reduceMul, Nat.reduceLeDiff, ne_eq, not_false_eq_true, Int.reduceEq, Int.reduceLT, Int.reduceLE, Int.reduceNeg, Int.reduceToNat, Int.reduceGT, Int.reduceGE, Nat.reduceLT, Nat.lt_add_one, Nat.zero_lt_succ, Nat.succ_pos, Nat.zero_le, beq_self_eq_true, Bool.not_false]
    | true =>
      simp (maxSteps := 4000000) only [vm, vl, Arg.get, cells, stor, boundO, resultsV, resV, partK, loadV, Vm.part, fillC, splice, reduceIte, reduceCtorEq, Nat.reduceEqDiff, Nat.reduceAdd, Nat.reduceSub, Nat.reduceMul, Nat.reduceLeDiff, ne_eq, not_false_eq_true, Int.reduceEq, Int.reduceLT, Int.reduceLE, Int.reduceNeg, Int.reduceToNat, Int.reduceGT, Int.reduceGE, Nat.reduceLT, Nat.lt_add_one, Nat.zero_lt_succ, Nat.succ_pos, Nat.zero_le, beq_self_eq_true, Bool.not_true, k_gatepostref14_Read_9]
      exact P _ _ _ (by simp [upd, e0]) (by simp [upd, e2]) (by simp [upd, e5]) (by simp [upd])
theorem RRead_ok {s : Bs} (hl : s.length ≤ 9223372036854775000) : Cf F L i_gatepostref14_Read [.str s] h (Pu h (readV (readS s))) := by
  refine run_gatepostref14_Read ?_
  simp only [p_gatepostref14_Read]
  
  by_cases a1 : s.length < 6
  · have b1 : (s.length : Int) < 6 := by omega
    have e : cutPre [98, 121, 116, 101, 115, 32] s = (s, false) := by
      unfold cutPre; rw [if_neg]
      intro h; have := congrArg List.length h; simp only [List.length_take, List.length_cons, List.length_nil] at this; omega
    unfold readS
    rw [e, endS_no (partS_no (longS_no (by simp only [Bool.false_and])))]
    simp (maxSteps := 4000000) only [vm, vl, Arg.get, cells, stor, boundO, resultsV, resV, partK, loadV, Vm.part, fillC, splice, reduceIte, reduceCtorEq, Nat.reduceEqDiff, Nat.reduceAdd, Nat.reduceSub, Nat.reduceMul, Nat.reduceLeDiff, ne_eq, not_false_eq_true, Int.reduceEq, Int.reduceLT, Int.reduceLE, Int.reduceNeg, Int.reduceToNat, Int.reduceGT, Int.reduceGE, Nat.reduceLT, Nat.lt_add_one, Nat.zero_lt_succ, Nat.succ_pos, Nat.zero_le, beq_self_eq_true, b1, decide_true]
  have b1 : ¬ (s.length : Int) < 6 := by omega
  have o1 : 6 ≤ s.length := by omega
  by_cases a2 : s.take 6 = [98, 121, 116, 101, 115, 32]
  case neg =>
    have b2 : (s.take 6 == [98, 121, 116, 101, 115, 32]) = false := beq_eq_false_iff_ne.2 a2
    have e : cutPre [98, 121, 116, 101, 115, 32] s = (s, false) := by
      unfold cutPre; rw [if_neg]; exact a2
    unfold readS
    rw [e, endS_no (partS_no (longS_no (by simp only [Bool.false_and])))]
    simp (maxSteps := 4000000) only [vm, vl, Arg.get, cells, stor, boundO, resultsV, resV, partK, loadV, Vm.part, fillC, splice, reduceIte, reduceCtorEq, Nat.reduceEqDiff, Nat.reduceAdd, Nat.reduceSub, Nat.reduceMul, Nat.reduceLeDiff, ne_eq, not_false_eq_true, Int.reduceEq, Int.reduceLT, Int.reduceLE, Int.reduceNeg, Int.reduceToNat, Int.reduceGT, Int.reduceGE, Nat.reduceLT, Nat.lt_add_one, Nat.zero_lt_succ, Nat.succ_pos, Nat.zero_le, beq_self_eq_true, b1, b2, o1, decide_false, Bool.not_false]
  have b2 : (s.take 6 == [98, 121, 116, 101, 115, 32]) = true := beq_iff_eq.2 a2
  have e : cutPre [98, 121, 116, 101, 115, 32] s = (s.drop 6, true) := by
    unfold cutPre; rw [if_pos]; rfl; exact a2
  have lr : (s.drop 6).length ≤ 9223372036854775000 := by rw [List.length_drop]; omega
  unfold readS
  rw [e]
  simp only
  generalize hr : s.drop 6 = rest at *
  simp (maxSteps := 4000000) only [vm, vl, Arg.get, cells, stor, boundO, resultsV, resV, partK, loadV, Vm.part, fillC, splice, reduceIte, reduceCtorEq, Nat.reduceEqDiff, Nat.reduceAdd, Nat.reduceSub, Nat.reduceMul, Nat.reduceLeDiff, ne_eq, not_false_eq_true, Int.reduceEq, Int.reduceLT, Int.reduceLE, Int.reduceNeg, Int.reduceToNat, Int.reduceGT, Int.reduceGE, Nat.reduceLT, Nat.lt_add_one, Nat.zero_lt_succ, Nat.succ_pos, Nat.zero_le, beq_self_eq_true, b1, b2, o1, decide_false, Bool.not_true, k_gatepostref14_Read_0, List.take_length, hr]
  refine l_gatepostref14_Read_1 (fun n e h' => ∃ k : Nat, n = rest.length - k ∧ k ≤ rest.length ∧ e 0 = .str rest ∧ e 2 = .ptr h.length 0 ∧ e 5 = .int .i64 k ∧ h' = h ++ [O.box [.int .i64 0, .int .i64 0]] ∧ ∀ j, j < k → rest.getD j 0 ≠ 47) ?_ (n := rest.length) ⟨0, by simp, by simp, by simp [upd], by simp [upd], rfl, rfl, by simp⟩
  rintro n e h' ⟨k, rfl, hk, e0, e2, e5, rfl, hn⟩
  simp only [b_gatepostref14_Read_1]
  by_cases q : k < rest.length
  · have q1 : (k : Int) < rest.length := by omega
    by_cases p : rest.getD k 0 = 47
    · have p' : ((rest.getD k 0).toNat : Int) = 47 := by rw [p]; rfl
      have ek : pos 47 rest = k := pos_at q hn p
      have r1 : ¬ (k : Int) = rest.length := by omega
      rw [ek, decide_eq_true q]
      simp (maxSteps := 4000000) only [vm, vl, Arg.get, cells, stor, boundO, resultsV, resV, partK, loadV, Vm.part, fillC, splice, reduceIte, reduceCtorEq, Nat.reduceEqDiff, Nat.reduceAdd, Nat.reduceSub, Nat.reduceMul, Nat.reduceLeDiff, ne_eq, not_false_eq_true, Int.reduceEq, Int.reduceLT, Int.reduceLE, Int.reduceNeg, Int.reduceToNat, Int.reduceGT, Int.reduceGE, Nat.reduceLT, Nat.lt_add_one, Nat.zero_lt_succ, Nat.succ_pos, Nat.zero_le, beq_self_eq_true, e0, e2, e5, q, q1, p', decide_true, decide_false, Bool.not_true, Bool.true_and, k_gatepostref14_Read_1, r1]
      exact rlong_ok (t1 := []) lr q (by simp [upd, e0]) (by simp [upd, e2]) (by simp [upd, e5])
    · have p' : ¬ ((rest.getD k 0).toNat : Int) = 47 := fun e => p (UInt8.toNat_inj.1 (by have : (47 : UInt8).toNat = 47 := rfl; omega))
      have w1 : IntKind.i64.wrap ((k : Int) + 1) = ((k + 1 : Nat) : Int) := by rw [wrap64 (by omega) (by omega)]; omega
      simp (maxSteps := 4000000) only [vm, vl, Arg.get, cells, stor, boundO, resultsV, resV, partK, loadV, Vm.part, fillC, splice, reduceIte, reduceCtorEq, Nat.reduceEqDiff, Nat.reduceAdd, Nat.reduceSub, Nat.reduceMul, Nat.reduceLeDiff, ne_eq, not_false_eq_true, Int.reduceEq, Int.reduceLT, Int.reduceLE, Int.reduceNeg, Int.reduceToNat, Int.reduceGT, Int.reduceGE, Nat.reduceLT, Nat.lt_add_one, Nat.zero_lt_succ, Nat.succ_pos, Nat.zero_le, beq_self_eq_true, e0, e2, e5, q, q1, p', decide_true, decide_false, Bool.not_false, k_gatepostref14_Read_10, w1]
      refine ⟨rest.length - (k + 1), by omega, k + 1, rfl, by omega, rfl, ?_⟩
      intro j hj
      rcases Nat.lt_or_ge j k with h1 | h1
      · exact hn j h1
      · rw [show j = k by omega]; exact p
  · have q1 : ¬ (k : Int) < rest.length := by omega
    have em : k = rest.length := by omega
    have pn : pos 47 rest = rest.length := pos_none fun j hj => hn j (by omega)
    rw [pn, decide_eq_false (Nat.lt_irrefl _), endS_no (partS_no (longS_no (by simp only [Bool.and_false])))]
    subst em
    simp (maxSteps := 4000000) only [vm, vl, Arg.get, cells, stor, boundO, resultsV, resV, partK, loadV, Vm.part, fillC, splice, reduceIte, reduceCtorEq, Nat.reduceEqDiff, Nat.reduceAdd, Nat.reduceSub, Nat.reduceMul, Nat.reduceLeDiff, ne_eq, not_false_eq_true, Int.reduceEq, Int.reduceLT, Int.reduceLE, Int.reduceNeg, Int.reduceToNat, Int.reduceGT, Int.reduceGE, Nat.reduceLT, Nat.lt_add_one, Nat.zero_lt_succ, Nat.succ_pos, Nat.zero_le, beq_self_eq_true, e0, e2, e5, q1, eq_self, decide_true, decide_false, k_gatepostref14_Read_1]
theorem contV_tup (f t long : Int) : ∃ (s : Bs) (n : Int), contV f t long = .tup [.str s, .int .i64 n] := by
  unfold contV; split <;> exact ⟨_, _, rfl⟩
theorem readV_tup (o : Option (Int × Int × Int)) : ∃ (a b c : Int) (k : Bool), readV o = .tup [.agg [.int .i64 a, .int .i64 b], .int .i64 c, .bool k] := by
  rcases o with _ | ⟨a, b, c⟩ <;> exact ⟨_, _, _, _, rfl⟩
theorem cont_zero : contV 0 0 5 = .tup [.str [98, 121, 116, 101, 115, 32, 42, 47, 53], .int .i64 0] := by
  have : Go.Lib.itoa 5 = [53] := by
    have := itoa_nat' 5
    rw [show ((5 : Nat) : Int) = 5 from rfl, Go.Lib.decDigits_one (by omega)] at this; exact this
  unfold contV contT
  rw [if_pos (by decide), if_neg (by decide), if_pos (by decide), this]; rfl
theorem RangesContent_ok (HI : IndexOk L) (HT : ItoaOk L) {f t long : Int} {s : Bs} (hl : s.length ≤ 140737488351232) : Cf F L i_gatepostlaw14_RangesContent [.agg [.int .i64 f, .int .i64 t], .int .i64 long, .str s] h (fun v _ => v = .bool true) := by
  refine run_gatepostlaw14_RangesContent ?_
  simp only [p_gatepostlaw14_RangesContent]
  
  have q0 : ∀ (a b c d : Int), eqV (.agg [.i, .i]) (.agg [.int .i64 a, .int .i64 b]) (.agg [.int .i64 c, .int .i64 d]) = some (decide (a = c) && decide (b = d)) := fun _ _ _ _ => eq_ints
  obtain ⟨x, n, e1⟩ := contV_tup f t long
  obtain ⟨a, b, c, k, e2⟩ := readV_tup (readS s)
  have C1 : ∀ hh, Cf F L i_ranges_Content [.agg [.int .i64 f, .int .i64 t], .int .i64 long] hh (Pu hh (.tup [.str x, .int .i64 n])) := fun hh => by rw [← e1]; exact Content_ok HT
  have C2 : ∀ hh, Cf F L i_gatepostref14_Content [.agg [.int .i64 f, .int .i64 t], .int .i64 long] hh (Pu hh (.tup [.str x, .int .i64 n])) := fun hh => by rw [← e1]; exact RContent_ok
  have R1 : ∀ hh, Cf F L i_ranges_Read [.str s] hh (Pu hh (.tup [.agg [.int .i64 a, .int .i64 b], .int .i64 c, .bool k])) := fun hh => by rw [← e2]; exact Read_ok HI (by omega)
  have R2 : ∀ hh, Cf F L i_gatepostref14_Read [.str s] hh (Pu hh (.tup [.agg [.int .i64 a, .int .i64 b], .int .i64 c, .bool k])) := fun hh => by rw [← e2]; exact RRead_ok (by omega)
  have C3 : ∀ hh, Cf F L i_ranges_Content [.agg [.int .i64 0, .int .i64 0], .int .i64 5] hh (Pu hh (.tup [.str [98, 121, 116, 101, 115, 32, 42, 47, 53], .int .i64 0])) := fun hh => by rw [← cont_zero]; exact Content_ok HT
  have bb : (k == k) = true := by cases k <;> rfl
  simp (maxSteps := 4000000) only [vm, vl, Arg.get, cells, stor, boundO, resultsV, resV, partK, loadV, Vm.part, fillC, splice, reduceIte, reduceCtorEq, Nat.reduceEqDiff, Nat.reduceAdd, Nat.reduceSub, Nat.reduceMul, Nat.reduceLeDiff, ne_eq, not_false_eq_true, Int.reduceEq, Int.reduceLT, Int.reduceLE, Int.reduceNeg, Int.reduceToNat, Int.reduceGT, Int.reduceGE, Nat.reduceLT, Nat.lt_add_one, Nat.zero_lt_succ, Nat.succ_pos, Nat.zero_le, beq_self_eq_true]
  refine Cf.pu (C1 _) fun u1 => ?_
  simp (maxSteps := 4000000) only [vm, vl, Arg.get, cells, stor, boundO, resultsV, resV, partK, loadV, Vm.part, fillC, splice, reduceIte, reduceCtorEq, Nat.reduceEqDiff, Nat.reduceAdd, Nat.reduceSub, Nat.reduceMul, Nat.reduceLeDiff, ne_eq, not_false_eq_true, Int.reduceEq, Int.reduceLT, Int.reduceLE, Int.reduceNeg, Int.reduceToNat, Int.reduceGT, Int.reduceGE, Nat.reduceLT, Nat.lt_add_one, Nat.zero_lt_succ, Nat.succ_pos, Nat.zero_le, beq_self_eq_true]
  refine Cf.pu (C2 _) fun u2 => ?_
  simp (maxSteps := 4000000) only [vm, vl, Arg.get, cells, stor, boundO, resultsV, resV, partK, loadV, Vm.part, fillC, splice, reduceIte, reduceCtorEq, Nat.reduceEqDiff, Nat.reduceAdd, Nat.reduceSub, Nat.reduceMul, Nat.reduceLeDiff, ne_eq, not_false_eq_true, Int.reduceEq, Int.reduceLT, Int.reduceLE, Int.reduceNeg, Int.reduceToNat, Int.reduceGT, Int.reduceGE, Nat.reduceLT, Nat.lt_add_one, Nat.zero_lt_succ, Nat.succ_pos, Nat.zero_le, beq_self_eq_true]
  refine Cf.pu (R1 _) fun u3 => ?_
  simp (maxSteps := 4000000) only [vm, vl, Arg.get, cells, stor, boundO, resultsV, resV, partK, loadV, Vm.part, fillC, splice, reduceIte, reduceCtorEq, Nat.reduceEqDiff, Nat.reduceAdd, Nat.reduceSub, Nat.reduceMul, Nat.reduceLeDiff, ne_eq, not_false_eq_true, Int.reduceEq, Int.reduceLT, Int.reduceLE, Int.reduceNeg, Int.reduceToNat, Int.reduceGT, Int.reduceGE, Nat.reduceLT, Nat.lt_add_one, Nat.zero_lt_succ, Nat.succ_pos, Nat.zero_le, beq_self_eq_true]
  refine Cf.pu (R2 _) fun u4 => ?_
  simp (maxSteps := 4000000) only [vm, vl, Arg.get, cells, stor, boundO, resultsV, resV, partK, loadV, Vm.part, fillC, splice, reduceIte, reduceCtorEq, Nat.reduceEqDiff, Nat.reduceAdd, Nat.reduceSub, Nat.reduceMul, Nat.reduceLeDiff, ne_eq, not_false_eq_true, Int.reduceEq, Int.reduceLT, Int.reduceLE, Int.reduceNeg, Int.reduceToNat, Int.reduceGT, Int.reduceGE, Nat.reduceLT, Nat.lt_add_one, Nat.zero_lt_succ, Nat.succ_pos, Nat.zero_le, beq_self_eq_true]
  refine Cf.pu (C3 _) fun u5 => ?_
  simp (maxSteps := 4000000) only [vm, vl, Arg.get, cells, stor, boundO, resultsV, resV, partK, loadV, Vm.part, fillC, splice, reduceIte, reduceCtorEq, Nat.reduceEqDiff, Nat.reduceAdd, Nat.reduceSub, Nat.reduceMul, Nat.reduceLeDiff, ne_eq, not_false_eq_true, Int.reduceEq, Int.reduceLT, Int.reduceLE, Int.reduceNeg, Int.reduceToNat, Int.reduceGT, Int.reduceGE, Nat.reduceLT, Nat.lt_add_one, Nat.zero_lt_succ, Nat.succ_pos, Nat.zero_le, beq_self_eq_true, q0, eq_bool, bb, decide_true, Bool.and_self]
theorem RangesContent_row {x0 x1 x2 : V} (v0 : VPar [.l (.i .i64), .l (.i .i64)] x0) (v1 : VPar [.l (.i .i64)] x1) (v2 : VPar [.l .s] x2) (w : World) (ht : TabAt w) (vs : List Value) (hv : Rvs w.heap.size G0 w [x0, x1, x2] vs) :
    Calls Tryd.prog i_gatepostlaw14_RangesContent vs.toArray w fun e w' => e = .returned (.bool true) ∧ RowKit.Below w.heap.size w w' := by
  obtain ⟨f, t, rfl, _⟩ := ints_two v0
  obtain ⟨n, rfl, _⟩ := v1
  obtain ⟨s, rfl, hs⟩ := v2
  exact calls_at hm hF (lr_at ht) (RangesContent_ok (indexOk fun _ _ _ h => .inr h) (itoaOk fun _ _ _ h => .inl h) hs) hv
end Go.Proofs.YtlnhcdafagpfhaaDoor.Vh
