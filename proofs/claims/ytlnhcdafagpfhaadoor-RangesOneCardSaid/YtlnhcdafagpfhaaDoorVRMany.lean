/- RangesMany on the small machine. -/
import Derived.Test.YtlnhcdafagpfhaaDoorVRParse
set_option linter.unusedVariables false
set_option linter.unusedSimpArgs false
namespace Go.Proofs.YtlnhcdafagpfhaaDoor.Vh
open Go.Vm Go.Vt
attribute [local congr] wi_congr wg_congr wgd_congr wb_congr wl_congr cf_congr
variable {L : FuncId → List V → V → Prop} {h : Heap}
theorem Ndig1_ok {n : Nat} (hn : n < 10) : Cf F L i_gatepostlaw14_number [.int .i64 n] h (Pu h (.str (Go.Lib.decDigits n))) := by
  refine run_gatepostlaw14_number ?_
  simp only [p_gatepostlaw14_number]
  
  rw [Go.Lib.decDigits_one hn]
  have c := dig_cut n hn
  have w1 : IntKind.i64.wrap ((n : Int) + 1) = ((n + 1 : Nat) : Int) := by rw [wrap64 (by omega) (by omega)]; omega
  have l1 : n ≤ n + 1 := by omega
  have l3 : n + 1 ≤ 10 := by omega
  have n10 : (n : Int) < 10 := by omega
  generalize [UInt8.ofNat (48 + n)] = X at *
  have LD : ([48, 49, 50, 51, 52, 53, 54, 55, 56, 57] : Bs).length = 10 := rfl
  generalize ([48, 49, 50, 51, 52, 53, 54, 55, 56, 57] : Bs) = D at *
  simp (maxSteps := 4000000) only [vm, vl, Arg.get, cells, stor, boundO, resultsV, resV, partK, loadV, Vm.part, fillC, splice, reduceIte, reduceCtorEq, Nat.reduceEqDiff, Nat.reduceAdd, Nat.reduceSub, Nat.reduceMul, Nat.reduceLeDiff, ne_eq, not_false_eq_true, Int.reduceEq, Int.reduceLT, Int.reduceLE, Int.reduceNeg, Int.reduceToNat, Int.reduceGT, Int.reduceGE, Nat.reduceLT, Nat.lt_add_one, Nat.zero_lt_succ, Nat.succ_pos, Nat.zero_le, beq_self_eq_true, n10, decide_true, w1, LD, l1, l3, c]
theorem Ndig2_ok {k n : Nat} (hk : k ≤ 6) (hn : n < 100000000) (h1 : ¬ n < 10) (l1 : (Go.Lib.decDigits (n / 10)).length ≤ 7) (ih : ∀ hh, Cf F L i_gatepostlaw14_number [.int .i64 ((n / 10 : Nat) : Int)] hh (Pu hh (.str (Go.Lib.decDigits (n / 10))))) : Cf F L i_gatepostlaw14_number [.int .i64 n] h (Pu h (.str (Go.Lib.decDigits n))) := by
  refine run_gatepostlaw14_number ?_
  simp only [p_gatepostlaw14_number]
  have ih2 := fun hh => Ndig1_ok (L := L) (h := hh) (n := n % 10) (by omega)
  have l2 : (Go.Lib.decDigits (n % 10)).length ≤ 1 := dec_len 0 (n % 10) (by omega)
  rw [Go.Lib.decDigits_one (show n % 10 < 10 by omega)] at ih2 l2
  rw [dec_step (by omega)]
  have n10 : ¬ (n : Int) < 10 := by omega
  have q1 : IntKind.i64.wrap ((n : Int).tdiv 10) = ((n / 10 : Nat) : Int) := by rw [wquo (by omega) (by omega) (by omega)]; omega
  have q2 : (n : Int).tmod 10 = ((n % 10 : Nat) : Int) := by rw [Int.tmod_eq_emod_of_nonneg (by omega)]; omega
  have br : binV .rem (.int .i64 (n : Int)) (.int .i64 10) = some (.int .i64 ((n : Int).tmod 10)) := by simp [binV, binI]
  have bA : binV .add (.str (Go.Lib.decDigits (n / 10))) (.str [UInt8.ofNat (48 + n % 10)]) = some (.str (Go.Lib.decDigits (n / 10) ++ [UInt8.ofNat (48 + n % 10)])) := bin_sadd (by omega)
  generalize Go.Lib.decDigits (n / 10) = X at *
  generalize [UInt8.ofNat (48 + n % 10)] = Y at *
  simp (maxSteps := 4000000) only [vm, vl, Arg.get, cells, stor, boundO, resultsV, resV, partK, loadV, Vm.part, fillC, splice, reduceIte, reduceCtorEq, Nat.reduceEqDiff, Nat.reduceAdd, Nat.reduceSub, Nat.reduceMul, Nat.reduceLeDiff, ne_eq, not_false_eq_true, Int.reduceEq, Int.reduceLT, Int.reduceLE, Int.reduceNeg, Int.reduceToNat, Int.reduceGT, Int.reduceGE, Nat.reduceLT, Nat.lt_add_one, Nat.zero_lt_succ, Nat.succ_pos, Nat.zero_le, beq_self_eq_true, k_gatepostlaw14_number_0, n10, decide_false, q1, bin_quo', br, q2]
  refine Cf.pu (ih _) fun u1 => ?_
  try simp (maxSteps := 4000000) only [vm, vl, Arg.get, cells, stor, boundO, resultsV, resV, partK, loadV, Vm.part, fillC, splice, reduceIte, reduceCtorEq, Nat.reduceEqDiff, Nat.reduceAdd, Nat.reduceSub, Nat.reduceMul, Nat.reduceLeDiff, ne_eq, not_false_eq_true, Int.reduceEq, Int.reduceLT, Int.reduceLE, Int.reduceNeg, Int.reduceToNat, Int.reduceGT, Int.reduceGE, Nat.reduceLT, Nat.lt_add_one, Nat.zero_lt_succ, Nat.succ_pos, Nat.zero_le, beq_self_eq_true, k_gatepostlaw14_number_0, br, q2]
  refine Cf.pu (ih2 _) fun u2 => ?_
  simp (maxSteps := 4000000) only [vm, vl, Arg.get, cells, stor, boundO, resultsV, resV, partK, loadV, Vm.part, fillC, splice, reduceIte, reduceCtorEq, Nat.reduceEqDiff, Nat.reduceAdd, Nat.reduceSub, Nat.reduceMul, Nat.reduceLeDiff, ne_eq, not_false_eq_true, Int.reduceEq, Int.reduceLT, Int.reduceLE, Int.reduceNeg, Int.reduceToNat, Int.reduceGT, Int.reduceGE, Nat.reduceLT, Nat.lt_add_one, Nat.zero_lt_succ, Nat.succ_pos, Nat.zero_le, beq_self_eq_true, k_gatepostlaw14_number_0, bA]
theorem Ndig_ok : ∀ (k n : Nat) {h : Heap}, k ≤ 6 → n < 10 ^ (k + 1) → Cf F L i_gatepostlaw14_number [.int .i64 n] h (Pu h (.str (Go.Lib.decDigits n)))
  | 0, n, h, hk, hn => Ndig1_ok (by omega)
  | k + 1, n, h, hk, hn => by
    by_cases h1 : n < 10
    · exact Ndig1_ok h1
    have n64 : n < 100000000 := Nat.lt_of_lt_of_le hn (Nat.le_trans (Nat.pow_le_pow_right (by omega) (show k + 1 + 1 ≤ 8 by omega)) (by decide))
    exact Ndig2_ok hk n64 h1 (Nat.le_trans (dec_len k (n / 10) (by rw [Nat.pow_succ] at hn; omega)) (by omega)) fun hh => Ndig_ok k (n / 10) (by omega) (by rw [Nat.pow_succ] at hn; omega)
theorem Nnum_ok {n : Int} (h0 : 0 ≤ n) (h1 : n ≤ 9999999) : Cf F L i_gatepostlaw14_number [.int .i64 n] h (Pu h (.str (Go.Lib.itoa n))) := by
  obtain ⟨k, rfl⟩ : ∃ k : Nat, n = k := ⟨n.toNat, by omega⟩
  rw [itoa_nat']
  exact Ndig_ok 6 k (by omega) (by omega)
def dig2 (n : Nat) : Bs := if n < 10 then [UInt8.ofNat (48 + n)] else [UInt8.ofNat (48 + n / 10), UInt8.ofNat (48 + n % 10)]
theorem dec_two {n : Nat} (h : n < 100) : Go.Lib.decDigits n = dig2 n := by
  unfold dig2
  by_cases h1 : n < 10
  · rw [if_pos h1, Go.Lib.decDigits_one h1]
  · rw [if_neg h1, Go.Lib.decDigits_two h1 h]
theorem dig2_len (n : Nat) : (dig2 n).length ≤ 2 := by unfold dig2; split <;> simp
theorem number_ok {n : Nat} (h1 : n < 100) : Cf F L i_gatepostlaw14_number [.int .i64 n] h (Pu h (.str (dig2 n))) := by
  rw [← dec_two h1]; exact Ndig_ok 6 n (by omega) (by omega)
def manyS : Nat → Bs
  | 0 => [98, 121, 116, 101, 115, 61]
  | i + 1 => manyS i ++ dig2 i ++ [45] ++ dig2 i ++ [44]
theorem many_len : ∀ n, (manyS n).length ≤ 6 + 6 * n
  | 0 => by simp [manyS]
  | n + 1 => by
    have := many_len n
    have := dig2_len n
    simp only [manyS, List.length_append, List.length_cons, List.length_nil]; omega
def manyW (n : Nat) : List (Int × Int) := (List.range n).map fun (i : Nat) => ((i : Int), (i : Int))
theorem many_parse : ∀ k, k < 8 → parseR (manyS (28 + k)) = if 28 + k ≤ 32 then some (manyW (28 + k)) else none := by decide +kernel
theorem many_pick : ∀ k, k < 5 → ∀ m, m < 64 → endP (picks (m : Nat) (manyW (28 + k))) = if m = 0 then ((0, 0), 2) else if m = 1 then ((0, 1), 1) else ((0, 0), 0) := by decide +kernel
theorem many0_ok (HI : IndexOk L) {k m : Nat} {u : Heap} (hk : k < 8) (hm : m < 64) : k_gatepostlaw14_RangesMany_0 L (fun v _ => v = .bool true) (.int .i64 ((28 + k : Nat) : Int)) (.int .i64 m) (.str (manyS (28 + k))) (h ++ u) := by
  
  unfold k_gatepostlaw14_RangesMany_0
  have q0 : ∀ (a b c d : Int), eqV (.agg [.i, .i]) (.agg [.int .i64 a, .int .i64 b]) (.agg [.int .i64 c, .int .i64 d]) = some (decide (a = c) && decide (b = d)) := fun _ _ _ _ => eq_ints
  have ml := many_len (28 + k)
  have mp := many_parse k hk
  have PA := fun hh => Parse_ok (L := L) (h := hh) HI (s := manyS (28 + k)) (by omega)
  have PI := fun hh => Pick_ok (L := L) (h := hh) HI (s := manyS (28 + k)) (long := m) (by omega)
  rw [mp] at PA PI
  generalize manyS (28 + k) = s at *
  by_cases c : 28 + k ≤ 32
  · rw [if_pos c] at PA PI
    have pk := many_pick k (by omega) m hm
    have pe : pickR (some (manyW (28 + k))) m = endP (picks m (manyW (28 + k))) := if_neg (by omega)
    rw [pe, pk] at PI
    have wl : (wants (manyW (28 + k))).length = 28 + k := by rw [wants_len]; unfold manyW; simp
    have c' : ((28 + k : Nat) : Int) ≤ 32 := by omega
    have c0 : ¬ (m : Int) < 0 := by omega
    simp (maxSteps := 4000000) only [vm, vl, Arg.get, cells, stor, boundO, resultsV, resV, partK, loadV, Vm.part, fillC, splice, reduceIte, reduceCtorEq, Nat.reduceEqDiff, Nat.reduceAdd, Nat.reduceSub, Nat.reduceMul, Nat.reduceLeDiff, ne_eq, not_false_eq_true, Int.reduceEq, Int.reduceLT, Int.reduceLE, Int.reduceNeg, Int.reduceToNat, Int.reduceGT, Int.reduceGE, Nat.reduceLT, Nat.lt_add_one, Nat.zero_lt_succ, Nat.succ_pos, Nat.zero_le, beq_self_eq_true, k_gatepostlaw14_RangesMany_4, k_gatepostlaw14_RangesMany_3, k_gatepostlaw14_RangesMany_2, k_gatepostlaw14_RangesMany_1, k_gatepostlaw14_RangesMany_0, k_gatepostlaw14_RangesMany_6, k_gatepostlaw14_RangesMany_5]
    refine (PA _).mono fun v h' hp => ?_
    obtain ⟨⟨t, rfl⟩, ⟨e, rfl⟩ | ⟨ws, x, e, hn, rfl, hl⟩⟩ := hp
    · cases e
    injection e with e
    subst e
    have hx : ∃ o, x = .sl 2 o (wants (manyW (28 + k))) := by
      rcases hl with ⟨h1, _⟩ | h1
      · rw [h1] at wl; simp at wl; omega
      · exact h1
    obtain ⟨o, rfl⟩ := hx
    generalize wants (manyW (28 + k)) = WL at *
    have wl' : (WL.length : Int) = ((28 + k : Nat) : Int) := by rw [wl]
    generalize ((28 + k : Nat) : Int) = N at *
    by_cases m0 : m = 0
    · rw [if_pos m0] at PI
      have m0' : (m : Int) = 0 := by omega
      simp (maxSteps := 4000000) only [vm, vl, Arg.get, cells, stor, boundO, resultsV, resV, partK, loadV, Vm.part, fillC, splice, reduceIte, reduceCtorEq, Nat.reduceEqDiff, Nat.reduceAdd, Nat.reduceSub, Nat.reduceMul, Nat.reduceLeDiff, ne_eq, not_false_eq_true, Int.reduceEq, Int.reduceLT, Int.reduceLE, Int.reduceNeg, Int.reduceToNat, Int.reduceGT, Int.reduceGE, Nat.reduceLT, Nat.lt_add_one, Nat.zero_lt_succ, Nat.succ_pos, Nat.zero_le, beq_self_eq_true, k_gatepostlaw14_RangesMany_4, k_gatepostlaw14_RangesMany_3, k_gatepostlaw14_RangesMany_2, k_gatepostlaw14_RangesMany_1, k_gatepostlaw14_RangesMany_0, k_gatepostlaw14_RangesMany_6, k_gatepostlaw14_RangesMany_5]
      refine Cf.pu (PI _) fun t2 => ?_
      simp (maxSteps := 4000000) only [vm, vl, Arg.get, cells, stor, boundO, resultsV, resV, partK, loadV, Vm.part, fillC, splice, reduceIte, reduceCtorEq, Nat.reduceEqDiff, Nat.reduceAdd, Nat.reduceSub, Nat.reduceMul, Nat.reduceLeDiff, ne_eq, not_false_eq_true, Int.reduceEq, Int.reduceLT, Int.reduceLE, Int.reduceNeg, Int.reduceToNat, Int.reduceGT, Int.reduceGE, Nat.reduceLT, Nat.lt_add_one, Nat.zero_lt_succ, Nat.succ_pos, Nat.zero_le, beq_self_eq_true, k_gatepostlaw14_RangesMany_4, k_gatepostlaw14_RangesMany_3, k_gatepostlaw14_RangesMany_2, k_gatepostlaw14_RangesMany_1, k_gatepostlaw14_RangesMany_0, k_gatepostlaw14_RangesMany_6, k_gatepostlaw14_RangesMany_5, pickV, c', wl', m0', eq_bool, q0, decide_true, decide_false, Bool.not_true, Bool.not_false, beq_self_eq_true]
    · rw [if_neg m0] at PI
      have m0' : ¬ (m : Int) = 0 := by omega
      by_cases m1 : m = 1
      · rw [if_pos m1] at PI
        have m1' : (m : Int) = 1 := by omega
        simp (maxSteps := 4000000) only [vm, vl, Arg.get, cells, stor, boundO, resultsV, resV, partK, loadV, Vm.part, fillC, splice, reduceIte, reduceCtorEq, Nat.reduceEqDiff, Nat.reduceAdd, Nat.reduceSub, Nat.reduceMul, Nat.reduceLeDiff, ne_eq, not_false_eq_true, Int.reduceEq, Int.reduceLT, Int.reduceLE, Int.reduceNeg, Int.reduceToNat, Int.reduceGT, Int.reduceGE, Nat.reduceLT, Nat.lt_add_one, Nat.zero_lt_succ, Nat.succ_pos, Nat.zero_le, beq_self_eq_true, k_gatepostlaw14_RangesMany_4, k_gatepostlaw14_RangesMany_3, k_gatepostlaw14_RangesMany_2, k_gatepostlaw14_RangesMany_1, k_gatepostlaw14_RangesMany_0, k_gatepostlaw14_RangesMany_6, k_gatepostlaw14_RangesMany_5]
        refine Cf.pu (PI _) fun t2 => ?_
        simp (maxSteps := 4000000) only [vm, vl, Arg.get, cells, stor, boundO, resultsV, resV, partK, loadV, Vm.part, fillC, splice, reduceIte, reduceCtorEq, Nat.reduceEqDiff, Nat.reduceAdd, Nat.reduceSub, Nat.reduceMul, Nat.reduceLeDiff, ne_eq, not_false_eq_true, Int.reduceEq, Int.reduceLT, Int.reduceLE, Int.reduceNeg, Int.reduceToNat, Int.reduceGT, Int.reduceGE, Nat.reduceLT, Nat.lt_add_one, Nat.zero_lt_succ, Nat.succ_pos, Nat.zero_le, beq_self_eq_true, k_gatepostlaw14_RangesMany_4, k_gatepostlaw14_RangesMany_3, k_gatepostlaw14_RangesMany_2, k_gatepostlaw14_RangesMany_1, k_gatepostlaw14_RangesMany_0, k_gatepostlaw14_RangesMany_6, k_gatepostlaw14_RangesMany_5, pickV, c', wl', m0', m1', eq_bool, q0, decide_true, decide_false, Bool.not_true, Bool.not_false, beq_self_eq_true, Bool.and_self]
      · rw [if_neg m1] at PI
        have m1' : ¬ (m : Int) = 1 := by omega
        simp (maxSteps := 4000000) only [vm, vl, Arg.get, cells, stor, boundO, resultsV, resV, partK, loadV, Vm.part, fillC, splice, reduceIte, reduceCtorEq, Nat.reduceEqDiff, Nat.reduceAdd, Nat.reduceSub, Nat.reduceMul, Nat.reduceLeDiff, ne_eq, not_false_eq_true, Int.reduceEq, Int.reduceLT, Int.reduceLE, Int.reduceNeg, Int.reduceToNat, Int.reduceGT, Int.reduceGE, Nat.reduceLT, Nat.lt_add_one, Nat.zero_lt_succ, Nat.succ_pos, Nat.zero_le, beq_self_eq_true, k_gatepostlaw14_RangesMany_4, k_gatepostlaw14_RangesMany_3, k_gatepostlaw14_RangesMany_2, k_gatepostlaw14_RangesMany_1, k_gatepostlaw14_RangesMany_0, k_gatepostlaw14_RangesMany_6, k_gatepostlaw14_RangesMany_5]
        refine Cf.pu (PI _) fun t2 => ?_
        simp (maxSteps := 4000000) only [vm, vl, Arg.get, cells, stor, boundO, resultsV, resV, partK, loadV, Vm.part, fillC, splice, reduceIte, reduceCtorEq, Nat.reduceEqDiff, Nat.reduceAdd, Nat.reduceSub, Nat.reduceMul, Nat.reduceLeDiff, ne_eq, not_false_eq_true, Int.reduceEq, Int.reduceLT, Int.reduceLE, Int.reduceNeg, Int.reduceToNat, Int.reduceGT, Int.reduceGE, Nat.reduceLT, Nat.lt_add_one, Nat.zero_lt_succ, Nat.succ_pos, Nat.zero_le, beq_self_eq_true, k_gatepostlaw14_RangesMany_4, k_gatepostlaw14_RangesMany_3, k_gatepostlaw14_RangesMany_2, k_gatepostlaw14_RangesMany_1, k_gatepostlaw14_RangesMany_0, k_gatepostlaw14_RangesMany_6, k_gatepostlaw14_RangesMany_5, pickV, c', wl', m0', m1', eq_bool, q0, decide_true, decide_false, Bool.not_true, Bool.not_false, beq_self_eq_true, Bool.and_self]
  · rw [if_neg c] at PA PI
    have c' : ¬ ((28 + k : Nat) : Int) ≤ 32 := by omega
    generalize ((28 + k : Nat) : Int) = N at *
    simp (maxSteps := 4000000) only [vm, vl, Arg.get, cells, stor, boundO, resultsV, resV, partK, loadV, Vm.part, fillC, splice, reduceIte, reduceCtorEq, Nat.reduceEqDiff, Nat.reduceAdd, Nat.reduceSub, Nat.reduceMul, Nat.reduceLeDiff, ne_eq, not_false_eq_true, Int.reduceEq, Int.reduceLT, Int.reduceLE, Int.reduceNeg, Int.reduceToNat, Int.reduceGT, Int.reduceGE, Nat.reduceLT, Nat.lt_add_one, Nat.zero_lt_succ, Nat.succ_pos, Nat.zero_le, beq_self_eq_true, k_gatepostlaw14_RangesMany_4, k_gatepostlaw14_RangesMany_3, k_gatepostlaw14_RangesMany_2, k_gatepostlaw14_RangesMany_1, k_gatepostlaw14_RangesMany_0, k_gatepostlaw14_RangesMany_6, k_gatepostlaw14_RangesMany_5]
    refine (PA _).mono fun v h' hp => ?_
    obtain ⟨⟨t, rfl⟩, ⟨e, rfl⟩ | ⟨ws, x, e, hn, rfl, hl⟩⟩ := hp
    case inr => cases e
    simp (maxSteps := 4000000) only [vm, vl, Arg.get, cells, stor, boundO, resultsV, resV, partK, loadV, Vm.part, fillC, splice, reduceIte, reduceCtorEq, Nat.reduceEqDiff, Nat.reduceAdd, Nat.reduceSub, Nat.reduceMul, Nat.reduceLeDiff, ne_eq, not_false_eq_true, Int.reduceEq, Int.reduceLT, Int.reduceLE, Int.reduceNeg, Int.reduceToNat, Int.reduceGT, Int.reduceGE, Nat.reduceLT, Nat.lt_add_one, Nat.zero_lt_succ, Nat.succ_pos, Nat.zero_le, beq_self_eq_true, k_gatepostlaw14_RangesMany_4, k_gatepostlaw14_RangesMany_3, k_gatepostlaw14_RangesMany_2, k_gatepostlaw14_RangesMany_1, k_gatepostlaw14_RangesMany_0, k_gatepostlaw14_RangesMany_6, k_gatepostlaw14_RangesMany_5]
    refine Cf.pu (PI _) fun t2 => ?_
    simp (maxSteps := 4000000) only [vm, vl, Arg.get, cells, stor, boundO, resultsV, resV, partK, loadV, Vm.part, fillC, splice, reduceIte, reduceCtorEq, Nat.reduceEqDiff, Nat.reduceAdd, Nat.reduceSub, Nat.reduceMul, Nat.reduceLeDiff, ne_eq, not_false_eq_true, Int.reduceEq, Int.reduceLT, Int.reduceLE, Int.reduceNeg, Int.reduceToNat, Int.reduceGT, Int.reduceGE, Nat.reduceLT, Nat.lt_add_one, Nat.zero_lt_succ, Nat.succ_pos, Nat.zero_le, beq_self_eq_true, k_gatepostlaw14_RangesMany_4, k_gatepostlaw14_RangesMany_3, k_gatepostlaw14_RangesMany_2, k_gatepostlaw14_RangesMany_1, k_gatepostlaw14_RangesMany_0, k_gatepostlaw14_RangesMany_6, k_gatepostlaw14_RangesMany_5, pickR, pickV, c', eq_bool, q0, decide_true, decide_false, Bool.not_true, Bool.not_false, beq_self_eq_true]
theorem RangesMany_ok (HI : IndexOk L) {n long : Int} : Cf F L i_gatepostlaw14_RangesMany [.int .i64 n, .int .i64 long] h (fun v _ => v = .bool true) := by
  refine run_gatepostlaw14_RangesMany ?_
  simp only [p_gatepostlaw14_RangesMany]
  
  obtain ⟨b0, b1⟩ := andI_range n 7 (by omega) (by omega)
  obtain ⟨c0, c1⟩ := andI_range long 63 (by omega) (by omega)
  generalize hA : bitsI .and .i64 n 7 = A at *
  generalize hC : bitsI .and .i64 long 63 = C at *
  obtain ⟨k, rfl⟩ : ∃ k : Nat, A = k := ⟨A.toNat, by omega⟩
  obtain ⟨m, rfl⟩ : ∃ k : Nat, C = k := ⟨C.toNat, by omega⟩
  have w1 : IntKind.i64.wrap (28 + (k : Int)) = ((28 + k : Nat) : Int) := by rw [wrap64 (by omega) (by omega)]; omega
  simp (maxSteps := 4000000) only [vm, vl, Arg.get, cells, stor, boundO, resultsV, resV, partK, loadV, Vm.part, fillC, splice, reduceIte, reduceCtorEq, Nat.reduceEqDiff, Nat.reduceAdd, Nat.reduceSub, Nat.reduceMul, Nat.reduceLeDiff, ne_eq, not_false_eq_true, Int.reduceEq, Int.reduceLT, Int.reduceLE, Int.reduceNeg, Int.reduceToNat, Int.reduceGT, Int.reduceGE, Nat.reduceLT, Nat.lt_add_one, Nat.zero_lt_succ, Nat.succ_pos, Nat.zero_le, beq_self_eq_true, hA, hC, w1]
  refine l_gatepostlaw14_RangesMany_0 (fun n e h' => ∃ j : Nat, n = 28 + k - j ∧ j ≤ 28 + k ∧ e 0 = .int .i64 ((28 + k : Nat) : Int) ∧ e 1 = .int .i64 m ∧ e 5 = .str (manyS j) ∧ e 6 = .int .i64 j ∧ ∃ t, h' = h ++ t) ?_ (n := 28 + k) ⟨0, by simp, by simp, rfl, rfl, rfl, rfl, [], by simp⟩
  rintro n e h' ⟨j, rfl, hj, e0, e1, e5, e6, t, rfl⟩
  simp only [b_gatepostlaw14_RangesMany_0]
  by_cases q : j < 28 + k
  · have q' : (j : Int) < ((28 + k : Nat) : Int) := by omega
    have ml := many_len j
    have dl := dig2_len j
    obtain ⟨A1, hA1⟩ : ∃ A, A = manyS j ++ dig2 j := ⟨_, rfl⟩
    obtain ⟨A2, hA2⟩ : ∃ A, A = A1 ++ [45] := ⟨_, rfl⟩
    obtain ⟨A3, hA3⟩ : ∃ A, A = A2 ++ dig2 j := ⟨_, rfl⟩
    obtain ⟨A4, hA4⟩ : ∃ A, A = A3 ++ [44] := ⟨_, rfl⟩
    have l1 : A1.length ≤ 1000 := by rw [hA1, List.length_append]; omega
    have l2 : A2.length ≤ 1001 := by rw [hA2, List.length_append, List.length_singleton]; omega
    have l3 : A3.length ≤ 1003 := by rw [hA3, List.length_append]; omega
    have b1 : binV .add (.str (manyS j)) (.str (dig2 j)) = some (.str A1) := by rw [hA1]; exact bin_sadd (by omega)
    have b2 : binV .add (.str A1) (.str [45]) = some (.str A2) := by rw [hA2]; exact bin_sadd (by rw [List.length_singleton]; omega)
    have b3 : binV .add (.str A2) (.str (dig2 j)) = some (.str A3) := by rw [hA3]; exact bin_sadd (by omega)
    have b4 : binV .add (.str A3) (.str [44]) = some (.str A4) := by rw [hA4]; exact bin_sadd (by rw [List.length_singleton]; omega)
    have eM : manyS (j + 1) = A4 := by rw [hA4, hA3, hA2, hA1]; rfl
    have N1 := fun hh => number_ok (L := L) (h := hh) (n := j) (by omega)
    have w2 : IntKind.i64.wrap ((j : Int) + 1) = ((j + 1 : Nat) : Int) := by rw [wrap64 (by omega) (by omega)]; omega
    simp (maxSteps := 4000000) only [vm, vl, Arg.get, cells, stor, boundO, resultsV, resV, partK, loadV, Vm.part, fillC, splice, reduceIte, reduceCtorEq, Nat.reduceEqDiff, Nat.reduceAdd, Nat.reduceSub, Nat.reduceMul, Nat.reduceLeDiff, ne_eq, not_false_eq_true, Int.reduceEq, Int.reduceLT, Int.reduceLE, Int.reduceNeg, Int.reduceToNat, Int.reduceGT, Int.reduceGE, Nat.reduceLT, Nat.lt_add_one, Nat.zero_lt_succ, Nat.succ_pos, Nat.zero_le, beq_self_eq_true, e0, e1, e5, e6, q', decide_true, k_gatepostlaw14_RangesMany_5]
    refine Cf.pu (N1 _) fun u1 => ?_
    simp (maxSteps := 4000000) only [vm, vl, Arg.get, cells, stor, boundO, resultsV, resV, partK, loadV, Vm.part, fillC, splice, reduceIte, reduceCtorEq, Nat.reduceEqDiff, Nat.reduceAdd, Nat.reduceSub, Nat.reduceMul, Nat.reduceLeDiff, ne_eq, not_false_eq_true, Int.reduceEq, Int.reduceLT, Int.reduceLE, Int.reduceNeg, Int.reduceToNat, Int.reduceGT, Int.reduceGE, Nat.reduceLT, Nat.lt_add_one, Nat.zero_lt_succ, Nat.succ_pos, Nat.zero_le, beq_self_eq_true, b1, b2]
    refine Cf.pu (N1 _) fun u2 => ?_
    simp (maxSteps := 4000000) only [vm, vl, Arg.get, cells, stor, boundO, resultsV, resV, partK, loadV, Vm.part, fillC, splice, reduceIte, reduceCtorEq, Nat.reduceEqDiff, Nat.reduceAdd, Nat.reduceSub, Nat.reduceMul, Nat.reduceLeDiff, ne_eq, not_false_eq_true, Int.reduceEq, Int.reduceLT, Int.reduceLE, Int.reduceNeg, Int.reduceToNat, Int.reduceGT, Int.reduceGE, Nat.reduceLT, Nat.lt_add_one, Nat.zero_lt_succ, Nat.succ_pos, Nat.zero_le, beq_self_eq_true, b3, b4, w2, k_gatepostlaw14_RangesMany_6]
    exact ⟨28 + k - (j + 1), by omega, j + 1, rfl, by omega, e0, e1, by rw [eM], rfl, _, rfl⟩
  · have q' : ¬ (j : Int) < ((28 + k : Nat) : Int) := by omega
    have ej : j = 28 + k := by omega
    subst ej
    simp (maxSteps := 4000000) only [vm, vl, Arg.get, e0, e1, e5, e6, q', decide_false]
    exact many0_ok HI (by omega) (by omega)
theorem RangesMany_row {x0 x1 : V} (v0 : VPar [.l (.i .i64)] x0) (v1 : VPar [.l (.i .i64)] x1) (w : World) (vs : List Value) (hv : Rvs w.heap.size G0 w [x0, x1] vs) :
    Calls Tryd.prog i_gatepostlaw14_RangesMany vs.toArray w fun e w' => e = .returned (.bool true) ∧ RowKit.Below w.heap.size w w' := by
  obtain ⟨n, rfl, _⟩ := v0
  obtain ⟨m, rfl, _⟩ := v1
  exact calls_at hm hF (index_at w) (RangesMany_ok (indexOk fun _ _ _ h => h)) hv
end Go.Proofs.YtlnhcdafagpfhaaDoor.Vh
