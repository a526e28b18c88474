/- RangesOne on the small machine. -/
import Derived.Test.YtlnhcdafagpfhaaDoorVRMany
set_option linter.unusedVariables false
set_option linter.unusedSimpArgs false
namespace Go.Proofs.YtlnhcdafagpfhaaDoor.Vh
open Go.Vm Go.Vt
attribute [local congr] wi_congr wg_congr wgd_congr wb_congr wl_congr cf_congr
variable {L : FuncId → List V → V → Prop} {h : Heap}
def oneT (a b : Nat) : Bs := dig2 a ++ [45] ++ dig2 b
theorem one_p1' : ∀ a, a < 32 → ∀ b, b < 32 → (decide (b < a) || decide (parseR ([98, 121, 116, 101, 115, 61] ++ oneT a b) = some [(((a : Nat) : Int), ((b : Nat) : Int))])) = true := by decide +kernel
theorem one_p1 (a : Nat) (ha : a < 32) (b : Nat) (hb : b < 32) (h : a ≤ b) : parseR ([98, 121, 116, 101, 115, 61] ++ oneT a b) = some [(((a : Nat) : Int), ((b : Nat) : Int))] := by
  have := one_p1' a ha b hb
  rw [decide_eq_false (by omega : ¬ b < a), Bool.false_or, decide_eq_true_eq] at this
  exact this
theorem one_p2' : ∀ a, a < 32 → ∀ b, b < 32 → (decide (b < a) || decide (parseR ([66, 89, 84, 69, 83, 61] ++ oneT a b ++ [44, 32, 48, 45, 48]) = some [(((a : Nat) : Int), ((b : Nat) : Int)), (0, 0)])) = true := by decide +kernel
theorem one_p2 (a : Nat) (ha : a < 32) (b : Nat) (hb : b < 32) (h : a ≤ b) : parseR ([66, 89, 84, 69, 83, 61] ++ oneT a b ++ [44, 32, 48, 45, 48]) = some [(((a : Nat) : Int), ((b : Nat) : Int)), (0, 0)] := by
  have := one_p2' a ha b hb
  rw [decide_eq_false (by omega : ¬ b < a), Bool.false_or, decide_eq_true_eq] at this
  exact this
theorem one_p3 : ∀ a, a < 32 → parseR ([98, 121, 116, 101, 115, 61, 45] ++ dig2 a) = some [(-1, ((a : Nat) : Int))] := by decide +kernel
theorem one_res {a b m : Int} (a0 : 0 ≤ a) (ab : a ≤ b) (b1 : b < 32) (m0 : 0 ≤ m) (m1 : m < 32) : resS a b m = if a < m then some (a, min (b + 1) m) else none := by
  have hf : fineB a b = true := decide_eq_true (by omega)
  have hc : clipS a b m = (a, min (b + 1) m) := by
    unfold clipS
    rw [if_neg (by omega)]
    split
    · congr 1; omega
    · congr 1; omega
  unfold resS
  rw [hc]
  by_cases c : a < m
  · rw [if_pos c, if_pos ⟨m0, by omega, hf, by simp only; omega⟩]
  · rw [if_neg c, if_neg (fun h => by have := h.2.2.2; simp only at this; omega)]
theorem one_suf {a m : Int} (a0 : 0 ≤ a) (a1 : a < 32) (m0 : 0 ≤ m) (m1 : m < 32) : resS (-1) a m = if a = 0 ∨ m = 0 then none else some (max 0 (m - a), m) := by
  have hf : fineB (-1) a = true := decide_eq_true (by omega)
  have hc : clipS (-1) a m = (max 0 (m - a), m) := rfl
  unfold resS
  rw [hc]
  by_cases c : a = 0 ∨ m = 0
  · rw [if_pos c, if_neg (fun h => by have := h.2.2.2; simp only at this; omega)]
  · rw [if_neg c, if_pos ⟨m0, by omega, hf, by simp only; omega⟩]
theorem one_k1 {a b m : Nat} (ab : a ≤ b) (b1 : b < 32) (m1 : m < 32) : pickR (some [((a : Int), (b : Int))]) m = if a < m then (((a : Int), min ((b : Int) + 1) m), 1) else ((0, 0), 2) := by
  rw [show pickR (some [((a : Int), (b : Int))]) m = endP (picks m [((a : Int), (b : Int))]) from if_neg (by omega)]
  unfold picks
  simp only [List.filterMap_cons, List.filterMap_nil]
  rw [one_res (by omega) (by omega) (by omega) (by omega) (by omega)]
  by_cases c : a < m
  · rw [if_pos (by omega), if_pos c]; rfl
  · rw [if_neg (by omega), if_neg c]; rfl
theorem one_k2 {a b m : Nat} (ab : a ≤ b) (b1 : b < 32) (m1 : m < 32) (c : a < m) : pickR (some [((a : Int), (b : Int)), (0, 0)]) m = ((0, 0), 0) := by
  rw [show pickR (some [((a : Int), (b : Int)), (0, 0)]) m = endP (picks m [((a : Int), (b : Int)), (0, 0)]) from if_neg (by omega)]
  unfold picks
  simp only [List.filterMap_cons, List.filterMap_nil]
  rw [one_res (by omega) (by omega) (by omega) (by omega) (by omega), if_pos (by omega), one_res (a := 0) (b := 0) (by omega) (by omega) (by omega) (by omega) (by omega), if_pos (by omega)]
  rfl
theorem one_k3 {a m : Nat} (a1 : a < 32) (m1 : m < 32) : pickR (some [(-1, (a : Int))]) m = if a = 0 ∨ m = 0 then ((0, 0), 2) else ((max 0 ((m : Int) - a), (m : Int)), 1) := by
  rw [show pickR (some [(-1, (a : Int))]) m = endP (picks m [(-1, (a : Int))]) from if_neg (by omega)]
  unfold picks
  simp only [List.filterMap_cons, List.filterMap_nil]
  rw [one_suf (by omega) (by omega) (by omega) (by omega)]
  by_cases c : a = 0 ∨ m = 0
  · rw [if_pos (by omega), if_pos c]; rfl
  · rw [if_neg (by omega), if_neg c]; rfl
theorem one0_ok (HI : IndexOk L) {a b m : Nat} {u : Heap} (ab : a ≤ b) (b1 : b < 32) (m1 : m < 32) : k_gatepostlaw14_RangesOne_0 L (fun v _ => v = .bool true) (.int .i64 a) (.int .i64 b) (.int .i64 m) (h ++ u) := by
  
  unfold k_gatepostlaw14_RangesOne_0
  have q0 : ∀ (a b c d : Int), eqV (.agg [.i, .i]) (.agg [.int .i64 a, .int .i64 b]) (.agg [.int .i64 c, .int .i64 d]) = some (decide (a = c) && decide (b = d)) := fun _ _ _ _ => eq_ints
  have q1 : ∀ (a b c d : Int), eqV (.agg [.i, .i]) (.agg [.int .i64 a, .int .i64 b]) (.agg [.int .i64 c, .int .i64 d]) = some (decide (a = c) && decide (b = d)) := q0
  have d1 := dig2_len a
  have d2 := dig2_len b
  have N1 := fun hh => number_ok (L := L) (h := hh) (n := a) (by omega)
  have N2 := fun hh => number_ok (L := L) (h := hh) (n := b) (by omega)
  obtain ⟨A1, hA1⟩ : ∃ A, A = dig2 a ++ [45] := ⟨_, rfl⟩
  obtain ⟨A2, hA2⟩ : ∃ A, A = A1 ++ dig2 b := ⟨_, rfl⟩
  obtain ⟨A3, hA3⟩ : ∃ A : Bs, A = [98, 121, 116, 101, 115, 61] ++ A2 := ⟨_, rfl⟩
  obtain ⟨A4, hA4⟩ : ∃ A : Bs, A = [66, 89, 84, 69, 83, 61] ++ A2 := ⟨_, rfl⟩
  obtain ⟨A5, hA5⟩ : ∃ A : Bs, A = A4 ++ [44, 32, 48, 45, 48] := ⟨_, rfl⟩
  obtain ⟨A6, hA6⟩ : ∃ A : Bs, A = [98, 121, 116, 101, 115, 61, 45] ++ dig2 a := ⟨_, rfl⟩
  have l1 : A1.length ≤ 3 := by rw [hA1, List.length_append, List.length_singleton]; omega
  have l2 : A2.length ≤ 5 := by rw [hA2, List.length_append]; omega
  have l3 : A3.length ≤ 11 := by rw [hA3, List.length_append]; simp only [List.length_cons, List.length_nil]; omega
  have l4 : A4.length ≤ 11 := by rw [hA4, List.length_append]; simp only [List.length_cons, List.length_nil]; omega
  have l5 : A5.length ≤ 16 := by rw [hA5, List.length_append]; simp only [List.length_cons, List.length_nil]; omega
  have l6 : A6.length ≤ 9 := by rw [hA6, List.length_append]; simp only [List.length_cons, List.length_nil]; omega
  have b1' : binV .add (.str (dig2 a)) (.str [45]) = some (.str A1) := by rw [hA1]; exact bin_sadd (by rw [List.length_singleton]; omega)
  have b2 : binV .add (.str A1) (.str (dig2 b)) = some (.str A2) := by rw [hA2]; exact bin_sadd (by omega)
  have b3 : binV .add (.str [98, 121, 116, 101, 115, 61]) (.str A2) = some (.str A3) := by rw [hA3]; exact bin_sadd (by simp only [List.length_cons, List.length_nil]; omega)
  have b4 : binV .add (.str [66, 89, 84, 69, 83, 61]) (.str A2) = some (.str A4) := by rw [hA4]; exact bin_sadd (by simp only [List.length_cons, List.length_nil]; omega)
  have b5 : binV .add (.str A4) (.str [44, 32, 48, 45, 48]) = some (.str A5) := by rw [hA5]; exact bin_sadd (by simp only [List.length_cons, List.length_nil]; omega)
  have b6 : binV .add (.str [98, 121, 116, 101, 115, 61, 45]) (.str (dig2 a)) = some (.str A6) := by rw [hA6]; exact bin_sadd (by simp only [List.length_cons, List.length_nil]; omega)
  have e2 : A2 = oneT a b := by rw [hA2, hA1]; rfl
  have P1 := fun hh => Pick_ok (L := L) (h := hh) HI (s := A3) (long := m) (by omega)
  have P2 := fun hh => Pick_ok (L := L) (h := hh) HI (s := A5) (long := m) (by omega)
  have P3 := fun hh => Pick_ok (L := L) (h := hh) HI (s := A6) (long := m) (by omega)
  rw [show parseR A3 = some [(((a : Nat) : Int), ((b : Nat) : Int))] by rw [hA3, e2]; exact one_p1 a (by omega) b b1 ab, one_k1 ab b1 m1] at P1
  rw [show parseR A5 = some [(((a : Nat) : Int), ((b : Nat) : Int)), (0, 0)] by rw [hA5, hA4, e2]; exact one_p2 a (by omega) b b1 ab] at P2
  rw [show parseR A6 = some [(-1, ((a : Nat) : Int))] by rw [hA6]; exact one_p3 a (by omega), one_k3 (by omega) m1] at P3
  clear hA1 hA2 hA3 hA4 hA5 hA6 e2
  generalize dig2 a = D1 at *
  generalize dig2 b = D2 at *
  have w1 : IntKind.i64.wrap ((b : Int) + 1) = (b : Int) + 1 := wrap64 (by omega) (by omega)
  have w2 : IntKind.i64.wrap ((m : Int) - a) = (m : Int) - a := wrap64 (by omega) (by omega)
  have fin : ∀ (hh : Heap) (id : Nat) (x : Int × Int) (k : Int), (if a = 0 ∨ m = 0 then (((0 : Int), (0 : Int)), (2 : Int)) else ((max 0 ((m : Int) - a), (m : Int)), 1)) = (x, k) → hh[id]? = some (.box [.int .i64 x.1, .int .i64 x.2]) → k_gatepostlaw14_RangesOne_1 L (fun v _ => v = .bool true) (.int .i64 a) (.int .i64 m) (.ptr id 0) (.int .i64 k) hh := by
    intro hh id x k hx hb
    unfold k_gatepostlaw14_RangesOne_1
    by_cases z : a = 0 ∨ m = 0
    · rw [if_pos z] at hx
      injection hx with hx1 hx2
      subst hx2
      by_cases a0 : (a : Int) = 0
      · simp (maxSteps := 4000000) only [vm, vl, Arg.get, cells, stor, boundO, resultsV, resV, partK, loadV, Vm.part, fillC, splice, reduceIte, reduceCtorEq, Nat.reduceEqDiff, Nat.reduceAdd, Nat.reduceSub, Nat.reduceMul, Nat.reduceLeDiff, ne_eq, not_false_eq_true, Int.reduceEq, Int.reduceLT, Int.reduceLE, Int.reduceNeg, Int.reduceToNat, Int.reduceGT, Int.reduceGE, Nat.reduceLT, Nat.lt_add_one, Nat.zero_lt_succ, Nat.succ_pos, Nat.zero_le, beq_self_eq_true, a0, decide_true]
      · have m0 : (m : Int) = 0 := by omega
        simp (maxSteps := 4000000) only [vm, vl, Arg.get, cells, stor, boundO, resultsV, resV, partK, loadV, Vm.part, fillC, splice, reduceIte, reduceCtorEq, Nat.reduceEqDiff, Nat.reduceAdd, Nat.reduceSub, Nat.reduceMul, Nat.reduceLeDiff, ne_eq, not_false_eq_true, Int.reduceEq, Int.reduceLT, Int.reduceLE, Int.reduceNeg, Int.reduceToNat, Int.reduceGT, Int.reduceGE, Nat.reduceLT, Nat.lt_add_one, Nat.zero_lt_succ, Nat.succ_pos, Nat.zero_le, beq_self_eq_true, a0, m0, decide_true, decide_false]
    · rw [if_neg z] at hx
      injection hx with hx1 hx2
      subst hx2
      subst hx1
      have a0 : ¬ (a : Int) = 0 := by omega
      have m0 : ¬ (m : Int) = 0 := by omega
      simp (maxSteps := 4000000) only [vm, vl, Arg.get, cells, stor, boundO, resultsV, resV, partK, loadV, Vm.part, fillC, splice, reduceIte, reduceCtorEq, Nat.reduceEqDiff, Nat.reduceAdd, Nat.reduceSub, Nat.reduceMul, Nat.reduceLeDiff, ne_eq, not_false_eq_true, Int.reduceEq, Int.reduceLT, Int.reduceLE, Int.reduceNeg, Int.reduceToNat, Int.reduceGT, Int.reduceGE, Nat.reduceLT, Nat.lt_add_one, Nat.zero_lt_succ, Nat.succ_pos, Nat.zero_le, beq_self_eq_true, a0, m0, decide_true, decide_false, hb, k_gatepostlaw14_RangesOne_2, w2, mx2, q0, Bool.and_self]
  generalize (if a = 0 ∨ m = 0 then (((0 : Int), (0 : Int)), (2 : Int)) else ((max 0 ((m : Int) - a), (m : Int)), 1)) = X3 at *
  obtain ⟨⟨x1, x2⟩, k3⟩ := X3
  by_cases c : a < m
  · rw [if_pos c] at P1
    rw [one_k2 ab b1 m1 c] at P2
    have c' : ¬ (a : Int) ≥ m := by omega
    generalize hmn : min ((b : Int) + 1) m = mn at *
    simp (maxSteps := 4000000) only [vm, vl, Arg.get, cells, stor, boundO, resultsV, resV, partK, loadV, Vm.part, fillC, splice, reduceIte, reduceCtorEq, Nat.reduceEqDiff, Nat.reduceAdd, Nat.reduceSub, Nat.reduceMul, Nat.reduceLeDiff, ne_eq, not_false_eq_true, Int.reduceEq, Int.reduceLT, Int.reduceLE, Int.reduceNeg, Int.reduceToNat, Int.reduceGT, Int.reduceGE, Nat.reduceLT, Nat.lt_add_one, Nat.zero_lt_succ, Nat.succ_pos, Nat.zero_le, beq_self_eq_true]
    refine Cf.pu (N1 _) fun u1 => ?_
    simp (maxSteps := 4000000) only [vm, vl, Arg.get, cells, stor, boundO, resultsV, resV, partK, loadV, Vm.part, fillC, splice, reduceIte, reduceCtorEq, Nat.reduceEqDiff, Nat.reduceAdd, Nat.reduceSub, Nat.reduceMul, Nat.reduceLeDiff, ne_eq, not_false_eq_true, Int.reduceEq, Int.reduceLT, Int.reduceLE, Int.reduceNeg, Int.reduceToNat, Int.reduceGT, Int.reduceGE, Nat.reduceLT, Nat.lt_add_one, Nat.zero_lt_succ, Nat.succ_pos, Nat.zero_le, beq_self_eq_true, b1']
    refine Cf.pu (N2 _) fun u2 => ?_
    simp (maxSteps := 4000000) only [vm, vl, Arg.get, cells, stor, boundO, resultsV, resV, partK, loadV, Vm.part, fillC, splice, reduceIte, reduceCtorEq, Nat.reduceEqDiff, Nat.reduceAdd, Nat.reduceSub, Nat.reduceMul, Nat.reduceLeDiff, ne_eq, not_false_eq_true, Int.reduceEq, Int.reduceLT, Int.reduceLE, Int.reduceNeg, Int.reduceToNat, Int.reduceGT, Int.reduceGE, Nat.reduceLT, Nat.lt_add_one, Nat.zero_lt_succ, Nat.succ_pos, Nat.zero_le, beq_self_eq_true, b2, b3]
    refine Cf.pu (P1 _) fun u3 => ?_
    simp (maxSteps := 4000000) only [vm, vl, Arg.get, cells, stor, boundO, resultsV, resV, partK, loadV, Vm.part, fillC, splice, reduceIte, reduceCtorEq, Nat.reduceEqDiff, Nat.reduceAdd, Nat.reduceSub, Nat.reduceMul, Nat.reduceLeDiff, ne_eq, not_false_eq_true, Int.reduceEq, Int.reduceLT, Int.reduceLE, Int.reduceNeg, Int.reduceToNat, Int.reduceGT, Int.reduceGE, Nat.reduceLT, Nat.lt_add_one, Nat.zero_lt_succ, Nat.succ_pos, Nat.zero_le, beq_self_eq_true, b4, b5, pickV]
    refine Cf.pu (P2 _) fun u4 => ?_
    simp (maxSteps := 4000000) only [vm, vl, Arg.get, cells, stor, boundO, resultsV, resV, partK, loadV, Vm.part, fillC, splice, reduceIte, reduceCtorEq, Nat.reduceEqDiff, Nat.reduceAdd, Nat.reduceSub, Nat.reduceMul, Nat.reduceLeDiff, ne_eq, not_false_eq_true, Int.reduceEq, Int.reduceLT, Int.reduceLE, Int.reduceNeg, Int.reduceToNat, Int.reduceGT, Int.reduceGE, Nat.reduceLT, Nat.lt_add_one, Nat.zero_lt_succ, Nat.succ_pos, Nat.zero_le, beq_self_eq_true, pickV]
    refine Cf.pu (N1 _) fun u5 => ?_
    simp (maxSteps := 4000000) only [vm, vl, Arg.get, cells, stor, boundO, resultsV, resV, partK, loadV, Vm.part, fillC, splice, reduceIte, reduceCtorEq, Nat.reduceEqDiff, Nat.reduceAdd, Nat.reduceSub, Nat.reduceMul, Nat.reduceLeDiff, ne_eq, not_false_eq_true, Int.reduceEq, Int.reduceLT, Int.reduceLE, Int.reduceNeg, Int.reduceToNat, Int.reduceGT, Int.reduceGE, Nat.reduceLT, Nat.lt_add_one, Nat.zero_lt_succ, Nat.succ_pos, Nat.zero_le, beq_self_eq_true, b6]
    refine Cf.pu (P3 _) fun u6 => ?_
    simp (maxSteps := 4000000) only [vm, vl, Arg.get, cells, stor, boundO, resultsV, resV, partK, loadV, Vm.part, fillC, splice, reduceIte, reduceCtorEq, Nat.reduceEqDiff, Nat.reduceAdd, Nat.reduceSub, Nat.reduceMul, Nat.reduceLeDiff, ne_eq, not_false_eq_true, Int.reduceEq, Int.reduceLT, Int.reduceLE, Int.reduceNeg, Int.reduceToNat, Int.reduceGT, Int.reduceGE, Nat.reduceLT, Nat.lt_add_one, Nat.zero_lt_succ, Nat.succ_pos, Nat.zero_le, beq_self_eq_true, pickV, c', q0, w1, mn2, hmn, decide_true, decide_false, Bool.and_self, Bool.not_true]
    exact fin _ _ (x1, x2) _ rfl (by simp (maxSteps := 4000000) only [vm, vl, Arg.get, cells, stor, boundO, resultsV, resV, partK, loadV, Vm.part, fillC, splice, reduceIte, reduceCtorEq, Nat.reduceEqDiff, Nat.reduceAdd, Nat.reduceSub, Nat.reduceMul, Nat.reduceLeDiff, ne_eq, not_false_eq_true, Int.reduceEq, Int.reduceLT, Int.reduceLE, Int.reduceNeg, Int.reduceToNat, Int.reduceGT, Int.reduceGE, Nat.reduceLT, Nat.lt_add_one, Nat.zero_lt_succ, Nat.succ_pos, Nat.zero_le, beq_self_eq_true])
  · rw [if_neg c] at P1
    have c' : (a : Int) ≥ m := by omega
    generalize pickR (some [(((a : Nat) : Int), ((b : Nat) : Int)), (0, 0)]) m = X2 at *
    obtain ⟨⟨y1, y2⟩, k2⟩ := X2
    simp (maxSteps := 4000000) only [vm, vl, Arg.get, cells, stor, boundO, resultsV, resV, partK, loadV, Vm.part, fillC, splice, reduceIte, reduceCtorEq, Nat.reduceEqDiff, Nat.reduceAdd, Nat.reduceSub, Nat.reduceMul, Nat.reduceLeDiff, ne_eq, not_false_eq_true, Int.reduceEq, Int.reduceLT, Int.reduceLE, Int.reduceNeg, Int.reduceToNat, Int.reduceGT, Int.reduceGE, Nat.reduceLT, Nat.lt_add_one, Nat.zero_lt_succ, Nat.succ_pos, Nat.zero_le, beq_self_eq_true]
    refine Cf.pu (N1 _) fun u1 => ?_
    simp (maxSteps := 4000000) only [vm, vl, Arg.get, cells, stor, boundO, resultsV, resV, partK, loadV, Vm.part, fillC, splice, reduceIte, reduceCtorEq, Nat.reduceEqDiff, Nat.reduceAdd, Nat.reduceSub, Nat.reduceMul, Nat.reduceLeDiff, ne_eq, not_false_eq_true, Int.reduceEq, Int.reduceLT, Int.reduceLE, Int.reduceNeg, Int.reduceToNat, Int.reduceGT, Int.reduceGE, Nat.reduceLT, Nat.lt_add_one, Nat.zero_lt_succ, Nat.succ_pos, Nat.zero_le, beq_self_eq_true, b1']
    refine Cf.pu (N2 _) fun u2 => ?_
    simp (maxSteps := 4000000) only [vm, vl, Arg.get, cells, stor, boundO, resultsV, resV, partK, loadV, Vm.part, fillC, splice, reduceIte, reduceCtorEq, Nat.reduceEqDiff, Nat.reduceAdd, Nat.reduceSub, Nat.reduceMul, Nat.reduceLeDiff, ne_eq, not_false_eq_true, Int.reduceEq, Int.reduceLT, Int.reduceLE, Int.reduceNeg, Int.reduceToNat, Int.reduceGT, Int.reduceGE, Nat.reduceLT, Nat.lt_add_one, Nat.zero_lt_succ, Nat.succ_pos, Nat.zero_le, beq_self_eq_true, b2, b3]
    refine Cf.pu (P1 _) fun u3 => ?_
    simp (maxSteps := 4000000) only [vm, vl, Arg.get, cells, stor, boundO, resultsV, resV, partK, loadV, Vm.part, fillC, splice, reduceIte, reduceCtorEq, Nat.reduceEqDiff, Nat.reduceAdd, Nat.reduceSub, Nat.reduceMul, Nat.reduceLeDiff, ne_eq, not_false_eq_true, Int.reduceEq, Int.reduceLT, Int.reduceLE, Int.reduceNeg, Int.reduceToNat, Int.reduceGT, Int.reduceGE, Nat.reduceLT, Nat.lt_add_one, Nat.zero_lt_succ, Nat.succ_pos, Nat.zero_le, beq_self_eq_true, b4, b5, pickV]
    refine Cf.pu (P2 _) fun u4 => ?_
    simp (maxSteps := 4000000) only [vm, vl, Arg.get, cells, stor, boundO, resultsV, resV, partK, loadV, Vm.part, fillC, splice, reduceIte, reduceCtorEq, Nat.reduceEqDiff, Nat.reduceAdd, Nat.reduceSub, Nat.reduceMul, Nat.reduceLeDiff, ne_eq, not_false_eq_true, Int.reduceEq, Int.reduceLT, Int.reduceLE, Int.reduceNeg, Int.reduceToNat, Int.reduceGT, Int.reduceGE, Nat.reduceLT, Nat.lt_add_one, Nat.zero_lt_succ, Nat.succ_pos, Nat.zero_le, beq_self_eq_true, pickV]
    refine Cf.pu (N1 _) fun u5 => ?_
    simp (maxSteps := 4000000) only [vm, vl, Arg.get, cells, stor, boundO, resultsV, resV, partK, loadV, Vm.part, fillC, splice, reduceIte, reduceCtorEq, Nat.reduceEqDiff, Nat.reduceAdd, Nat.reduceSub, Nat.reduceMul, Nat.reduceLeDiff, ne_eq, not_false_eq_true, Int.reduceEq, Int.reduceLT, Int.reduceLE, Int.reduceNeg, Int.reduceToNat, Int.reduceGT, Int.reduceGE, Nat.reduceLT, Nat.lt_add_one, Nat.zero_lt_succ, Nat.succ_pos, Nat.zero_le, beq_self_eq_true, b6]
    refine Cf.pu (P3 _) fun u6 => ?_
    simp (maxSteps := 4000000) only [vm, vl, Arg.get, cells, stor, boundO, resultsV, resV, partK, loadV, Vm.part, fillC, splice, reduceIte, reduceCtorEq, Nat.reduceEqDiff, Nat.reduceAdd, Nat.reduceSub, Nat.reduceMul, Nat.reduceLeDiff, ne_eq, not_false_eq_true, Int.reduceEq, Int.reduceLT, Int.reduceLE, Int.reduceNeg, Int.reduceToNat, Int.reduceGT, Int.reduceGE, Nat.reduceLT, Nat.lt_add_one, Nat.zero_lt_succ, Nat.succ_pos, Nat.zero_le, beq_self_eq_true, pickV, c', q0, decide_true, decide_false, Bool.and_self, Bool.not_true]
    exact fin _ _ (x1, x2) _ rfl (by simp (maxSteps := 4000000) only [vm, vl, Arg.get, cells, stor, boundO, resultsV, resV, partK, loadV, Vm.part, fillC, splice, reduceIte, reduceCtorEq, Nat.reduceEqDiff, Nat.reduceAdd, Nat.reduceSub, Nat.reduceMul, Nat.reduceLeDiff, ne_eq, not_false_eq_true, Int.reduceEq, Int.reduceLT, Int.reduceLE, Int.reduceNeg, Int.reduceToNat, Int.reduceGT, Int.reduceGE, Nat.reduceLT, Nat.lt_add_one, Nat.zero_lt_succ, Nat.succ_pos, Nat.zero_le, beq_self_eq_true])
theorem RangesOne_ok (HI : IndexOk L) {a b long : Int} : Cf F L i_gatepostlaw14_RangesOne [.int .i64 a, .int .i64 b, .int .i64 long] h (fun v _ => v = .bool true) := by
  refine run_gatepostlaw14_RangesOne ?_
  simp only [p_gatepostlaw14_RangesOne]
  
  obtain ⟨a0, a1⟩ := andI_range a 31 (by omega) (by omega)
  obtain ⟨b0, b1⟩ := andI_range b 31 (by omega) (by omega)
  obtain ⟨c0, c1⟩ := andI_range long 31 (by omega) (by omega)
  generalize hA : bitsI .and .i64 a 31 = A at *
  generalize hB : bitsI .and .i64 b 31 = B at *
  generalize hC : bitsI .and .i64 long 31 = C at *
  obtain ⟨x, rfl⟩ : ∃ k : Nat, A = k := ⟨A.toNat, by omega⟩
  obtain ⟨y, rfl⟩ : ∃ k : Nat, B = k := ⟨B.toNat, by omega⟩
  obtain ⟨m, rfl⟩ : ∃ k : Nat, C = k := ⟨C.toNat, by omega⟩
  by_cases c : (x : Int) > y
  · simp (maxSteps := 4000000) only [vm, vl, Arg.get, cells, stor, boundO, resultsV, resV, partK, loadV, Vm.part, fillC, splice, reduceIte, reduceCtorEq, Nat.reduceEqDiff, Nat.reduceAdd, Nat.reduceSub, Nat.reduceMul, Nat.reduceLeDiff, ne_eq, not_false_eq_true, Int.reduceEq, Int.reduceLT, Int.reduceLE, Int.reduceNeg, Int.reduceToNat, Int.reduceGT, Int.reduceGE, Nat.reduceLT, Nat.lt_add_one, Nat.zero_lt_succ, Nat.succ_pos, Nat.zero_le, beq_self_eq_true, hA, hB, hC, c, decide_true]
    have := one0_ok (L := L) (h := h) (u := []) HI (a := y) (b := x) (m := m) (by omega) (by omega) (by omega)
    rwa [List.append_nil] at this
  · simp (maxSteps := 4000000) only [vm, vl, Arg.get, cells, stor, boundO, resultsV, resV, partK, loadV, Vm.part, fillC, splice, reduceIte, reduceCtorEq, Nat.reduceEqDiff, Nat.reduceAdd, Nat.reduceSub, Nat.reduceMul, Nat.reduceLeDiff, ne_eq, not_false_eq_true, Int.reduceEq, Int.reduceLT, Int.reduceLE, Int.reduceNeg, Int.reduceToNat, Int.reduceGT, Int.reduceGE, Nat.reduceLT, Nat.lt_add_one, Nat.zero_lt_succ, Nat.succ_pos, Nat.zero_le, beq_self_eq_true, hA, hB, hC, c, decide_false]
    have := one0_ok (L := L) (h := h) (u := []) HI (a := x) (b := y) (m := m) (by omega) (by omega) (by omega)
    rwa [List.append_nil] at this
theorem RangesOne_row {x0 x1 x2 : V} (v0 : VPar [.l (.i .i64)] x0) (v1 : VPar [.l (.i .i64)] x1) (v2 : VPar [.l (.i .i64)] x2) (w : World) (vs : List Value) (hv : Rvs w.heap.size G0 w [x0, x1, x2] vs) :
    Calls Tryd.prog i_gatepostlaw14_RangesOne vs.toArray w fun e w' => e = .returned (.bool true) ∧ RowKit.Below w.heap.size w w' := by
  obtain ⟨a, rfl, _⟩ := v0
  obtain ⟨b, rfl, _⟩ := v1
  obtain ⟨m, rfl, _⟩ := v2
  exact calls_at hm hF (index_at w) (RangesOne_ok (indexOk fun _ _ _ h => h)) hv
end Go.Proofs.YtlnhcdafagpfhaaDoor.Vh
