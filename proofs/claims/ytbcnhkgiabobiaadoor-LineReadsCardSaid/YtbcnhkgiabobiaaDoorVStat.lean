/- Package line's RequestLine and StatusLine, with the reference's; LineWrites on the small machine. -/
import Derived.Test.YtbcnhkgiabobiaaDoorVReq
import Derived.Test.YtbcnhkgiabobiaaDoorVmOpen
set_option linter.unusedVariables false
set_option linter.unusedSimpArgs false
namespace Go.Proofs.YtbcnhkgiabobiaaDoor.Vh
open Go.Vm Go.Vt
attribute [local congr] wi_congr wg_congr wgd_congr wb_congr wl_congr cf_congr
variable {L : FuncId → List V → V → Prop} {h : Heap}
def three (c : Nat) : Bs := [UInt8.ofNat (48 + c / 100), UInt8.ofNat (48 + c / 10 % 10), UInt8.ofNat (48 + c % 10)]
def stV (m c : Int) (r : Bs) : V := if (m = 0 ∨ m = 1) ∧ 100 ≤ c ∧ c ≤ 599 ∧ rsnS r = true then fitV ([72, 84, 84, 80, 47, 49, 46] ++ [UInt8.ofNat (48 + m.toNat)] ++ [32] ++ three c.toNat ++ [32] ++ r) else errV
theorem StatusLine_ok (HI : ItoaOk L) {m c : Int} {r : Bs} (hr : r.length ≤ 140737488351232) : Cf F L i_line_StatusLine [.int .i64 m, .int .i64 c, .str r] h (Pu h (stV m c r)) := by
  refine run_line_StatusLine ?_
  simp only [p_line_StatusLine]
  refine Cf.pu isMinor_ok fun t => ?_
  by_cases hm : m = 0 ∨ m = 1
  rotate_left
  · have d : decide (m = 0 ∨ m = 1) = false := by simpa using hm
    rw [d]
    have e : stV m c r = errV := if_neg (by rintro ⟨h, _⟩; exact hm h)
    rw [e]
    simp (maxSteps := 4000000) only [vm, vl, Arg.get, cells, stor, boundO, resultsV, resV, partK, loadV, Vm.part, fillC, splice, reduceIte, reduceCtorEq, Nat.reduceEqDiff, Nat.reduceAdd, Nat.reduceSub, Nat.reduceMul, Nat.reduceLeDiff, ne_eq, not_false_eq_true, Int.reduceEq, Int.reduceLT, Int.reduceLE, Int.reduceNeg, Int.reduceToNat, Int.reduceGT, Int.reduceGE, Nat.reduceLT, Nat.lt_add_one, Nat.zero_lt_succ, Nat.succ_pos, Nat.zero_le, beq_self_eq_true, k_line_StatusLine_0, Bool.not_false, errV]
  have d : decide (m = 0 ∨ m = 1) = true := by simpa using hm
  rw [d]
  by_cases c0 : c < 100
  · have e : stV m c r = errV := if_neg (by rintro ⟨_, h, _⟩; omega)
    rw [e]
    simp (maxSteps := 4000000) only [vm, vl, Arg.get, cells, stor, boundO, resultsV, resV, partK, loadV, Vm.part, fillC, splice, reduceIte, reduceCtorEq, Nat.reduceEqDiff, Nat.reduceAdd, Nat.reduceSub, Nat.reduceMul, Nat.reduceLeDiff, ne_eq, not_false_eq_true, Int.reduceEq, Int.reduceLT, Int.reduceLE, Int.reduceNeg, Int.reduceToNat, Int.reduceGT, Int.reduceGE, Nat.reduceLT, Nat.lt_add_one, Nat.zero_lt_succ, Nat.succ_pos, Nat.zero_le, beq_self_eq_true, k_line_StatusLine_0, Bool.not_true, c0, decide_true, errV]
  by_cases c1 : c > 599
  · have e : stV m c r = errV := if_neg (by rintro ⟨_, _, h, _⟩; omega)
    rw [e]
    simp (maxSteps := 4000000) only [vm, vl, Arg.get, cells, stor, boundO, resultsV, resV, partK, loadV, Vm.part, fillC, splice, reduceIte, reduceCtorEq, Nat.reduceEqDiff, Nat.reduceAdd, Nat.reduceSub, Nat.reduceMul, Nat.reduceLeDiff, ne_eq, not_false_eq_true, Int.reduceEq, Int.reduceLT, Int.reduceLE, Int.reduceNeg, Int.reduceToNat, Int.reduceGT, Int.reduceGE, Nat.reduceLT, Nat.lt_add_one, Nat.zero_lt_succ, Nat.succ_pos, Nat.zero_le, beq_self_eq_true, k_line_StatusLine_0, Bool.not_true, c0, c1, decide_true, decide_false, errV]
  simp (maxSteps := 4000000) only [vm, vl, Arg.get, cells, stor, boundO, resultsV, resV, partK, loadV, Vm.part, fillC, splice, reduceIte, reduceCtorEq, Nat.reduceEqDiff, Nat.reduceAdd, Nat.reduceSub, Nat.reduceMul, Nat.reduceLeDiff, ne_eq, not_false_eq_true, Int.reduceEq, Int.reduceLT, Int.reduceLE, Int.reduceNeg, Int.reduceToNat, Int.reduceGT, Int.reduceGE, Nat.reduceLT, Nat.lt_add_one, Nat.zero_lt_succ, Nat.succ_pos, Nat.zero_le, beq_self_eq_true, k_line_StatusLine_0, Bool.not_true, c0, c1, decide_true, decide_false]
  refine Cf.pu (isReason_ok (by omega)) fun t1 => ?_
  cases qr : rsnS r with
  | false =>
    have e : stV m c r = errV := if_neg (by rintro ⟨_, _, _, h⟩; rw [qr] at h; cases h)
    rw [e]
    simp (maxSteps := 4000000) only [vm, vl, Arg.get, cells, stor, boundO, resultsV, resV, partK, loadV, Vm.part, fillC, splice, reduceIte, reduceCtorEq, Nat.reduceEqDiff, Nat.reduceAdd, Nat.reduceSub, Nat.reduceMul, Nat.reduceLeDiff, ne_eq, not_false_eq_true, Int.reduceEq, Int.reduceLT, Int.reduceLE, Int.reduceNeg, Int.reduceToNat, Int.reduceGT, Int.reduceGE, Nat.reduceLT, Nat.lt_add_one, Nat.zero_lt_succ, Nat.succ_pos, Nat.zero_le, beq_self_eq_true, k_line_StatusLine_0, Bool.not_false, errV]
  | true =>
  have e : stV m c r = fitV ([72, 84, 84, 80, 47, 49, 46] ++ [UInt8.ofNat (48 + m.toNat)] ++ [32] ++ three c.toNat ++ [32] ++ r) := if_pos ⟨hm, by omega, by omega, qr⟩
  rw [e]
  have hi := fun h => HI (n := m) (h := h) (by omega) (by omega)
  have hin : Go.Lib.itoa m = [UInt8.ofNat (48 + m.toNat)] := by
    rcases hm with rfl | rfl
    · exact itoa_0
    · exact itoa_1
  rw [hin] at hi
  obtain ⟨cn, rfl⟩ : ∃ n : Nat, c = n := ⟨c.toNat, by omega⟩
  have hj := fun h => HI (n := cn) (h := h) (by omega) (by omega)
  rw [itoa_3 (by omega) (by omega), ← three] at hj
  rw [Int.toNat_natCast]
  have lt : (three cn).length = 3 := rfl
  generalize three cn = th at *
  generalize UInt8.ofNat (48 + m.toNat) = dg at *
  obtain ⟨A0, hA0⟩ : ∃ A : Bs, A = [72, 84, 84, 80, 47, 49, 46] ++ [dg] := ⟨_, rfl⟩
  have lA0 : A0.length = ([72, 84, 84, 80, 47, 49, 46] : Bs).length + ([dg] : Bs).length := by rw [hA0, List.length_append]
  have aA0 : binV .add (.str [72, 84, 84, 80, 47, 49, 46]) (.str [dg]) = some (.str A0) := by rw [hA0]; exact bin_sadd (by simp only [List.length_cons, List.length_nil] at *; omega)
  obtain ⟨A1, hA1⟩ : ∃ A : Bs, A = A0 ++ [32] := ⟨_, rfl⟩
  have lA1 : A1.length = (A0 : Bs).length + ([32] : Bs).length := by rw [hA1, List.length_append]
  have aA1 : binV .add (.str A0) (.str [32]) = some (.str A1) := by rw [hA1]; exact bin_sadd (by simp only [List.length_cons, List.length_nil] at *; omega)
  obtain ⟨A2, hA2⟩ : ∃ A : Bs, A = A1 ++ th := ⟨_, rfl⟩
  have lA2 : A2.length = (A1 : Bs).length + (th : Bs).length := by rw [hA2, List.length_append]
  have aA2 : binV .add (.str A1) (.str th) = some (.str A2) := by rw [hA2]; exact bin_sadd (by simp only [List.length_cons, List.length_nil] at *; omega)
  obtain ⟨A3, hA3⟩ : ∃ A : Bs, A = A2 ++ [32] := ⟨_, rfl⟩
  have lA3 : A3.length = (A2 : Bs).length + ([32] : Bs).length := by rw [hA3, List.length_append]
  have aA3 : binV .add (.str A2) (.str [32]) = some (.str A3) := by rw [hA3]; exact bin_sadd (by simp only [List.length_cons, List.length_nil] at *; omega)
  obtain ⟨A4, hA4⟩ : ∃ A : Bs, A = A3 ++ r := ⟨_, rfl⟩
  have lA4 : A4.length = (A3 : Bs).length + (r : Bs).length := by rw [hA4, List.length_append]
  have aA4 : binV .add (.str A3) (.str r) = some (.str A4) := by rw [hA4]; exact bin_sadd (by simp only [List.length_cons, List.length_nil] at *; omega)
  rw [show [72, 84, 84, 80, 47, 49, 46] ++ [dg] ++ [32] ++ th ++ [32] ++ r = A4 from by rw [hA4, hA3, hA2, hA1, hA0]]
  simp (maxSteps := 4000000) only [vm, vl, Arg.get, cells, stor, boundO, resultsV, resV, partK, loadV, Vm.part, fillC, splice, reduceIte, reduceCtorEq, Nat.reduceEqDiff, Nat.reduceAdd, Nat.reduceSub, Nat.reduceMul, Nat.reduceLeDiff, ne_eq, not_false_eq_true, Int.reduceEq, Int.reduceLT, Int.reduceLE, Int.reduceNeg, Int.reduceToNat, Int.reduceGT, Int.reduceGE, Nat.reduceLT, Nat.lt_add_one, Nat.zero_lt_succ, Nat.succ_pos, Nat.zero_le, beq_self_eq_true, k_line_StatusLine_0, Bool.not_true]
  refine Cf.pu (hi _) fun t2 => ?_
  simp (maxSteps := 4000000) only [vm, vl, Arg.get, cells, stor, boundO, resultsV, resV, partK, loadV, Vm.part, fillC, splice, reduceIte, reduceCtorEq, Nat.reduceEqDiff, Nat.reduceAdd, Nat.reduceSub, Nat.reduceMul, Nat.reduceLeDiff, ne_eq, not_false_eq_true, Int.reduceEq, Int.reduceLT, Int.reduceLE, Int.reduceNeg, Int.reduceToNat, Int.reduceGT, Int.reduceGE, Nat.reduceLT, Nat.lt_add_one, Nat.zero_lt_succ, Nat.succ_pos, Nat.zero_le, beq_self_eq_true, k_line_StatusLine_0, aA0, aA1]
  refine Cf.pu (hj _) fun t3 => ?_
  simp (maxSteps := 4000000) only [vm, vl, Arg.get, cells, stor, boundO, resultsV, resV, partK, loadV, Vm.part, fillC, splice, reduceIte, reduceCtorEq, Nat.reduceEqDiff, Nat.reduceAdd, Nat.reduceSub, Nat.reduceMul, Nat.reduceLeDiff, ne_eq, not_false_eq_true, Int.reduceEq, Int.reduceLT, Int.reduceLE, Int.reduceNeg, Int.reduceToNat, Int.reduceGT, Int.reduceGE, Nat.reduceLT, Nat.lt_add_one, Nat.zero_lt_succ, Nat.succ_pos, Nat.zero_le, beq_self_eq_true, k_line_StatusLine_0, aA2, aA3, aA4]
  refine Cf.pu fits_ok fun t4 => ?_
  rcases fitV_cases A4 with ⟨_, e4⟩ | ⟨_, e4⟩
  · rw [e4]
    simp (maxSteps := 4000000) only [vm, vl, Arg.get, cells, stor, boundO, resultsV, resV, partK, loadV, Vm.part, fillC, splice, reduceIte, reduceCtorEq, Nat.reduceEqDiff, Nat.reduceAdd, Nat.reduceSub, Nat.reduceMul, Nat.reduceLeDiff, ne_eq, not_false_eq_true, Int.reduceEq, Int.reduceLT, Int.reduceLE, Int.reduceNeg, Int.reduceToNat, Int.reduceGT, Int.reduceGE, Nat.reduceLT, Nat.lt_add_one, Nat.zero_lt_succ, Nat.succ_pos, Nat.zero_le, beq_self_eq_true, k_line_StatusLine_0]
  · rw [e4]
    simp (maxSteps := 4000000) only [vm, vl, Arg.get, cells, stor, boundO, resultsV, resV, partK, loadV, Vm.part, fillC, splice, reduceIte, reduceCtorEq, Nat.reduceEqDiff, Nat.reduceAdd, Nat.reduceSub, Nat.reduceMul, Nat.reduceLeDiff, ne_eq, not_false_eq_true, Int.reduceEq, Int.reduceLT, Int.reduceLE, Int.reduceNeg, Int.reduceToNat, Int.reduceGT, Int.reduceGE, Nat.reduceLT, Nat.lt_add_one, Nat.zero_lt_succ, Nat.succ_pos, Nat.zero_le, beq_self_eq_true, k_line_StatusLine_0]
theorem digit_at : ∀ i, i < 10 → List.drop i (48 :: List.take i ([49, 50, 51, 52, 53, 54, 55, 56, 57] : Bs)) = [UInt8.ofNat (48 + i)] := by decide
theorem rStatusLine_ok {m c : Int} {r : Bs} (hr : r.length ≤ 140737488351232) : Cf F L i_gatepostref03_StatusLine [.int .i64 m, .int .i64 c, .str r] h (Pu h (stV m c r)) := by
  refine run_gatepostref03_StatusLine ?_
  simp only [p_gatepostref03_StatusLine]
  by_cases n0 : m < 0
  · have e : stV m c r = errV := if_neg (by rintro ⟨h, _⟩; omega)
    rw [e]
    simp (maxSteps := 4000000) only [vm, vl, Arg.get, cells, stor, boundO, resultsV, resV, partK, loadV, Vm.part, fillC, splice, reduceIte, reduceCtorEq, Nat.reduceEqDiff, Nat.reduceAdd, Nat.reduceSub, Nat.reduceMul, Nat.reduceLeDiff, ne_eq, not_false_eq_true, Int.reduceEq, Int.reduceLT, Int.reduceLE, Int.reduceNeg, Int.reduceToNat, Int.reduceGT, Int.reduceGE, Nat.reduceLT, Nat.lt_add_one, Nat.zero_lt_succ, Nat.succ_pos, Nat.zero_le, beq_self_eq_true, k_gatepostref03_StatusLine_1, k_gatepostref03_StatusLine_0, n0, decide_true, errV]
  by_cases n1 : m > 1
  · have e : stV m c r = errV := if_neg (by rintro ⟨h, _⟩; omega)
    rw [e]
    simp (maxSteps := 4000000) only [vm, vl, Arg.get, cells, stor, boundO, resultsV, resV, partK, loadV, Vm.part, fillC, splice, reduceIte, reduceCtorEq, Nat.reduceEqDiff, Nat.reduceAdd, Nat.reduceSub, Nat.reduceMul, Nat.reduceLeDiff, ne_eq, not_false_eq_true, Int.reduceEq, Int.reduceLT, Int.reduceLE, Int.reduceNeg, Int.reduceToNat, Int.reduceGT, Int.reduceGE, Nat.reduceLT, Nat.lt_add_one, Nat.zero_lt_succ, Nat.succ_pos, Nat.zero_le, beq_self_eq_true, k_gatepostref03_StatusLine_1, k_gatepostref03_StatusLine_0, n0, n1, decide_true, decide_false, errV]
  by_cases c0 : c < 100
  · have e : stV m c r = errV := if_neg (by rintro ⟨_, h, _⟩; omega)
    rw [e]
    simp (maxSteps := 4000000) only [vm, vl, Arg.get, cells, stor, boundO, resultsV, resV, partK, loadV, Vm.part, fillC, splice, reduceIte, reduceCtorEq, Nat.reduceEqDiff, Nat.reduceAdd, Nat.reduceSub, Nat.reduceMul, Nat.reduceLeDiff, ne_eq, not_false_eq_true, Int.reduceEq, Int.reduceLT, Int.reduceLE, Int.reduceNeg, Int.reduceToNat, Int.reduceGT, Int.reduceGE, Nat.reduceLT, Nat.lt_add_one, Nat.zero_lt_succ, Nat.succ_pos, Nat.zero_le, beq_self_eq_true, k_gatepostref03_StatusLine_1, k_gatepostref03_StatusLine_0, n0, n1, c0, decide_true, decide_false, errV]
  by_cases c1 : c > 599
  · have e : stV m c r = errV := if_neg (by rintro ⟨_, _, h, _⟩; omega)
    rw [e]
    simp (maxSteps := 4000000) only [vm, vl, Arg.get, cells, stor, boundO, resultsV, resV, partK, loadV, Vm.part, fillC, splice, reduceIte, reduceCtorEq, Nat.reduceEqDiff, Nat.reduceAdd, Nat.reduceSub, Nat.reduceMul, Nat.reduceLeDiff, ne_eq, not_false_eq_true, Int.reduceEq, Int.reduceLT, Int.reduceLE, Int.reduceNeg, Int.reduceToNat, Int.reduceGT, Int.reduceGE, Nat.reduceLT, Nat.lt_add_one, Nat.zero_lt_succ, Nat.succ_pos, Nat.zero_le, beq_self_eq_true, k_gatepostref03_StatusLine_1, k_gatepostref03_StatusLine_0, n0, n1, c0, c1, decide_true, decide_false, errV]
  simp (maxSteps := 4000000) only [vm, vl, Arg.get, cells, stor, boundO, resultsV, resV, partK, loadV, Vm.part, fillC, splice, reduceIte, reduceCtorEq, Nat.reduceEqDiff, Nat.reduceAdd, Nat.reduceSub, Nat.reduceMul, Nat.reduceLeDiff, ne_eq, not_false_eq_true, Int.reduceEq, Int.reduceLT, Int.reduceLE, Int.reduceNeg, Int.reduceToNat, Int.reduceGT, Int.reduceGE, Nat.reduceLT, Nat.lt_add_one, Nat.zero_lt_succ, Nat.succ_pos, Nat.zero_le, beq_self_eq_true, k_gatepostref03_StatusLine_1, k_gatepostref03_StatusLine_0, n0, n1, c0, c1, decide_true, decide_false]
  refine Cf.pu (rreason_ok (by omega)) fun t1 => ?_
  cases qr : rsnS r with
  | false =>
    have e : stV m c r = errV := if_neg (by rintro ⟨_, _, _, h⟩; rw [qr] at h; cases h)
    rw [e]
    simp (maxSteps := 4000000) only [vm, vl, Arg.get, cells, stor, boundO, resultsV, resV, partK, loadV, Vm.part, fillC, splice, reduceIte, reduceCtorEq, Nat.reduceEqDiff, Nat.reduceAdd, Nat.reduceSub, Nat.reduceMul, Nat.reduceLeDiff, ne_eq, not_false_eq_true, Int.reduceEq, Int.reduceLT, Int.reduceLE, Int.reduceNeg, Int.reduceToNat, Int.reduceGT, Int.reduceGE, Nat.reduceLT, Nat.lt_add_one, Nat.zero_lt_succ, Nat.succ_pos, Nat.zero_le, beq_self_eq_true, k_gatepostref03_StatusLine_1, k_gatepostref03_StatusLine_0, Bool.not_false, errV]
  | true =>
  have hm : m = 0 ∨ m = 1 := by omega
  have e : stV m c r = fitV ([72, 84, 84, 80, 47, 49, 46] ++ [UInt8.ofNat (48 + m.toNat)] ++ [32] ++ three c.toNat ++ [32] ++ r) := if_pos ⟨hm, by omega, by omega, qr⟩
  rw [e]
  have w : IntKind.i64.wrap (m + 1) = m + 1 := wrap64 (by omega) (by omega)
  have sl : List.drop m.toNat (List.take (m + 1).toNat ([48, 49] : Bs)) = [UInt8.ofNat (48 + m.toNat)] := by rcases hm with rfl | rfl <;> rfl
  have z0 : 0 ≤ m := by omega
  have z1 : 0 ≤ m + 1 := by omega
  have z2 : m.toNat ≤ (m + 1).toNat := by omega
  have z3 : (m + 1).toNat ≤ 2 := by omega
  obtain ⟨cn, rfl⟩ : ∃ n : Nat, c = n := ⟨c.toNat, by omega⟩
  rw [Int.toNat_natCast]
  have td : ∀ (x y : Int), 0 ≤ x → 0 < y → x.tdiv y = x / y := fun x y hx hy => Int.tdiv_eq_ediv_of_nonneg hx
  have q1 : IntKind.i64.wrap ((cn : Int).tdiv 100) = ((cn / 100 : Nat) : Int) := by rw [td _ _ (by omega) (by omega), wrap64 (by omega) (by omega)]; omega
  have q2 : IntKind.i64.wrap ((cn : Int).tdiv 10) = ((cn / 10 : Nat) : Int) := by rw [td _ _ (by omega) (by omega), wrap64 (by omega) (by omega)]; omega
  have q3 : ((cn / 10 : Nat) : Int).tmod 10 = ((cn / 10 % 10 : Nat) : Int) := by rw [Int.tmod_eq_emod_of_nonneg (by omega)]; omega
  have q4 : (cn : Int).tmod 10 = ((cn % 10 : Nat) : Int) := by rw [Int.tmod_eq_emod_of_nonneg (by omega)]; omega
  unfold three
  have k1 : cn / 100 < 10 := by omega
  have k2 : cn / 10 % 10 < 10 := by omega
  have k3 : cn % 10 < 10 := by omega
  generalize cn / 100 = x1 at *
  generalize cn / 10 % 10 = x2 at *
  generalize cn % 10 = x3 at *
  have w1 : IntKind.i64.wrap ((x1 : Int) + 1) = (x1 : Int) + 1 := wrap64 (by omega) (by omega)
  have w2 : IntKind.i64.wrap ((x2 : Int) + 1) = (x2 : Int) + 1 := wrap64 (by omega) (by omega)
  have w3 : IntKind.i64.wrap ((x3 : Int) + 1) = (x3 : Int) + 1 := wrap64 (by omega) (by omega)
  have s1 := digit_at x1 k1
  have s2 := digit_at x2 k2
  have s3 := digit_at x3 k3
  have p1 : (0 : Int) ≤ x1 := by omega
  have p2 : (0 : Int) ≤ x2 := by omega
  have p3 : (0 : Int) ≤ x3 := by omega
  have o1 : x1 ≤ x1 + 1 := by omega
  have o2 : x2 ≤ x2 + 1 := by omega
  have o3 : x3 ≤ x3 + 1 := by omega
  have y1 : x1 ≤ 9 := by omega
  have y2 : x2 ≤ 9 := by omega
  have y3 : x3 ≤ 9 := by omega
  generalize UInt8.ofNat (48 + m.toNat) = dg at *
  generalize UInt8.ofNat (48 + x1) = g1 at *
  generalize UInt8.ofNat (48 + x2) = g2 at *
  generalize UInt8.ofNat (48 + x3) = g3 at *
  obtain ⟨B0, hB0⟩ : ∃ A : Bs, A = [72, 84, 84, 80, 47, 49, 46] ++ [dg] := ⟨_, rfl⟩
  have lB0 : B0.length = ([72, 84, 84, 80, 47, 49, 46] : Bs).length + ([dg] : Bs).length := by rw [hB0, List.length_append]
  have aB0 : binV .add (.str [72, 84, 84, 80, 47, 49, 46]) (.str [dg]) = some (.str B0) := by rw [hB0]; exact bin_sadd (by simp only [List.length_cons, List.length_nil] at *; omega)
  obtain ⟨B1, hB1⟩ : ∃ A : Bs, A = B0 ++ [32] := ⟨_, rfl⟩
  have lB1 : B1.length = (B0 : Bs).length + ([32] : Bs).length := by rw [hB1, List.length_append]
  have aB1 : binV .add (.str B0) (.str [32]) = some (.str B1) := by rw [hB1]; exact bin_sadd (by simp only [List.length_cons, List.length_nil] at *; omega)
  obtain ⟨B2, hB2⟩ : ∃ A : Bs, A = B1 ++ [g1] := ⟨_, rfl⟩
  have lB2 : B2.length = (B1 : Bs).length + ([g1] : Bs).length := by rw [hB2, List.length_append]
  have aB2 : binV .add (.str B1) (.str [g1]) = some (.str B2) := by rw [hB2]; exact bin_sadd (by simp only [List.length_cons, List.length_nil] at *; omega)
  obtain ⟨B3, hB3⟩ : ∃ A : Bs, A = B2 ++ [g2] := ⟨_, rfl⟩
  have lB3 : B3.length = (B2 : Bs).length + ([g2] : Bs).length := by rw [hB3, List.length_append]
  have aB3 : binV .add (.str B2) (.str [g2]) = some (.str B3) := by rw [hB3]; exact bin_sadd (by simp only [List.length_cons, List.length_nil] at *; omega)
  obtain ⟨B4, hB4⟩ : ∃ A : Bs, A = B3 ++ [g3] := ⟨_, rfl⟩
  have lB4 : B4.length = (B3 : Bs).length + ([g3] : Bs).length := by rw [hB4, List.length_append]
  have aB4 : binV .add (.str B3) (.str [g3]) = some (.str B4) := by rw [hB4]; exact bin_sadd (by simp only [List.length_cons, List.length_nil] at *; omega)
  obtain ⟨B5, hB5⟩ : ∃ A : Bs, A = B4 ++ [32] := ⟨_, rfl⟩
  have lB5 : B5.length = (B4 : Bs).length + ([32] : Bs).length := by rw [hB5, List.length_append]
  have aB5 : binV .add (.str B4) (.str [32]) = some (.str B5) := by rw [hB5]; exact bin_sadd (by simp only [List.length_cons, List.length_nil] at *; omega)
  obtain ⟨B6, hB6⟩ : ∃ A : Bs, A = B5 ++ r := ⟨_, rfl⟩
  have lB6 : B6.length = (B5 : Bs).length + (r : Bs).length := by rw [hB6, List.length_append]
  have aB6 : binV .add (.str B5) (.str r) = some (.str B6) := by rw [hB6]; exact bin_sadd (by simp only [List.length_cons, List.length_nil] at *; omega)
  rw [show [72, 84, 84, 80, 47, 49, 46] ++ [dg] ++ [32] ++ [g1, g2, g3] ++ [32] ++ r = B6 from by rw [hB6, hB5, hB4, hB3, hB2, hB1, hB0]; simp]
  by_cases hb6 : (B6.length : Int) > 1024
  · have e4 : fitV B6 = .tup [.str [], .int .i64 3] := if_pos (by omega)
    rw [e4]
    simp (maxSteps := 4000000) only [vm, vl, Arg.get, cells, stor, boundO, resultsV, resV, partK, loadV, Vm.part, fillC, splice, reduceIte, reduceCtorEq, Nat.reduceEqDiff, Nat.reduceAdd, Nat.reduceSub, Nat.reduceMul, Nat.reduceLeDiff, ne_eq, not_false_eq_true, Int.reduceEq, Int.reduceLT, Int.reduceLE, Int.reduceNeg, Int.reduceToNat, Int.reduceGT, Int.reduceGE, Nat.reduceLT, Nat.lt_add_one, Nat.zero_lt_succ, Nat.succ_pos, Nat.zero_le, beq_self_eq_true, k_gatepostref03_StatusLine_1, k_gatepostref03_StatusLine_0, Bool.not_true, decide_true, decide_false, w, z0, z1, z2, z3, sl, aB0, aB1, bin_quo, bin_rem, q1, q2, q3, q4, w1, w2, w3, s1, s2, s3, p1, p2, p3, o1, o2, o3, y1, y2, y3, k1, k2, k3, Int.toNat_natCast, aB2, aB3, aB4, aB5, aB6, hb6]
  · have e4 : fitV B6 = .tup [.str B6, .int .i64 0] := if_neg (by omega)
    rw [e4]
    simp (maxSteps := 4000000) only [vm, vl, Arg.get, cells, stor, boundO, resultsV, resV, partK, loadV, Vm.part, fillC, splice, reduceIte, reduceCtorEq, Nat.reduceEqDiff, Nat.reduceAdd, Nat.reduceSub, Nat.reduceMul, Nat.reduceLeDiff, ne_eq, not_false_eq_true, Int.reduceEq, Int.reduceLT, Int.reduceLE, Int.reduceNeg, Int.reduceToNat, Int.reduceGT, Int.reduceGE, Nat.reduceLT, Nat.lt_add_one, Nat.zero_lt_succ, Nat.succ_pos, Nat.zero_le, beq_self_eq_true, k_gatepostref03_StatusLine_1, k_gatepostref03_StatusLine_0, Bool.not_true, decide_true, decide_false, w, z0, z1, z2, z3, sl, aB0, aB1, bin_quo, bin_rem, q1, q2, q3, q4, w1, w2, w3, s1, s2, s3, p1, p2, p3, o1, o2, o3, y1, y2, y3, k1, k2, k3, Int.toNat_natCast, aB2, aB3, aB4, aB5, aB6, hb6]
theorem vsks_two {k1 k2 : SK} {xs : List V} (h : VSKs [k1, k2] xs) : ∃ x y, xs = [x, y] ∧ VSK k1 x ∧ VSK k2 y := by
  match xs, h with
  | [x, y], ⟨a, b, _⟩ => exact ⟨x, y, rfl, a, b⟩
  | [], h => exact h.elim
  | [_], ⟨_, h⟩ => exact h.elim
  | _ :: _ :: _ :: _, ⟨_, _, h⟩ => exact h.elim
set_option maxRecDepth 10000 in
theorem LineWrites_ok (HI : ItoaOk L) {a b : Bs} {m c : Int} (ha : a.length ≤ 140737488351232) (hb : b.length ≤ 140737488351232) : Cf F L i_gatepostlaw03_LineWrites [.str a, .str b, .agg [.int .i64 m, .int .i64 c]] h (fun v _ => v = .bool true) := by
  refine run_gatepostlaw03_LineWrites ?_
  simp only [p_gatepostlaw03_LineWrites]
  have cases : ∀ x : V, (x = reqV a b m ∨ x = stV m c a) → ∃ (s : Bs) (n : Int), x = .tup [.str s, .int .i64 n] := by
    intro x hx
    have hf : ∀ s, ∃ (t : Bs) (n : Int), fitV s = .tup [.str t, .int .i64 n] := by
      intro s
      rcases fitV_cases s with ⟨_, e⟩ | ⟨_, e⟩
      · exact ⟨_, _, e⟩
      · exact ⟨_, _, e⟩
    rcases hx with rfl | rfl
    · unfold reqV; split
      · exact hf _
      · exact ⟨_, _, rfl⟩
    · unfold stV; split
      · exact hf _
      · exact ⟨_, _, rfl⟩
  obtain ⟨s1, n1, e1⟩ := cases _ (.inl rfl)
  obtain ⟨s2, n2, e2⟩ := cases _ (.inr rfl)
  have P1 := fun h => RequestLine_ok (L := L) (h := h) (n := m) HI ha hb
  have P2 := fun h => rRequestLine_ok (L := L) (h := h) (n := m) ha hb
  have P3 := fun h => StatusLine_ok (L := L) (h := h) (m := m) (c := c) (r := a) HI ha
  have P4 := fun h => rStatusLine_ok (L := L) (h := h) (m := m) (c := c) (r := a) ha
  have P5 := fun h => StatusLine_ok (L := L) (h := h) (m := 1) (c := 204) (r := []) HI (by simp)
  rw [e1] at P1 P2; rw [e2] at P3 P4
  have e5 : stV 1 204 [] = .tup [.str [72, 84, 84, 80, 47, 49, 46, 49, 32, 50, 48, 52, 32], .int .i64 0] := by
    unfold stV
    rw [if_pos (by decide +kernel)]
    unfold fitV
    rw [if_neg (by decide +kernel)]
    rfl
  rw [e5] at P5
  simp (maxSteps := 4000000) only [vm, vl, Arg.get, cells, stor, boundO, resultsV, resV, partK, loadV, Vm.part, fillC, splice, reduceIte, reduceCtorEq, Nat.reduceEqDiff, Nat.reduceAdd, Nat.reduceSub, Nat.reduceMul, Nat.reduceLeDiff, ne_eq, not_false_eq_true, Int.reduceEq, Int.reduceLT, Int.reduceLE, Int.reduceNeg, Int.reduceToNat, Int.reduceGT, Int.reduceGE, Nat.reduceLT, Nat.lt_add_one, Nat.zero_lt_succ, Nat.succ_pos, Nat.zero_le, beq_self_eq_true]
  refine Cf.pu (P1 _) fun t1 => ?_
  simp (maxSteps := 4000000) only [vm, vl, Arg.get, cells, stor, boundO, resultsV, resV, partK, loadV, Vm.part, fillC, splice, reduceIte, reduceCtorEq, Nat.reduceEqDiff, Nat.reduceAdd, Nat.reduceSub, Nat.reduceMul, Nat.reduceLeDiff, ne_eq, not_false_eq_true, Int.reduceEq, Int.reduceLT, Int.reduceLE, Int.reduceNeg, Int.reduceToNat, Int.reduceGT, Int.reduceGE, Nat.reduceLT, Nat.lt_add_one, Nat.zero_lt_succ, Nat.succ_pos, Nat.zero_le, beq_self_eq_true]
  refine Cf.pu (P2 _) fun t2 => ?_
  simp (maxSteps := 4000000) only [vm, vl, Arg.get, cells, stor, boundO, resultsV, resV, partK, loadV, Vm.part, fillC, splice, reduceIte, reduceCtorEq, Nat.reduceEqDiff, Nat.reduceAdd, Nat.reduceSub, Nat.reduceMul, Nat.reduceLeDiff, ne_eq, not_false_eq_true, Int.reduceEq, Int.reduceLT, Int.reduceLE, Int.reduceNeg, Int.reduceToNat, Int.reduceGT, Int.reduceGE, Nat.reduceLT, Nat.lt_add_one, Nat.zero_lt_succ, Nat.succ_pos, Nat.zero_le, beq_self_eq_true]
  refine Cf.pu (P3 _) fun t3 => ?_
  simp (maxSteps := 4000000) only [vm, vl, Arg.get, cells, stor, boundO, resultsV, resV, partK, loadV, Vm.part, fillC, splice, reduceIte, reduceCtorEq, Nat.reduceEqDiff, Nat.reduceAdd, Nat.reduceSub, Nat.reduceMul, Nat.reduceLeDiff, ne_eq, not_false_eq_true, Int.reduceEq, Int.reduceLT, Int.reduceLE, Int.reduceNeg, Int.reduceToNat, Int.reduceGT, Int.reduceGE, Nat.reduceLT, Nat.lt_add_one, Nat.zero_lt_succ, Nat.succ_pos, Nat.zero_le, beq_self_eq_true]
  refine Cf.pu (P4 _) fun t4 => ?_
  simp (maxSteps := 4000000) only [vm, vl, Arg.get, cells, stor, boundO, resultsV, resV, partK, loadV, Vm.part, fillC, splice, reduceIte, reduceCtorEq, Nat.reduceEqDiff, Nat.reduceAdd, Nat.reduceSub, Nat.reduceMul, Nat.reduceLeDiff, ne_eq, not_false_eq_true, Int.reduceEq, Int.reduceLT, Int.reduceLE, Int.reduceNeg, Int.reduceToNat, Int.reduceGT, Int.reduceGE, Nat.reduceLT, Nat.lt_add_one, Nat.zero_lt_succ, Nat.succ_pos, Nat.zero_le, beq_self_eq_true]
  refine Cf.pu (P5 _) fun t5 => ?_
  simp (maxSteps := 4000000) only [vm, vl, Arg.get, cells, stor, boundO, resultsV, resV, partK, loadV, Vm.part, fillC, splice, reduceIte, reduceCtorEq, Nat.reduceEqDiff, Nat.reduceAdd, Nat.reduceSub, Nat.reduceMul, Nat.reduceLeDiff, ne_eq, not_false_eq_true, Int.reduceEq, Int.reduceLT, Int.reduceLE, Int.reduceNeg, Int.reduceToNat, Int.reduceGT, Int.reduceGE, Nat.reduceLT, Nat.lt_add_one, Nat.zero_lt_succ, Nat.succ_pos, Nat.zero_le, beq_self_eq_true, decide_true]
theorem LineWrites_row {x0 x1 x2 : V} (v0 : VPar [.l .s] x0) (v1 : VPar [.l .s] x1) (v2 : VPar [.l (.i .i64), .l (.i .i64)] x2) (w : World) (ht : TabAt w) (vs : List Value) (hv : Rvs w.heap.size G0 w [x0, x1, x2] vs) :
    Calls Tryd.prog i_gatepostlaw03_LineWrites vs.toArray w fun e w' => e = .returned (.bool true) ∧ RowKit.Below w.heap.size w w' := by
  obtain ⟨a, rfl, ha⟩ := v0
  obtain ⟨b, rfl, hb⟩ := v1
  obtain ⟨xs, rfl, hx⟩ := v2
  obtain ⟨x, y, rfl, h1, h2⟩ := vsks_two hx
  obtain ⟨m, rfl, _⟩ := h1
  obtain ⟨c, rfl, _⟩ := h2
  exact calls_at hm hF (itoa_at ht) (LineWrites_ok (itoaOk fun _ _ _ h => h) ha hb) hv
end Go.Proofs.YtbcnhkgiabobiaaDoor.Vh
