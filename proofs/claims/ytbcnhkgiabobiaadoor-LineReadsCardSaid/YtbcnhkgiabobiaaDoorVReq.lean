/- Package line's RequestLine and StatusLine, with the reference's; LineWrites on the small machine. -/
import Derived.Test.YtbcnhkgiabobiaaDoorVLine
import Derived.Test.YtbcnhkgiabobiaaDoorVmOpen
set_option linter.unusedVariables false
set_option linter.unusedSimpArgs false
namespace Go.Proofs.YtbcnhkgiabobiaaDoor.Vh
open Go.Vm Go.Vt
attribute [local congr] wi_congr wg_congr wgd_congr wb_congr wl_congr cf_congr
variable {L : FuncId → List V → V → Prop} {h : Heap}
theorem bin_quo {x y : Int} : binV .quo (.int .i64 x) (.int .i64 y) = if y = 0 then none else some (.int .i64 (IntKind.i64.wrap (x.tdiv y))) := by
  by_cases h : y = 0 <;> simp [binV, binI, h]
theorem bin_rem {x y : Int} : binV .rem (.int .i64 x) (.int .i64 y) = if y = 0 then none else some (.int .i64 (x.tmod y)) := by
  by_cases h : y = 0 <;> simp [binV, binI, h]
theorem itoa_0 : Go.Lib.itoa 0 = [48] := by rw [show Go.Lib.itoa 0 = Go.Lib.decDigits 0 from rfl, Go.Lib.decDigits_one (by omega)]; rfl
theorem itoa_1 : Go.Lib.itoa 1 = [49] := by rw [show Go.Lib.itoa 1 = Go.Lib.decDigits 1 from rfl, Go.Lib.decDigits_one (by omega)]; rfl
theorem itoa_3 {n : Nat} (h0 : 100 ≤ n) (h1 : n < 1000) : Go.Lib.itoa (n : Int) = [UInt8.ofNat (48 + n / 100), UInt8.ofNat (48 + n / 10 % 10), UInt8.ofNat (48 + n % 10)] := by
  have : Go.Lib.itoa (n : Int) = Go.Lib.decDigits n := by unfold Go.Lib.itoa; rw [if_neg (by omega)]; rfl
  rw [this, Go.Lib.decDigits, dif_neg (by omega), Go.Lib.decDigits_two (i := n / 10) (by omega) (by omega), show n / 10 / 10 = n / 100 by omega]; rfl
def fitV (s : Bs) : V := if s.length > 1024 then .tup [.str [], .int .i64 3] else .tup [.str s, .int .i64 0]
theorem fits_ok {s : Bs} : Cf F L i_line_fits [.str s] h (Pu h (fitV s)) := by
  refine run_line_fits ?_
  simp only [p_line_fits]
  by_cases hs : (s.length : Int) > 1024
  · have e : fitV s = .tup [.str [], .int .i64 3] := if_pos (by omega)
    rw [e]
    simp (maxSteps := 4000000) only [vm, vl, Arg.get, cells, stor, boundO, resultsV, resV, partK, loadV, Vm.part, fillC, splice, reduceIte, reduceCtorEq, Nat.reduceEqDiff, Nat.reduceAdd, Nat.reduceSub, Nat.reduceMul, Nat.reduceLeDiff, ne_eq, not_false_eq_true, Int.reduceEq, Int.reduceLT, Int.reduceLE, Int.reduceNeg, Int.reduceToNat, Int.reduceGT, Int.reduceGE, Nat.reduceLT, Nat.lt_add_one, Nat.zero_lt_succ, Nat.succ_pos, Nat.zero_le, beq_self_eq_true, k_line_fits_0, hs, decide_true]
  · have e : fitV s = .tup [.str s, .int .i64 0] := if_neg (by omega)
    rw [e]
    simp (maxSteps := 4000000) only [vm, vl, Arg.get, cells, stor, boundO, resultsV, resV, partK, loadV, Vm.part, fillC, splice, reduceIte, reduceCtorEq, Nat.reduceEqDiff, Nat.reduceAdd, Nat.reduceSub, Nat.reduceMul, Nat.reduceLeDiff, ne_eq, not_false_eq_true, Int.reduceEq, Int.reduceLT, Int.reduceLE, Int.reduceNeg, Int.reduceToNat, Int.reduceGT, Int.reduceGE, Nat.reduceLT, Nat.lt_add_one, Nat.zero_lt_succ, Nat.succ_pos, Nat.zero_le, beq_self_eq_true, k_line_fits_0, hs, decide_false]
def errV : V := .tup [.str [], .int .i64 2]
def reqV (a b : Bs) (n : Int) : V := if isTok a = true ∧ tgtS b = true ∧ (n = 0 ∨ n = 1) then fitV (a ++ [32] ++ b ++ [32] ++ [72, 84, 84, 80, 47, 49, 46] ++ [UInt8.ofNat (48 + n.toNat)]) else errV
theorem fitV_cases (s : Bs) : (s.length > 1024 ∧ fitV s = .tup [.str [], .int .i64 3]) ∨ (¬ s.length > 1024 ∧ fitV s = .tup [.str s, .int .i64 0]) := by
  by_cases h : s.length > 1024
  · exact .inl ⟨h, if_pos h⟩
  · exact .inr ⟨h, if_neg h⟩
theorem isMinor_ok {n : Int} : Cf F L i_line_isMinor [.int .i64 n] h (Pu h (.bool (decide (n = 0 ∨ n = 1)))) := by
  refine run_line_isMinor ?_
  simp only [p_line_isMinor]
  by_cases n0 : n = 0
  · have d : decide (n = 0 ∨ n = 1) = true := by simp [n0]
    rw [d]
    simp (maxSteps := 4000000) only [vm, vl, Arg.get, cells, stor, boundO, resultsV, resV, partK, loadV, Vm.part, fillC, splice, reduceIte, reduceCtorEq, Nat.reduceEqDiff, Nat.reduceAdd, Nat.reduceSub, Nat.reduceMul, Nat.reduceLeDiff, ne_eq, not_false_eq_true, Int.reduceEq, Int.reduceLT, Int.reduceLE, Int.reduceNeg, Int.reduceToNat, Int.reduceGT, Int.reduceGE, Nat.reduceLT, Nat.lt_add_one, Nat.zero_lt_succ, Nat.succ_pos, Nat.zero_le, beq_self_eq_true, n0, decide_true]
  · by_cases n1 : n = 1
    · have d : decide (n = 0 ∨ n = 1) = true := by simp [n1]
      rw [d]
      simp (maxSteps := 4000000) only [vm, vl, Arg.get, cells, stor, boundO, resultsV, resV, partK, loadV, Vm.part, fillC, splice, reduceIte, reduceCtorEq, Nat.reduceEqDiff, Nat.reduceAdd, Nat.reduceSub, Nat.reduceMul, Nat.reduceLeDiff, ne_eq, not_false_eq_true, Int.reduceEq, Int.reduceLT, Int.reduceLE, Int.reduceNeg, Int.reduceToNat, Int.reduceGT, Int.reduceGE, Nat.reduceLT, Nat.lt_add_one, Nat.zero_lt_succ, Nat.succ_pos, Nat.zero_le, beq_self_eq_true, n0, n1, decide_true, decide_false]
    · have d : decide (n = 0 ∨ n = 1) = false := by simp [n0, n1]
      rw [d]
      simp (maxSteps := 4000000) only [vm, vl, Arg.get, cells, stor, boundO, resultsV, resV, partK, loadV, Vm.part, fillC, splice, reduceIte, reduceCtorEq, Nat.reduceEqDiff, Nat.reduceAdd, Nat.reduceSub, Nat.reduceMul, Nat.reduceLeDiff, ne_eq, not_false_eq_true, Int.reduceEq, Int.reduceLT, Int.reduceLE, Int.reduceNeg, Int.reduceToNat, Int.reduceGT, Int.reduceGE, Nat.reduceLT, Nat.lt_add_one, Nat.zero_lt_succ, Nat.succ_pos, Nat.zero_le, beq_self_eq_true, n0, n1, decide_false]
theorem RequestLine_ok (HI : ItoaOk L) {a b : Bs} {n : Int} (ha : a.length ≤ 140737488351232) (hb : b.length ≤ 140737488351232) : Cf F L i_line_RequestLine [.str a, .str b, .int .i64 n] h (Pu h (reqV a b n)) := by
  refine run_line_RequestLine ?_
  simp only [p_line_RequestLine]
  refine Cf.pu (Is_ok (by omega)) fun t => ?_
  cases qa : isTok a with
  | false =>
    have e : reqV a b n = errV := if_neg (by rintro ⟨h, _⟩; rw [qa] at h; cases h)
    rw [e]
    simp (maxSteps := 4000000) only [vm, vl, Arg.get, cells, stor, boundO, resultsV, resV, partK, loadV, Vm.part, fillC, splice, reduceIte, reduceCtorEq, Nat.reduceEqDiff, Nat.reduceAdd, Nat.reduceSub, Nat.reduceMul, Nat.reduceLeDiff, ne_eq, not_false_eq_true, Int.reduceEq, Int.reduceLT, Int.reduceLE, Int.reduceNeg, Int.reduceToNat, Int.reduceGT, Int.reduceGE, Nat.reduceLT, Nat.lt_add_one, Nat.zero_lt_succ, Nat.succ_pos, Nat.zero_le, beq_self_eq_true, k_line_RequestLine_0, Bool.not_false, errV]
  | true =>
  simp (maxSteps := 4000000) only [vm, vl, Arg.get, cells, stor, boundO, resultsV, resV, partK, loadV, Vm.part, fillC, splice, reduceIte, reduceCtorEq, Nat.reduceEqDiff, Nat.reduceAdd, Nat.reduceSub, Nat.reduceMul, Nat.reduceLeDiff, ne_eq, not_false_eq_true, Int.reduceEq, Int.reduceLT, Int.reduceLE, Int.reduceNeg, Int.reduceToNat, Int.reduceGT, Int.reduceGE, Nat.reduceLT, Nat.lt_add_one, Nat.zero_lt_succ, Nat.succ_pos, Nat.zero_le, beq_self_eq_true, k_line_RequestLine_0, Bool.not_true]
  refine Cf.pu (isTarget_ok (by omega)) fun t1 => ?_
  cases qb : tgtS b with
  | false =>
    have e : reqV a b n = errV := if_neg (by rintro ⟨_, h, _⟩; rw [qb] at h; cases h)
    rw [e]
    simp (maxSteps := 4000000) only [vm, vl, Arg.get, cells, stor, boundO, resultsV, resV, partK, loadV, Vm.part, fillC, splice, reduceIte, reduceCtorEq, Nat.reduceEqDiff, Nat.reduceAdd, Nat.reduceSub, Nat.reduceMul, Nat.reduceLeDiff, ne_eq, not_false_eq_true, Int.reduceEq, Int.reduceLT, Int.reduceLE, Int.reduceNeg, Int.reduceToNat, Int.reduceGT, Int.reduceGE, Nat.reduceLT, Nat.lt_add_one, Nat.zero_lt_succ, Nat.succ_pos, Nat.zero_le, beq_self_eq_true, k_line_RequestLine_0, Bool.not_false, errV]
  | true =>
  simp (maxSteps := 4000000) only [vm, vl, Arg.get, cells, stor, boundO, resultsV, resV, partK, loadV, Vm.part, fillC, splice, reduceIte, reduceCtorEq, Nat.reduceEqDiff, Nat.reduceAdd, Nat.reduceSub, Nat.reduceMul, Nat.reduceLeDiff, ne_eq, not_false_eq_true, Int.reduceEq, Int.reduceLT, Int.reduceLE, Int.reduceNeg, Int.reduceToNat, Int.reduceGT, Int.reduceGE, Nat.reduceLT, Nat.lt_add_one, Nat.zero_lt_succ, Nat.succ_pos, Nat.zero_le, beq_self_eq_true, k_line_RequestLine_0, Bool.not_true]
  refine Cf.pu isMinor_ok fun t2 => ?_
  by_cases hn : n = 0 ∨ n = 1
  · have d : decide (n = 0 ∨ n = 1) = true := by simpa using hn
    rw [d]
    have e : reqV a b n = fitV (a ++ [32] ++ b ++ [32] ++ [72, 84, 84, 80, 47, 49, 46] ++ [UInt8.ofNat (48 + n.toNat)]) := if_pos ⟨qa, qb, hn⟩
    rw [e]
    have hi := fun h => HI (n := n) (h := h) (by omega) (by omega)
    have hin : Go.Lib.itoa n = [UInt8.ofNat (48 + n.toNat)] := by
      rcases hn with rfl | rfl
      · exact itoa_0
      · exact itoa_1
    rw [hin] at hi
    generalize UInt8.ofNat (48 + n.toNat) = dg at *
    obtain ⟨A0, hA0⟩ : ∃ A : Bs, A = a ++ [32] := ⟨_, rfl⟩
    have lA0 : A0.length = a.length + ([32] : Bs).length := by rw [hA0, List.length_append]
    have aA0 : binV .add (.str a) (.str [32]) = some (.str A0) := by rw [hA0]; exact bin_sadd (by simp only [ List.length_cons, List.length_nil] at *; omega)
    obtain ⟨A1, hA1⟩ : ∃ A : Bs, A = A0 ++ b := ⟨_, rfl⟩
    have lA1 : A1.length = A0.length + (b : Bs).length := by rw [hA1, List.length_append]
    have aA1 : binV .add (.str A0) (.str b) = some (.str A1) := by rw [hA1]; exact bin_sadd (by simp only [ List.length_cons, List.length_nil] at *; omega)
    obtain ⟨A2, hA2⟩ : ∃ A : Bs, A = A1 ++ [32] := ⟨_, rfl⟩
    have lA2 : A2.length = A1.length + ([32] : Bs).length := by rw [hA2, List.length_append]
    have aA2 : binV .add (.str A1) (.str [32]) = some (.str A2) := by rw [hA2]; exact bin_sadd (by simp only [ List.length_cons, List.length_nil] at *; omega)
    obtain ⟨A3, hA3⟩ : ∃ A : Bs, A = A2 ++ [72, 84, 84, 80, 47, 49, 46] := ⟨_, rfl⟩
    have lA3 : A3.length = A2.length + ([72, 84, 84, 80, 47, 49, 46] : Bs).length := by rw [hA3, List.length_append]
    have aA3 : binV .add (.str A2) (.str [72, 84, 84, 80, 47, 49, 46]) = some (.str A3) := by rw [hA3]; exact bin_sadd (by simp only [ List.length_cons, List.length_nil] at *; omega)
    obtain ⟨A4, hA4⟩ : ∃ A : Bs, A = A3 ++ [dg] := ⟨_, rfl⟩
    have lA4 : A4.length = A3.length + ([dg] : Bs).length := by rw [hA4, List.length_append]
    have aA4 : binV .add (.str A3) (.str [dg]) = some (.str A4) := by rw [hA4]; exact bin_sadd (by simp only [ List.length_cons, List.length_nil] at *; omega)
    rw [show a ++ [32] ++ b ++ [32] ++ [72, 84, 84, 80, 47, 49, 46] ++ [dg] = A4 from by rw [hA4, hA3, hA2, hA1, hA0]]
    simp (maxSteps := 4000000) only [vm, vl, Arg.get, cells, stor, boundO, resultsV, resV, partK, loadV, Vm.part, fillC, splice, reduceIte, reduceCtorEq, Nat.reduceEqDiff, Nat.reduceAdd, Nat.reduceSub, Nat.reduceMul, Nat.reduceLeDiff, ne_eq, not_false_eq_true, Int.reduceEq, Int.reduceLT, Int.reduceLE, Int.reduceNeg, Int.reduceToNat, Int.reduceGT, Int.reduceGE, Nat.reduceLT, Nat.lt_add_one, Nat.zero_lt_succ, Nat.succ_pos, Nat.zero_le, beq_self_eq_true, k_line_RequestLine_0, Bool.not_true, aA0, aA1, aA2, aA3]
    refine Cf.pu (hi _) fun t3 => ?_
    simp (maxSteps := 4000000) only [vm, vl, Arg.get, cells, stor, boundO, resultsV, resV, partK, loadV, Vm.part, fillC, splice, reduceIte, reduceCtorEq, Nat.reduceEqDiff, Nat.reduceAdd, Nat.reduceSub, Nat.reduceMul, Nat.reduceLeDiff, ne_eq, not_false_eq_true, Int.reduceEq, Int.reduceLT, Int.reduceLE, Int.reduceNeg, Int.reduceToNat, Int.reduceGT, Int.reduceGE, Nat.reduceLT, Nat.lt_add_one, Nat.zero_lt_succ, Nat.succ_pos, Nat.zero_le, beq_self_eq_true, k_line_RequestLine_0, aA4]
    refine Cf.pu fits_ok fun t4 => ?_
    rcases fitV_cases A4 with ⟨_, e4⟩ | ⟨_, e4⟩
    · rw [e4]
      simp (maxSteps := 4000000) only [vm, vl, Arg.get, cells, stor, boundO, resultsV, resV, partK, loadV, Vm.part, fillC, splice, reduceIte, reduceCtorEq, Nat.reduceEqDiff, Nat.reduceAdd, Nat.reduceSub, Nat.reduceMul, Nat.reduceLeDiff, ne_eq, not_false_eq_true, Int.reduceEq, Int.reduceLT, Int.reduceLE, Int.reduceNeg, Int.reduceToNat, Int.reduceGT, Int.reduceGE, Nat.reduceLT, Nat.lt_add_one, Nat.zero_lt_succ, Nat.succ_pos, Nat.zero_le, beq_self_eq_true, k_line_RequestLine_0]
    · rw [e4]
      simp (maxSteps := 4000000) only [vm, vl, Arg.get, cells, stor, boundO, resultsV, resV, partK, loadV, Vm.part, fillC, splice, reduceIte, reduceCtorEq, Nat.reduceEqDiff, Nat.reduceAdd, Nat.reduceSub, Nat.reduceMul, Nat.reduceLeDiff, ne_eq, not_false_eq_true, Int.reduceEq, Int.reduceLT, Int.reduceLE, Int.reduceNeg, Int.reduceToNat, Int.reduceGT, Int.reduceGE, Nat.reduceLT, Nat.lt_add_one, Nat.zero_lt_succ, Nat.succ_pos, Nat.zero_le, beq_self_eq_true, k_line_RequestLine_0]
  · have d : decide (n = 0 ∨ n = 1) = false := by simpa using hn
    rw [d]
    have e : reqV a b n = errV := if_neg (by rintro ⟨_, _, h⟩; exact hn h)
    rw [e]
    simp (maxSteps := 4000000) only [vm, vl, Arg.get, cells, stor, boundO, resultsV, resV, partK, loadV, Vm.part, fillC, splice, reduceIte, reduceCtorEq, Nat.reduceEqDiff, Nat.reduceAdd, Nat.reduceSub, Nat.reduceMul, Nat.reduceLeDiff, ne_eq, not_false_eq_true, Int.reduceEq, Int.reduceLT, Int.reduceLE, Int.reduceNeg, Int.reduceToNat, Int.reduceGT, Int.reduceGE, Nat.reduceLT, Nat.lt_add_one, Nat.zero_lt_succ, Nat.succ_pos, Nat.zero_le, beq_self_eq_true, k_line_RequestLine_0, Bool.not_false, errV]
theorem rRequestLine_ok {a b : Bs} {n : Int} (ha : a.length ≤ 140737488351232) (hb : b.length ≤ 140737488351232) : Cf F L i_gatepostref03_RequestLine [.str a, .str b, .int .i64 n] h (Pu h (reqV a b n)) := by
  refine run_gatepostref03_RequestLine ?_
  simp only [p_gatepostref03_RequestLine]
  refine Cf.pu (rIs_ok (by omega)) fun t => ?_
  cases qa : isTok a with
  | false =>
    have e : reqV a b n = errV := if_neg (by rintro ⟨h, _⟩; rw [qa] at h; cases h)
    rw [e]
    simp (maxSteps := 4000000) only [vm, vl, Arg.get, cells, stor, boundO, resultsV, resV, partK, loadV, Vm.part, fillC, splice, reduceIte, reduceCtorEq, Nat.reduceEqDiff, Nat.reduceAdd, Nat.reduceSub, Nat.reduceMul, Nat.reduceLeDiff, ne_eq, not_false_eq_true, Int.reduceEq, Int.reduceLT, Int.reduceLE, Int.reduceNeg, Int.reduceToNat, Int.reduceGT, Int.reduceGE, Nat.reduceLT, Nat.lt_add_one, Nat.zero_lt_succ, Nat.succ_pos, Nat.zero_le, beq_self_eq_true, k_gatepostref03_RequestLine_1, k_gatepostref03_RequestLine_0, Bool.not_false, errV]
  | true =>
  simp (maxSteps := 4000000) only [vm, vl, Arg.get, cells, stor, boundO, resultsV, resV, partK, loadV, Vm.part, fillC, splice, reduceIte, reduceCtorEq, Nat.reduceEqDiff, Nat.reduceAdd, Nat.reduceSub, Nat.reduceMul, Nat.reduceLeDiff, ne_eq, not_false_eq_true, Int.reduceEq, Int.reduceLT, Int.reduceLE, Int.reduceNeg, Int.reduceToNat, Int.reduceGT, Int.reduceGE, Nat.reduceLT, Nat.lt_add_one, Nat.zero_lt_succ, Nat.succ_pos, Nat.zero_le, beq_self_eq_true, k_gatepostref03_RequestLine_1, k_gatepostref03_RequestLine_0, Bool.not_true]
  refine Cf.pu (rtarget_ok (by omega)) fun t1 => ?_
  cases qb : tgtS b with
  | false =>
    have e : reqV a b n = errV := if_neg (by rintro ⟨_, h, _⟩; rw [qb] at h; cases h)
    rw [e]
    simp (maxSteps := 4000000) only [vm, vl, Arg.get, cells, stor, boundO, resultsV, resV, partK, loadV, Vm.part, fillC, splice, reduceIte, reduceCtorEq, Nat.reduceEqDiff, Nat.reduceAdd, Nat.reduceSub, Nat.reduceMul, Nat.reduceLeDiff, ne_eq, not_false_eq_true, Int.reduceEq, Int.reduceLT, Int.reduceLE, Int.reduceNeg, Int.reduceToNat, Int.reduceGT, Int.reduceGE, Nat.reduceLT, Nat.lt_add_one, Nat.zero_lt_succ, Nat.succ_pos, Nat.zero_le, beq_self_eq_true, k_gatepostref03_RequestLine_1, k_gatepostref03_RequestLine_0, Bool.not_false, errV]
  | true =>
  by_cases n0 : n < 0
  · have e : reqV a b n = errV := if_neg (by rintro ⟨_, _, h⟩; omega)
    rw [e]
    simp (maxSteps := 4000000) only [vm, vl, Arg.get, cells, stor, boundO, resultsV, resV, partK, loadV, Vm.part, fillC, splice, reduceIte, reduceCtorEq, Nat.reduceEqDiff, Nat.reduceAdd, Nat.reduceSub, Nat.reduceMul, Nat.reduceLeDiff, ne_eq, not_false_eq_true, Int.reduceEq, Int.reduceLT, Int.reduceLE, Int.reduceNeg, Int.reduceToNat, Int.reduceGT, Int.reduceGE, Nat.reduceLT, Nat.lt_add_one, Nat.zero_lt_succ, Nat.succ_pos, Nat.zero_le, beq_self_eq_true, k_gatepostref03_RequestLine_1, k_gatepostref03_RequestLine_0, Bool.not_true, n0, decide_true, errV]
  by_cases n1 : n > 1
  · have e : reqV a b n = errV := if_neg (by rintro ⟨_, _, h⟩; omega)
    rw [e]
    simp (maxSteps := 4000000) only [vm, vl, Arg.get, cells, stor, boundO, resultsV, resV, partK, loadV, Vm.part, fillC, splice, reduceIte, reduceCtorEq, Nat.reduceEqDiff, Nat.reduceAdd, Nat.reduceSub, Nat.reduceMul, Nat.reduceLeDiff, ne_eq, not_false_eq_true, Int.reduceEq, Int.reduceLT, Int.reduceLE, Int.reduceNeg, Int.reduceToNat, Int.reduceGT, Int.reduceGE, Nat.reduceLT, Nat.lt_add_one, Nat.zero_lt_succ, Nat.succ_pos, Nat.zero_le, beq_self_eq_true, k_gatepostref03_RequestLine_1, k_gatepostref03_RequestLine_0, Bool.not_true, n0, n1, decide_true, decide_false, errV]
  have hn : n = 0 ∨ n = 1 := by omega
  have e : reqV a b n = fitV (a ++ [32] ++ b ++ [32] ++ [72, 84, 84, 80, 47, 49, 46] ++ [UInt8.ofNat (48 + n.toNat)]) := if_pos ⟨qa, qb, hn⟩
  rw [e]
  have w : IntKind.i64.wrap (n + 1) = n + 1 := wrap64 (by omega) (by omega)
  have sl : List.drop n.toNat (List.take (n + 1).toNat ([48, 49] : Bs)) = [UInt8.ofNat (48 + n.toNat)] := by rcases hn with rfl | rfl <;> rfl
  have z0 : 0 ≤ n := by omega
  have z1 : 0 ≤ n + 1 := by omega
  have z2 : n.toNat ≤ (n + 1).toNat := by omega
  have z3 : (n + 1).toNat ≤ 2 := by omega
  generalize UInt8.ofNat (48 + n.toNat) = dg at *
  obtain ⟨B0, hB0⟩ : ∃ A : Bs, A = a ++ [32] := ⟨_, rfl⟩
  have lB0 : B0.length = a.length + ([32] : Bs).length := by rw [hB0, List.length_append]
  have aB0 : binV .add (.str a) (.str [32]) = some (.str B0) := by rw [hB0]; exact bin_sadd (by simp only [ List.length_cons, List.length_nil] at *; omega)
  obtain ⟨B1, hB1⟩ : ∃ A : Bs, A = B0 ++ b := ⟨_, rfl⟩
  have lB1 : B1.length = B0.length + (b : Bs).length := by rw [hB1, List.length_append]
  have aB1 : binV .add (.str B0) (.str b) = some (.str B1) := by rw [hB1]; exact bin_sadd (by simp only [ List.length_cons, List.length_nil] at *; omega)
  obtain ⟨B2, hB2⟩ : ∃ A : Bs, A = B1 ++ [32, 72, 84, 84, 80, 47, 49, 46] := ⟨_, rfl⟩
  have lB2 : B2.length = B1.length + ([32, 72, 84, 84, 80, 47, 49, 46] : Bs).length := by rw [hB2, List.length_append]
  have aB2 : binV .add (.str B1) (.str [32, 72, 84, 84, 80, 47, 49, 46]) = some (.str B2) := by rw [hB2]; exact bin_sadd (by simp only [ List.length_cons, List.length_nil] at *; omega)
  obtain ⟨B3, hB3⟩ : ∃ A : Bs, A = B2 ++ [dg] := ⟨_, rfl⟩
  have lB3 : B3.length = B2.length + ([dg] : Bs).length := by rw [hB3, List.length_append]
  have aB3 : binV .add (.str B2) (.str [dg]) = some (.str B3) := by rw [hB3]; exact bin_sadd (by simp only [ List.length_cons, List.length_nil] at *; omega)
  rw [show a ++ [32] ++ b ++ [32] ++ [72, 84, 84, 80, 47, 49, 46] ++ [dg] = B3 from by rw [hB3, hB2, hB1, hB0]; simp]
  by_cases hb3 : (B3.length : Int) > 1024
  · have e4 : fitV B3 = .tup [.str [], .int .i64 3] := if_pos (by omega)
    rw [e4]
    simp (maxSteps := 4000000) only [vm, vl, Arg.get, cells, stor, boundO, resultsV, resV, partK, loadV, Vm.part, fillC, splice, reduceIte, reduceCtorEq, Nat.reduceEqDiff, Nat.reduceAdd, Nat.reduceSub, Nat.reduceMul, Nat.reduceLeDiff, ne_eq, not_false_eq_true, Int.reduceEq, Int.reduceLT, Int.reduceLE, Int.reduceNeg, Int.reduceToNat, Int.reduceGT, Int.reduceGE, Nat.reduceLT, Nat.lt_add_one, Nat.zero_lt_succ, Nat.succ_pos, Nat.zero_le, beq_self_eq_true, k_gatepostref03_RequestLine_1, k_gatepostref03_RequestLine_0, Bool.not_true, n0, n1, decide_true, decide_false, aB0, aB1, aB2, aB3, w, z0, z1, z2, z3, sl, hb3]
  · have e4 : fitV B3 = .tup [.str B3, .int .i64 0] := if_neg (by omega)
    rw [e4]
    simp (maxSteps := 4000000) only [vm, vl, Arg.get, cells, stor, boundO, resultsV, resV, partK, loadV, Vm.part, fillC, splice, reduceIte, reduceCtorEq, Nat.reduceEqDiff, Nat.reduceAdd, Nat.reduceSub, Nat.reduceMul, Nat.reduceLeDiff, ne_eq, not_false_eq_true, Int.reduceEq, Int.reduceLT, Int.reduceLE, Int.reduceNeg, Int.reduceToNat, Int.reduceGT, Int.reduceGE, Nat.reduceLT, Nat.lt_add_one, Nat.zero_lt_succ, Nat.succ_pos, Nat.zero_le, beq_self_eq_true, k_gatepostref03_RequestLine_1, k_gatepostref03_RequestLine_0, Bool.not_true, n0, n1, decide_true, decide_false, aB0, aB1, aB2, aB3, w, z0, z1, z2, z3, sl, hb3]
end Go.Proofs.YtbcnhkgiabobiaaDoor.Vh
