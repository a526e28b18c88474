/- Several texts in one: VFresh, VState. -/
import Derived.Test.YtebjbkbjmdnblaaPk3
section
set_option linter.unusedVariables false
set_option linter.unusedSimpArgs false
namespace Go.Proofs.Ytebjbkbjmdnblaa.Vh
open Go.Vm
attribute [local congr] wi_congr wg_congr wgd_congr wb_congr wl_congr cf_congr
variable {L : FuncId → List V → V → Prop} {h : Heap}
def sinceS (a b : Int) : Int := if a < 0 then 0 else if b < 0 then 0 else max 0 (min b 1099511627776 - min a 1099511627776)
theorem sinceS_range (a b : Int) : 0 ≤ sinceS a b ∧ sinceS a b ≤ 1099511627776 := by
  unfold sinceS
  split
  · omega
  · split <;> omega
theorem since_ok {a b : Int} : Cf F L i_fresh_since [.int .i64 a, .int .i64 b] h (Pu h (.int .i64 (sinceS a b))) := by
  refine run_fresh_since ?_
  simp only [p_fresh_since]
  simp (maxSteps := 4000000) only [vm, vl, Arg.get, cells, stor, boundO, resultsV, resV, partK, loadV, Vm.part, fillC, splice, reduceIte, reduceCtorEq, Nat.reduceEqDiff, Nat.reduceAdd, Nat.reduceSub, Nat.reduceMul, Nat.reduceLeDiff, ne_eq, not_false_eq_true, Int.reduceEq, Int.reduceLT, Int.reduceLE, Int.reduceNeg, Int.reduceToNat, Int.reduceGT, Int.reduceGE, Nat.reduceLT, Nat.lt_add_one, Nat.zero_lt_succ, Nat.succ_pos, Nat.zero_le, beq_self_eq_true, k_fresh_since_0]
  (repeat' ((first | refine wg_casep (fun _ => ?_) (fun _ => ?_) | refine wg_casen (fun _ => ?_) (fun _ => ?_) | refine wg_case (fun _ => ?_) (fun _ => ?_) | refine wgd_casep (fun _ => ?_) (fun _ => ?_) | refine wgd_casen (fun _ => ?_) (fun _ => ?_) | refine wgd_case (fun _ => ?_) (fun _ => ?_) | refine wb_casep (fun _ => ?_) (fun _ => ?_) | refine wb_casen (fun _ => ?_) (fun _ => ?_) | refine wb_case (fun _ => ?_) (fun _ => ?_)) <;> try simp (maxSteps := 4000000) only [vm, vl, Arg.get, cells, stor, boundO, resultsV, resV, partK, loadV, Vm.part, fillC, splice, reduceIte, reduceCtorEq, Nat.reduceEqDiff, Nat.reduceAdd, Nat.reduceSub, Nat.reduceMul, Nat.reduceLeDiff, ne_eq, not_false_eq_true, Int.reduceEq, Int.reduceLT, Int.reduceLE, Int.reduceNeg, Int.reduceToNat, Int.reduceGT, Int.reduceGE, Nat.reduceLT, Nat.lt_add_one, Nat.zero_lt_succ, Nat.succ_pos, Nat.zero_le, beq_self_eq_true, k_fresh_since_0, *]))
  · simp only [sinceS, *, if_true]
  · simp only [sinceS, *, if_true, if_false]
  · simp only [sinceS, *, if_false]
    rw [wrap64 (by omega) (by omega)]
theorem age1_ok {a : Int} : Cf F L i_fresh_Age_1 [.int .i64 a] h (Pu h (.int .i64 (max 0 (min a 1099511627776)))) := by
  refine run_fresh_Age_1 ?_
  simp only [p_fresh_Age_1]
  simp (maxSteps := 4000000) only [vm, vl, Arg.get, cells, stor, boundO, resultsV, resV, partK, loadV, Vm.part, fillC, splice, reduceIte, reduceCtorEq, Nat.reduceEqDiff, Nat.reduceAdd, Nat.reduceSub, Nat.reduceMul, Nat.reduceLeDiff, ne_eq, not_false_eq_true, Int.reduceEq, Int.reduceLT, Int.reduceLE, Int.reduceNeg, Int.reduceToNat, Int.reduceGT, Int.reduceGE, Nat.reduceLT, Nat.lt_add_one, Nat.zero_lt_succ, Nat.succ_pos, Nat.zero_le, beq_self_eq_true]
def ageS (date age asked got now : Int) : Int := min (max (sinceS date got) (max 0 (min age 1099511627776) + sinceS asked got) + sinceS got now) 2147483648
theorem ageS_range (date age asked got now : Int) : 0 ≤ ageS date age asked got now ∧ ageS date age asked got now ≤ 2147483648 := by
  unfold ageS
  have h1 := sinceS_range date got
  have h2 := sinceS_range asked got
  have h3 := sinceS_range got now
  omega
theorem Age_ok {c0 : Int} {c1 c2 c3 c4 c5 c6 c7 : Bool} {c8 c9 c10 c11 c12 c13 c14 c15 c16 c17 c18 c19 : Int} {c20 : List UInt8} {now : Int} : Cf F L i_fresh_Age [.agg [.int .i64 c0, .bool c1, .bool c2, .bool c3, .bool c4, .bool c5, .bool c6, .bool c7, .int .i64 c8, .int .i64 c9, .int .i64 c10, .int .i64 c11, .int .i64 c12, .int .i64 c13, .int .i64 c14, .int .i64 c15, .int .i64 c16, .int .i64 c17, .int .i64 c18, .int .i64 c19, .str c20], .int .i64 now] h (Pu h (.int .i64 (ageS c14 c17 c18 c19 now))) := by
  refine run_fresh_Age ?_
  simp only [p_fresh_Age]
  simp (maxSteps := 4000000) only [vm, vl, Arg.get, cells, stor, boundO, resultsV, resV, partK, loadV, Vm.part, fillC, splice, reduceIte, reduceCtorEq, Nat.reduceEqDiff, Nat.reduceAdd, Nat.reduceSub, Nat.reduceMul, Nat.reduceLeDiff, ne_eq, not_false_eq_true, Int.reduceEq, Int.reduceLT, Int.reduceLE, Int.reduceNeg, Int.reduceToNat, Int.reduceGT, Int.reduceGE, Nat.reduceLT, Nat.lt_add_one, Nat.zero_lt_succ, Nat.succ_pos, Nat.zero_le, beq_self_eq_true]
  (repeat' ((first | refine wg_casep (fun _ => ?_) (fun _ => ?_) | refine wg_casen (fun _ => ?_) (fun _ => ?_) | refine wg_case (fun _ => ?_) (fun _ => ?_) | refine wgd_casep (fun _ => ?_) (fun _ => ?_) | refine wgd_casen (fun _ => ?_) (fun _ => ?_) | refine wgd_case (fun _ => ?_) (fun _ => ?_) | refine wb_casep (fun _ => ?_) (fun _ => ?_) | refine wb_casen (fun _ => ?_) (fun _ => ?_) | refine wb_case (fun _ => ?_) (fun _ => ?_) | refine Cf.pu since_ok (fun _ => ?_) | refine Cf.pu age1_ok (fun _ => ?_)) <;> try simp (maxSteps := 4000000) only [vm, vl, Arg.get, cells, stor, boundO, resultsV, resV, partK, loadV, Vm.part, fillC, splice, reduceIte, reduceCtorEq, Nat.reduceEqDiff, Nat.reduceAdd, Nat.reduceSub, Nat.reduceMul, Nat.reduceLeDiff, ne_eq, not_false_eq_true, Int.reduceEq, Int.reduceLT, Int.reduceLE, Int.reduceNeg, Int.reduceToNat, Int.reduceGT, Int.reduceGE, Nat.reduceLT, Nat.lt_add_one, Nat.zero_lt_succ, Nat.succ_pos, Nat.zero_le, beq_self_eq_true, *]))
  have h1 := sinceS_range c14 c19
  have h2 := sinceS_range c18 c19
  have h3 := sinceS_range c19 now
  rw [wrap64 (x := max 0 (min c17 1099511627776) + sinceS c18 c19) (by omega) (by omega), wrap64 (by omega) (by omega)]
  rfl
def isKept (c : Int) : Bool := [200, 203, 204, 206, 300, 301, 308, 404, 405, 410, 414, 501].contains c
theorem keeps_ok : Cf F L i_fresh_keeps [] h (Pu h (.agg ([200, 203, 204, 206, 300, 301, 308, 404, 405, 410, 414, 501].map (.int .i64)))) := by
  refine run_fresh_keeps ?_
  simp only [p_fresh_keeps]
  simp (maxSteps := 4000000) only [vm, vl, Arg.get, cells, stor, boundO, resultsV, resV, partK, loadV, Vm.part, fillC, splice, reduceIte, reduceCtorEq, Nat.reduceEqDiff, Nat.reduceAdd, Nat.reduceSub, Nat.reduceMul, Nat.reduceLeDiff, ne_eq, not_false_eq_true, Int.reduceEq, Int.reduceLT, Int.reduceLE, Int.reduceNeg, Int.reduceToNat, Int.reduceGT, Int.reduceGE, Nat.reduceLT, Nat.lt_add_one, Nat.zero_lt_succ, Nat.succ_pos, Nat.zero_le, beq_self_eq_true]
  (repeat' ((first | refine wg_casep (fun _ => ?_) (fun _ => ?_) | refine wg_casen (fun _ => ?_) (fun _ => ?_) | refine wg_case (fun _ => ?_) (fun _ => ?_) | refine wgd_casep (fun _ => ?_) (fun _ => ?_) | refine wgd_casen (fun _ => ?_) (fun _ => ?_) | refine wgd_case (fun _ => ?_) (fun _ => ?_) | refine wb_casep (fun _ => ?_) (fun _ => ?_) | refine wb_casen (fun _ => ?_) (fun _ => ?_) | refine wb_case (fun _ => ?_) (fun _ => ?_)) <;> try simp (maxSteps := 4000000) only [vm, vl, Arg.get, cells, stor, boundO, resultsV, resV, partK, loadV, Vm.part, fillC, splice, reduceIte, reduceCtorEq, Nat.reduceEqDiff, Nat.reduceAdd, Nat.reduceSub, Nat.reduceMul, Nat.reduceLeDiff, ne_eq, not_false_eq_true, Int.reduceEq, Int.reduceLT, Int.reduceLE, Int.reduceNeg, Int.reduceToNat, Int.reduceGT, Int.reduceGE, Nat.reduceLT, Nat.lt_add_one, Nat.zero_lt_succ, Nat.succ_pos, Nat.zero_le, beq_self_eq_true, *]))
theorem kept_at {c : Int} : ∀ {i : Nat}, i < 12 → ([200, 203, 204, 206, 300, 301, 308, 404, 405, 410, 414, 501] : List Int).getD i 0 = c → isKept c = true := by
  intro i hi he
  subst he
  unfold isKept
  rw [List.contains_iff_mem, List.getD_eq_getElem?_getD, List.getElem?_eq_getElem hi, Option.getD_some]
  exact List.getElem_mem _
theorem kept_no {c : Int} (h : ∀ i, i < 12 → ([200, 203, 204, 206, 300, 301, 308, 404, 405, 410, 414, 501] : List Int).getD i 0 ≠ c) : isKept c = false := by
  cases hk : isKept c
  · rfl
  · unfold isKept at hk
    rw [List.contains_iff_mem] at hk
    obtain ⟨i, hi, rfl⟩ := List.getElem_of_mem hk
    exact absurd (by rw [List.getD_eq_getElem?_getD, List.getElem?_eq_getElem hi, Option.getD_some]) (h i hi)
theorem Heuristic_ok {c : Int} : Cf F L i_fresh_Heuristic [.int .i64 c] h (Pu h (.bool (isKept c))) := by
  refine run_fresh_Heuristic ?_
  simp only [p_fresh_Heuristic]
  simp (maxSteps := 4000000) only [vm, vl, Arg.get, cells, stor, boundO, resultsV, resV, partK, loadV, Vm.part, fillC, splice, reduceIte, reduceCtorEq, Nat.reduceEqDiff, Nat.reduceAdd, Nat.reduceSub, Nat.reduceMul, Nat.reduceLeDiff, ne_eq, not_false_eq_true, Int.reduceEq, Int.reduceLT, Int.reduceLE, Int.reduceNeg, Int.reduceToNat, Int.reduceGT, Int.reduceGE, Nat.reduceLT, Nat.lt_add_one, Nat.zero_lt_succ, Nat.succ_pos, Nat.zero_le, beq_self_eq_true, k_fresh_Heuristic_0, k_fresh_Heuristic_2, k_fresh_Heuristic_1]
  (repeat' ((first | refine wg_casep (fun _ => ?_) (fun _ => ?_) | refine wg_casen (fun _ => ?_) (fun _ => ?_) | refine wg_case (fun _ => ?_) (fun _ => ?_) | refine wgd_casep (fun _ => ?_) (fun _ => ?_) | refine wgd_casen (fun _ => ?_) (fun _ => ?_) | refine wgd_case (fun _ => ?_) (fun _ => ?_) | refine wb_casep (fun _ => ?_) (fun _ => ?_) | refine wb_casen (fun _ => ?_) (fun _ => ?_) | refine wb_case (fun _ => ?_) (fun _ => ?_) | refine Cf.pu keeps_ok (fun _ => ?_)) <;> try simp (maxSteps := 4000000) only [vm, vl, Arg.get, cells, stor, boundO, resultsV, resV, partK, loadV, Vm.part, fillC, splice, reduceIte, reduceCtorEq, Nat.reduceEqDiff, Nat.reduceAdd, Nat.reduceSub, Nat.reduceMul, Nat.reduceLeDiff, ne_eq, not_false_eq_true, Int.reduceEq, Int.reduceLT, Int.reduceLE, Int.reduceNeg, Int.reduceToNat, Int.reduceGT, Int.reduceGE, Nat.reduceLT, Nat.lt_add_one, Nat.zero_lt_succ, Nat.succ_pos, Nat.zero_le, beq_self_eq_true, k_fresh_Heuristic_0, k_fresh_Heuristic_2, k_fresh_Heuristic_1, *]))
  rename_i t
  refine l_fresh_Heuristic_0 (fun n e h' => ∃ i, i ≤ 12 ∧ n = 12 - i ∧ e 0 = .int .i64 c ∧ e 5 = .agg ([200, 203, 204, 206, 300, 301, 308, 404, 405, 410, 414, 501].map (.int .i64)) ∧ e 6 = .int .i64 i ∧ h' = h ++ t ∧ ∀ j, j < i → ([200, 203, 204, 206, 300, 301, 308, 404, 405, 410, 414, 501] : List Int).getD j 0 ≠ c) ?_ (n := 12) ?_
  rotate_left
  · exact ⟨0, by simp, by simp, rfl, rfl, rfl, rfl, by simp⟩
  rintro n e h' ⟨i, hi, rfl, e0, e5, e6, rfl, hj⟩
  simp only [b_fresh_Heuristic_0]
  have hd : ∀ i, i < 12 → ([200, 203, 204, 206, 300, 301, 308, 404, 405, 410, 414, 501].map (V.int .i64)).getD i (.tup []) = .int .i64 (([200, 203, 204, 206, 300, 301, 308, 404, 405, 410, 414, 501] : List Int).getD i 0) := by
    intro i hi
    rw [List.getD_eq_getElem?_getD, List.getD_eq_getElem?_getD, List.getElem?_map, List.getElem?_eq_getElem hi, Option.map_some, Option.getD_some, Option.getD_some]
  by_cases hl : (i : Int) < 12
  · have hl' : i < 12 := by omega
    have w := wrap64 (x := (i : Int) + 1) (by omega) (by omega)
    have b1 : i + 1 ≤ 12 := by omega
    have b2 := hd i hl'
    generalize hL : ([200, 203, 204, 206, 300, 301, 308, 404, 405, 410, 414, 501].map (V.int .i64)) = Ls at *
    have b3 : Ls.length = 12 := by rw [← hL]; rfl
    simp (maxSteps := 4000000) only [vm, vl, Arg.get, cells, stor, boundO, resultsV, resV, partK, loadV, Vm.part, fillC, splice, reduceIte, reduceCtorEq, Nat.reduceEqDiff, Nat.reduceAdd, Nat.reduceSub, Nat.reduceMul, Nat.reduceLeDiff, ne_eq, not_false_eq_true, Int.reduceEq, Int.reduceLT, Int.reduceLE, Int.reduceNeg, Int.reduceToNat, Int.reduceGT, Int.reduceGE, Nat.reduceLT, Nat.lt_add_one, Nat.zero_lt_succ, Nat.succ_pos, Nat.zero_le, beq_self_eq_true, k_fresh_Heuristic_0, k_fresh_Heuristic_2, k_fresh_Heuristic_1, e0, e5, e6, hl, w, hl', b1, b2, b3]
    (repeat' ((first | refine wg_casep (fun _ => ?_) (fun _ => ?_) | refine wg_casen (fun _ => ?_) (fun _ => ?_) | refine wg_case (fun _ => ?_) (fun _ => ?_) | refine wgd_casep (fun _ => ?_) (fun _ => ?_) | refine wgd_casen (fun _ => ?_) (fun _ => ?_) | refine wgd_case (fun _ => ?_) (fun _ => ?_) | refine wb_casep (fun _ => ?_) (fun _ => ?_) | refine wb_casen (fun _ => ?_) (fun _ => ?_) | refine wb_case (fun _ => ?_) (fun _ => ?_)) <;> try simp (maxSteps := 4000000) only [vm, vl, Arg.get, cells, stor, boundO, resultsV, resV, partK, loadV, Vm.part, fillC, splice, reduceIte, reduceCtorEq, Nat.reduceEqDiff, Nat.reduceAdd, Nat.reduceSub, Nat.reduceMul, Nat.reduceLeDiff, ne_eq, not_false_eq_true, Int.reduceEq, Int.reduceLT, Int.reduceLE, Int.reduceNeg, Int.reduceToNat, Int.reduceGT, Int.reduceGE, Nat.reduceLT, Nat.lt_add_one, Nat.zero_lt_succ, Nat.succ_pos, Nat.zero_le, beq_self_eq_true, k_fresh_Heuristic_0, k_fresh_Heuristic_2, k_fresh_Heuristic_1, *]))
    · rename_i hc
      rw [kept_at hl' hc]
    · rename_i hc
      refine ⟨12 - (i + 1), by omega, i + 1, by omega, rfl, by simp, ?_⟩
      intro j hj'
      rcases Nat.lt_or_ge j i with h1 | h1
      · exact hj j h1
      · have : j = i := by omega
        subst this; exact hc
  · simp (maxSteps := 4000000) only [vm, vl, Arg.get, cells, stor, boundO, resultsV, resV, partK, loadV, Vm.part, fillC, splice, reduceIte, reduceCtorEq, Nat.reduceEqDiff, Nat.reduceAdd, Nat.reduceSub, Nat.reduceMul, Nat.reduceLeDiff, ne_eq, not_false_eq_true, Int.reduceEq, Int.reduceLT, Int.reduceLE, Int.reduceNeg, Int.reduceToNat, Int.reduceGT, Int.reduceGE, Nat.reduceLT, Nat.lt_add_one, Nat.zero_lt_succ, Nat.succ_pos, Nat.zero_le, beq_self_eq_true, k_fresh_Heuristic_0, k_fresh_Heuristic_2, k_fresh_Heuristic_1, e0, e5, e6, hl]
    rw [kept_no fun j h1 => hj j (by omega)]
def lifeS (code shared age date exp mod got : Int) : Int :=
  if shared ≥ 0 then min shared 2147483648 else if age ≥ 0 then min age 2147483648 else
  if exp ≥ 0 then (if date ≥ 0 then min (sinceS date exp) 2147483648 else min (sinceS (max got 0) exp) 2147483648) else
  if isKept code = true then min (sinceS mod date / 10) 86400 else 0
theorem Lifetime_ok {c0 : Int} {c1 c2 c3 c4 c5 c6 c7 : Bool} {c8 c9 c10 c11 c12 c13 c14 c15 c16 c17 c18 c19 : Int} {c20 : List UInt8} : Cf F L i_fresh_Lifetime [.agg [.int .i64 c0, .bool c1, .bool c2, .bool c3, .bool c4, .bool c5, .bool c6, .bool c7, .int .i64 c8, .int .i64 c9, .int .i64 c10, .int .i64 c11, .int .i64 c12, .int .i64 c13, .int .i64 c14, .int .i64 c15, .int .i64 c16, .int .i64 c17, .int .i64 c18, .int .i64 c19, .str c20]] h (Pu h (.int .i64 (lifeS c0 c9 c8 c14 c15 c16 c19))) := by
  have hq : IntKind.i64.wrap ((sinceS c16 c14).tdiv 10) = sinceS c16 c14 / 10 := by
    have h4 := sinceS_range c16 c14
    rw [Int.tdiv_eq_ediv_of_nonneg h4.1, wrap64 (by omega) (by omega)]
  refine run_fresh_Lifetime ?_
  simp only [p_fresh_Lifetime]
  simp (maxSteps := 4000000) only [vm, vl, Arg.get, cells, stor, boundO, resultsV, resV, partK, loadV, Vm.part, fillC, splice, reduceIte, reduceCtorEq, Nat.reduceEqDiff, Nat.reduceAdd, Nat.reduceSub, Nat.reduceMul, Nat.reduceLeDiff, ne_eq, not_false_eq_true, Int.reduceEq, Int.reduceLT, Int.reduceLE, Int.reduceNeg, Int.reduceToNat, Int.reduceGT, Int.reduceGE, Nat.reduceLT, Nat.lt_add_one, Nat.zero_lt_succ, Nat.succ_pos, Nat.zero_le, beq_self_eq_true, k_fresh_Lifetime_0, bin_quo]
  (repeat' ((first | refine wg_casep (fun _ => ?_) (fun _ => ?_) | refine wg_casen (fun _ => ?_) (fun _ => ?_) | refine wg_case (fun _ => ?_) (fun _ => ?_) | refine wgd_casep (fun _ => ?_) (fun _ => ?_) | refine wgd_casen (fun _ => ?_) (fun _ => ?_) | refine wgd_case (fun _ => ?_) (fun _ => ?_) | refine wb_casep (fun _ => ?_) (fun _ => ?_) | refine wb_casen (fun _ => ?_) (fun _ => ?_) | refine wb_case (fun _ => ?_) (fun _ => ?_) | refine Cf.pu since_ok (fun _ => ?_) | refine Cf.pu Heuristic_ok (fun _ => ?_)) <;> try simp (maxSteps := 4000000) only [vm, vl, Arg.get, cells, stor, boundO, resultsV, resV, partK, loadV, Vm.part, fillC, splice, reduceIte, reduceCtorEq, Nat.reduceEqDiff, Nat.reduceAdd, Nat.reduceSub, Nat.reduceMul, Nat.reduceLeDiff, ne_eq, not_false_eq_true, Int.reduceEq, Int.reduceLT, Int.reduceLE, Int.reduceNeg, Int.reduceToNat, Int.reduceGT, Int.reduceGE, Nat.reduceLT, Nat.lt_add_one, Nat.zero_lt_succ, Nat.succ_pos, Nat.zero_le, beq_self_eq_true, k_fresh_Lifetime_0, *]))
  all_goals simp only [lifeS, *, bin_quo, mn2, ne_eq, not_false_eq_true, Int.reduceEq, reduceIte, Bool.false_eq_true]
theorem lifeS_range (code shared age date exp mod got : Int) : 0 ≤ lifeS code shared age date exp mod got ∧ lifeS code shared age date exp mod got ≤ 2147483648 := by
  unfold lifeS
  have h1 := sinceS_range date exp
  have h2 := sinceS_range (max got 0) exp
  have h3 := sinceS_range mod date
  split
  · omega
  split
  · omega
  split
  · split <;> omega
  split <;> omega
def lateS (must proxy : Bool) (shared while_ rmin rmax by_ : Int) : Int :=
  if must = true then 2 else if proxy = true then 2 else if shared ≥ 0 then 2 else if rmax ≥ by_ then 0 else if while_ > by_ then (if rmin ≤ 0 then 1 else 2) else 2
def stateS (nc must proxy : Bool) (shared while_ : Int) (rnc : Bool) (rage rmin rmax age life : Int) : Int :=
  if rnc = true then 2 else if nc = true then 2 else if rage ≥ 0 ∧ rage < age then 2 else if age ≥ life then lateS must proxy shared while_ rmin rmax (age - life) else if rmin > life - age then 2 else 0
theorem late_ok {b0 b1 b2 b3 b4 b5 b6 : Bool} {b7 b8 b9 b10 b11 b12 : Int} {r0 r1 r2 r3 r4 r5 r6 : Bool} {r7 r8 r9 r10 r11 r12 : Int} {n : Int} : Cf F L i_fresh_late [.agg [.bool b0, .bool b1, .bool b2, .bool b3, .bool b4, .bool b5, .bool b6, .int .i64 b7, .int .i64 b8, .int .i64 b9, .int .i64 b10, .int .i64 b11, .int .i64 b12], .agg [.bool r0, .bool r1, .bool r2, .bool r3, .bool r4, .bool r5, .bool r6, .int .i64 r7, .int .i64 r8, .int .i64 r9, .int .i64 r10, .int .i64 r11, .int .i64 r12], .int .i64 n] h (Pu h (.int .i64 (lateS b4 b5 b8 b9 r11 r12 n))) := by
  refine run_fresh_late ?_
  simp only [p_fresh_late]
  simp (maxSteps := 4000000) only [vm, vl, Arg.get, cells, stor, boundO, resultsV, resV, partK, loadV, Vm.part, fillC, splice, reduceIte, reduceCtorEq, Nat.reduceEqDiff, Nat.reduceAdd, Nat.reduceSub, Nat.reduceMul, Nat.reduceLeDiff, ne_eq, not_false_eq_true, Int.reduceEq, Int.reduceLT, Int.reduceLE, Int.reduceNeg, Int.reduceToNat, Int.reduceGT, Int.reduceGE, Nat.reduceLT, Nat.lt_add_one, Nat.zero_lt_succ, Nat.succ_pos, Nat.zero_le, beq_self_eq_true, k_fresh_late_0]
  (repeat' ((first | refine wg_casep (fun _ => ?_) (fun _ => ?_) | refine wg_casen (fun _ => ?_) (fun _ => ?_) | refine wg_case (fun _ => ?_) (fun _ => ?_) | refine wgd_casep (fun _ => ?_) (fun _ => ?_) | refine wgd_casen (fun _ => ?_) (fun _ => ?_) | refine wgd_case (fun _ => ?_) (fun _ => ?_) | refine wb_casep (fun _ => ?_) (fun _ => ?_) | refine wb_casen (fun _ => ?_) (fun _ => ?_) | refine wb_case (fun _ => ?_) (fun _ => ?_)) <;> try simp (maxSteps := 4000000) only [vm, vl, Arg.get, cells, stor, boundO, resultsV, resV, partK, loadV, Vm.part, fillC, splice, reduceIte, reduceCtorEq, Nat.reduceEqDiff, Nat.reduceAdd, Nat.reduceSub, Nat.reduceMul, Nat.reduceLeDiff, ne_eq, not_false_eq_true, Int.reduceEq, Int.reduceLT, Int.reduceLE, Int.reduceNeg, Int.reduceToNat, Int.reduceGT, Int.reduceGE, Nat.reduceLT, Nat.lt_add_one, Nat.zero_lt_succ, Nat.succ_pos, Nat.zero_le, beq_self_eq_true, k_fresh_late_0, *]))
  all_goals simp only [lateS, *, reduceIte, Bool.false_eq_true]
end Go.Proofs.Ytebjbkbjmdnblaa.Vh
end
section
set_option linter.unusedVariables false
set_option linter.unusedSimpArgs false
namespace Go.Proofs.Ytebjbkbjmdnblaa.Vh
open Go.Vm
attribute [local congr] wi_congr wg_congr wgd_congr wb_congr wl_congr cf_congr
variable {L : FuncId → List V → V → Prop} {h : Heap}
theorem State_ok {c0 : Int} {c1 c2 c3 c4 c5 c6 c7 : Bool} {c8 c9 c10 c11 c12 c13 c14 c15 c16 c17 c18 c19 : Int} {c20 : List UInt8} {r0 r1 r2 r3 r4 r5 r6 : Bool} {r7 r8 r9 r10 r11 r12 : Int} {now : Int} : Cf F L i_fresh_State [.agg [.int .i64 c0, .bool c1, .bool c2, .bool c3, .bool c4, .bool c5, .bool c6, .bool c7, .int .i64 c8, .int .i64 c9, .int .i64 c10, .int .i64 c11, .int .i64 c12, .int .i64 c13, .int .i64 c14, .int .i64 c15, .int .i64 c16, .int .i64 c17, .int .i64 c18, .int .i64 c19, .str c20], .agg [.bool r0, .bool r1, .bool r2, .bool r3, .bool r4, .bool r5, .bool r6, .int .i64 r7, .int .i64 r8, .int .i64 r9, .int .i64 r10, .int .i64 r11, .int .i64 r12], .int .i64 now] h
    (Pu h (.int .i64 (stateS c2 c5 c6 c9 c10 r1 r7 r11 r12 (ageS c14 c17 c18 c19 now) (lifeS c0 c9 c8 c14 c15 c16 c19)))) := by
  have a1 := ageS_range c14 c17 c18 c19 now
  have a2 := lifeS_range c0 c9 c8 c14 c15 c16 c19
  refine run_fresh_State ?_
  simp only [p_fresh_State]
  simp (maxSteps := 4000000) only [vm, vl, Arg.get, cells, stor, boundO, resultsV, resV, partK, loadV, Vm.part, fillC, splice, reduceIte, reduceCtorEq, Nat.reduceEqDiff, Nat.reduceAdd, Nat.reduceSub, Nat.reduceMul, Nat.reduceLeDiff, ne_eq, not_false_eq_true, Int.reduceEq, Int.reduceLT, Int.reduceLE, Int.reduceNeg, Int.reduceToNat, Int.reduceGT, Int.reduceGE, Nat.reduceLT, Nat.lt_add_one, Nat.zero_lt_succ, Nat.succ_pos, Nat.zero_le, beq_self_eq_true, k_fresh_State_0]
  refine Cf.pu Age_ok (fun _ => ?_)
  simp (maxSteps := 4000000) only [vm, vl, Arg.get, cells, stor, boundO, resultsV, resV, partK, loadV, Vm.part, fillC, splice, reduceIte, reduceCtorEq, Nat.reduceEqDiff, Nat.reduceAdd, Nat.reduceSub, Nat.reduceMul, Nat.reduceLeDiff, ne_eq, not_false_eq_true, Int.reduceEq, Int.reduceLT, Int.reduceLE, Int.reduceNeg, Int.reduceToNat, Int.reduceGT, Int.reduceGE, Nat.reduceLT, Nat.lt_add_one, Nat.zero_lt_succ, Nat.succ_pos, Nat.zero_le, beq_self_eq_true, k_fresh_State_0]
  refine Cf.pu Lifetime_ok (fun _ => ?_)
  generalize ageS c14 c17 c18 c19 now = A at *
  generalize lifeS c0 c9 c8 c14 c15 c16 c19 = Y at *
  have w1 := wrap64 (x := A - Y) (by omega) (by omega)
  have w2 := wrap64 (x := Y - A) (by omega) (by omega)
  clear a1 a2
  simp (maxSteps := 4000000) only [vm, vl, Arg.get, cells, stor, boundO, resultsV, resV, partK, loadV, Vm.part, fillC, splice, reduceIte, reduceCtorEq, Nat.reduceEqDiff, Nat.reduceAdd, Nat.reduceSub, Nat.reduceMul, Nat.reduceLeDiff, ne_eq, not_false_eq_true, Int.reduceEq, Int.reduceLT, Int.reduceLE, Int.reduceNeg, Int.reduceToNat, Int.reduceGT, Int.reduceGE, Nat.reduceLT, Nat.lt_add_one, Nat.zero_lt_succ, Nat.succ_pos, Nat.zero_le, beq_self_eq_true, k_fresh_State_0]
  (repeat' ((first | refine wg_casep (fun _ => ?_) (fun _ => ?_) | refine wg_casen (fun _ => ?_) (fun _ => ?_) | refine wg_case (fun _ => ?_) (fun _ => ?_) | refine wgd_casep (fun _ => ?_) (fun _ => ?_) | refine wgd_casen (fun _ => ?_) (fun _ => ?_) | refine wgd_case (fun _ => ?_) (fun _ => ?_) | refine wb_casep (fun _ => ?_) (fun _ => ?_) | refine wb_casen (fun _ => ?_) (fun _ => ?_) | refine wb_case (fun _ => ?_) (fun _ => ?_) | refine Cf.pu late_ok (fun _ => ?_)) <;> try simp (maxSteps := 4000000) only [vm, vl, Arg.get, cells, stor, boundO, resultsV, resV, partK, loadV, Vm.part, fillC, splice, reduceIte, reduceCtorEq, Nat.reduceEqDiff, Nat.reduceAdd, Nat.reduceSub, Nat.reduceMul, Nat.reduceLeDiff, ne_eq, not_false_eq_true, Int.reduceEq, Int.reduceLT, Int.reduceLE, Int.reduceNeg, Int.reduceToNat, Int.reduceGT, Int.reduceGE, Nat.reduceLT, Nat.lt_add_one, Nat.zero_lt_succ, Nat.succ_pos, Nat.zero_le, beq_self_eq_true, k_fresh_State_0, *]))
  all_goals simp only [stateS, *, reduceIte, Bool.false_eq_true, and_self, and_false, false_and, and_true, true_and]
end Go.Proofs.Ytebjbkbjmdnblaa.Vh
end
