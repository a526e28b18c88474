/- Package date's forms on the small machine: fixed. -/
import Derived.Test.YtdgklgeddbfeaaaDoorVReader3
set_option linter.unusedVariables false
set_option linter.unusedSimpArgs false
namespace Go.Proofs.YtdgklgeddbfeaaaDoor.Vh
open Go.Vm Go.Vt
attribute [local congr] wi_congr wg_congr wgd_congr wb_congr wl_congr cf_congr
variable {L : FuncId → List V → V → Prop} {h : Heap}
theorem dayR_rest (long : Bool) (r : Rd) : (dayR long r).2.1.length ≤ r.1.length := by
  unfold dayR; split
  · simp only [List.length_drop]; omega
  · exact Nat.le_refl _
theorem clkR_rest (r : Rd) : (clkR r).2.1.length ≤ r.1.length := by
  have h1 := numR_rest 2 r
  have h2 := needR_rest [58] (numR 2 r).2
  have h3 := numR_rest 2 (needR [58] (numR 2 r).2)
  have h4 := needR_rest [58] (numR 2 (needR [58] (numR 2 r).2)).2
  have h5 := numR_rest 2 (needR [58] (numR 2 (needR [58] (numR 2 r).2)).2)
  unfold clkR
  simp only
  split <;> first | omega | (simp only; omega)
theorem clkR_le (r : Rd) : 0 ≤ (clkR r).1 ∧ (clkR r).1 ≤ 2000000000 := by
  have h1 := numR_le (n := 2) (by omega) r
  have h3 := numR_le (n := 2) (by omega) (needR [58] (numR 2 r).2)
  have h5 := numR_le (n := 2) (by omega) (needR [58] (numR 2 (needR [58] (numR 2 r).2)).2)
  unfold clkR
  simp only
  omega
def fixedR (r : Rd) : V :=
  let q1 := dayR false r
  let q2 := needR [44, 32] q1.2
  let q3 := numR 2 q2
  let q4 := needR [32] q3.2
  let q5 := monR q4
  let q6 := needR [32] q5.2
  let q7 := numR 4 q6
  let q8 := needR [32] q7.2
  let q9 := clkR q8
  let q10 := needR [32, 71, 77, 84] q9.2
  secR q10 q1.1 q7.1 q5.1 q3.1 q9.1
theorem secR_tup (r : Rd) (w y m d c : Int) : ∃ (n : Int) (b : Bool), secR r w y m d c = .tup [.int .i64 n, .bool b] := by
  unfold secR; split
  · exact ⟨_, _, rfl⟩
  · exact ⟨_, _, rfl⟩
theorem fixed_ok {id : Nat} {r : Rd} (hb : h[id]? = some (bx r)) (hl : r.1.length < 9223372036854775807) : Cf F L i_date_fixed [.ptr id 0] h (fun v h' => v = fixedR r ∧ ∃ r' t, h' = h.set id (bx r') ++ t) := by
  refine run_date_fixed ?_
  simp only [p_date_fixed]
  have hi := rd_len hb
  unfold fixedR
  simp only
  have l1 := dayR_rest false r
  refine Cf.rd (day_ok (long := false) (hb) (by omega)) fun t1 => ?_
  generalize dayR false r = q1 at *
  have l2 := needR_rest [44, 32] q1.2
  refine Cf.rd (need_ok (p := [44, 32]) (rd_at hi) (by simp) (by omega)) fun t2 => ?_
  rw [rd_set hi]
  try rw [List.append_assoc]
  generalize needR [44, 32] q1.2 = q2 at *
  have l3 := numR_rest 2 q2
  refine Cf.rd (number_ok (n := 2) (rd_at hi) (by omega) (by omega)) fun t3 => ?_
  rw [rd_set hi]
  try rw [List.append_assoc]
  generalize numR 2 q2 = q3 at *
  have l4 := needR_rest [32] q3.2
  refine Cf.rd (need_ok (p := [32]) (rd_at hi) (by simp) (by omega)) fun t4 => ?_
  rw [rd_set hi]
  try rw [List.append_assoc]
  generalize needR [32] q3.2 = q4 at *
  have l5 := monR_rest q4
  refine Cf.rd (month_ok' (rd_at hi) (by omega)) fun t5 => ?_
  rw [rd_set hi]
  try rw [List.append_assoc]
  generalize monR q4 = q5 at *
  have l6 := needR_rest [32] q5.2
  refine Cf.rd (need_ok (p := [32]) (rd_at hi) (by simp) (by omega)) fun t6 => ?_
  rw [rd_set hi]
  try rw [List.append_assoc]
  generalize needR [32] q5.2 = q6 at *
  have l7 := numR_rest 4 q6
  refine Cf.rd (number_ok (n := 4) (rd_at hi) (by omega) (by omega)) fun t7 => ?_
  rw [rd_set hi]
  try rw [List.append_assoc]
  generalize numR 4 q6 = q7 at *
  have l8 := needR_rest [32] q7.2
  refine Cf.rd (need_ok (p := [32]) (rd_at hi) (by simp) (by omega)) fun t8 => ?_
  rw [rd_set hi]
  try rw [List.append_assoc]
  generalize needR [32] q7.2 = q8 at *
  have l9 := clkR_rest q8
  have bc := clkR_le q8
  refine Cf.rd (clock_ok (rd_at hi) (by omega)) fun t9 => ?_
  rw [rd_set hi]
  try rw [List.append_assoc]
  generalize clkR q8 = q9 at *
  have l10 := needR_rest [32, 71, 77, 84] q9.2
  refine Cf.rd (need_ok (p := [32, 71, 77, 84]) (rd_at hi) (by simp) (by omega)) fun t10 => ?_
  rw [rd_set hi]
  try rw [List.append_assoc]
  generalize needR [32, 71, 77, 84] q9.2 = q10 at *
  refine Cf.pu (second_ok (rd_at hi) bc.1 (by omega)) fun t11 => ?_
  obtain ⟨n, b, e⟩ := secR_tup q10 q1.1 q7.1 q5.1 q3.1 q9.1
  rw [e]
  simp (maxSteps := 4000000) only [vm, vl, Arg.get, cells, stor, boundO, resultsV, resV, partK, loadV, Vm.part, fillC, splice, reduceIte, reduceCtorEq, Nat.reduceEqDiff, Nat.reduceAdd, Nat.reduceSub, Nat.reduceMul, Nat.reduceLeDiff, ne_eq, not_false_eq_true, Int.reduceEq, Int.reduceLT, Int.reduceLE, Int.reduceNeg, Int.reduceToNat, Int.reduceGT, Int.reduceGE, Nat.reduceLT, Nat.lt_add_one, Nat.zero_lt_succ, Nat.succ_pos, Nat.zero_le, beq_self_eq_true]
  exact ⟨q10, _, rfl⟩
end Go.Proofs.YtdgklgeddbfeaaaDoor.Vh
