/- Several texts in one: VFormsA, VFresh, VStor1, VStor2, VStor3, VStor4, VStor6, VStorF, VJoin, VStorK. -/
import Derived.Test.YtaahialaegfjgaaGreatDoorPk9
import Derived.Test.YtaahialaegfjgaaGreatDoorPk3
import Derived.Test.YtaahialaegfjgaaGreatDoorPk5
import Derived.Test.YtaahialaegfjgaaGreatDoorPk6
section
set_option linter.unusedVariables false
set_option linter.unusedSimpArgs false
namespace Go.Proofs.YtaahialaegfjgaaGreatDoor.Vh
open Go.Vm Go.Vt
attribute [local congr] wi_congr wg_congr wgd_congr wb_congr wl_congr cf_congr
variable {L : FuncId → List V → V → Prop} {h : Heap}
theorem dayR_rest (long : Bool) (r : Rd) : (dayR long r).2.1.length ≤ r.1.length := by
  unfold dayR; split
  · simp only [List.length_drop]; omega
  · exact Nat.le_refl _
theorem clkR_rest (r : Rd) : (clkR r).2.1.length ≤ r.1.length := by
  have h1 := numR_rest 2 r
  have h2 := needR_rest [58] (numR 2 r).2
  have h3 := numR_rest 2 (needR [58] (numR 2 r).2)
  have h4 := needR_rest [58] (numR 2 (needR [58] (numR 2 r).2)).2
  have h5 := numR_rest 2 (needR [58] (numR 2 (needR [58] (numR 2 r).2)).2)
  unfold clkR
  simp only
  split <;> first | omega | (simp only; omega)
theorem clkR_le (r : Rd) : 0 ≤ (clkR r).1 ∧ (clkR r).1 ≤ 2000000000 := by
  have h1 := numR_le (n := 2) (by omega) r
  have h3 := numR_le (n := 2) (by omega) (needR [58] (numR 2 r).2)
  have h5 := numR_le (n := 2) (by omega) (needR [58] (numR 2 (needR [58] (numR 2 r).2)).2)
  unfold clkR
  simp only
  omega
def fixedR (r : Rd) : V :=
  let q1 := dayR false r
  let q2 := needR [44, 32] q1.2
  let q3 := numR 2 q2
  let q4 := needR [32] q3.2
  let q5 := monR q4
  let q6 := needR [32] q5.2
  let q7 := numR 4 q6
  let q8 := needR [32] q7.2
  let q9 := clkR q8
  let q10 := needR [32, 71, 77, 84] q9.2
  secR q10 q1.1 q7.1 q5.1 q3.1 q9.1
theorem secR_tup (r : Rd) (w y m d c : Int) : ∃ (n : Int) (b : Bool), secR r w y m d c = .tup [.int .i64 n, .bool b] := by
  unfold secR; split
  · exact ⟨_, _, rfl⟩
  · exact ⟨_, _, rfl⟩
theorem fixed_ok {id : Nat} {r : Rd} (hb : h[id]? = some (bx r)) (hl : r.1.length < 9223372036854775807) : Cf F L i_date_fixed [.ptr id 0] h (fun v h' => v = fixedR r ∧ ∃ r' t, h' = h.set id (bx r') ++ t) := by
  refine run_date_fixed ?_
  simp only [p_date_fixed]
  have hi := rd_len hb
  unfold fixedR
  simp only
  have l1 := dayR_rest false r
  refine Cf.rd (day_ok (long := false) (hb) (by omega)) fun t1 => ?_
  generalize dayR false r = q1 at *
  have l2 := needR_rest [44, 32] q1.2
  refine Cf.rd (need_ok (p := [44, 32]) (rd_at hi) (by simp) (by omega)) fun t2 => ?_
  rw [rd_set hi]
  try rw [List.append_assoc]
  generalize needR [44, 32] q1.2 = q2 at *
  have l3 := numR_rest 2 q2
  refine Cf.rd (number_ok (n := 2) (rd_at hi) (by omega) (by omega)) fun t3 => ?_
  rw [rd_set hi]
  try rw [List.append_assoc]
  generalize numR 2 q2 = q3 at *
  have l4 := needR_rest [32] q3.2
  refine Cf.rd (need_ok (p := [32]) (rd_at hi) (by simp) (by omega)) fun t4 => ?_
  rw [rd_set hi]
  try rw [List.append_assoc]
  generalize needR [32] q3.2 = q4 at *
  have l5 := monR_rest q4
  refine Cf.rd (month_ok' (rd_at hi) (by omega)) fun t5 => ?_
  rw [rd_set hi]
  try rw [List.append_assoc]
  generalize monR q4 = q5 at *
  have l6 := needR_rest [32] q5.2
  refine Cf.rd (need_ok (p := [32]) (rd_at hi) (by simp) (by omega)) fun t6 => ?_
  rw [rd_set hi]
  try rw [List.append_assoc]
  generalize needR [32] q5.2 = q6 at *
  have l7 := numR_rest 4 q6
  refine Cf.rd (number_ok (n := 4) (rd_at hi) (by omega) (by omega)) fun t7 => ?_
  rw [rd_set hi]
  try rw [List.append_assoc]
  generalize numR 4 q6 = q7 at *
  have l8 := needR_rest [32] q7.2
  refine Cf.rd (need_ok (p := [32]) (rd_at hi) (by simp) (by omega)) fun t8 => ?_
  rw [rd_set hi]
  try rw [List.append_assoc]
  generalize needR [32] q7.2 = q8 at *
  have l9 := clkR_rest q8
  have bc := clkR_le q8
  refine Cf.rd (clock_ok (rd_at hi) (by omega)) fun t9 => ?_
  rw [rd_set hi]
  try rw [List.append_assoc]
  generalize clkR q8 = q9 at *
  have l10 := needR_rest [32, 71, 77, 84] q9.2
  refine Cf.rd (need_ok (p := [32, 71, 77, 84]) (rd_at hi) (by simp) (by omega)) fun t10 => ?_
  rw [rd_set hi]
  try rw [List.append_assoc]
  generalize needR [32, 71, 77, 84] q9.2 = q10 at *
  refine Cf.pu (second_ok (rd_at hi) bc.1 (by omega)) fun t11 => ?_
  obtain ⟨n, b, e⟩ := secR_tup q10 q1.1 q7.1 q5.1 q3.1 q9.1
  rw [e]
  simp (maxSteps := 4000000) only [vm, vl, Arg.get, cells, stor, boundO, resultsV, resV, partK, loadV, Vm.part, fillC, splice, reduceIte, reduceCtorEq, Nat.reduceEqDiff, Nat.reduceAdd, Nat.reduceSub, Nat.reduceMul, Nat.reduceLeDiff, ne_eq, not_false_eq_true, Int.reduceEq, Int.reduceLT, Int.reduceLE, Int.reduceNeg, Int.reduceToNat, Int.reduceGT, Int.reduceGE, Nat.reduceLT, Nat.lt_add_one, Nat.zero_lt_succ, Nat.succ_pos, Nat.zero_le, beq_self_eq_true]
  exact ⟨q10, _, rfl⟩
open Go.Vm Go.Vt
attribute [local congr] wi_congr wg_congr wgd_congr wb_congr wl_congr cf_congr
def oldR (r : Rd) : V :=
  let q1 := dayR true r
  let q2 := needR [44, 32] q1.2
  let q3 := numR 2 q2
  let q4 := needR [45] q3.2
  let q5 := monR q4
  let q6 := needR [45] q5.2
  let q7 := numR 2 q6
  let q8 := needR [32] q7.2
  let q9 := clkR q8
  let q10 := needR [32, 71, 77, 84] q9.2
  secR q10 q1.1 (if q7.1 ≥ 70 then q7.1 + 1900 else q7.1 + 2000) q5.1 q3.1 q9.1
theorem old_ok {id : Nat} {r : Rd} (hb : h[id]? = some (bx r)) (hl : r.1.length < 9223372036854775807) : Cf F L i_date_old [.ptr id 0] h (fun v h' => v = oldR r ∧ ∃ r' t, h' = h.set id (bx r') ++ t) := by
  refine run_date_old ?_
  simp only [p_date_old]
  have hi := rd_len hb
  unfold oldR
  simp only
  have l1 := dayR_rest true r
  refine Cf.rd (day_ok (long := true) (hb) (by omega)) fun t1 => ?_
  generalize dayR true r = q1 at *
  have l2 := needR_rest [44, 32] q1.2
  refine Cf.rd (need_ok (p := [44, 32]) (rd_at hi) (by simp) (by omega)) fun t2 => ?_
  rw [rd_set hi]
  try rw [List.append_assoc]
  generalize needR [44, 32] q1.2 = q2 at *
  have l3 := numR_rest 2 q2
  have bn3 := numR_le (n := 2) (by omega) q2
  refine Cf.rd (number_ok (n := 2) (rd_at hi) (by omega) (by omega)) fun t3 => ?_
  rw [rd_set hi]
  try rw [List.append_assoc]
  generalize numR 2 q2 = q3 at *
  have l4 := needR_rest [45] q3.2
  refine Cf.rd (need_ok (p := [45]) (rd_at hi) (by simp) (by omega)) fun t4 => ?_
  rw [rd_set hi]
  try rw [List.append_assoc]
  generalize needR [45] q3.2 = q4 at *
  have l5 := monR_rest q4
  refine Cf.rd (month_ok' (rd_at hi) (by omega)) fun t5 => ?_
  rw [rd_set hi]
  try rw [List.append_assoc]
  generalize monR q4 = q5 at *
  have l6 := needR_rest [45] q5.2
  refine Cf.rd (need_ok (p := [45]) (rd_at hi) (by simp) (by omega)) fun t6 => ?_
  rw [rd_set hi]
  try rw [List.append_assoc]
  generalize needR [45] q5.2 = q6 at *
  have l7 := numR_rest 2 q6
  have bn7 := numR_le (n := 2) (by omega) q6
  refine Cf.rd (number_ok (n := 2) (rd_at hi) (by omega) (by omega)) fun t7 => ?_
  rw [rd_set hi]
  try rw [List.append_assoc]
  generalize numR 2 q6 = q7 at *
  have l8 := needR_rest [32] q7.2
  refine Cf.rd (need_ok (p := [32]) (rd_at hi) (by simp) (by omega)) fun t8 => ?_
  rw [rd_set hi]
  try rw [List.append_assoc]
  generalize needR [32] q7.2 = q8 at *
  have l9 := clkR_rest q8
  have bc := clkR_le q8
  refine Cf.rd (clock_ok (rd_at hi) (by omega)) fun t9 => ?_
  rw [rd_set hi]
  try rw [List.append_assoc]
  generalize clkR q8 = q9 at *
  have l10 := needR_rest [32, 71, 77, 84] q9.2
  refine Cf.rd (need_ok (p := [32, 71, 77, 84]) (rd_at hi) (by simp) (by omega)) fun t10 => ?_
  rw [rd_set hi]
  try rw [List.append_assoc]
  generalize needR [32, 71, 77, 84] q9.2 = q10 at *
  have w1 : IntKind.i64.wrap (q7.1 + 1900) = q7.1 + 1900 := wrap64 (by omega) (by omega)
  have w2 : IntKind.i64.wrap (q7.1 + 2000) = q7.1 + 2000 := wrap64 (by omega) (by omega)
  by_cases hy : q7.1 ≥ 70
  · rw [if_pos hy]
    obtain ⟨n, b, e⟩ := secR_tup q10 q1.1 (q7.1 + 1900) q5.1 q3.1 q9.1
    simp (maxSteps := 4000000) only [vm, vl, Arg.get, cells, stor, boundO, resultsV, resV, partK, loadV, Vm.part, fillC, splice, reduceIte, reduceCtorEq, Nat.reduceEqDiff, Nat.reduceAdd, Nat.reduceSub, Nat.reduceMul, Nat.reduceLeDiff, ne_eq, not_false_eq_true, Int.reduceEq, Int.reduceLT, Int.reduceLE, Int.reduceNeg, Int.reduceToNat, Int.reduceGT, Int.reduceGE, Nat.reduceLT, Nat.lt_add_one, Nat.zero_lt_succ, Nat.succ_pos, Nat.zero_le, beq_self_eq_true, k_date_old_0, hy, decide_true, w1, w2]
    refine Cf.pu (second_ok (rd_at hi) bc.1 (by omega)) fun t11 => ?_
    rw [e]
    simp (maxSteps := 4000000) only [vm, vl, Arg.get, cells, stor, boundO, resultsV, resV, partK, loadV, Vm.part, fillC, splice, reduceIte, reduceCtorEq, Nat.reduceEqDiff, Nat.reduceAdd, Nat.reduceSub, Nat.reduceMul, Nat.reduceLeDiff, ne_eq, not_false_eq_true, Int.reduceEq, Int.reduceLT, Int.reduceLE, Int.reduceNeg, Int.reduceToNat, Int.reduceGT, Int.reduceGE, Nat.reduceLT, Nat.lt_add_one, Nat.zero_lt_succ, Nat.succ_pos, Nat.zero_le, beq_self_eq_true, k_date_old_0]
    exact ⟨q10, _, rfl⟩
  · rw [if_neg hy]
    obtain ⟨n, b, e⟩ := secR_tup q10 q1.1 (q7.1 + 2000) q5.1 q3.1 q9.1
    simp (maxSteps := 4000000) only [vm, vl, Arg.get, cells, stor, boundO, resultsV, resV, partK, loadV, Vm.part, fillC, splice, reduceIte, reduceCtorEq, Nat.reduceEqDiff, Nat.reduceAdd, Nat.reduceSub, Nat.reduceMul, Nat.reduceLeDiff, ne_eq, not_false_eq_true, Int.reduceEq, Int.reduceLT, Int.reduceLE, Int.reduceNeg, Int.reduceToNat, Int.reduceGT, Int.reduceGE, Nat.reduceLT, Nat.lt_add_one, Nat.zero_lt_succ, Nat.succ_pos, Nat.zero_le, beq_self_eq_true, k_date_old_0, hy, decide_false, w1, w2]
    refine Cf.pu (second_ok (rd_at hi) bc.1 (by omega)) fun t11 => ?_
    rw [e]
    simp (maxSteps := 4000000) only [vm, vl, Arg.get, cells, stor, boundO, resultsV, resV, partK, loadV, Vm.part, fillC, splice, reduceIte, reduceCtorEq, Nat.reduceEqDiff, Nat.reduceAdd, Nat.reduceSub, Nat.reduceMul, Nat.reduceLeDiff, ne_eq, not_false_eq_true, Int.reduceEq, Int.reduceLT, Int.reduceLE, Int.reduceNeg, Int.reduceToNat, Int.reduceGT, Int.reduceGE, Nat.reduceLT, Nat.lt_add_one, Nat.zero_lt_succ, Nat.succ_pos, Nat.zero_le, beq_self_eq_true, k_date_old_0]
    exact ⟨q10, _, rfl⟩
def plainB (dg : Nat) (w m : Int) (x : Rd) : V :=
  let q5 := numR dg x
  let q6 := needR [32] q5.2
  let q7 := clkR q6
  let q8 := needR [32] q7.2
  let q9 := numR 4 q8
  secR q9.2 w q9.1 m q5.1 q7.1
def plainR (r : Rd) : V :=
  let q1 := dayR false r
  let q2 := needR [32] q1.2
  let q3 := monR q2
  let q4 := needR [32] q3.2
  if q4.1.length > 0 ∧ q4.1.getD 0 0 = 32 then plainB 1 q1.1 q3.1 (takeR 1 q4).2 else plainB 2 q1.1 q3.1 q4
theorem plainB_ok {id dg : Nat} {w m : Int} {x : Rd} {t : Heap} (hi : id < h.length) (hl : x.1.length < 9223372036854775807) (hd : dg ≤ 4) : k_date_plain_0 L (fun v h' => v = plainB dg w m x ∧ ∃ r' t, h' = h.set id (bx r') ++ t) (.ptr id 0) (.int .i64 w) (.int .i64 m) (.int .i64 dg) (h.set id (bx x) ++ t) := by
  
  unfold plainB k_date_plain_0
  simp only
  have l5 := numR_rest dg x
  have bn5 := numR_le (n := dg) (by omega) x
  refine Cf.rd (number_ok (n := dg) (rd_at hi) (by omega) (by omega)) fun t5 => ?_
  rw [rd_set hi]
  try rw [List.append_assoc]
  generalize numR dg x = q5 at *
  have l6 := needR_rest [32] q5.2
  refine Cf.rd (need_ok (p := [32]) (rd_at hi) (by simp) (by omega)) fun t6 => ?_
  rw [rd_set hi]
  try rw [List.append_assoc]
  generalize needR [32] q5.2 = q6 at *
  have l7 := clkR_rest q6
  have bc := clkR_le q6
  refine Cf.rd (clock_ok (rd_at hi) (by omega)) fun t7 => ?_
  rw [rd_set hi]
  try rw [List.append_assoc]
  generalize clkR q6 = q7 at *
  have l8 := needR_rest [32] q7.2
  refine Cf.rd (need_ok (p := [32]) (rd_at hi) (by simp) (by omega)) fun t8 => ?_
  rw [rd_set hi]
  try rw [List.append_assoc]
  generalize needR [32] q7.2 = q8 at *
  have l9 := numR_rest 4 q8
  have bn9 := numR_le (n := 4) (by omega) q8
  refine Cf.rd (number_ok (n := 4) (rd_at hi) (by omega) (by omega)) fun t9 => ?_
  rw [rd_set hi]
  try rw [List.append_assoc]
  generalize numR 4 q8 = q9 at *
  refine Cf.pu (second_ok (rd_at hi) bc.1 (by omega)) fun t11 => ?_
  obtain ⟨n, b, e⟩ := secR_tup q9.2 w q9.1 m q5.1 q7.1
  rw [e]
  simp (maxSteps := 4000000) only [vm, vl, Arg.get, cells, stor, boundO, resultsV, resV, partK, loadV, Vm.part, fillC, splice, reduceIte, reduceCtorEq, Nat.reduceEqDiff, Nat.reduceAdd, Nat.reduceSub, Nat.reduceMul, Nat.reduceLeDiff, ne_eq, not_false_eq_true, Int.reduceEq, Int.reduceLT, Int.reduceLE, Int.reduceNeg, Int.reduceToNat, Int.reduceGT, Int.reduceGE, Nat.reduceLT, Nat.lt_add_one, Nat.zero_lt_succ, Nat.succ_pos, Nat.zero_le, beq_self_eq_true, k_date_plain_0]
  exact ⟨q9.2, _, rfl⟩
theorem u32 {c : UInt8} : ((c.toNat : Int) = 32) = (c = 32) := propext ⟨fun h => by
  have h2 : c.toNat = (32 : UInt8).toNat := by rw [show (32 : UInt8).toNat = 32 from rfl]; omega
  exact UInt8.toNat_inj.1 h2, fun h => by rw [h]; rfl⟩
theorem plain_ok {id : Nat} {r : Rd} (hb : h[id]? = some (bx r)) (hl : r.1.length < 9223372036854775807) : Cf F L i_date_plain [.ptr id 0] h (fun v h' => v = plainR r ∧ ∃ r' t, h' = h.set id (bx r') ++ t) := by
  refine run_date_plain ?_
  simp only [p_date_plain]
  
  have hi := rd_len hb
  unfold plainR
  simp only
  have l1 := dayR_rest false r
  refine Cf.rd (day_ok (long := false) (hb) (by omega)) fun t1 => ?_
  generalize dayR false r = q1 at *
  have l2 := needR_rest [32] q1.2
  refine Cf.rd (need_ok (p := [32]) (rd_at hi) (by simp) (by omega)) fun t2 => ?_
  rw [rd_set hi]
  try rw [List.append_assoc]
  generalize needR [32] q1.2 = q2 at *
  have l3 := monR_rest q2
  refine Cf.rd (month_ok' (rd_at hi) (by omega)) fun t3 => ?_
  rw [rd_set hi]
  try rw [List.append_assoc]
  generalize monR q2 = q3 at *
  have l4 := needR_rest [32] q3.2
  refine Cf.rd (need_ok (p := [32]) (rd_at hi) (by simp) (by omega)) fun t4 => ?_
  rw [rd_set hi]
  try rw [List.append_assoc]
  generalize needR [32] q3.2 = q4 at *
  have hb2 : ∀ t, (h.set id (bx q4) ++ t)[id]? = some (O.box [.str q4.1, .bool q4.2]) := fun t => rd_at hi
  by_cases c1 : q4.1.length > 0
  · have c1' : (q4.1.length : Int) > 0 := by omega
    have z0 : 0 < q4.1.length := c1
    by_cases c2 : q4.1.getD 0 0 = 32
    · have c2' : (((q4.1.getD 0 0).toNat : Int) = 32) = True := by rw [u32]; exact eq_true c2
      rw [if_pos ⟨c1, c2⟩]
      simp (maxSteps := 4000000) only [vm, vl, Arg.get, cells, stor, boundO, resultsV, resV, partK, loadV, Vm.part, fillC, splice, reduceIte, reduceCtorEq, Nat.reduceEqDiff, Nat.reduceAdd, Nat.reduceSub, Nat.reduceMul, Nat.reduceLeDiff, ne_eq, not_false_eq_true, Int.reduceEq, Int.reduceLT, Int.reduceLE, Int.reduceNeg, Int.reduceToNat, Int.reduceGT, Int.reduceGE, Nat.reduceLT, Nat.lt_add_one, Nat.zero_lt_succ, Nat.succ_pos, Nat.zero_le, beq_self_eq_true, hb2, c1', c2', z0, decide_true]
      have l5 := takeR_rest 1 q4
      refine Cf.rd (take_ok (n := 1) (rd_at hi) (by omega) (by omega)) fun t5 => ?_
      rw [rd_set hi]
      try rw [List.append_assoc]
      exact plainB_ok (dg := 1) hi (by omega) (by omega)
    · have c2' : (((q4.1.getD 0 0).toNat : Int) = 32) = False := by rw [u32]; exact eq_false c2
      rw [if_neg (fun h => c2 h.2)]
      simp (maxSteps := 4000000) only [vm, vl, Arg.get, cells, stor, boundO, resultsV, resV, partK, loadV, Vm.part, fillC, splice, reduceIte, reduceCtorEq, Nat.reduceEqDiff, Nat.reduceAdd, Nat.reduceSub, Nat.reduceMul, Nat.reduceLeDiff, ne_eq, not_false_eq_true, Int.reduceEq, Int.reduceLT, Int.reduceLE, Int.reduceNeg, Int.reduceToNat, Int.reduceGT, Int.reduceGE, Nat.reduceLT, Nat.lt_add_one, Nat.zero_lt_succ, Nat.succ_pos, Nat.zero_le, beq_self_eq_true, hb2, c1', c2', z0, decide_true, decide_false]
      exact plainB_ok (dg := 2) hi (by omega) (by omega)
  · have c1' : ¬ (q4.1.length : Int) > 0 := by omega
    rw [if_neg (fun h => c1 h.1)]
    simp (maxSteps := 4000000) only [vm, vl, Arg.get, cells, stor, boundO, resultsV, resV, partK, loadV, Vm.part, fillC, splice, reduceIte, reduceCtorEq, Nat.reduceEqDiff, Nat.reduceAdd, Nat.reduceSub, Nat.reduceMul, Nat.reduceLeDiff, ne_eq, not_false_eq_true, Int.reduceEq, Int.reduceLT, Int.reduceLE, Int.reduceNeg, Int.reduceToNat, Int.reduceGT, Int.reduceGE, Nat.reduceLT, Nat.lt_add_one, Nat.zero_lt_succ, Nat.succ_pos, Nat.zero_le, beq_self_eq_true, hb2, c1', decide_false]
    exact plainB_ok (dg := 2) hi (by omega) (by omega)
open Go.Vm Go.Vt
attribute [local congr] wi_congr wg_congr wgd_congr wb_congr wl_congr cf_congr
def formR (s : Bs) : Nat → V
  | 0 => fixedR (s, true)
  | 1 => oldR (s, true)
  | _ => plainR (s, true)
theorem formR_tup (s : Bs) (i : Nat) : ∃ (n : Int) (b : Bool), formR s i = .tup [.int .i64 n, .bool b] := by
  match i with
  | 0 => unfold formR fixedR; simp only; exact secR_tup _ _ _ _ _ _
  | 1 => unfold formR oldR; simp only; exact secR_tup _ _ _ _ _ _
  | _ + 2 =>
    unfold formR plainR plainB
    simp only
    split
    · exact secR_tup _ _ _ _ _ _
    · exact secR_tup _ _ _ _ _ _
def okV : V → Option Int
  | .tup [.int .i64 n, .bool true] => some n
  | _ => none
def orG (a b : Option Int) : Option Int := match a with
  | some n => some n
  | none => b
def dateS (s : Bs) : Option Int := orG (okV (formR s 0)) (orG (okV (formR s 1)) (okV (formR s 2)))
def dateV : Option Int → V
  | some n => .tup [.int .i64 n, .bool true]
  | none => .tup [.int .i64 0, .bool false]
theorem form_ok {s : Bs} (hs : s.length < 9223372036854775807) : ∀ (f : FuncId) (i : Nat), (i = 0 ∧ f = i_date_fixed) ∨ (i = 1 ∧ f = i_date_old) ∨ (i = 2 ∧ f = i_date_plain) → ∀ (t : Heap) (K : V → Heap → Prop), (∀ t', K (formR s i) (h ++ t')) → Cf F L f [.ptr (h.length + t.length) 0] (h ++ (t ++ [O.box [.str s, .bool true]])) K := by
  intro f i hfi t K hK
  have hb : (h ++ (t ++ [O.box [.str s, .bool true]]))[h.length + t.length]? = some (bx (s, true)) := by
    rw [← List.append_assoc, List.getElem?_append_right (by simp)]; simp [bx]
  have post : ∀ (v : V), v = formR s i → ∀ h', (∃ r' t', h' = (h ++ (t ++ [O.box [.str s, .bool true]])).set (h.length + t.length) (bx r') ++ t') → K v h' := by
    rintro v rfl h' ⟨r', t', rfl⟩
    rw [List.set_append_right _ _ (by omega), List.append_assoc]
    exact hK _
  rcases hfi with ⟨rfl, rfl⟩ | ⟨rfl, rfl⟩ | ⟨rfl, rfl⟩
  · exact (fixed_ok hb hs).mono fun v h' hp => post v hp.1 h' hp.2
  · exact (old_ok hb hs).mono fun v h' hp => post v hp.1 h' hp.2
  · exact (plain_ok hb hs).mono fun v h' hp => post v hp.1 h' hp.2
theorem DParse_ok {s : Bs} (hs : s.length < 9223372036854775807) : Cf F L i_date_Parse [.str s] h (Pu h (dateV (dateS s))) := by
  refine run_date_Parse ?_
  simp only [p_date_Parse]
  simp (maxSteps := 4000000) only [vm, vl, Arg.get, cells, stor, boundO, resultsV, resV, partK, loadV, Vm.part, fillC, splice, reduceIte, reduceCtorEq, Nat.reduceEqDiff, Nat.reduceAdd, Nat.reduceSub, Nat.reduceMul, Nat.reduceLeDiff, ne_eq, not_false_eq_true, Int.reduceEq, Int.reduceLT, Int.reduceLE, Int.reduceNeg, Int.reduceToNat, Int.reduceGT, Int.reduceGE, Nat.reduceLT, Nat.lt_add_one, Nat.zero_lt_succ, Nat.succ_pos, Nat.zero_le, beq_self_eq_true, k_date_Parse_0, k_date_Parse_2, k_date_Parse_1]
  refine l_date_Parse_0 (fun n e h' => ∃ i, n = 3 - i ∧ i ≤ 3 ∧ e 0 = .str s ∧ e 8 = .agg [.fn i_date_fixed [], .fn i_date_old [], .fn i_date_plain []] ∧ e 9 = .int .i64 i ∧ (∃ t, h' = h ++ t) ∧ ∀ j, j < i → okV (formR s j) = none) ?_ (n := 3) ⟨0, by simp, by simp, rfl, rfl, rfl, ⟨[], by simp⟩, by simp⟩
  rintro n e h' ⟨i, rfl, hil, e0, e8, e9, ⟨t, rfl⟩, hj⟩
  simp only [b_date_Parse_0]
  have hi : i = 0 ∨ i = 1 ∨ i = 2 ∨ i = 3 := by omega
  have nx : okV (formR s i) = none → ∀ j, j < i + 1 → okV (formR s j) = none := by
    intro hx j hj'
    rcases Nat.lt_or_ge j i with h1 | h1
    · exact hj j h1
    · have : j = i := by omega
      subst this; exact hx
  obtain ⟨n, b, en⟩ := formR_tup s i
  have P := fun f hf => form_ok (L := L) (h := h) hs f i hf t
  rcases hi with rfl | rfl | rfl | rfl
  · simp (maxSteps := 4000000) only [vm, vl, Arg.get, cells, stor, boundO, resultsV, resV, partK, loadV, Vm.part, fillC, splice, reduceIte, reduceCtorEq, Nat.reduceEqDiff, Nat.reduceAdd, Nat.reduceSub, Nat.reduceMul, Nat.reduceLeDiff, ne_eq, not_false_eq_true, Int.reduceEq, Int.reduceLT, Int.reduceLE, Int.reduceNeg, Int.reduceToNat, Int.reduceGT, Int.reduceGE, Nat.reduceLT, Nat.lt_add_one, Nat.zero_lt_succ, Nat.succ_pos, Nat.zero_le, beq_self_eq_true, k_date_Parse_0, k_date_Parse_2, k_date_Parse_1, e0, e8, e9, decide_true, List.getD_cons_zero, List.getD_cons_succ, List.length_append]
    refine P _ (.inl ⟨rfl, rfl⟩) _ fun t' => ?_
    rw [en]
    cases b with
    | true =>
      have ed : dateS s = some n := by rw [dateS, en]; rfl
      rw [ed]
      simp (maxSteps := 4000000) only [vm, vl, Arg.get, cells, stor, boundO, resultsV, resV, partK, loadV, Vm.part, fillC, splice, reduceIte, reduceCtorEq, Nat.reduceEqDiff, Nat.reduceAdd, Nat.reduceSub, Nat.reduceMul, Nat.reduceLeDiff, ne_eq, not_false_eq_true, Int.reduceEq, Int.reduceLT, Int.reduceLE, Int.reduceNeg, Int.reduceToNat, Int.reduceGT, Int.reduceGE, Nat.reduceLT, Nat.lt_add_one, Nat.zero_lt_succ, Nat.succ_pos, Nat.zero_le, beq_self_eq_true, k_date_Parse_0, k_date_Parse_2, k_date_Parse_1, dateV]
    | false =>
      have w : IntKind.i64.wrap ((0 : Int) + 1) = ((0 + 1 : Nat) : Int) := by rw [wrap64 (by omega) (by omega)]; rfl
      simp (maxSteps := 4000000) only [vm, vl, Arg.get, cells, stor, boundO, resultsV, resV, partK, loadV, Vm.part, fillC, splice, reduceIte, reduceCtorEq, Nat.reduceEqDiff, Nat.reduceAdd, Nat.reduceSub, Nat.reduceMul, Nat.reduceLeDiff, ne_eq, not_false_eq_true, Int.reduceEq, Int.reduceLT, Int.reduceLE, Int.reduceNeg, Int.reduceToNat, Int.reduceGT, Int.reduceGE, Nat.reduceLT, Nat.lt_add_one, Nat.zero_lt_succ, Nat.succ_pos, Nat.zero_le, beq_self_eq_true, k_date_Parse_0, k_date_Parse_2, k_date_Parse_1, w]
      exact ⟨3 - (0 + 1), by omega, 0 + 1, rfl, by omega, rfl, ⟨t', rfl⟩, nx (by rw [en]; rfl)⟩
  · simp (maxSteps := 4000000) only [vm, vl, Arg.get, cells, stor, boundO, resultsV, resV, partK, loadV, Vm.part, fillC, splice, reduceIte, reduceCtorEq, Nat.reduceEqDiff, Nat.reduceAdd, Nat.reduceSub, Nat.reduceMul, Nat.reduceLeDiff, ne_eq, not_false_eq_true, Int.reduceEq, Int.reduceLT, Int.reduceLE, Int.reduceNeg, Int.reduceToNat, Int.reduceGT, Int.reduceGE, Nat.reduceLT, Nat.lt_add_one, Nat.zero_lt_succ, Nat.succ_pos, Nat.zero_le, beq_self_eq_true, k_date_Parse_0, k_date_Parse_2, k_date_Parse_1, e0, e8, e9, decide_true, List.getD_cons_zero, List.getD_cons_succ, List.length_append]
    refine P _ (.inr (.inl ⟨rfl, rfl⟩)) _ fun t' => ?_
    rw [en]
    cases b with
    | true =>
      have ed : dateS s = some n := by rw [dateS, hj 0 (by omega), en]; rfl
      rw [ed]
      simp (maxSteps := 4000000) only [vm, vl, Arg.get, cells, stor, boundO, resultsV, resV, partK, loadV, Vm.part, fillC, splice, reduceIte, reduceCtorEq, Nat.reduceEqDiff, Nat.reduceAdd, Nat.reduceSub, Nat.reduceMul, Nat.reduceLeDiff, ne_eq, not_false_eq_true, Int.reduceEq, Int.reduceLT, Int.reduceLE, Int.reduceNeg, Int.reduceToNat, Int.reduceGT, Int.reduceGE, Nat.reduceLT, Nat.lt_add_one, Nat.zero_lt_succ, Nat.succ_pos, Nat.zero_le, beq_self_eq_true, k_date_Parse_0, k_date_Parse_2, k_date_Parse_1, dateV]
    | false =>
      have w : IntKind.i64.wrap ((1 : Int) + 1) = ((1 + 1 : Nat) : Int) := by rw [wrap64 (by omega) (by omega)]; rfl
      simp (maxSteps := 4000000) only [vm, vl, Arg.get, cells, stor, boundO, resultsV, resV, partK, loadV, Vm.part, fillC, splice, reduceIte, reduceCtorEq, Nat.reduceEqDiff, Nat.reduceAdd, Nat.reduceSub, Nat.reduceMul, Nat.reduceLeDiff, ne_eq, not_false_eq_true, Int.reduceEq, Int.reduceLT, Int.reduceLE, Int.reduceNeg, Int.reduceToNat, Int.reduceGT, Int.reduceGE, Nat.reduceLT, Nat.lt_add_one, Nat.zero_lt_succ, Nat.succ_pos, Nat.zero_le, beq_self_eq_true, k_date_Parse_0, k_date_Parse_2, k_date_Parse_1, w]
      exact ⟨3 - (1 + 1), by omega, 1 + 1, rfl, by omega, rfl, ⟨t', rfl⟩, nx (by rw [en]; rfl)⟩
  · simp (maxSteps := 4000000) only [vm, vl, Arg.get, cells, stor, boundO, resultsV, resV, partK, loadV, Vm.part, fillC, splice, reduceIte, reduceCtorEq, Nat.reduceEqDiff, Nat.reduceAdd, Nat.reduceSub, Nat.reduceMul, Nat.reduceLeDiff, ne_eq, not_false_eq_true, Int.reduceEq, Int.reduceLT, Int.reduceLE, Int.reduceNeg, Int.reduceToNat, Int.reduceGT, Int.reduceGE, Nat.reduceLT, Nat.lt_add_one, Nat.zero_lt_succ, Nat.succ_pos, Nat.zero_le, beq_self_eq_true, k_date_Parse_0, k_date_Parse_2, k_date_Parse_1, e0, e8, e9, decide_true, List.getD_cons_zero, List.getD_cons_succ, List.length_append]
    refine P _ (.inr (.inr ⟨rfl, rfl⟩)) _ fun t' => ?_
    rw [en]
    cases b with
    | true =>
      have ed : dateS s = some n := by rw [dateS, hj 0 (by omega), hj 1 (by omega), en]; rfl
      rw [ed]
      simp (maxSteps := 4000000) only [vm, vl, Arg.get, cells, stor, boundO, resultsV, resV, partK, loadV, Vm.part, fillC, splice, reduceIte, reduceCtorEq, Nat.reduceEqDiff, Nat.reduceAdd, Nat.reduceSub, Nat.reduceMul, Nat.reduceLeDiff, ne_eq, not_false_eq_true, Int.reduceEq, Int.reduceLT, Int.reduceLE, Int.reduceNeg, Int.reduceToNat, Int.reduceGT, Int.reduceGE, Nat.reduceLT, Nat.lt_add_one, Nat.zero_lt_succ, Nat.succ_pos, Nat.zero_le, beq_self_eq_true, k_date_Parse_0, k_date_Parse_2, k_date_Parse_1, dateV]
    | false =>
      have w : IntKind.i64.wrap ((2 : Int) + 1) = ((2 + 1 : Nat) : Int) := by rw [wrap64 (by omega) (by omega)]; rfl
      simp (maxSteps := 4000000) only [vm, vl, Arg.get, cells, stor, boundO, resultsV, resV, partK, loadV, Vm.part, fillC, splice, reduceIte, reduceCtorEq, Nat.reduceEqDiff, Nat.reduceAdd, Nat.reduceSub, Nat.reduceMul, Nat.reduceLeDiff, ne_eq, not_false_eq_true, Int.reduceEq, Int.reduceLT, Int.reduceLE, Int.reduceNeg, Int.reduceToNat, Int.reduceGT, Int.reduceGE, Nat.reduceLT, Nat.lt_add_one, Nat.zero_lt_succ, Nat.succ_pos, Nat.zero_le, beq_self_eq_true, k_date_Parse_0, k_date_Parse_2, k_date_Parse_1, w]
      exact ⟨3 - (2 + 1), by omega, 2 + 1, rfl, by omega, rfl, ⟨t', rfl⟩, nx (by rw [en]; rfl)⟩
  · have ed : dateS s = none := by rw [dateS, hj 0 (by omega), hj 1 (by omega), hj 2 (by omega)]; rfl
    rw [ed]
    simp (maxSteps := 4000000) only [vm, vl, Arg.get, cells, stor, boundO, resultsV, resV, partK, loadV, Vm.part, fillC, splice, reduceIte, reduceCtorEq, Nat.reduceEqDiff, Nat.reduceAdd, Nat.reduceSub, Nat.reduceMul, Nat.reduceLeDiff, ne_eq, not_false_eq_true, Int.reduceEq, Int.reduceLT, Int.reduceLE, Int.reduceNeg, Int.reduceToNat, Int.reduceGT, Int.reduceGE, Nat.reduceLT, Nat.lt_add_one, Nat.zero_lt_succ, Nat.succ_pos, Nat.zero_le, beq_self_eq_true, k_date_Parse_0, k_date_Parse_2, k_date_Parse_1, e0, e8, e9, decide_false, dateV]
end Go.Proofs.YtaahialaegfjgaaGreatDoor.Vh
end
section
set_option linter.unusedVariables false
set_option linter.unusedSimpArgs false
namespace Go.Proofs.YtaahialaegfjgaaGreatDoor.Vh
open Go.Vm
attribute [local congr] wi_congr wg_congr wgd_congr wb_congr wl_congr cf_congr
variable {L : FuncId → List V → V → Prop} {h : Heap}
end Go.Proofs.YtaahialaegfjgaaGreatDoor.Vh
end
section
set_option linter.unusedVariables false
set_option linter.unusedSimpArgs false
namespace Go.Proofs.YtaahialaegfjgaaGreatDoor.Vh
open Go.Vm Go.Vt
attribute [local congr] wi_congr wg_congr wgd_congr wb_congr wl_congr cf_congr
variable {L : FuncId → List V → V → Prop} {h : Heap}
def nDate : Bs := [68, 97, 116, 101]
def nLM : Bs := [76, 97, 115, 116, 45, 77, 111, 100, 105, 102, 105, 101, 100]
def nExp : Bs := [69, 120, 112, 105, 114, 101, 115]
def nAge : Bs := [65, 103, 101]
def nET : Bs := [69, 84, 97, 103]
def stayN : List Bs := [[67, 111, 110, 116, 101, 110, 116, 45, 76, 101, 110, 103, 116, 104], [67, 111, 110, 116, 101, 110, 116, 45, 69, 110, 99, 111, 100, 105, 110, 103], [67, 111, 110, 116, 101, 110, 116, 45, 82, 97, 110, 103, 101], [67, 111, 110, 116, 101, 110, 116, 45, 84, 121, 112, 101], [84, 114, 97, 110, 115, 102, 101, 114, 45, 69, 110, 99, 111, 100, 105, 110, 103]]
/-- The one date of a name: -1 where there is none. -/
def whenI (l : List Fld) (name : Bs) : Int := if (valsOf l name).length = 1 then (dateS (joinS (valsOf l name))).getD (-1) else -1
def expI (l : List Fld) : Int := if (valsOf l nExp).length = 0 then -1 else max 0 (whenI l nExp)
def ageI (l : List Fld) : Int := match split (joinS (valsOf l nAge)) with
  | some (x :: _) => if (numS x 2147483648).2 then (numS x 2147483648).1 else -1
  | _ => -1
def tagI (l : List Fld) : Bs := joinS (valsOf l nET)
def hasB (l : List Fld) (name : Bs) : Bool := decide (0 < (valsOf l name).length)
def moreL (r : List Fld) : List Fld := stayN.foldl without (stripL r)
def outL (l r : List Fld) : List Fld := l.filter (fun f => !hasB (moreL r) f.1) ++ moreL r
end Go.Proofs.YtaahialaegfjgaaGreatDoor.Vh
end
section
set_option linter.unusedVariables false
set_option linter.unusedSimpArgs false
namespace Go.Proofs.YtaahialaegfjgaaGreatDoor.Vh
open Go.Vm Go.Vt
attribute [local congr] wi_congr wg_congr wgd_congr wb_congr wl_congr cf_congr
variable {L : FuncId → List V → V → Prop} {h : Heap}
theorem fIdx_ok {x : V} {l : List Fld} {g : FuncId} {caps : List V} {p : Fld → Bool} (hx : ListV 2 x (flds l)) (hl : l.length < 1000000000) (hg : ∀ f ∈ l, ∀ t, Cf F L g ([fldV f] ++ caps) (h ++ t) (Pu (h ++ t) (.bool (p f)))) :
    Cf F L i_slices_IndexFunc___gatepost_api_Field_gatepost_api_Field_ [x, .fn g caps] h (fun v h' => (∃ t, h' = h ++ t) ∧ ∃ n : Int, v = .int .i64 n ∧ (decide (n ≥ 0) = l.any p)) := by
  refine run_slices_IndexFunc___gatepost_api_Field_gatepost_api_Field_ ?_
  simp only [p_slices_IndexFunc___gatepost_api_Field_gatepost_api_Field_]
  
  have l1 := fun {K : V → Heap → Prop} {h : Heap} => hx.len (F := F) (L := L) (e := E0) (K := K) (h := h)
  simp only [flds_len] at l1
  simp (maxSteps := 4000000) only [vm, vl, Arg.get, cells, stor, boundO, resultsV, resV, partK, loadV, Vm.part, fillC, splice, reduceIte, reduceCtorEq, Nat.reduceEqDiff, Nat.reduceAdd, Nat.reduceSub, Nat.reduceMul, Nat.reduceLeDiff, ne_eq, not_false_eq_true, Int.reduceEq, Int.reduceLT, Int.reduceLE, Int.reduceNeg, Int.reduceToNat, Int.reduceGT, Int.reduceGE, Nat.reduceLT, Nat.lt_add_one, Nat.zero_lt_succ, Nat.succ_pos, Nat.zero_le, beq_self_eq_true, l1]
  refine l_slices_IndexFunc___gatepost_api_Field_gatepost_api_Field__0 (fun n e h' => ∃ i : Nat, n = l.length - i ∧ i ≤ l.length ∧ e 0 = x ∧ e 1 = .fn g caps ∧ e 7 = .int .i64 l.length ∧ e 8 = .int .i64 i ∧ (∃ t, h' = h ++ t) ∧ l.any p = (l.drop i).any p) ?_ (n := l.length) ⟨0, by simp, by simp, rfl, rfl, rfl, rfl, ⟨[], by simp⟩, rfl⟩
  rintro n e h' ⟨i, rfl, hi, e0, e1, e7, e8, ⟨t0, rfl⟩, hc⟩
  simp only [b_slices_IndexFunc___gatepost_api_Field_gatepost_api_Field__0]
  rcases list_at ([], []) hi with ⟨hn, rfl, hd⟩ | ⟨hl1, hl2, hd, _⟩
  · rw [hd] at hc
    simp (maxSteps := 4000000) only [vm, vl, Arg.get, cells, stor, boundO, resultsV, resV, partK, loadV, Vm.part, fillC, splice, reduceIte, reduceCtorEq, Nat.reduceEqDiff, Nat.reduceAdd, Nat.reduceSub, Nat.reduceMul, Nat.reduceLeDiff, ne_eq, not_false_eq_true, Int.reduceEq, Int.reduceLT, Int.reduceLE, Int.reduceNeg, Int.reduceToNat, Int.reduceGT, Int.reduceGE, Nat.reduceLT, Nat.lt_add_one, Nat.zero_lt_succ, Nat.succ_pos, Nat.zero_le, beq_self_eq_true, e7, e8, hn, k_slices_IndexFunc___gatepost_api_Field_gatepost_api_Field__0]
    exact ⟨⟨t0, rfl⟩, -1, rfl, by rw [hc]; rfl⟩
  · have w := wrap64 (x := (i : Int) + 1) (by omega) (by omega)
    have i1 := fun {K : V → Heap → Prop} {h : Heap} => hx.at (F := F) (L := L) (e := E0) (K := K) (h := h) (i := i) (by rw [flds_len]; exact hl2)
    have a1 := flds_at hl2
    have hmem : l.getD i ([], []) ∈ l := getD_mem hl2
    rw [hd, List.any_cons] at hc
    generalize hf : l.getD i ([], []) = f at *
    simp (maxSteps := 4000000) only [vm, vl, Arg.get, cells, stor, boundO, resultsV, resV, partK, loadV, Vm.part, fillC, splice, reduceIte, reduceCtorEq, Nat.reduceEqDiff, Nat.reduceAdd, Nat.reduceSub, Nat.reduceMul, Nat.reduceLeDiff, ne_eq, not_false_eq_true, Int.reduceEq, Int.reduceLT, Int.reduceLE, Int.reduceNeg, Int.reduceToNat, Int.reduceGT, Int.reduceGE, Nat.reduceLT, Nat.lt_add_one, Nat.zero_lt_succ, Nat.succ_pos, Nat.zero_le, beq_self_eq_true, e0, e1, e7, e8, hl1, i1, a1, fldV, k_slices_IndexFunc___gatepost_api_Field_gatepost_api_Field__1]
    have hg1 := hg f hmem t0
    simp only [fldV, List.singleton_append] at hg1
    refine Cf.pu hg1 fun t1 => ?_
    cases hp : p f with
    | true =>
      rw [hp, Bool.true_or] at hc
      simp (maxSteps := 4000000) only [vm, vl, Arg.get, cells, stor, boundO, resultsV, resV, partK, loadV, Vm.part, fillC, splice, reduceIte, reduceCtorEq, Nat.reduceEqDiff, Nat.reduceAdd, Nat.reduceSub, Nat.reduceMul, Nat.reduceLeDiff, ne_eq, not_false_eq_true, Int.reduceEq, Int.reduceLT, Int.reduceLE, Int.reduceNeg, Int.reduceToNat, Int.reduceGT, Int.reduceGE, Nat.reduceLT, Nat.lt_add_one, Nat.zero_lt_succ, Nat.succ_pos, Nat.zero_le, beq_self_eq_true, hp]
      exact ⟨⟨t0 ++ t1, by simp⟩, i, rfl, by rw [hc]; simp⟩
    | false =>
      rw [hp, Bool.false_or] at hc
      simp (maxSteps := 4000000) only [vm, vl, Arg.get, cells, stor, boundO, resultsV, resV, partK, loadV, Vm.part, fillC, splice, reduceIte, reduceCtorEq, Nat.reduceEqDiff, Nat.reduceAdd, Nat.reduceSub, Nat.reduceMul, Nat.reduceLeDiff, ne_eq, not_false_eq_true, Int.reduceEq, Int.reduceLT, Int.reduceLE, Int.reduceNeg, Int.reduceToNat, Int.reduceGT, Int.reduceGE, Nat.reduceLT, Nat.lt_add_one, Nat.zero_lt_succ, Nat.succ_pos, Nat.zero_le, beq_self_eq_true, hp, w, k_slices_IndexFunc___gatepost_api_Field_gatepost_api_Field__2]
      exact ⟨l.length - (i + 1), by omega, i + 1, rfl, hl2, e0, e1, e7, rfl, ⟨t0 ++ t1, by simp⟩, hc⟩
theorem hasB_any (l : List Fld) (name : Bs) : hasB l name = l.any fun f => low f.1 == low name := by
  unfold hasB valsOf
  rw [List.length_map, Bool.eq_iff_iff, decide_eq_true_eq, List.length_pos_iff_exists_mem, List.any_eq_true]
  exact ⟨fun ⟨f, hf⟩ => ⟨f, (List.mem_filter.1 hf).1, (List.mem_filter.1 hf).2⟩, fun ⟨f, h1, h2⟩ => ⟨f, List.mem_filter.2 ⟨h1, h2⟩⟩⟩
theorem has1_ok {f : Fld} {name : Bs} {k : Nat} (hb : h[k]? = some (.box [.str name])) (hf : f.1.length ≤ 140737488355328) (hn : name.length ≤ 140737488355328) :
    Cf F L i_storing_has_1 [fldV f, .ptr k 0] h (Pu h (.bool (low f.1 == low name))) := by
  have hb' := fun t => get_old (t := t) hb
  refine run_storing_has_1 ?_
  simp only [p_storing_has_1]
  simp (maxSteps := 4000000) only [vm, vl, Arg.get, cells, stor, boundO, resultsV, resV, partK, loadV, Vm.part, fillC, splice, reduceIte, reduceCtorEq, Nat.reduceEqDiff, Nat.reduceAdd, Nat.reduceSub, Nat.reduceMul, Nat.reduceLeDiff, ne_eq, not_false_eq_true, Int.reduceEq, Int.reduceLT, Int.reduceLE, Int.reduceNeg, Int.reduceToNat, Int.reduceGT, Int.reduceGE, Nat.reduceLT, Nat.lt_add_one, Nat.zero_lt_succ, Nat.succ_pos, Nat.zero_le, beq_self_eq_true, fldV, hb']
  refine Cf.pu (Same_ok hf hn) fun t => ?_
  simp (maxSteps := 4000000) only [vm, vl, Arg.get, cells, stor, boundO, resultsV, resV, partK, loadV, Vm.part, fillC, splice, reduceIte, reduceCtorEq, Nat.reduceEqDiff, Nat.reduceAdd, Nat.reduceSub, Nat.reduceMul, Nat.reduceLeDiff, ne_eq, not_false_eq_true, Int.reduceEq, Int.reduceLT, Int.reduceLE, Int.reduceNeg, Int.reduceToNat, Int.reduceGT, Int.reduceGE, Nat.reduceLT, Nat.lt_add_one, Nat.zero_lt_succ, Nat.succ_pos, Nat.zero_le, beq_self_eq_true]
theorem has_ok {x : V} {l : List Fld} {name : Bs} (hx : ListV 2 x (flds l)) (hl : l.length < 1000000000) (hln : ∀ f ∈ l, f.1.length ≤ 140737488355328) (hn : name.length ≤ 140737488355328) :
    Cf F L i_storing_has [x, .str name] h (Pu h (.bool (hasB l name))) := by
  refine run_storing_has ?_
  simp only [p_storing_has]
  simp (maxSteps := 4000000) only [vm, vl, Arg.get, cells, stor, boundO, resultsV, resV, partK, loadV, Vm.part, fillC, splice, reduceIte, reduceCtorEq, Nat.reduceEqDiff, Nat.reduceAdd, Nat.reduceSub, Nat.reduceMul, Nat.reduceLeDiff, ne_eq, not_false_eq_true, Int.reduceEq, Int.reduceLT, Int.reduceLE, Int.reduceNeg, Int.reduceToNat, Int.reduceGT, Int.reduceGE, Nat.reduceLT, Nat.lt_add_one, Nat.zero_lt_succ, Nat.succ_pos, Nat.zero_le, beq_self_eq_true]
  refine run_slices_ContainsFunc___gatepost_api_Field_gatepost_api_Field_ ?_
  simp only [p_slices_ContainsFunc___gatepost_api_Field_gatepost_api_Field_]
  simp (maxSteps := 4000000) only [vm, vl, Arg.get, cells, stor, boundO, resultsV, resV, partK, loadV, Vm.part, fillC, splice, reduceIte, reduceCtorEq, Nat.reduceEqDiff, Nat.reduceAdd, Nat.reduceSub, Nat.reduceMul, Nat.reduceLeDiff, ne_eq, not_false_eq_true, Int.reduceEq, Int.reduceLT, Int.reduceLE, Int.reduceNeg, Int.reduceToNat, Int.reduceGT, Int.reduceGE, Nat.reduceLT, Nat.lt_add_one, Nat.zero_lt_succ, Nat.succ_pos, Nat.zero_le, beq_self_eq_true]
  refine (fIdx_ok (p := fun f => low f.1 == low name) hx hl fun f hf t => ?_).mono fun v h' hv => ?_
  · exact has1_ok (get_old (by simp)) (hln f hf) hn
  · obtain ⟨⟨t, rfl⟩, n, rfl, he⟩ := hv
    rw [hasB_any, ← he]
    simp (maxSteps := 4000000) only [vm, vl, Arg.get, cells, stor, boundO, resultsV, resV, partK, loadV, Vm.part, fillC, splice, reduceIte, reduceCtorEq, Nat.reduceEqDiff, Nat.reduceAdd, Nat.reduceSub, Nat.reduceMul, Nat.reduceLeDiff, ne_eq, not_false_eq_true, Int.reduceEq, Int.reduceLT, Int.reduceLE, Int.reduceNeg, Int.reduceToNat, Int.reduceGT, Int.reduceGE, Nat.reduceLT, Nat.lt_add_one, Nat.zero_lt_succ, Nat.succ_pos, Nat.zero_le, beq_self_eq_true]
def datedV (l : List Fld) (name : Bs) : V := if (valsOf l name).length = 0 then .agg [.int .i64 0, .bool false, .bool false] else
  .agg [.int .i64 ((dateS (joinS (valsOf l name))).getD 0), .bool true, .bool ((dateS (joinS (valsOf l name))).isSome && decide ((valsOf l name).length = 1))]
theorem dateV_tup (o : Option Int) : dateV o = .tup [.int .i64 (o.getD 0), .bool o.isSome] := by cases o <;> rfl
theorem dated_ok (HJ : JoinOk L) {x : V} {l : List Fld} {name : Bs} (hx : ListV 2 x (flds l)) (hl : l.length < 100000) (hln : ∀ f ∈ l, f.1.length ≤ 140737488355328) (hn : name.length ≤ 140737488355328) (hsm : sumF l < 100000) :
    Cf F L i_storing_dated [x, .str name] h (Pu h (datedV l name)) := by
  refine run_storing_dated ?_
  simp only [p_storing_dated]
  have j1 := vals_join l name
  simp (maxSteps := 4000000) only [vm, vl, Arg.get, cells, stor, boundO, resultsV, resV, partK, loadV, Vm.part, fillC, splice, reduceIte, reduceCtorEq, Nat.reduceEqDiff, Nat.reduceAdd, Nat.reduceSub, Nat.reduceMul, Nat.reduceLeDiff, ne_eq, not_false_eq_true, Int.reduceEq, Int.reduceLT, Int.reduceLE, Int.reduceNeg, Int.reduceToNat, Int.reduceGT, Int.reduceGE, Nat.reduceLT, Nat.lt_add_one, Nat.zero_lt_succ, Nat.succ_pos, Nat.zero_le, beq_self_eq_true, k_storing_dated_0]
  refine Cf.pu (Get_ok HJ (name := name) hx (by omega) hln hn (by omega)) fun u1 => ?_
  simp only [getV]
  simp (maxSteps := 4000000) only [vm, vl, Arg.get, cells, stor, boundO, resultsV, resV, partK, loadV, Vm.part, fillC, splice, reduceIte, reduceCtorEq, Nat.reduceEqDiff, Nat.reduceAdd, Nat.reduceSub, Nat.reduceMul, Nat.reduceLeDiff, ne_eq, not_false_eq_true, Int.reduceEq, Int.reduceLT, Int.reduceLE, Int.reduceNeg, Int.reduceToNat, Int.reduceGT, Int.reduceGE, Nat.reduceLT, Nat.lt_add_one, Nat.zero_lt_succ, Nat.succ_pos, Nat.zero_le, beq_self_eq_true, k_storing_dated_0]
  refine Cf.pu (DParse_ok (by omega)) fun u2 => ?_
  rw [dateV_tup]
  unfold datedV
  generalize dateS (joinS (valsOf l name)) = o
  generalize valsOf l name = vs
  by_cases c1 : vs.length = 0
  · have c1' : (vs.length : Int) = 0 := by omega
    rw [if_pos c1]
    simp (maxSteps := 4000000) only [vm, vl, Arg.get, cells, stor, boundO, resultsV, resV, partK, loadV, Vm.part, fillC, splice, reduceIte, reduceCtorEq, Nat.reduceEqDiff, Nat.reduceAdd, Nat.reduceSub, Nat.reduceMul, Nat.reduceLeDiff, ne_eq, not_false_eq_true, Int.reduceEq, Int.reduceLT, Int.reduceLE, Int.reduceNeg, Int.reduceToNat, Int.reduceGT, Int.reduceGE, Nat.reduceLT, Nat.lt_add_one, Nat.zero_lt_succ, Nat.succ_pos, Nat.zero_le, beq_self_eq_true, k_storing_dated_0, c1', decide_true]
  · have c1' : ¬ (vs.length : Int) = 0 := by omega
    rw [if_neg c1]
    cases o with
    | none => simp (maxSteps := 4000000) only [vm, vl, Arg.get, cells, stor, boundO, resultsV, resV, partK, loadV, Vm.part, fillC, splice, reduceIte, reduceCtorEq, Nat.reduceEqDiff, Nat.reduceAdd, Nat.reduceSub, Nat.reduceMul, Nat.reduceLeDiff, ne_eq, not_false_eq_true, Int.reduceEq, Int.reduceLT, Int.reduceLE, Int.reduceNeg, Int.reduceToNat, Int.reduceGT, Int.reduceGE, Nat.reduceLT, Nat.lt_add_one, Nat.zero_lt_succ, Nat.succ_pos, Nat.zero_le, beq_self_eq_true, k_storing_dated_0, c1', decide_false, Option.isSome_none, Option.getD_none, Bool.false_and]
    | some n =>
      have c2 : decide ((vs.length : Int) = 1) = decide (vs.length = 1) := decide_eq_decide.2 (by omega)
      simp (maxSteps := 4000000) only [vm, vl, Arg.get, cells, stor, boundO, resultsV, resV, partK, loadV, Vm.part, fillC, splice, reduceIte, reduceCtorEq, Nat.reduceEqDiff, Nat.reduceAdd, Nat.reduceSub, Nat.reduceMul, Nat.reduceLeDiff, ne_eq, not_false_eq_true, Int.reduceEq, Int.reduceLT, Int.reduceLE, Int.reduceNeg, Int.reduceToNat, Int.reduceGT, Int.reduceGE, Nat.reduceLT, Nat.lt_add_one, Nat.zero_lt_succ, Nat.succ_pos, Nat.zero_le, beq_self_eq_true, k_storing_dated_0, c1', c2, decide_false, Option.isSome_some, Option.getD_some, Bool.true_and]
end Go.Proofs.YtaahialaegfjgaaGreatDoor.Vh
end
section
set_option linter.unusedVariables false
set_option linter.unusedSimpArgs false
namespace Go.Proofs.YtaahialaegfjgaaGreatDoor.Vh
open Go.Vm Go.Vt
attribute [local congr] wi_congr wg_congr wgd_congr wb_congr wl_congr cf_congr
variable {L : FuncId → List V → V → Prop} {h : Heap}
variable {code d e m mo a s g t v x : V} {c : Ct} {j : Nat} {ms : List V} {hh : Heap} {l : List Fld}
def mM (code : V) (cs : List V) (d e m a s g t : V) : List V := code :: (cs ++ [d, e, m, a, s, g, t])
theorem mM_len : (mM code (ctV c) d e m a s g t).length = 21 := rfl
theorem mM_all : List.take 21 (mM code (ctV c) d e m a s g t) = mM code (ctV c) d e m a s g t := rfl
theorem mM_put14 : List.take 14 (mM code (ctV c) d e m a s g t) ++ v :: List.drop 15 (mM code (ctV c) d e m a s g t) = mM code (ctV c) v e m a s g t := rfl
theorem mM_put15 : List.take 15 (mM code (ctV c) d e m a s g t) ++ v :: List.drop 16 (mM code (ctV c) d e m a s g t) = mM code (ctV c) d v m a s g t := rfl
theorem mM_put16 : List.take 16 (mM code (ctV c) d e m a s g t) ++ v :: List.drop 17 (mM code (ctV c) d e m a s g t) = mM code (ctV c) d e v a s g t := rfl
theorem mM_put17 : List.take 17 (mM code (ctV c) d e m a s g t) ++ v :: List.drop 18 (mM code (ctV c) d e m a s g t) = mM code (ctV c) d e m v s g t := rfl
theorem mM_put20 : List.take 20 (mM code (ctV c) d e m a s g t) ++ v :: List.drop 21 (mM code (ctV c) d e m a s g t) = mM code (ctV c) d e m a s g v := rfl
def MI (h : Heap) (x : V) (j : Nat) (ms : List V) (hh : Heap) : Prop := ∃ T, hh = h ++ T ∧ (∃ a b c, T[0]? = some (O.box [a, b, c, x])) ∧ (∃ Z : List V, Z.length = 21 ∧ T[1]? = some (.box Z)) ∧ 2 ≤ j ∧ T[j]? = some (.box ms)
theorem MI.g0 (m : MI h x j ms hh) : ∃ a b c, hh[h.length]? = some (O.box [a, b, c, x]) := by
  obtain ⟨T, rfl, ⟨a, b, c, h0⟩, _⟩ := m
  exact ⟨a, b, c, by rw [List.getElem?_append_right (Nat.le_refl _), Nat.sub_self, h0]⟩
theorem MI.gj (m : MI h x j ms hh) : hh[h.length + j]? = some (.box ms) := by
  obtain ⟨T, rfl, _, _, _, hj⟩ := m
  rw [List.getElem?_append_right (Nat.le_add_right _ _), Nat.add_sub_cancel_left, hj]
theorem MI.more {t : Heap} (m : MI h x j ms hh) : MI h x j ms (hh ++ t) := by
  obtain ⟨T, rfl, ⟨a, b, c, h0⟩, ⟨Z, z1, z2⟩, h2, hj⟩ := m
  exact ⟨T ++ t, by simp, ⟨a, b, c, get_old h0⟩, ⟨Z, z1, get_old z2⟩, h2, get_old hj⟩
theorem MI.put (m : MI h x j ms hh) (ms' : List V) : MI h x j ms' (hh.set (h.length + j) (.box ms')) := by
  obtain ⟨T, rfl, ⟨a, b, c, h0⟩, ⟨Z, z1, z2⟩, h2, hj⟩ := m
  refine ⟨T.set j (.box ms'), by rw [List.set_append_right _ _ (by omega), Nat.add_sub_cancel_left], ⟨a, b, c, ?_⟩, ⟨Z, z1, ?_⟩, h2, ?_⟩
  · rw [List.getElem?_set_ne (by omega)]; exact h0
  · rw [List.getElem?_set_ne (by omega)]; exact z2
  · rw [List.getElem?_set_self (List.getElem?_eq_some_iff.1 hj).1]
theorem MI.g1 (m : MI h x j ms hh) : ∃ Z : List V, Z.length = 21 ∧ hh[h.length + 1]? = some (.box Z) := by
  obtain ⟨T, rfl, _, ⟨Z, z1, z2⟩, _⟩ := m
  exact ⟨Z, z1, by rw [List.getElem?_append_right (Nat.le_add_right _ _), Nat.add_sub_cancel_left, z2]⟩
theorem MI.fin (m : MI h x j ms hh) (b : O) : (hh.set (h.length + 1) b)[h.length + 1]? = some b ∧ ∃ t, hh.set (h.length + 1) b = h ++ t := by
  obtain ⟨T, rfl, _, ⟨Z, z1, z2⟩, _⟩ := m
  have hl := (List.getElem?_eq_some_iff.1 z2).1
  refine ⟨by rw [List.getElem?_set_self (by simp; omega)], T.set 1 b, by rw [List.set_append_right _ _ (by omega), Nat.add_sub_cancel_left]⟩
theorem sOf1_ok (HJ : JoinOk L) (m : MI h x j (mM code (ctV c) d e mo a s g t) hh) (hx : ListV 2 x (flds l)) (hl : l.length < 100000) (hln : ∀ f ∈ l, f.1.length ≤ 140737488355328) (hsm : sumF l < 100000) :
    k_storing_Of_1 L (Pu h (.agg (mM code (ctV c) d e mo a s g (.str (tagI l))))) (.ptr h.length 0) (.ptr (h.length + 1) 0) (.ptr (h.length + j) 0) hh := by
  
  unfold k_storing_Of_1
  have j1 := vals_join l nET
  obtain ⟨a1, b1, c1, g0⟩ := m.g0
  simp (maxSteps := 4000000) only [vm, vl, Arg.get, cells, stor, boundO, resultsV, resV, partK, loadV, Vm.part, fillC, splice, reduceIte, reduceCtorEq, Nat.reduceEqDiff, Nat.reduceAdd, Nat.reduceSub, Nat.reduceMul, Nat.reduceLeDiff, ne_eq, not_false_eq_true, Int.reduceEq, Int.reduceLT, Int.reduceLE, Int.reduceNeg, Int.reduceToNat, Int.reduceGT, Int.reduceGE, Nat.reduceLT, Nat.lt_add_one, Nat.zero_lt_succ, Nat.succ_pos, Nat.zero_le, beq_self_eq_true, g0]
  refine Cf.pu (Get_ok HJ (name := nET) hx (by omega) hln (by simp [nET]) (by omega)) fun u => ?_
  simp only [getV]
  have m2 := m.more (t := u)
  have gj := m2.gj
  have m3 := m2.put (mM code (ctV c) d e mo a s g (.str (tagI l)))
  have gj3 := m3.gj
  obtain ⟨Z, hZ, g1⟩ := m3.g1
  obtain ⟨g4, T, hT⟩ := m3.fin (.box (mM code (ctV c) d e mo a s g (.str (tagI l))))
  have hZd : List.drop 21 Z = [] := List.drop_eq_nil_of_le (by omega)
  rw [show joinS (valsOf l nET) = tagI l from rfl]
  simp (maxSteps := 4000000) only [vm, vl, Arg.get, cells, stor, boundO, resultsV, resV, partK, loadV, Vm.part, fillC, splice, reduceIte, reduceCtorEq, Nat.reduceEqDiff, Nat.reduceAdd, Nat.reduceSub, Nat.reduceMul, Nat.reduceLeDiff, ne_eq, not_false_eq_true, Int.reduceEq, Int.reduceLT, Int.reduceLE, Int.reduceNeg, Int.reduceToNat, Int.reduceGT, Int.reduceGE, Nat.reduceLT, Nat.lt_add_one, Nat.zero_lt_succ, Nat.succ_pos, Nat.zero_le, beq_self_eq_true, gj, mM_len, mM_put20, gj3, mM_all, g1, hZ, hZd, List.append_nil, g4]
  exact ⟨rfl, T, hT⟩
theorem sOf2_ok (HJ : JoinOk L) (m : MI h x j (mM code (ctV c) d e mo (.int .i64 (-1)) s g t) hh) (hx : ListV 2 x (flds l)) (hl : l.length < 100000) (hln : ∀ f ∈ l, f.1.length ≤ 140737488355328) (hsm : sumF l < 100000) :
    k_storing_Of_2 L (Pu h (.agg (mM code (ctV c) d e mo (.int .i64 (ageI l)) s g (.str (tagI l))))) (.ptr h.length 0) (.ptr (h.length + 1) 0) (.ptr (h.length + j) 0) (splitV (split (joinS (valsOf l nAge)))) hh := by
  
  unfold k_storing_Of_2
  have j1 := vals_join l nAge
  cases hsp : split (joinS (valsOf l nAge)) with
  | none =>
    have ea : ageI l = -1 := by unfold ageI; rw [hsp]
    rw [ea]
    simp only [splitV]
    simp (maxSteps := 4000000) only [vm, vl, Arg.get, cells, stor, boundO, resultsV, resV, partK, loadV, Vm.part, fillC, splice, reduceIte, reduceCtorEq, Nat.reduceEqDiff, Nat.reduceAdd, Nat.reduceSub, Nat.reduceMul, Nat.reduceLeDiff, ne_eq, not_false_eq_true, Int.reduceEq, Int.reduceLT, Int.reduceLE, Int.reduceNeg, Int.reduceToNat, Int.reduceGT, Int.reduceGE, Nat.reduceLT, Nat.lt_add_one, Nat.zero_lt_succ, Nat.succ_pos, Nat.zero_le, beq_self_eq_true]
    exact sOf1_ok HJ m hx hl hln hsm
  | some ws =>
    simp only [splitV]
    cases ws with
    | nil =>
      have ea : ageI l = -1 := by unfold ageI; rw [hsp]
      rw [ea, show fullV [] = .nsl from rfl]
      simp (maxSteps := 4000000) only [vm, vl, Arg.get, cells, stor, boundO, resultsV, resV, partK, loadV, Vm.part, fillC, splice, reduceIte, reduceCtorEq, Nat.reduceEqDiff, Nat.reduceAdd, Nat.reduceSub, Nat.reduceMul, Nat.reduceLeDiff, ne_eq, not_false_eq_true, Int.reduceEq, Int.reduceLT, Int.reduceLE, Int.reduceNeg, Int.reduceToNat, Int.reduceGT, Int.reduceGE, Nat.reduceLT, Nat.lt_add_one, Nat.zero_lt_succ, Nat.succ_pos, Nat.zero_le, beq_self_eq_true]
      exact sOf1_ok HJ m hx hl hln hsm
    | cons w r =>
      have hw := split_mem hsp w (by simp)
      rw [show fullV (w :: r) = .sl 1 .full (.str w :: strs r) from rfl]
      have c0 : (((strs r).length + 1 : Nat) : Int) > 0 := by omega
      simp (maxSteps := 4000000) only [vm, vl, Arg.get, cells, stor, boundO, resultsV, resV, partK, loadV, Vm.part, fillC, splice, reduceIte, reduceCtorEq, Nat.reduceEqDiff, Nat.reduceAdd, Nat.reduceSub, Nat.reduceMul, Nat.reduceLeDiff, ne_eq, not_false_eq_true, Int.reduceEq, Int.reduceLT, Int.reduceLE, Int.reduceNeg, Int.reduceToNat, Int.reduceGT, Int.reduceGE, Nat.reduceLT, Nat.lt_add_one, Nat.zero_lt_succ, Nat.succ_pos, Nat.zero_le, beq_self_eq_true, List.length_cons, c0, decide_true, Int.le_refl, Int.toNat_zero, List.getD_cons_zero]
      refine Cf.pu (Number_ok (s := w) (most := 2147483648) (by omega) (by decide) (by decide)) fun u => ?_
      have m2 := m.more (t := u)
      have gj := m2.gj
      cases hb : (numS w 2147483648).2 with
      | false =>
        have ea : ageI l = -1 := by unfold ageI; rw [hsp]; simp only [hb]; rfl
        rw [ea]
        simp (maxSteps := 4000000) only [vm, vl, Arg.get, cells, stor, boundO, resultsV, resV, partK, loadV, Vm.part, fillC, splice, reduceIte, reduceCtorEq, Nat.reduceEqDiff, Nat.reduceAdd, Nat.reduceSub, Nat.reduceMul, Nat.reduceLeDiff, ne_eq, not_false_eq_true, Int.reduceEq, Int.reduceLT, Int.reduceLE, Int.reduceNeg, Int.reduceToNat, Int.reduceGT, Int.reduceGE, Nat.reduceLT, Nat.lt_add_one, Nat.zero_lt_succ, Nat.succ_pos, Nat.zero_le, beq_self_eq_true]
        exact sOf1_ok HJ m2 hx hl hln hsm
      | true =>
        have ea : ageI l = (numS w 2147483648).1 := by unfold ageI; rw [hsp]; simp only [hb]; rfl
        rw [ea]
        generalize (numS w 2147483648).1 = n
        have m3 := m2.put (mM code (ctV c) d e mo (.int .i64 n) s g t)
        simp (maxSteps := 4000000) only [vm, vl, Arg.get, cells, stor, boundO, resultsV, resV, partK, loadV, Vm.part, fillC, splice, reduceIte, reduceCtorEq, Nat.reduceEqDiff, Nat.reduceAdd, Nat.reduceSub, Nat.reduceMul, Nat.reduceLeDiff, ne_eq, not_false_eq_true, Int.reduceEq, Int.reduceLT, Int.reduceLE, Int.reduceNeg, Int.reduceToNat, Int.reduceGT, Int.reduceGE, Nat.reduceLT, Nat.lt_add_one, Nat.zero_lt_succ, Nat.succ_pos, Nat.zero_le, beq_self_eq_true, gj, mM_len, mM_put17]
        exact sOf1_ok HJ m3 hx hl hln hsm
theorem sOf0_ok (HJ : JoinOk L) (m : MI h x j (mM code (ctV c) d e mo (.int .i64 (-1)) s g t) hh) (hx : ListV 2 x (flds l)) (hl : l.length < 100000) (hln : ∀ f ∈ l, f.1.length ≤ 140737488355328) (hsm : sumF l < 100000) :
    k_storing_Of_0 L (Pu h (.agg (mM code (ctV c) d e mo (.int .i64 (ageI l)) s g (.str (tagI l))))) (.ptr h.length 0) (.ptr (h.length + 1) 0) (.ptr (h.length + j) 0) hh := by
  
  unfold k_storing_Of_0
  have j1 := vals_join l nAge
  obtain ⟨a1, b1, c1, g0⟩ := m.g0
  simp (maxSteps := 4000000) only [vm, vl, Arg.get, cells, stor, boundO, resultsV, resV, partK, loadV, Vm.part, fillC, splice, reduceIte, reduceCtorEq, Nat.reduceEqDiff, Nat.reduceAdd, Nat.reduceSub, Nat.reduceMul, Nat.reduceLeDiff, ne_eq, not_false_eq_true, Int.reduceEq, Int.reduceLT, Int.reduceLE, Int.reduceNeg, Int.reduceToNat, Int.reduceGT, Int.reduceGE, Nat.reduceLT, Nat.lt_add_one, Nat.zero_lt_succ, Nat.succ_pos, Nat.zero_le, beq_self_eq_true, g0]
  refine Cf.pu (Get_ok HJ (name := nAge) hx (by omega) hln (by simp [nAge]) (by omega)) fun u => ?_
  simp only [getV]
  simp (maxSteps := 4000000) only [vm, vl, Arg.get, cells, stor, boundO, resultsV, resV, partK, loadV, Vm.part, fillC, splice, reduceIte, reduceCtorEq, Nat.reduceEqDiff, Nat.reduceAdd, Nat.reduceSub, Nat.reduceMul, Nat.reduceLeDiff, ne_eq, not_false_eq_true, Int.reduceEq, Int.reduceLT, Int.reduceLE, Int.reduceNeg, Int.reduceToNat, Int.reduceGT, Int.reduceGE, Nat.reduceLT, Nat.lt_add_one, Nat.zero_lt_succ, Nat.succ_pos, Nat.zero_le, beq_self_eq_true]
  refine Cf.pu (Split_ok (by omega)) fun u2 => ?_
  exact sOf2_ok HJ m.more.more hx hl hln hsm
end Go.Proofs.YtaahialaegfjgaaGreatDoor.Vh
end
section
set_option linter.unusedVariables false
set_option linter.unusedSimpArgs false
namespace Go.Proofs.YtaahialaegfjgaaGreatDoor.Vh
open Go.Vm Go.Vt
attribute [local congr] wi_congr wg_congr wgd_congr wb_congr wl_congr cf_congr
variable {L : FuncId → List V → V → Prop} {h : Heap}
variable {code d e m mo a s g t v x : V} {c : Ct} {j : Nat} {ms : List V} {hh : Heap} {l : List Fld}
theorem when_eq (l : List Fld) (name : Bs) : whenI l name = if (valsOf l name).length = 0 then -1 else if ((dateS (joinS (valsOf l name))).isSome && decide ((valsOf l name).length = 1)) = true then (dateS (joinS (valsOf l name))).getD 0 else -1 := by
  unfold whenI
  generalize dateS (joinS (valsOf l name)) = o
  generalize (valsOf l name).length = n
  by_cases h1 : n = 1
  · subst h1
    cases o with
    | none => rfl
    | some a => rfl
  · rw [if_neg h1]
    by_cases h0 : n = 0
    · rw [if_pos h0]
    · rw [if_neg h0, if_neg (by simp [h1])]
theorem whenf_ok (HJ : JoinOk L) {k : Nat} {name : Bs} (hb : ∃ a b c, h[k]? = some (O.box [a, b, c, x])) (hx : ListV 2 x (flds l)) (hl : l.length < 100000) (hln : ∀ f ∈ l, f.1.length ≤ 140737488355328) (hn : name.length ≤ 140737488355328) (hsm : sumF l < 100000) :
    Cf F L i_storing_Of_1 [.str name, .ptr k 0] h (Pu h (.int .i64 (whenI l name))) := by
  refine run_storing_Of_1 ?_
  simp only [p_storing_Of_1]
  obtain ⟨a, b, c, g0⟩ := hb
  rw [when_eq]
  simp (maxSteps := 4000000) only [vm, vl, Arg.get, cells, stor, boundO, resultsV, resV, partK, loadV, Vm.part, fillC, splice, reduceIte, reduceCtorEq, Nat.reduceEqDiff, Nat.reduceAdd, Nat.reduceSub, Nat.reduceMul, Nat.reduceLeDiff, ne_eq, not_false_eq_true, Int.reduceEq, Int.reduceLT, Int.reduceLE, Int.reduceNeg, Int.reduceToNat, Int.reduceGT, Int.reduceGE, Nat.reduceLT, Nat.lt_add_one, Nat.zero_lt_succ, Nat.succ_pos, Nat.zero_le, beq_self_eq_true, k_storing_Of_1_0, g0]
  refine Cf.pu (dated_ok HJ hx hl hln hn hsm) fun u => ?_
  unfold datedV
  by_cases c1 : (valsOf l name).length = 0
  · rw [if_pos c1, if_pos c1]
    simp (maxSteps := 4000000) only [vm, vl, Arg.get, cells, stor, boundO, resultsV, resV, partK, loadV, Vm.part, fillC, splice, reduceIte, reduceCtorEq, Nat.reduceEqDiff, Nat.reduceAdd, Nat.reduceSub, Nat.reduceMul, Nat.reduceLeDiff, ne_eq, not_false_eq_true, Int.reduceEq, Int.reduceLT, Int.reduceLE, Int.reduceNeg, Int.reduceToNat, Int.reduceGT, Int.reduceGE, Nat.reduceLT, Nat.lt_add_one, Nat.zero_lt_succ, Nat.succ_pos, Nat.zero_le, beq_self_eq_true, k_storing_Of_1_0]
  · rw [if_neg c1, if_neg c1]
    generalize dateS (joinS (valsOf l name)) = o
    generalize (o.isSome && decide ((valsOf l name).length = 1)) = bb
    cases bb with
    | true => simp (maxSteps := 4000000) only [vm, vl, Arg.get, cells, stor, boundO, resultsV, resV, partK, loadV, Vm.part, fillC, splice, reduceIte, reduceCtorEq, Nat.reduceEqDiff, Nat.reduceAdd, Nat.reduceSub, Nat.reduceMul, Nat.reduceLeDiff, ne_eq, not_false_eq_true, Int.reduceEq, Int.reduceLT, Int.reduceLE, Int.reduceNeg, Int.reduceToNat, Int.reduceGT, Int.reduceGE, Nat.reduceLT, Nat.lt_add_one, Nat.zero_lt_succ, Nat.succ_pos, Nat.zero_le, beq_self_eq_true, k_storing_Of_1_0]
    | false => simp (maxSteps := 4000000) only [vm, vl, Arg.get, cells, stor, boundO, resultsV, resV, partK, loadV, Vm.part, fillC, splice, reduceIte, reduceCtorEq, Nat.reduceEqDiff, Nat.reduceAdd, Nat.reduceSub, Nat.reduceMul, Nat.reduceLeDiff, ne_eq, not_false_eq_true, Int.reduceEq, Int.reduceLT, Int.reduceLE, Int.reduceNeg, Int.reduceToNat, Int.reduceGT, Int.reduceGE, Nat.reduceLT, Nat.lt_add_one, Nat.zero_lt_succ, Nat.succ_pos, Nat.zero_le, beq_self_eq_true, k_storing_Of_1_0]
theorem sOf3_ok (HJ : JoinOk L) (m : MI h x j (mM code (ctV c) d (.int .i64 (-1)) mo (.int .i64 (-1)) s g t) hh) (hx : ListV 2 x (flds l)) (hl : l.length < 100000) (hln : ∀ f ∈ l, f.1.length ≤ 140737488355328) (hsm : sumF l < 100000) :
    k_storing_Of_3 L (Pu h (.agg (mM code (ctV c) d (.int .i64 (expI l)) mo (.int .i64 (ageI l)) s g (.str (tagI l))))) (.ptr h.length 0) (.ptr (h.length + 1) 0) (.ptr (h.length + j) 0) (.fn i_storing_Of_1 [.ptr h.length 0]) (datedV l nExp) hh := by
  
  unfold k_storing_Of_3 datedV
  by_cases c1 : (valsOf l nExp).length = 0
  · have ee : expI l = -1 := if_pos c1
    rw [if_pos c1, ee]
    have q : eqV (.agg [.i, .b, .b]) (.agg [.int .i64 0, .bool false, .bool false]) (.agg [.int .i64 0, .bool false, .bool false]) = some true := by simp [eqV, eqLeaves, eqLeaf]
    simp (maxSteps := 4000000) only [vm, vl, Arg.get, cells, stor, boundO, resultsV, resV, partK, loadV, Vm.part, fillC, splice, reduceIte, reduceCtorEq, Nat.reduceEqDiff, Nat.reduceAdd, Nat.reduceSub, Nat.reduceMul, Nat.reduceLeDiff, ne_eq, not_false_eq_true, Int.reduceEq, Int.reduceLT, Int.reduceLE, Int.reduceNeg, Int.reduceToNat, Int.reduceGT, Int.reduceGE, Nat.reduceLT, Nat.lt_add_one, Nat.zero_lt_succ, Nat.succ_pos, Nat.zero_le, beq_self_eq_true, q]
    exact sOf0_ok HJ m.more hx hl hln hsm
  · have ee : expI l = max 0 (whenI l nExp) := if_neg c1
    rw [if_neg c1, ee]
    generalize (dateS (joinS (valsOf l nExp))).getD 0 = n1
    generalize ((dateS (joinS (valsOf l nExp))).isSome && decide ((valsOf l nExp).length = 1)) = b1
    have q : eqV (.agg [.i, .b, .b]) (.agg [.int .i64 n1, .bool true, .bool b1]) (.agg [.int .i64 0, .bool false, .bool false]) = some false := by
      simp [eqV, eqLeaves, eqLeaf]
    simp (maxSteps := 4000000) only [vm, vl, Arg.get, cells, stor, boundO, resultsV, resV, partK, loadV, Vm.part, fillC, splice, reduceIte, reduceCtorEq, Nat.reduceEqDiff, Nat.reduceAdd, Nat.reduceSub, Nat.reduceMul, Nat.reduceLeDiff, ne_eq, not_false_eq_true, Int.reduceEq, Int.reduceLT, Int.reduceLE, Int.reduceNeg, Int.reduceToNat, Int.reduceGT, Int.reduceGE, Nat.reduceLT, Nat.lt_add_one, Nat.zero_lt_succ, Nat.succ_pos, Nat.zero_le, beq_self_eq_true, q]
    refine Cf.pu (whenf_ok HJ (name := nExp) m.more.g0 hx hl hln (by simp [nExp]) hsm) fun u => ?_
    have m2 := m.more (t := O.box [.int .i64 n1, .bool true, .bool b1] :: u)
    have gj := m2.gj
    have m3 := m2.put (mM code (ctV c) d (.int .i64 (max 0 (whenI l nExp))) mo (.int .i64 (-1)) s g t)
    simp (maxSteps := 4000000) only [vm, vl, Arg.get, cells, stor, boundO, resultsV, resV, partK, loadV, Vm.part, fillC, splice, reduceIte, reduceCtorEq, Nat.reduceEqDiff, Nat.reduceAdd, Nat.reduceSub, Nat.reduceMul, Nat.reduceLeDiff, ne_eq, not_false_eq_true, Int.reduceEq, Int.reduceLT, Int.reduceLE, Int.reduceNeg, Int.reduceToNat, Int.reduceGT, Int.reduceGE, Nat.reduceLT, Nat.lt_add_one, Nat.zero_lt_succ, Nat.succ_pos, Nat.zero_le, beq_self_eq_true, gj, mM_len, mM_put15]
    exact sOf0_ok HJ m3 hx hl hln hsm
theorem sOf4_ok (HJ : JoinOk L) {n1 n2 : Int} (m : MI h x j (mM code (ctV c) d (.int .i64 (-1)) mo (.int .i64 (-1)) s g t) hh) (hx : ListV 2 x (flds l)) (hl : l.length < 100000) (hln : ∀ f ∈ l, f.1.length ≤ 140737488355328) (hsm : sumF l < 100000) :
    k_storing_Of_4 L (Pu h (.agg (mM code (ctV c) (.int .i64 n1) (.int .i64 (expI l)) (.int .i64 n2) (.int .i64 (ageI l)) s g (.str (tagI l))))) (.ptr h.length 0) (.ptr (h.length + 1) 0) (.ptr (h.length + j) 0) (.fn i_storing_Of_1 [.ptr h.length 0]) (.int .i64 n1) (.int .i64 n2) hh := by
  
  unfold k_storing_Of_4
  have gj := m.gj
  have m2 := m.put (mM code (ctV c) (.int .i64 n1) (.int .i64 (-1)) mo (.int .i64 (-1)) s g t)
  have gj2 := m2.gj
  have m3 := m2.put (mM code (ctV c) (.int .i64 n1) (.int .i64 (-1)) (.int .i64 n2) (.int .i64 (-1)) s g t)
  obtain ⟨a1, b1, c1, g0⟩ := m3.g0
  simp (maxSteps := 4000000) only [vm, vl, Arg.get, cells, stor, boundO, resultsV, resV, partK, loadV, Vm.part, fillC, splice, reduceIte, reduceCtorEq, Nat.reduceEqDiff, Nat.reduceAdd, Nat.reduceSub, Nat.reduceMul, Nat.reduceLeDiff, ne_eq, not_false_eq_true, Int.reduceEq, Int.reduceLT, Int.reduceLE, Int.reduceNeg, Int.reduceToNat, Int.reduceGT, Int.reduceGE, Nat.reduceLT, Nat.lt_add_one, Nat.zero_lt_succ, Nat.succ_pos, Nat.zero_le, beq_self_eq_true, gj, mM_len, mM_put14, gj2, mM_put16, g0]
  refine Cf.pu (dated_ok HJ (name := nExp) hx hl hln (by simp [nExp]) hsm) fun u => ?_
  exact sOf3_ok HJ m3.more hx hl hln hsm
theorem mi_new {x a b c : V} {u : Heap} {ms : List V} {Z : List V} (hZ : Z.length = 21) : MI h x (2 + u.length) ms (h ++ (O.box [a, b, c, x] :: O.box Z :: (u ++ [O.box ms]))) := by
  refine ⟨_, rfl, ⟨a, b, c, rfl⟩, ⟨Z, hZ, rfl⟩, by omega, ?_⟩
  rw [show 2 + u.length = u.length + 1 + 1 by omega, List.getElem?_cons_succ, List.getElem?_cons_succ, List.getElem?_append_right (Nat.le_refl _), Nat.sub_self]
  rfl
def z21 : List V := [.int .i64 0, .bool false, .bool false, .bool false, .bool false, .bool false, .bool false, .bool false, .int .i64 0, .int .i64 0, .int .i64 0, .int .i64 0, .int .i64 0, .int .i64 0, .int .i64 0, .int .i64 0, .int .i64 0, .int .i64 0, .int .i64 0, .int .i64 0, .str []]
theorem fill21 {code s g : Int} {c : Ct} : fillC E0 [.int .i64 0, .bool false, .bool false, .bool false, .bool false, .bool false, .bool false, .bool false, .int .i64 0, .int .i64 0, .int .i64 0, .int .i64 0, .int .i64 0, .int .i64 0, .int .i64 0, .int .i64 0, .int .i64 0, .int .i64 0, .int .i64 0, .int .i64 0, .str []] [(0, 1, .c (.int .i64 code)), (1, 13, .c (.agg (ctV c))), (15, 1, .c (.int .i64 (-1))), (17, 1, .c (.int .i64 (-1))), (18, 1, .c (.int .i64 s)), (19, 1, .c (.int .i64 g))] = some (mM (.int .i64 code) (ctV c) (.int .i64 0) (.int .i64 (-1)) (.int .i64 0) (.int .i64 (-1)) (.int .i64 s) (.int .i64 g) (.str [])) := by
  simp [fillC, cells, stor, Arg.get, splice, ctV, mM]
theorem sOf5_ok (HJ : JoinOk L) {x a b c : V} {code s g : Int} {l : List Fld} {C : Ct} {Z : List V} {u : Heap} (hZ : Z.length = 21) (hx : ListV 2 x (flds l)) (hl : l.length < 100000) (hln : ∀ f ∈ l, f.1.length ≤ 140737488355328) (hsm : sumF l < 100000) :
    k_storing_Of_5 L (Pu h (.agg (mM (.int .i64 code) (ctV C) (.int .i64 (whenI l nDate)) (.int .i64 (expI l)) (.int .i64 (whenI l nLM)) (.int .i64 (ageI l)) (.int .i64 s) (.int .i64 g) (.str (tagI l))))) (.int .i64 s) (.int .i64 g) (.ptr h.length 0) (.ptr (h.length + 1) 0) (.int .i64 code) (.agg (ctV C)) (h ++ O.box [a, b, c, x] :: O.box Z :: u) := by
  
  unfold k_storing_Of_5
  rw [wi_build, fill21]
  have e2 : h.length + (u.length + 1 + 1) = h.length + (2 + u.length) := by omega
  have gj : (h ++ O.box [a, b, c, x] :: O.box Z :: (u ++ [O.box z21]))[h.length + (2 + u.length)]? = some (O.box z21) := (mi_new (ms := z21) hZ).gj
  have zl : z21.length = 21 := rfl
  have zd : List.drop 21 z21 = [] := rfl
  have m0 : MI h x (2 + u.length) _ _ := (mi_new (h := h) (u := u) (a := a) (b := b) (c := c) (ms := z21) hZ).put (mM (.int .i64 code) (ctV C) (.int .i64 0) (.int .i64 (-1)) (.int .i64 0) (.int .i64 (-1)) (.int .i64 s) (.int .i64 g) (.str []))
  have ez : ([.int .i64 0, .bool false, .bool false, .bool false, .bool false, .bool false, .bool false, .bool false, .int .i64 0, .int .i64 0, .int .i64 0, .int .i64 0, .int .i64 0, .int .i64 0, .int .i64 0, .int .i64 0, .int .i64 0, .int .i64 0, .int .i64 0, .int .i64 0, .str []] : List V) = z21 := rfl
  rw [ez]
  simp (maxSteps := 4000000) only [vm, vl, Arg.get, cells, stor, boundO, resultsV, resV, partK, loadV, Vm.part, fillC, splice, reduceIte, reduceCtorEq, Nat.reduceEqDiff, Nat.reduceAdd, Nat.reduceSub, Nat.reduceMul, Nat.reduceLeDiff, ne_eq, not_false_eq_true, Int.reduceEq, Int.reduceLT, Int.reduceLE, Int.reduceNeg, Int.reduceToNat, Int.reduceGT, Int.reduceGE, Nat.reduceLT, Nat.lt_add_one, Nat.zero_lt_succ, Nat.succ_pos, Nat.zero_le, beq_self_eq_true, e2, gj, zl, zd, mM_len, List.append_nil]
  rw [List.set_append_right _ _ (Nat.le_add_right _ _), Nat.add_sub_cancel_left] at m0
  refine Cf.pu (whenf_ok HJ (name := nDate) m0.g0 hx hl hln (by simp [nDate]) hsm) fun u1 => ?_
  have m1 := m0.more (t := u1)
  rw [List.append_assoc] at m1
  simp (maxSteps := 4000000) only [vm, vl, Arg.get, cells, stor, boundO, resultsV, resV, partK, loadV, Vm.part, fillC, splice, reduceIte, reduceCtorEq, Nat.reduceEqDiff, Nat.reduceAdd, Nat.reduceSub, Nat.reduceMul, Nat.reduceLeDiff, ne_eq, not_false_eq_true, Int.reduceEq, Int.reduceLT, Int.reduceLE, Int.reduceNeg, Int.reduceToNat, Int.reduceGT, Int.reduceGE, Nat.reduceLT, Nat.lt_add_one, Nat.zero_lt_succ, Nat.succ_pos, Nat.zero_le, beq_self_eq_true]
  refine Cf.pu (whenf_ok HJ (name := nLM) m1.g0 hx hl hln (by simp [nLM]) hsm) fun u2 => ?_
  exact sOf4_ok HJ m1.more hx hl hln hsm
theorem SOf_ok (HJ : JoinOk L) (HI : IndexOk L) (HU : UnqOk L) {x a c : V} {code s g : Int} {l : List Fld} (hx : ListV 2 x (flds l)) (hl : l.length < 100000) (hln : ∀ f ∈ l, f.1.length ≤ 140737488355328) (hsm : sumF l < 100000) :
    Cf F L i_storing_Of [.agg [a, .int .i64 code, c, x], .int .i64 s, .int .i64 g] h (Pu h (.agg (mM (.int .i64 code) (ctV (ofC l)) (.int .i64 (whenI l nDate)) (.int .i64 (expI l)) (.int .i64 (whenI l nLM)) (.int .i64 (ageI l)) (.int .i64 s) (.int .i64 g) (.str (tagI l))))) := by
  refine run_storing_Of ?_
  simp only [p_storing_Of]
  
  simp (maxSteps := 4000000) only [vm, vl, Arg.get, cells, stor, boundO, resultsV, resV, partK, loadV, Vm.part, fillC, splice, reduceIte, reduceCtorEq, Nat.reduceEqDiff, Nat.reduceAdd, Nat.reduceSub, Nat.reduceMul, Nat.reduceLeDiff, ne_eq, not_false_eq_true, Int.reduceEq, Int.reduceLT, Int.reduceLE, Int.reduceNeg, Int.reduceToNat, Int.reduceGT, Int.reduceGE, Nat.reduceLT, Nat.lt_add_one, Nat.zero_lt_succ, Nat.succ_pos, Nat.zero_le, beq_self_eq_true]
  refine Cf.pu (Of_ok HJ HI HU hx hl hln hsm) fun u => ?_
  simp (maxSteps := 4000000) only [vm, vl, Arg.get, cells, stor, boundO, resultsV, resV, partK, loadV, Vm.part, fillC, splice, reduceIte, reduceCtorEq, Nat.reduceEqDiff, Nat.reduceAdd, Nat.reduceSub, Nat.reduceMul, Nat.reduceLeDiff, ne_eq, not_false_eq_true, Int.reduceEq, Int.reduceLT, Int.reduceLE, Int.reduceNeg, Int.reduceToNat, Int.reduceGT, Int.reduceGE, Nat.reduceLT, Nat.lt_add_one, Nat.zero_lt_succ, Nat.succ_pos, Nat.zero_le, beq_self_eq_true]
  exact sOf5_ok HJ rfl hx hl hln hsm
end Go.Proofs.YtaahialaegfjgaaGreatDoor.Vh
end
section
set_option linter.unusedVariables false
set_option linter.unusedSimpArgs false
namespace Go.Proofs.YtaahialaegfjgaaGreatDoor.Vh
open Go.Vm Go.Vt
attribute [local congr] wi_congr wg_congr wgd_congr wb_congr wl_congr cf_congr
variable {L : FuncId → List V → V → Prop} {h : Heap}
theorem flds_cat (l m : List Fld) : flds l ++ flds m = flds (l ++ m) := by simp [flds]
theorem putO {sz j : Nat} {B h1 : Heap} {x : V} {es : List V} (g : Ow sz (h ++ B) h1 x es) (hj : j < B.length) (X : O) : Ow sz h (h1.set (h.length + j) X) x es := by
  obtain ⟨⟨t, rfl⟩, g⟩ := g
  refine ⟨⟨(B ++ t).set j X, by rw [List.append_assoc, List.set_append_right _ _ (Nat.le_add_right _ _), Nat.add_sub_cancel_left]⟩, ?_⟩
  rcases g with g | g | ⟨k, e1, e2, e3⟩
  · exact .inl g
  · exact .inr (.inl g)
  · refine .inr (.inr ⟨k, e1, ?_, ?_⟩)
    · simp at e2; omega
    · rw [List.length_append] at e2
      rw [List.getElem?_set_ne (by omega)]; exact e3
theorem sum_filter (l : List Fld) (p : Fld → Bool) : sumF (l.filter p) ≤ sumF l := by
  induction l with
  | nil => exact Nat.le_refl _
  | cons a r ih =>
    simp only [sumF] at ih
    rw [List.filter_cons]
    split
    · simp only [sumF, List.map_cons, List.sum_cons]; omega
    · simp only [sumF, List.map_cons, List.sum_cons]; omega
theorem sum_cat (l m : List Fld) : sumF (l ++ m) = sumF l + sumF m := by simp [sumF]
theorem sum_fold : ∀ (ns : List Bs) (l : List Fld), sumF (ns.foldl without l) ≤ sumF l := by
  intro ns l
  rw [foldl_without]; exact sum_filter _ _
theorem sum_more (r : List Fld) : sumF (moreL r) ≤ sumF r := Nat.le_trans (sum_fold _ _) (sum_filter _ _)
theorem len_more (r : List Fld) : (moreL r).length ≤ r.length := Nat.le_trans (fold_len _ _) (List.length_filter_le _ _)
theorem sum_ln {l : List Fld} (h : sumF l < 100000) : ∀ f ∈ l, f.1.length ≤ 140737488355328 := fun f hf => by
  have := sumF_mem hf; omega
def sOfV (code s g : Int) (l : List Fld) : List V := mM (.int .i64 code) (ctV (ofC l)) (.int .i64 (whenI l nDate)) (.int .i64 (expI l)) (.int .i64 (whenI l nLM)) (.int .i64 (ageI l)) (.int .i64 s) (.int .i64 g) (.str (tagI l))
theorem sOfV_len (code s g : Int) (l : List Fld) : (sOfV code s g l).length = 21 := rfl
theorem sOfV_all (code s g : Int) (l : List Fld) : List.take 21 (sOfV code s g l) = sOfV code s g l := rfl
def RefP (h : Heap) (code s g : Int) (l : List Fld) (v : V) (h' : Heap) : Prop := ∃ y, v = .tup [.agg (sOfV code s g l), y] ∧ Ow 2 h h' y (flds l)
theorem sRef1_ok (HJ : JoinOk L) (HI : IndexOk L) (HU : UnqOk L) {ms Z : List V} {B1 : O} {code s g : Int} {y12 y15 : V} {lo lm : List Fld} {hh : Heap} (hm : ms.getD 0 (.tup []) = .int .i64 code) (hm1 : 1 ≤ ms.length) (hZ : Z.length = 21)
    (G : Grow 2 (h ++ [.box ms, B1, .box Z]) hh y15 (flds lo)) (hy : ListV 2 y12 (flds lm)) (hl : (lo ++ lm).length < 100000) (hsm : sumF (lo ++ lm) < 100000) :
    k_storing_Refresh_1 L (RefP h code s g (lo ++ lm)) (.int .i64 s) (.int .i64 g) (.ptr h.length 0) (.ptr (h.length + 2) 0) y12 y15 hh := by
  
  unfold k_storing_Refresh_1
  rw [List.length_append] at hl
  obtain ⟨x', h'', ha, O2⟩ := G.ow.app (bytes := 32) hy (by rw [flds_len, flds_len]; omega)
  rw [flds_cat] at O2
  obtain ⟨t, rfl⟩ := O2.1
  have hb0 : (h ++ [O.box ms, B1, O.box Z] ++ t)[h.length]? = some (O.box ms) := get_old (by rw [List.getElem?_append_right (Nat.le_refl _), Nat.sub_self]; rfl)
  have hb2 : ∀ u, (h ++ [O.box ms, B1, O.box Z] ++ t ++ u)[h.length + 2]? = some (O.box Z) := fun u => get_old (get_old (by rw [List.getElem?_append_right (Nat.le_add_right _ _), Nat.add_sub_cancel_left]; rfl))
  have O3 := fun u => putO (j := 2) (O2.more (t := u)) (by simp) (.box (sOfV code s g (lo ++ lm)))
  have hb3 : ∀ u X, ((h ++ [O.box ms, B1, O.box Z] ++ t ++ u).set (h.length + 2) X)[h.length + 2]? = some X := fun u X => List.getElem?_set_self (by simp)
  have S := fun hh => SOf_ok (L := L) (h := hh) (a := .int .i64 0) (c := .str []) (code := code) (s := s) (g := g) HJ HI HU O2.list (by rw [List.length_append]; exact hl) (sum_ln hsm) hsm
  have hl2 := O2.list
  have Zd : List.drop 21 Z = [] := List.drop_eq_nil_of_le (by omega)
  generalize hH : h ++ [O.box ms, B1, O.box Z] ++ t = H at *
  rcases (show x' = .nsl ∨ ∃ o, x' = .sl 2 o (flds (lo ++ lm)) from hl2.imp (fun h => h.2) id) with rfl | ⟨o, rfl⟩
  all_goals
    simp (maxSteps := 4000000) only [vm, vl, Arg.get, cells, stor, boundO, resultsV, resV, partK, loadV, Vm.part, fillC, splice, reduceIte, reduceCtorEq, Nat.reduceEqDiff, Nat.reduceAdd, Nat.reduceSub, Nat.reduceMul, Nat.reduceLeDiff, ne_eq, not_false_eq_true, Int.reduceEq, Int.reduceLT, Int.reduceLE, Int.reduceNeg, Int.reduceToNat, Int.reduceGT, Int.reduceGE, Nat.reduceLT, Nat.lt_add_one, Nat.zero_lt_succ, Nat.succ_pos, Nat.zero_le, beq_self_eq_true, ha, hb0, hm, hm1]
    refine Cf.pu (S _) fun u => ?_
    have e1 := sOfV_len code s g (lo ++ lm)
    have e2 := sOfV_all code s g (lo ++ lm)
    have O4 := O3 u
    rw [show mM (.int .i64 code) (ctV (ofC (lo ++ lm))) (.int .i64 (whenI (lo ++ lm) nDate)) (.int .i64 (expI (lo ++ lm))) (.int .i64 (whenI (lo ++ lm) nLM)) (.int .i64 (ageI (lo ++ lm))) (.int .i64 s) (.int .i64 g) (.str (tagI (lo ++ lm))) = sOfV code s g (lo ++ lm) from rfl]
    unfold RefP
    generalize sOfV code s g (lo ++ lm) = R at *
    simp (maxSteps := 4000000) only [vm, vl, Arg.get, cells, stor, boundO, resultsV, resV, partK, loadV, Vm.part, fillC, splice, reduceIte, reduceCtorEq, Nat.reduceEqDiff, Nat.reduceAdd, Nat.reduceSub, Nat.reduceMul, Nat.reduceLeDiff, ne_eq, not_false_eq_true, Int.reduceEq, Int.reduceLT, Int.reduceLE, Int.reduceNeg, Int.reduceToNat, Int.reduceGT, Int.reduceGE, Nat.reduceLT, Nat.lt_add_one, Nat.zero_lt_succ, Nat.succ_pos, Nat.zero_le, beq_self_eq_true, hb2, e1, e2, hZ, Zd, List.append_nil, hb3]
    exact ⟨_, rfl, O4⟩
theorem sRef0_ok (HJ : JoinOk L) (HI : IndexOk L) (HU : UnqOk L) {ms Z : List V} {B1 : O} {code s g : Int} {y12 x : V} {l lm : List Fld} {H hh : Heap} {e : Env} (hm : ms.getD 0 (.tup []) = .int .i64 code) (hm1 : 1 ≤ ms.length) (hZ : Z.length = 21) (hH : H = h ++ [.box ms, B1, .box Z])
    (hx : ListV 2 x (flds l)) (hy : ListV 2 y12 (flds lm)) (hl : l.length + lm.length < 100000) (hsm : sumF l + sumF lm < 100000) (he : ∃ t, hh = H ++ t)
    (e3 : e 3 = .int .i64 s) (e4 : e 4 = .int .i64 g) (e5 : e 5 = .ptr h.length 0) (e10 : e 10 = .ptr (h.length + 2) 0) (e12 : e 12 = y12) (e15 : e 15 = .nsl) (e29 : e 29 = x) (e30 : e 30 = .int .i64 l.length) (e31 : e 31 = .int .i64 0) :
    Wl F L lc_storing_Refresh_0 (q_storing_Refresh_0 L (RefP h code s g (l.filter (fun f => !hasB lm f.1) ++ lm))) e hh := by
  refine l_storing_Refresh_0 (fun n e h' => ∃ i, n = l.length - i ∧ i ≤ l.length ∧ e 3 = .int .i64 s ∧ e 4 = .int .i64 g ∧ e 5 = .ptr h.length 0 ∧ e 10 = .ptr (h.length + 2) 0 ∧ e 12 = y12 ∧ e 29 = x ∧ e 30 = .int .i64 l.length ∧ e 31 = .int .i64 i ∧ Grow 2 H h' (e 15) (flds ((l.take i).filter (fun f => !hasB lm f.1)))) ?_ (n := l.length) ⟨0, by simp, by simp, e3, e4, e5, e10, e12, e29, e30, e31, by rw [e15]; obtain ⟨t, rfl⟩ := he; exact Grow.nil⟩
  clear e3 e4 e5 e10 e12 e15 e29 e30 e31 he hh
  rintro n e h' ⟨i, rfl, hi, e3, e4, e5, e10, e12, e29, e30, e31, G⟩
  simp only [b_storing_Refresh_0]
  
  generalize e15 : e 15 = x15 at *
  rcases list_at ([], []) hi with ⟨hn, rfl, hd⟩ | ⟨hl1, hl2, hd, htk⟩
  · rw [List.take_of_length_le (Nat.le_refl _)] at G
    simp (maxSteps := 4000000) only [vm, vl, Arg.get, cells, stor, boundO, resultsV, resV, partK, loadV, Vm.part, fillC, splice, reduceIte, reduceCtorEq, Nat.reduceEqDiff, Nat.reduceAdd, Nat.reduceSub, Nat.reduceMul, Nat.reduceLeDiff, ne_eq, not_false_eq_true, Int.reduceEq, Int.reduceLT, Int.reduceLE, Int.reduceNeg, Int.reduceToNat, Int.reduceGT, Int.reduceGE, Nat.reduceLT, Nat.lt_add_one, Nat.zero_lt_succ, Nat.succ_pos, Nat.zero_le, beq_self_eq_true, e3, e4, e5, e10, e12, e15, e30, e31, hn]
    subst hH
    have lf := List.length_filter_le (fun f : Fld => !hasB lm f.1) l
    have sf := sum_filter l (fun f => !hasB lm f.1)
    exact sRef1_ok HJ HI HU hm hm1 hZ G hy (by rw [List.length_append]; omega) (by rw [sum_cat]; omega)
  · have w := wrap64 (x := (i : Int) + 1) (by omega) (by omega)
    have i1 := fun {K : V → Heap → Prop} {h : Heap} => hx.at (F := F) (L := L) (e := E0) (K := K) (h := h) (i := i) (by rw [flds_len]; exact hl2)
    have a1 := flds_at hl2
    have hmem : l.getD i ([], []) ∈ l := getD_mem hl2
    have hfl := sumF_mem hmem
    obtain ⟨⟨t0, rfl⟩, _⟩ := id G
    generalize hf : l.getD i ([], []) = f at *
    simp (maxSteps := 4000000) only [vm, vl, Arg.get, cells, stor, boundO, resultsV, resV, partK, loadV, Vm.part, fillC, splice, reduceIte, reduceCtorEq, Nat.reduceEqDiff, Nat.reduceAdd, Nat.reduceSub, Nat.reduceMul, Nat.reduceLeDiff, ne_eq, not_false_eq_true, Int.reduceEq, Int.reduceLT, Int.reduceLE, Int.reduceNeg, Int.reduceToNat, Int.reduceGT, Int.reduceGE, Nat.reduceLT, Nat.lt_add_one, Nat.zero_lt_succ, Nat.succ_pos, Nat.zero_le, beq_self_eq_true, e3, e4, e5, e10, e12, e15, e29, e30, e31, hl1, i1, a1, fldV, k_storing_Refresh_2]
    refine Cf.pu (has_ok (name := f.1) hy (by omega) (sum_ln (by omega)) (by omega)) fun t1 => ?_
    have G2 := G.more (t := O.box [.str f.1, .str f.2] :: t1)
    have hb : ∀ u, (H ++ (t0 ++ O.box [.str f.1, .str f.2] :: u))[H.length + t0.length]? = some (.box [.str f.1, .str f.2]) := fun u => by
      rw [← List.append_assoc, List.getElem?_append_right (by simp)]; simp
    cases hp : hasB lm f.1 with
    | true =>
      have ef : (l.take (i + 1)).filter (fun f => !hasB lm f.1) = (l.take i).filter (fun f => !hasB lm f.1) := by
        rw [htk, List.filter_append]; simp [hp]
      simp (maxSteps := 4000000) only [vm, vl, Arg.get, cells, stor, boundO, resultsV, resV, partK, loadV, Vm.part, fillC, splice, reduceIte, reduceCtorEq, Nat.reduceEqDiff, Nat.reduceAdd, Nat.reduceSub, Nat.reduceMul, Nat.reduceLeDiff, ne_eq, not_false_eq_true, Int.reduceEq, Int.reduceLT, Int.reduceLE, Int.reduceNeg, Int.reduceToNat, Int.reduceGT, Int.reduceGE, Nat.reduceLT, Nat.lt_add_one, Nat.zero_lt_succ, Nat.succ_pos, Nat.zero_le, beq_self_eq_true, k_storing_Refresh_4, k_storing_Refresh_3, Bool.not_true, w]
      refine ⟨l.length - (i + 1), by omega, i + 1, rfl, hl2, e3, e4, e5, e10, e12, e29, e30, rfl, ?_⟩
      rw [ef]
      simp only [e15]
      simpa using G2
    | false =>
      have ef : (l.take (i + 1)).filter (fun f => !hasB lm f.1) = (l.take i).filter (fun f => !hasB lm f.1) ++ [f] := by
        rw [htk, List.filter_append]; simp [hp]
      have lf := List.length_filter_le (fun f : Fld => !hasB lm f.1) (l.take i)
      rw [List.length_take] at lf
      obtain ⟨x', h'', ha, G3⟩ := G2.app (bytes := 32) (y := fldV f) (by rw [flds_len]; omega)
      rw [flds_app, ← ef] at G3
      simp only [fldV] at ha
      rw [List.append_assoc] at ha
      simp (maxSteps := 4000000) only [vm, vl, Arg.get, cells, stor, boundO, resultsV, resV, partK, loadV, Vm.part, fillC, splice, reduceIte, reduceCtorEq, Nat.reduceEqDiff, Nat.reduceAdd, Nat.reduceSub, Nat.reduceMul, Nat.reduceLeDiff, ne_eq, not_false_eq_true, Int.reduceEq, Int.reduceLT, Int.reduceLE, Int.reduceNeg, Int.reduceToNat, Int.reduceGT, Int.reduceGE, Nat.reduceLT, Nat.lt_add_one, Nat.zero_lt_succ, Nat.succ_pos, Nat.zero_le, beq_self_eq_true, k_storing_Refresh_4, k_storing_Refresh_3, Bool.not_false, List.append_assoc, List.cons_append, List.nil_append, hb, e15, ha, w]
      refine ⟨l.length - (i + 1), by omega, i + 1, rfl, hl2, e3, e4, e5, e10, e12, e29, e30, rfl, ?_⟩
      exact G3
theorem stays_ok : Cf F L i_storing_stays [] h (Pu h (.agg (strs stayN))) := by
  refine run_storing_stays ?_
  simp only [p_storing_stays]
  simp (maxSteps := 4000000) only [vm, vl, Arg.get, cells, stor, boundO, resultsV, resV, partK, loadV, Vm.part, fillC, splice, reduceIte, reduceCtorEq, Nat.reduceEqDiff, Nat.reduceAdd, Nat.reduceSub, Nat.reduceMul, Nat.reduceLeDiff, ne_eq, not_false_eq_true, Int.reduceEq, Int.reduceLT, Int.reduceLE, Int.reduceNeg, Int.reduceToNat, Int.reduceGT, Int.reduceGE, Nat.reduceLT, Nat.lt_add_one, Nat.zero_lt_succ, Nat.succ_pos, Nat.zero_le, beq_self_eq_true]
  (repeat' ((first | refine wg_casep (fun _ => ?_) (fun _ => ?_) | refine wg_casen (fun _ => ?_) (fun _ => ?_) | refine wg_case (fun _ => ?_) (fun _ => ?_) | refine wgd_casep (fun _ => ?_) (fun _ => ?_) | refine wgd_casen (fun _ => ?_) (fun _ => ?_) | refine wgd_case (fun _ => ?_) (fun _ => ?_) | refine wb_casep (fun _ => ?_) (fun _ => ?_) | refine wb_casen (fun _ => ?_) (fun _ => ?_) | refine wb_case (fun _ => ?_) (fun _ => ?_)) <;> try simp (maxSteps := 4000000) only [vm, vl, Arg.get, cells, stor, boundO, resultsV, resV, partK, loadV, Vm.part, fillC, splice, reduceIte, reduceCtorEq, Nat.reduceEqDiff, Nat.reduceAdd, Nat.reduceSub, Nat.reduceMul, Nat.reduceLeDiff, ne_eq, not_false_eq_true, Int.reduceEq, Int.reduceLT, Int.reduceLE, Int.reduceNeg, Int.reduceToNat, Int.reduceGT, Int.reduceGE, Nat.reduceLT, Nat.lt_add_one, Nat.zero_lt_succ, Nat.succ_pos, Nat.zero_le, beq_self_eq_true, *]))
  all_goals first | rfl | exact ⟨rfl, _, rfl⟩
theorem stayN_at {i : Nat} (hi : i < 5) : (strs stayN).getD i (.tup []) = .str (stayN.getD i []) ∧ (stayN.getD i []).length ≤ 100 ∧ stayN.take (i + 1) = stayN.take i ++ [stayN.getD i []] := by
  rcases (show i = 0 ∨ i = 1 ∨ i = 2 ∨ i = 3 ∨ i = 4 by omega) with rfl | rfl | rfl | rfl | rfl <;> exact ⟨rfl, by decide, rfl⟩
theorem sRefresh_ok (HJ : JoinOk L) (HI : IndexOk L) (HU : UnqOk L) {ms : List V} {code s g : Int} {a b c x z : V} {l lr : List Fld} (hm : ms.getD 0 (.tup []) = .int .i64 code) (hm1 : 1 ≤ ms.length)
    (hx : ListV 2 x (flds l)) (hl : l.length < 10000) (hsm : sumF l < 10000) (hz : ListV 2 z (flds lr)) (hlr : lr.length < 10000) (hsr : sumF lr < 10000) :
    Cf F L i_storing_Refresh [.agg ms, x, .agg [a, b, c, z], .int .i64 s, .int .i64 g] h (RefP h code s g (outL l lr)) := by
  refine run_storing_Refresh ?_
  simp only [p_storing_Refresh]
  
  simp (maxSteps := 4000000) only [vm, vl, Arg.get, cells, stor, boundO, resultsV, resV, partK, loadV, Vm.part, fillC, splice, reduceIte, reduceCtorEq, Nat.reduceEqDiff, Nat.reduceAdd, Nat.reduceSub, Nat.reduceMul, Nat.reduceLeDiff, ne_eq, not_false_eq_true, Int.reduceEq, Int.reduceLT, Int.reduceLE, Int.reduceNeg, Int.reduceToNat, Int.reduceGT, Int.reduceGE, Nat.reduceLT, Nat.lt_add_one, Nat.zero_lt_succ, Nat.succ_pos, Nat.zero_le, beq_self_eq_true]
  have jc := vals_join lr connS
  refine (Strip_ok HJ hz (by omega) (sum_ln (by omega)) (by omega)).mono fun v h' G => ?_
  obtain ⟨t, rfl⟩ := G.1
  refine Cf.pu stays_ok fun u => ?_
  have hL := G.list
  clear G
  generalize hZ : ([.int .i64 0, .bool false, .bool false, .bool false, .bool false, .bool false, .bool false, .bool false, .int .i64 0, .int .i64 0, .int .i64 0, .int .i64 0, .int .i64 0, .int .i64 0, .int .i64 0, .int .i64 0, .int .i64 0, .int .i64 0, .int .i64 0, .int .i64 0, .str []] : List V) = Z
  have hZ1 : Z.length = 21 := by rw [← hZ]; rfl
  generalize hB1 : O.box [a, b, c, z] = B1
  obtain ⟨H, hH⟩ : ∃ H, H = h ++ [O.box ms, B1, O.box Z] := ⟨_, rfl⟩
  refine l_storing_Refresh_1 (fun n e h' => ∃ i, n = 5 - i ∧ i ≤ 5 ∧ e 1 = x ∧ e 3 = .int .i64 s ∧ e 4 = .int .i64 g ∧ e 5 = .ptr h.length 0 ∧ e 10 = .ptr (h.length + 2) 0 ∧ e 21 = .agg (strs stayN) ∧ e 22 = .int .i64 i ∧ ListV 2 (e 12) (flds ((stayN.take i).foldl without (stripL lr))) ∧ ∃ t, h' = H ++ t) ?_ (n := 5) ⟨0, by simp, by simp, rfl, rfl, rfl, rfl, rfl, rfl, rfl, hL, t ++ u, by rw [hH]; simp⟩
  clear hL
  rintro n e h' ⟨i, rfl, hi, e1, e3, e4, e5, e10, e21, e22, hL, t1, rfl⟩
  simp only [b_storing_Refresh_1]
  generalize e12 : e 12 = y12 at *
  by_cases hl1 : (i : Int) < 5
  · have hi5 : i < 5 := by omega
    have w := wrap64 (x := (i : Int) + 1) (by omega) (by omega)
    obtain ⟨f1, f2, f3⟩ := stayN_at hi5
    have f4 : (strs stayN).length = 5 := rfl
    generalize strs stayN = SL at *
    generalize stayN.getD i [] = nm at *
    have fl := fold_len (stayN.take i) (stripL lr)
    have fs := List.length_filter_le (stays (namesL lr connS ++ seven)) lr
    have ss := Nat.le_trans (sum_fold (stayN.take i) (stripL lr)) (sum_filter lr _)
    simp (maxSteps := 4000000) only [vm, vl, Arg.get, cells, stor, boundO, resultsV, resV, partK, loadV, Vm.part, fillC, splice, reduceIte, reduceCtorEq, Nat.reduceEqDiff, Nat.reduceAdd, Nat.reduceSub, Nat.reduceMul, Nat.reduceLeDiff, ne_eq, not_false_eq_true, Int.reduceEq, Int.reduceLT, Int.reduceLE, Int.reduceNeg, Int.reduceToNat, Int.reduceGT, Int.reduceGE, Nat.reduceLT, Nat.lt_add_one, Nat.zero_lt_succ, Nat.succ_pos, Nat.zero_le, beq_self_eq_true, e12, e21, e22, hl1, hi5, f1, f4, k_storing_Refresh_5]
    have fs' : (stripL lr).length ≤ lr.length := fs
    refine ⟨by omega, (Del_ok (name := nm) hL (by omega) (sum_ln (by omega)) (by omega)).mono fun v h2 G2 => ?_⟩
    obtain ⟨⟨t2, rfl⟩, _⟩ := id G2
    simp (maxSteps := 4000000) only [vm, vl, Arg.get, cells, stor, boundO, resultsV, resV, partK, loadV, Vm.part, fillC, splice, reduceIte, reduceCtorEq, Nat.reduceEqDiff, Nat.reduceAdd, Nat.reduceSub, Nat.reduceMul, Nat.reduceLeDiff, ne_eq, not_false_eq_true, Int.reduceEq, Int.reduceLT, Int.reduceLE, Int.reduceNeg, Int.reduceToNat, Int.reduceGT, Int.reduceGE, Nat.reduceLT, Nat.lt_add_one, Nat.zero_lt_succ, Nat.succ_pos, Nat.zero_le, beq_self_eq_true, k_storing_Refresh_6, w]
    refine ⟨5 - (i + 1), by omega, i + 1, rfl, by omega, e1, e3, e4, e5, e10, e21, rfl, ?_, t1 ++ t2, by simp⟩
    rw [f3, List.foldl_append]
    exact G2.list
  · have hi5 : i = 5 := by omega
    subst hi5
    rw [show stayN.take 5 = stayN from rfl] at hL
    have l1 := fun {K : V → Heap → Prop} {h : Heap} => hx.len (F := F) (L := L) (e := E0) (K := K) (h := h)
    simp only [flds_len] at l1
    simp (maxSteps := 4000000) only [vm, vl, Arg.get, cells, stor, boundO, resultsV, resV, partK, loadV, Vm.part, fillC, splice, reduceIte, reduceCtorEq, Nat.reduceEqDiff, Nat.reduceAdd, Nat.reduceSub, Nat.reduceMul, Nat.reduceLeDiff, ne_eq, not_false_eq_true, Int.reduceEq, Int.reduceLT, Int.reduceLE, Int.reduceNeg, Int.reduceToNat, Int.reduceGT, Int.reduceGE, Nat.reduceLT, Nat.lt_add_one, Nat.zero_lt_succ, Nat.succ_pos, Nat.zero_le, beq_self_eq_true, e1, e22, hl1, k_storing_Refresh_0, l1]
    have fl := len_more lr
    have fs := sum_more lr
    exact sRef0_ok HJ HI HU hm hm1 hZ1 hH hx hL (by omega) (by omega) ⟨t1, rfl⟩ e3 e4 e5 e10 e12 rfl rfl rfl rfl
end Go.Proofs.YtaahialaegfjgaaGreatDoor.Vh
end
section
set_option linter.unusedVariables false
set_option linter.unusedSimpArgs false
namespace Go.Proofs.YtaahialaegfjgaaGreatDoor.Vh
open Go.Vm Go.Vt
attribute [local congr] wi_congr wg_congr wgd_congr wb_congr wl_congr cf_congr
variable {L : FuncId → List V → V → Prop} {h : Heap}
theorem few10_ok {x : V} {l : List Fld} (hx : ListV 2 x (flds l)) (hl : l.length ≤ 140737488351232) (hz : ∀ f ∈ l, f.1.length ≤ 140737488351232 ∧ f.2.length ≤ 140737488351232) :
    Cf F L i_gatepostlaw10_few [x] h (Pu h (.bool (decide (20 * l.length + sumF l < 3000)))) := by
  refine run_gatepostlaw10_few ?_
  simp only [p_gatepostlaw10_few]
  have l1 := fun {K : V → Heap → Prop} {h : Heap} => hx.len (F := F) (L := L) (e := E0) (K := K) (h := h)
  simp only [flds_len] at l1
  have w20 := wrap64 (x := 20 * (l.length : Int)) (by omega) (by omega)
  simp (maxSteps := 4000000) only [vm, vl, Arg.get, cells, stor, boundO, resultsV, resV, partK, loadV, Vm.part, fillC, splice, reduceIte, reduceCtorEq, Nat.reduceEqDiff, Nat.reduceAdd, Nat.reduceSub, Nat.reduceMul, Nat.reduceLeDiff, ne_eq, not_false_eq_true, Int.reduceEq, Int.reduceLT, Int.reduceLE, Int.reduceNeg, Int.reduceToNat, Int.reduceGT, Int.reduceGE, Nat.reduceLT, Nat.lt_add_one, Nat.zero_lt_succ, Nat.succ_pos, Nat.zero_le, beq_self_eq_true, k_gatepostlaw10_few_0, k_gatepostlaw10_few_2, k_gatepostlaw10_few_1, l1, w20]
  refine l_gatepostlaw10_few_0 (fun n e h' => ∃ i, n = l.length - i ∧ i ≤ l.length ∧ e 0 = x ∧ e 3 = .int .i64 ((20 * l.length + sumF (l.take i) : Nat)) ∧ e 4 = .int .i64 i ∧ ∃ t, h' = h ++ t) ?_ (n := l.length) ⟨0, by simp, by simp, rfl, by simp [upd, sumF], rfl, [], by simp⟩
  rintro n e h' ⟨i, rfl, hi, e0, e3, e4, t, rfl⟩
  simp only [b_gatepostlaw10_few_0]
  generalize hS : 20 * l.length + sumF (l.take i) = S at *
  have hmono := sumF_le l i
  rcases list_at ([], []) hi with ⟨hn, rfl, hd⟩ | ⟨hl1, hl2, hd, htk⟩
  · rw [List.take_of_length_le (Nat.le_refl _)] at hS
    have d : decide ((S : Int) < 3000) = decide (20 * l.length + sumF l < 3000) := by rw [hS]; exact decide_eq_decide.2 (by omega)
    simp (maxSteps := 4000000) only [vm, vl, Arg.get, cells, stor, boundO, resultsV, resV, partK, loadV, Vm.part, fillC, splice, reduceIte, reduceCtorEq, Nat.reduceEqDiff, Nat.reduceAdd, Nat.reduceSub, Nat.reduceMul, Nat.reduceLeDiff, ne_eq, not_false_eq_true, Int.reduceEq, Int.reduceLT, Int.reduceLE, Int.reduceNeg, Int.reduceToNat, Int.reduceGT, Int.reduceGE, Nat.reduceLT, Nat.lt_add_one, Nat.zero_lt_succ, Nat.succ_pos, Nat.zero_le, beq_self_eq_true, k_gatepostlaw10_few_0, k_gatepostlaw10_few_2, k_gatepostlaw10_few_1, e0, e3, e4, hn, l1, d]
  · by_cases hs : (S : Int) < 3000
    · have w := wrap64 (x := (i : Int) + 1) (by omega) (by omega)
      have i1 := fun {K : V → Heap → Prop} {h : Heap} => hx.at (F := F) (L := L) (e := E0) (K := K) (h := h) (i := i) (by rw [flds_len]; exact hl2)
      have a1 := flds_at hl2
      have hmem : l.getD i ([], []) ∈ l := by
        rw [List.getD_eq_getElem?_getD, List.getElem?_eq_getElem hl2]; exact List.getElem_mem _
      have hst := sumF_take hl2
      have hzf := hz _ hmem
      generalize hf : l.getD i ([], []) = f at *
      have w1 := wrap64 (x := (S : Int) + f.1.length) (by omega) (by omega)
      have w2 := wrap64 (x := (S : Int) + f.1.length + f.2.length) (by omega) (by omega)
      simp (maxSteps := 4000000) only [vm, vl, Arg.get, cells, stor, boundO, resultsV, resV, partK, loadV, Vm.part, fillC, splice, reduceIte, reduceCtorEq, Nat.reduceEqDiff, Nat.reduceAdd, Nat.reduceSub, Nat.reduceMul, Nat.reduceLeDiff, ne_eq, not_false_eq_true, Int.reduceEq, Int.reduceLT, Int.reduceLE, Int.reduceNeg, Int.reduceToNat, Int.reduceGT, Int.reduceGE, Nat.reduceLT, Nat.lt_add_one, Nat.zero_lt_succ, Nat.succ_pos, Nat.zero_le, beq_self_eq_true, k_gatepostlaw10_few_0, k_gatepostlaw10_few_2, k_gatepostlaw10_few_1, e0, e3, e4, l1, hl1, hs, i1, a1, fldV, w, w1, w2]
      exact ⟨l.length - (i + 1), by omega, i + 1, rfl, hl2, by rw [hst]; congr 1; omega, rfl, t, rfl⟩
    · have d : decide ((S : Int) < 3000) = false := by simpa using hs
      have d2 : decide (20 * l.length + sumF l < 3000) = false := by simp; omega
      simp (maxSteps := 4000000) only [vm, vl, Arg.get, cells, stor, boundO, resultsV, resV, partK, loadV, Vm.part, fillC, splice, reduceIte, reduceCtorEq, Nat.reduceEqDiff, Nat.reduceAdd, Nat.reduceSub, Nat.reduceMul, Nat.reduceLeDiff, ne_eq, not_false_eq_true, Int.reduceEq, Int.reduceLT, Int.reduceLE, Int.reduceNeg, Int.reduceToNat, Int.reduceGT, Int.reduceGE, Nat.reduceLT, Nat.lt_add_one, Nat.zero_lt_succ, Nat.succ_pos, Nat.zero_le, beq_self_eq_true, k_gatepostlaw10_few_0, k_gatepostlaw10_few_2, k_gatepostlaw10_few_1, e0, e3, e4, hl1, hs, l1, d, d2]
end Go.Proofs.YtaahialaegfjgaaGreatDoor.Vh
end
section
set_option linter.unusedVariables false
set_option linter.unusedSimpArgs false
namespace Go.Proofs.YtaahialaegfjgaaGreatDoor.Vh
open Go.Vm Go.Vt
theorem rv_texts {B : Nat} {G : Gh} {w : World} {x : V} {l : List Bs} {v : Value} (hx : ListV 1 x (strs l)) (h : Rv B G w x v) : (l = [] ∧ ∃ a cap, v = .slice a 0 cap) ∨ (l ≠ [] ∧ ∃ b o cap, v = .slice (some ⟨b, o, none⟩) l.length cap ∧ l.length ≤ cap ∧ ∀ (j : Nat) s, l[j]? = some s → w.cell? ⟨b, o + j, none⟩ = some (.string ⟨s.toArray⟩)) := by
  rcases hx with ⟨he, rfl⟩ | ⟨own, rfl⟩
  · have : l = [] := by simpa [strs] using he
    subst this
    cases h
    exact .inl ⟨rfl, _, _, rfl⟩
  · generalize he : strs l = es at h
    cases h with
    | sl vs hsz hsp hcap hc h1 hr hfull htip =>
      rename_i a cap
      subst he
      rcases List.eq_nil_or_concat l with rfl | hcc
      · exact .inl ⟨rfl, _, _, rfl⟩
      · have hne : l ≠ [] := by rintro rfl; obtain ⟨l', b, h⟩ := hcc; simp at h
        have ha := hsp (by simpa [strs] using hne)
        have hf : flat (strs l) = strs l := flat_ones (by intro e he; obtain ⟨s, _, rfl⟩ := List.mem_map.1 he; rfl)
        obtain ⟨ab, ao, asp⟩ := a
        simp only at ha; subst ha
        refine .inr ⟨hne, ab, ao, cap, by rw [strs_len], by rwa [strs_len] at hcap, fun j s hj => ?_⟩
        have hjl := (List.getElem?_eq_some_iff.1 hj).1
        have h2 := (hc j (by rw [hf, strs_len]; exact hjl)).2
        have h3 := hr j (.str s) (by rw [hf]; simp [strs, hj])
        simp only at h2
        generalize hv : vs j = vj at h2 h3
        cases h3
        exact h2
def LJoin : FuncId → List V → V → Prop := fun f args v => f = i_strings_Join ∧ ∃ (x : V) (l : List Bs), ListV 1 x (strs l) ∧ l.length ≤ 140737488355328 ∧ (joinS l).length ≤ 140737488355328 ∧ args = [x, .str [44, 32]] ∧ v = .str (joinS l)
theorem join_at (w0 : World) : LibAt Tryz.prog w0 LJoin := by
  rintro f args v ⟨rfl, x, l, hx, hl, hj, rfl, rfl⟩
  refine ⟨by kernel_rfl, good_below fun B G h w vs hr hb hv => ?_⟩
  obtain ⟨a, b, rfl, ha, hs⟩ := rvs_two hv
  cases hs
  rcases rv_texts hx ha with ⟨rfl, a', cap, rfl⟩ | ⟨hne, bk, o, cap, rfl, hcap, hc⟩
  · refine (Tryz.strings_Join_none a' cap _ w).mono fun e w' ⟨h1, h2⟩ => ?_
    subst h2
    exact ⟨_, h1, .str [], Go.RowKit.Below.refl ..⟩
  · have hlt : bk < w.heap.size := by
      obtain ⟨s, hs⟩ : ∃ s, l[0]? = some s := by
        cases l with
        | nil => exact absurd rfl hne
        | cons s _ => exact ⟨s, rfl⟩
      exact World.block_lt_of_cell? w _ (hc 0 s hs)
    have hm : (l.map fun s : Bs => (⟨s.toArray⟩ : ByteArray)).map (fun x => x.data.toList) = l := by rw [List.map_map]; exact List.map_id' l
    have := Tryz.strings_Join bk o cap (l.map fun s => ⟨s.toArray⟩) ⟨[44, 32].toArray⟩ w (by
        intro j x hx
        rw [List.getElem?_map] at hx
        obtain ⟨s, h1, rfl⟩ := Option.map_eq_some_iff.1 hx
        exact hc j s h1) hlt (by simpa using hl) (by simpa using hcap) (by rw [hm]; exact hj)
    rw [hm, List.length_map] at this
    exact this.mono fun e w' ⟨h1, h2⟩ => ⟨_, h1, .str _, h2⟩
theorem joinOk {L : FuncId → List V → V → Prop} (hL : ∀ f a v, LJoin f a v → L f a v) : JoinOk L := by
  intro x l h hx hl hj
  exact wlib (hL _ _ _ ⟨rfl, x, l, hx, by omega, hj, rfl, rfl⟩) ⟨rfl, [], by simp⟩
end Go.Proofs.YtaahialaegfjgaaGreatDoor.Vh
end
section
set_option linter.unusedVariables false
set_option linter.unusedSimpArgs false
namespace Go.Proofs.YtaahialaegfjgaaGreatDoor.Vh
open Go.Vm Go.Vt
attribute [local congr] wi_congr wg_congr wgd_congr wb_congr wl_congr cf_congr
variable {L : FuncId → List V → V → Prop} {h : Heap}
def kT : Bs := [101, 116, 97, 103]
def kZ : Bs := [122, 122]
def k2 : Bs := [34, 50, 34]
def keepR : List Fld := [([101, 116, 97, 103], [34, 50, 34]), ([99, 111, 110, 116, 101, 110, 116, 45, 116, 121, 112, 101], [98]), ([90, 122], [99])]
def keepM : List Fld := [([101, 116, 97, 103], [34, 50, 34]), ([90, 122], [99])]
def keepO : List Fld := [([67, 111, 110, 116, 101, 110, 116, 45, 84, 121, 112, 101], [97]), ([69, 84, 97, 103], [34, 49, 34])]
def keepE : List Fld := [([67, 111, 110, 116, 101, 110, 116, 45, 84, 121, 112, 101], [97]), ([101, 116, 97, 103], [34, 50, 34]), ([90, 122], [99])]
theorem keep_more : moreL keepR = keepM := by decide +kernel
theorem keep_low : low kT = low nET ∧ (keepO.filter fun f => !hasB keepM f.1) ++ keepM = keepE := by decide +kernel
theorem keepM_has (n : Bs) : hasB keepM n = (low n == low kT || low n == low kZ) := by
  rw [hasB_any]
  have e1 : low kZ = low [90, 122] := by decide +kernel
  simp only [keepM, List.any_cons, List.any_nil, Bool.or_false, e1, kT]
  rw [Bool.beq_comm, Bool.beq_comm (a := low [90, 122])]
theorem keep_out {l : List Fld} (hl : ∀ f ∈ l, (low f.1 == low kT) = false ∧ (low f.1 == low kZ) = false) : outL (l ++ keepO) keepR = l ++ keepE := by
  unfold outL
  rw [keep_more, List.filter_append, List.append_assoc, keep_low.2]
  congr 1
  refine List.filter_eq_self.2 fun f hf => ?_
  rw [keepM_has, (hl f hf).1, (hl f hf).2]; rfl
theorem keep_tag {l : List Fld} (hl : ∀ f ∈ l, (low f.1 == low kT) = false ∧ (low f.1 == low kZ) = false) : tagI (l ++ keepE) = k2 := by
  unfold tagI
  have e : valsOf l nET = [] := by
    unfold valsOf
    rw [List.filter_eq_nil_iff.2, List.map_nil]
    intro f hf
    rw [← keep_low.1, (hl f hf).1]; simp
  rw [vals_app, e]
  decide +kernel
theorem Keeps3_ok {x y : V} {l : List Fld} {hh : Heap} (hx : ListV 2 x (flds l)) (hy : ListV 2 y (flds (l ++ keepE))) (hl : l.length < 100000) : k_gatepostlaw10_StoringKeeps_3 L (fun v _ => v = .bool true) x y hh := by
  
  unfold k_gatepostlaw10_StoringKeeps_3
  have l1 := fun {K : V → Heap → Prop} {h : Heap} => hx.len (F := F) (L := L) (e := E0) (K := K) (h := h)
  simp only [flds_len] at l1
  have g : ∀ j, j < 3 → l.length + j < (l ++ keepE).length ∧ (l ++ keepE).getD (l.length + j) ([], []) = keepE.getD j ([], []) := by
    intro j hj
    refine ⟨by rw [List.length_append]; show l.length + j < l.length + 3; omega, ?_⟩
    rw [List.getD_eq_getElem?_getD, List.getD_eq_getElem?_getD, List.getElem?_append_right (Nat.le_add_right _ _), Nat.add_sub_cancel_left]
  have w1 : IntKind.i64.wrap ((l.length : Int) + 1) = ((l.length + 1 : Nat) : Int) := by rw [wrap64 (by omega) (by omega)]; rfl
  have w2 : IntKind.i64.wrap ((l.length : Int) + 2) = ((l.length + 2 : Nat) : Int) := by rw [wrap64 (by omega) (by omega)]; rfl
  have hlen : (flds (l ++ keepE)).length = l.length + 3 := by rw [flds_len, List.length_append]; rfl
  obtain ⟨o, rfl⟩ : ∃ o, y = .sl 2 o (flds (l ++ keepE)) := by
    rcases hy with ⟨he, _⟩ | h
    · rw [he] at hlen; simp at hlen
    · exact h
  have d0 : (flds (l ++ keepE)).getD l.length (.tup []) = .agg [.str [67, 111, 110, 116, 101, 110, 116, 45, 84, 121, 112, 101], .str [97]] := by
    have := g 0 (by omega); rw [Nat.add_zero] at this; rw [flds_at this.1, this.2]; rfl
  have d1 : (flds (l ++ keepE)).getD (l.length + 1) (.tup []) = .agg [.str [101, 116, 97, 103], .str [34, 50, 34]] := by
    have := g 1 (by omega); rw [flds_at this.1, this.2]; rfl
  have d2 : (flds (l ++ keepE)).getD (l.length + 2) (.tup []) = .agg [.str [90, 122], .str [99]] := by
    have := g 2 (by omega); rw [flds_at this.1, this.2]; rfl
  generalize flds (l ++ keepE) = es at *
  have p0 : (0 : Int) ≤ (l.length : Int) := by omega
  have p1 : (0 : Int) ≤ ((l.length + 1 : Nat) : Int) := by omega
  have p2 : (0 : Int) ≤ ((l.length + 2 : Nat) : Int) := by omega
  have q0 : l.length < l.length + 3 := by omega
  have q1 : l.length + 1 < l.length + 3 := by omega
  have q2 : l.length + 2 < l.length + 3 := by omega
  have hsl := flds_len l
  rcases hx with ⟨he, rfl⟩ | ⟨o2, rfl⟩
  · have l0 : l.length = 0 := by rw [← hsl, he]; rfl
    rw [l0] at hlen d0 d1 d2
    have w1' : IntKind.i64.wrap (0 + 1) = 1 := rfl
    have w2' : IntKind.i64.wrap (0 + 2) = 2 := rfl
    simp only [Nat.zero_add] at hlen d1 d2
    simp (maxSteps := 4000000) only [vm, vl, Arg.get, cells, stor, boundO, resultsV, resV, partK, loadV, Vm.part, fillC, splice, reduceIte, reduceCtorEq, Nat.reduceEqDiff, Nat.reduceAdd, Nat.reduceSub, Nat.reduceMul, Nat.reduceLeDiff, ne_eq, not_false_eq_true, Int.reduceEq, Int.reduceLT, Int.reduceLE, Int.reduceNeg, Int.reduceToNat, Int.reduceGT, Int.reduceGE, Nat.reduceLT, Nat.lt_add_one, Nat.zero_lt_succ, Nat.succ_pos, Nat.zero_le, beq_self_eq_true, w1', w2', hlen, d0, d1, d2, decide_true]
  · generalize flds l = ls at *
    simp (maxSteps := 4000000) only [vm, vl, Arg.get, cells, stor, boundO, resultsV, resV, partK, loadV, Vm.part, fillC, splice, reduceIte, reduceCtorEq, Nat.reduceEqDiff, Nat.reduceAdd, Nat.reduceSub, Nat.reduceMul, Nat.reduceLeDiff, ne_eq, not_false_eq_true, Int.reduceEq, Int.reduceLT, Int.reduceLE, Int.reduceNeg, Int.reduceToNat, Int.reduceGT, Int.reduceGE, Nat.reduceLT, Nat.lt_add_one, Nat.zero_lt_succ, Nat.succ_pos, Nat.zero_le, beq_self_eq_true, hsl, w1, w2, hlen, d0, d1, d2, p0, p1, p2, q0, q1, q2, Int.toNat_natCast, decide_true]
theorem Keeps2_ok {x y : V} {l : List Fld} {hh : Heap} {e : Env} (hx : ListV 2 x (flds l)) (hy : ListV 2 y (flds (l ++ keepE))) (hl : l.length < 100000) (e1 : e 1 = x) (e10 : e 10 = y) (e11 : e 11 = .int .i64 0) :
    Wl F L lc_gatepostlaw10_StoringKeeps_0 (q_gatepostlaw10_StoringKeeps_0 L (fun v _ => v = .bool true)) e hh := by
  refine l_gatepostlaw10_StoringKeeps_0 (fun n e h' => ∃ i : Nat, n = l.length - i ∧ i ≤ l.length ∧ e 1 = x ∧ e 10 = y ∧ e 11 = .int .i64 i) ?_ (n := l.length) ⟨0, by simp, by simp, e1, e10, e11⟩
  clear e1 e10 e11
  rintro n e h' ⟨i, rfl, hi, e1, e10, e11⟩
  simp only [b_gatepostlaw10_StoringKeeps_0]
  
  have l1 := fun {K : V → Heap → Prop} {h : Heap} => hx.len (F := F) (L := L) (e := E0) (K := K) (h := h)
  simp only [flds_len] at l1
  rcases list_at ([], []) hi with ⟨hn, rfl, hd⟩ | ⟨hl1, hl2, hd, htk⟩
  · simp (maxSteps := 4000000) only [vm, vl, Arg.get, cells, stor, boundO, resultsV, resV, partK, loadV, Vm.part, fillC, splice, reduceIte, reduceCtorEq, Nat.reduceEqDiff, Nat.reduceAdd, Nat.reduceSub, Nat.reduceMul, Nat.reduceLeDiff, ne_eq, not_false_eq_true, Int.reduceEq, Int.reduceLT, Int.reduceLE, Int.reduceNeg, Int.reduceToNat, Int.reduceGT, Int.reduceGE, Nat.reduceLT, Nat.lt_add_one, Nat.zero_lt_succ, Nat.succ_pos, Nat.zero_le, beq_self_eq_true, e1, e10, e11, l1, hn]
    exact Keeps3_ok hx hy hl
  · have w := wrap64 (x := (i : Int) + 1) (by omega) (by omega)
    have hl3 : i < (l ++ keepE).length := by rw [List.length_append]; omega
    have ee : (l ++ keepE).getD i ([], []) = l.getD i ([], []) := by
      rw [List.getD_eq_getElem?_getD, List.getD_eq_getElem?_getD, List.getElem?_append_left hl2]
    have s1 := flds_len l
    have s2 := flds_len (l ++ keepE)
    have a1 := flds_at hl2
    have a2 := flds_at hl3
    rw [ee] at a2
    obtain ⟨o1, rfl⟩ : ∃ o, x = .sl 2 o (flds l) := by
      rcases hx with ⟨he, _⟩ | h
      · rw [he] at s1; simp at s1; omega
      · exact h
    obtain ⟨o2, rfl⟩ : ∃ o, y = .sl 2 o (flds (l ++ keepE)) := by
      rcases hy with ⟨he, _⟩ | h
      · rw [he] at s2; simp at s2; omega
      · exact h
    have i0 : (0 : Int) ≤ (i : Int) := by omega
    generalize l.getD i ([], []) = f at *
    have b1 : (f.1 == f.1) = true := by simp
    have b2 : (f.2 == f.2) = true := by simp
    have b3 : (f.1 != f.1) = false := by simp
    have b4 : (f.2 != f.2) = false := by simp
    simp (maxSteps := 4000000) only [vm, vl, Arg.get, cells, stor, boundO, resultsV, resV, partK, loadV, Vm.part, fillC, splice, reduceIte, reduceCtorEq, Nat.reduceEqDiff, Nat.reduceAdd, Nat.reduceSub, Nat.reduceMul, Nat.reduceLeDiff, ne_eq, not_false_eq_true, Int.reduceEq, Int.reduceLT, Int.reduceLE, Int.reduceNeg, Int.reduceToNat, Int.reduceGT, Int.reduceGE, Nat.reduceLT, Nat.lt_add_one, Nat.zero_lt_succ, Nat.succ_pos, Nat.zero_le, beq_self_eq_true, e1, e10, e11, s1, s2, hl1, hl2, hl3, i0, a1, a2, fldV, Int.toNat_natCast, k_gatepostlaw10_StoringKeeps_4, k_gatepostlaw10_StoringKeeps_6, k_gatepostlaw10_StoringKeeps_5, b1, b2, b3, b4, w, Bool.not_true]
    exact ⟨by omega, by omega, l.length - (i + 1), by omega, i + 1, rfl, hl2, rfl⟩
theorem Keeps7_ok {x y : V} {l : List Fld} {ms : List V} {hh : Heap} {e : Env} {code got : Int} {v35 v37 v38 v39 v40 v41 v43 v45 v46 v47 v48 v49 : V} {ct : Ct} {d1 d2 d3 d4 d5 : V} (hx : ListV 2 x (flds l)) (hy : ListV 2 y (flds (l ++ keepE))) (hl : l.length < 100000)
    (hb : hh[h.length]? = some (.box ms)) (hm : ms.getD 0 (.tup []) = .int .i64 code) (hm1 : 1 ≤ ms.length) (e1 : e 1 = x) :
    k_gatepostlaw10_StoringKeeps_7 L (fun v _ => v = .bool true) e x (.int .i64 got) (.ptr h.length 0) v35 v37 v38 v39 v40 v41 v43 v45 v46 v47 v48 v49 (.tup [.agg (mM (.int .i64 code) (ctV ct) d1 d2 d3 d4 d5 (.int .i64 got) (.str k2)), y]) hh := by
  
  unfold k_gatepostlaw10_StoringKeeps_7
  generalize hM : mM (.int .i64 code) (ctV ct) d1 d2 d3 d4 d5 (.int .i64 got) (.str k2) = M
  have g0 : M.getD 0 (.tup []) = .int .i64 code := by rw [← hM]; rfl
  have g19 : M.getD 19 (.tup []) = .int .i64 got := by rw [← hM]; rfl
  have g20 : M.getD 20 (.tup []) = .str [34, 50, 34] := by rw [← hM]; rfl
  have ml : M.length = 21 := by rw [← hM]; rfl
  generalize hZ : ([.int .i64 0, .bool false, .bool false, .bool false, .bool false, .bool false, .bool false, .bool false, .int .i64 0, .int .i64 0, .int .i64 0, .int .i64 0, .int .i64 0, .int .i64 0, .int .i64 0, .int .i64 0, .int .i64 0, .int .i64 0, .int .i64 0, .int .i64 0, .str []] : List V) = Z
  have hZ1 : Z.length = 21 := by rw [← hZ]; rfl
  have hZ2 : List.drop 21 Z = [] := List.drop_eq_nil_of_le (by omega)
  have k1 : (hh ++ [O.box Z])[hh.length]? = some (.box Z) := by rw [List.getElem?_append_right (Nat.le_refl _), Nat.sub_self]; rfl
  have k3 : ∀ X, (hh ++ [O.box Z]).set hh.length X = hh ++ [X] := fun X => by rw [List.set_append_right _ _ (Nat.le_refl _), Nat.sub_self]; rfl
  have k4 : ∀ X, (hh ++ [X])[hh.length]? = some X := fun X => by rw [List.getElem?_append_right (Nat.le_refl _), Nat.sub_self]; rfl
  have k5 : ∀ X, (hh ++ [X])[h.length]? = some (.box ms) := fun X => get_old hb
  have s1 := flds_len l
  have s2 : (flds (l ++ keepE)).length = l.length + 3 := by rw [flds_len, List.length_append]; rfl
  have ne : (code != code) = false := by simp
  have ne2 : (got != got) = false := by simp
  obtain ⟨o2, ey⟩ : ∃ o, y = .sl 2 o (flds (l ++ keepE)) := by
    rcases hy with ⟨he, _⟩ | h
    · rw [he] at s2; simp at s2
    · exact h
  have w3 : IntKind.i64.wrap ((l.length : Int) + 3) = ((l.length + 3 : Nat) : Int) := by rw [wrap64 (by omega) (by omega)]; rfl
  have b3 : ((((l.length + 3 : Nat) : Int)) == ((l.length + 3 : Nat) : Int)) = true := by simp
  rcases (id hx) with ⟨he, ex⟩ | ⟨o1, ex⟩
  · have l0 : l.length = 0 := by rw [← s1, he]; rfl
    subst ex
    subst ey
    rw [l0] at s2
    have s2' : (flds (l ++ keepE)).length = 3 := s2
    have w3' : IntKind.i64.wrap (0 + 3) = 3 := rfl
    have KK := fun e' (a : e' 1 = V.nsl) (b : e' 10 = .sl 2 o2 (flds (l ++ keepE))) (c : e' 11 = .int .i64 0) hh => Keeps2_ok (L := L) (hh := hh) (e := e') hx hy hl a b c
    generalize flds (l ++ keepE) = es at *
    simp (maxSteps := 4000000) only [vm, vl, Arg.get, cells, stor, boundO, resultsV, resV, partK, loadV, Vm.part, fillC, splice, reduceIte, reduceCtorEq, Nat.reduceEqDiff, Nat.reduceAdd, Nat.reduceSub, Nat.reduceMul, Nat.reduceLeDiff, ne_eq, not_false_eq_true, Int.reduceEq, Int.reduceLT, Int.reduceLE, Int.reduceNeg, Int.reduceToNat, Int.reduceGT, Int.reduceGE, Nat.reduceLT, Nat.lt_add_one, Nat.zero_lt_succ, Nat.succ_pos, Nat.zero_le, beq_self_eq_true, k1, hZ1, hZ2, k3, k4, k5, ml, g0, g19, g20, hm, hm1, s2', w3', List.append_nil, decide_true, decide_false, Bool.not_true, k_gatepostlaw10_StoringKeeps_2]
    exact KK _ (by exact e1) rfl rfl _
  · subst ex
    subst ey
    have KK := fun e' (a : e' 1 = V.sl 2 o1 (flds l)) (b : e' 10 = .sl 2 o2 (flds (l ++ keepE))) (c : e' 11 = .int .i64 0) hh => Keeps2_ok (L := L) (hh := hh) (e := e') hx hy hl a b c
    generalize flds (l ++ keepE) = es at *
    generalize flds l = ls at *
    simp (maxSteps := 4000000) only [vm, vl, Arg.get, cells, stor, boundO, resultsV, resV, partK, loadV, Vm.part, fillC, splice, reduceIte, reduceCtorEq, Nat.reduceEqDiff, Nat.reduceAdd, Nat.reduceSub, Nat.reduceMul, Nat.reduceLeDiff, ne_eq, not_false_eq_true, Int.reduceEq, Int.reduceLT, Int.reduceLE, Int.reduceNeg, Int.reduceToNat, Int.reduceGT, Int.reduceGE, Nat.reduceLT, Nat.lt_add_one, Nat.zero_lt_succ, Nat.succ_pos, Nat.zero_le, beq_self_eq_true, k1, hZ1, hZ2, k3, k4, k5, ml, g0, g19, g20, hm, hm1, s1, s2, w3, b3, List.append_nil, decide_true, decide_false, Bool.not_true, k_gatepostlaw10_StoringKeeps_2]
    exact KK _ (by exact e1) rfl rfl _
theorem sum_keep : sumF keepO < 100 ∧ keepO.length = 2 ∧ sumF keepR < 100 := by decide +kernel
theorem Keeps1_ok (HJ : JoinOk L) (HI : IndexOk L) (HU : UnqOk L) {x : V} {l : List Fld} {ms : List V} {hh : Heap} {e : Env} {code got : Int} (hx : ListV 2 x (flds l)) (hl : l.length < 1000) (hsm : sumF l < 5000)
    (hb : hh[h.length]? = some (.box ms)) (hm : ms.getD 0 (.tup []) = .int .i64 code) (hm1 : ms.length = 21) (e1 : e 1 = x) (hno : ∀ f ∈ l, (low f.1 == low kT) = false ∧ (low f.1 == low kZ) = false) :
    k_gatepostlaw10_StoringKeeps_1 L (fun v _ => v = .bool true) e x (.int .i64 got) (.ptr h.length 0) hh := by
  
  unfold k_gatepostlaw10_StoringKeeps_1
  have O0 : Ow 2 hh (hh ++ []) (.sl 2 .full (flds [])) (flds []) := Ow.full
  rw [List.append_nil] at O0
  obtain ⟨x1, h1, ha1, O1⟩ := O0.app (bytes := 32) hx (by rw [flds_len, flds_len]; simp; omega)
  rw [flds_cat, List.nil_append] at O1
  obtain ⟨x2, h2, ha2, O2⟩ := O1.app (bytes := 32) (y := .sl 2 .full (flds keepO)) (ys := flds keepO) (.inr ⟨_, rfl⟩) (by rw [flds_len, flds_len, sum_keep.2.1]; omega)
  rw [flds_cat] at O2
  obtain ⟨t2, rfl⟩ := O2.1
  have hb2 := get_old (t := t2) hb
  have hmt : List.take 21 ms = ms := List.take_of_length_le (by omega)
  have hm21 : 21 ≤ ms.length := by omega
  have R := sRefresh_ok (L := L) (h := hh ++ t2) (s := got) (g := got) (a := .int .i64 0) (b := .int .i64 304) (c := .str []) (z := .sl 2 .full (flds keepR)) (lr := keepR) HJ HI HU hm (by omega) O2.list (by rw [List.length_append, sum_keep.2.1]; omega) (by rw [sum_cat]; have := sum_keep.1; omega) (.inr ⟨_, rfl⟩) (by simp [keepR]) (by have := sum_keep.2.2; omega)
  rw [keep_out hno] at R
  rw [show flds [] = [] from rfl] at ha1
  simp only [keepO, flds, fldV, List.map_cons, List.map_nil] at ha2
  simp only [keepR, flds, fldV, List.map_cons, List.map_nil] at R
  simp (maxSteps := 4000000) only [vm, vl, Arg.get, cells, stor, boundO, resultsV, resV, partK, loadV, Vm.part, fillC, splice, reduceIte, reduceCtorEq, Nat.reduceEqDiff, Nat.reduceAdd, Nat.reduceSub, Nat.reduceMul, Nat.reduceLeDiff, ne_eq, not_false_eq_true, Int.reduceEq, Int.reduceLT, Int.reduceLE, Int.reduceNeg, Int.reduceToNat, Int.reduceGT, Int.reduceGE, Nat.reduceLT, Nat.lt_add_one, Nat.zero_lt_succ, Nat.succ_pos, Nat.zero_le, beq_self_eq_true, ha1, ha2, hb2, hm21, hmt]
  refine R.mono fun v h' hv => ?_
  obtain ⟨y, rfl, O3⟩ := hv
  have O4 := O3.list
  obtain ⟨t3, rfl⟩ := O3.1
  unfold sOfV
  rw [keep_tag hno]
  exact Keeps7_ok hx O4 (by omega) (get_old hb2) hm (by omega) e1
theorem Keeps_ok (HJ : JoinOk L) (HI : IndexOk L) (HU : UnqOk L) {x : V} {l : List Fld} {ms : List V} {code got : Int} (hx : ListV 2 x (flds l)) (hl : l.length ≤ 140737488351232) (hz : ∀ f ∈ l, f.1.length ≤ 140737488351232 ∧ f.2.length ≤ 140737488351232)
    (hm : ms.getD 0 (.tup []) = .int .i64 code) (hm1 : ms.length = 21) :
    Cf F L i_gatepostlaw10_StoringKeeps [.agg ms, x, .int .i64 got] h (fun v _ => v = .bool true) := by
  refine run_gatepostlaw10_StoringKeeps ?_
  simp only [p_gatepostlaw10_StoringKeeps]
  
  simp (maxSteps := 4000000) only [vm, vl, Arg.get, cells, stor, boundO, resultsV, resV, partK, loadV, Vm.part, fillC, splice, reduceIte, reduceCtorEq, Nat.reduceEqDiff, Nat.reduceAdd, Nat.reduceSub, Nat.reduceMul, Nat.reduceLeDiff, ne_eq, not_false_eq_true, Int.reduceEq, Int.reduceLT, Int.reduceLE, Int.reduceNeg, Int.reduceToNat, Int.reduceGT, Int.reduceGE, Nat.reduceLT, Nat.lt_add_one, Nat.zero_lt_succ, Nat.succ_pos, Nat.zero_le, beq_self_eq_true]
  refine Cf.pu (few10_ok hx hl hz) fun u => ?_
  by_cases c : 20 * l.length + sumF l < 3000
  case neg => simp (maxSteps := 4000000) only [vm, vl, Arg.get, cells, stor, boundO, resultsV, resV, partK, loadV, Vm.part, fillC, splice, reduceIte, reduceCtorEq, Nat.reduceEqDiff, Nat.reduceAdd, Nat.reduceSub, Nat.reduceMul, Nat.reduceLeDiff, ne_eq, not_false_eq_true, Int.reduceEq, Int.reduceLT, Int.reduceLE, Int.reduceNeg, Int.reduceToNat, Int.reduceGT, Int.reduceGE, Nat.reduceLT, Nat.lt_add_one, Nat.zero_lt_succ, Nat.succ_pos, Nat.zero_le, beq_self_eq_true, c, decide_false, Bool.not_false]
  simp (maxSteps := 4000000) only [vm, vl, Arg.get, cells, stor, boundO, resultsV, resV, partK, loadV, Vm.part, fillC, splice, reduceIte, reduceCtorEq, Nat.reduceEqDiff, Nat.reduceAdd, Nat.reduceSub, Nat.reduceMul, Nat.reduceLeDiff, ne_eq, not_false_eq_true, Int.reduceEq, Int.reduceLT, Int.reduceLE, Int.reduceNeg, Int.reduceToNat, Int.reduceGT, Int.reduceGE, Nat.reduceLT, Nat.lt_add_one, Nat.zero_lt_succ, Nat.succ_pos, Nat.zero_le, beq_self_eq_true, c, decide_true, Bool.not_true, k_gatepostlaw10_StoringKeeps_0]
  refine l_gatepostlaw10_StoringKeeps_1 (fun n e h' => ∃ i : Nat, n = l.length - i ∧ i ≤ l.length ∧ e 1 = x ∧ e 2 = .int .i64 got ∧ e 3 = .ptr h.length 0 ∧ e 7 = .int .i64 i ∧ h'[h.length]? = some (.box ms) ∧ ∀ f ∈ l.take i, (low f.1 == low kT) = false ∧ (low f.1 == low kZ) = false) ?_ (n := l.length) ⟨0, by simp, by simp, rfl, rfl, rfl, rfl, by rw [List.getElem?_append_right (Nat.le_refl _), Nat.sub_self]; rfl, by simp⟩
  rintro n e h' ⟨i, rfl, hi, e1, e2, e3, e7, hb, hno⟩
  simp only [b_gatepostlaw10_StoringKeeps_1]
  have l1 := fun {K : V → Heap → Prop} {h : Heap} => hx.len (F := F) (L := L) (e := E0) (K := K) (h := h)
  simp only [flds_len] at l1
  rcases list_at ([], []) hi with ⟨hn, rfl, hd⟩ | ⟨hl1, hl2, hd, htk⟩
  · rw [List.take_of_length_le (Nat.le_refl _)] at hno
    simp (maxSteps := 4000000) only [vm, vl, Arg.get, cells, stor, boundO, resultsV, resV, partK, loadV, Vm.part, fillC, splice, reduceIte, reduceCtorEq, Nat.reduceEqDiff, Nat.reduceAdd, Nat.reduceSub, Nat.reduceMul, Nat.reduceLeDiff, ne_eq, not_false_eq_true, Int.reduceEq, Int.reduceLT, Int.reduceLE, Int.reduceNeg, Int.reduceToNat, Int.reduceGT, Int.reduceGE, Nat.reduceLT, Nat.lt_add_one, Nat.zero_lt_succ, Nat.succ_pos, Nat.zero_le, beq_self_eq_true, e1, e2, e3, e7, l1, hn]
    exact Keeps1_ok HJ HI HU hx (by omega) (by omega) hb hm hm1 (by exact e1) hno
  · have w := wrap64 (x := (i : Int) + 1) (by omega) (by omega)
    have hsl := flds_len l
    have a1 := flds_at hl2
    have hmem : l.getD i ([], []) ∈ l := getD_mem hl2
    have hf := hz _ hmem
    obtain ⟨o1, rfl⟩ : ∃ o, x = .sl 2 o (flds l) := by
      rcases hx with ⟨he, _⟩ | h
      · rw [he] at hsl; simp at hsl; omega
      · exact h
    have i0 : (0 : Int) ≤ (i : Int) := by omega
    generalize l.getD i ([], []) = f at *
    simp (maxSteps := 4000000) only [vm, vl, Arg.get, cells, stor, boundO, resultsV, resV, partK, loadV, Vm.part, fillC, splice, reduceIte, reduceCtorEq, Nat.reduceEqDiff, Nat.reduceAdd, Nat.reduceSub, Nat.reduceMul, Nat.reduceLeDiff, ne_eq, not_false_eq_true, Int.reduceEq, Int.reduceLT, Int.reduceLE, Int.reduceNeg, Int.reduceToNat, Int.reduceGT, Int.reduceGE, Nat.reduceLT, Nat.lt_add_one, Nat.zero_lt_succ, Nat.succ_pos, Nat.zero_le, beq_self_eq_true, e1, e7, hsl, hl1, hl2, i0, a1, fldV, Int.toNat_natCast, k_gatepostlaw10_StoringKeeps_8]
    refine Cf.pu (Same_ok (t := kT) (by omega) (by decide)) fun u1 => ?_
    cases q1 : (low f.1 == low kT) with
    | true => simp (maxSteps := 4000000) only [vm, vl, Arg.get, cells, stor, boundO, resultsV, resV, partK, loadV, Vm.part, fillC, splice, reduceIte, reduceCtorEq, Nat.reduceEqDiff, Nat.reduceAdd, Nat.reduceSub, Nat.reduceMul, Nat.reduceLeDiff, ne_eq, not_false_eq_true, Int.reduceEq, Int.reduceLT, Int.reduceLE, Int.reduceNeg, Int.reduceToNat, Int.reduceGT, Int.reduceGE, Nat.reduceLT, Nat.lt_add_one, Nat.zero_lt_succ, Nat.succ_pos, Nat.zero_le, beq_self_eq_true, k_gatepostlaw10_StoringKeeps_10]
    | false =>
      simp (maxSteps := 4000000) only [vm, vl, Arg.get, cells, stor, boundO, resultsV, resV, partK, loadV, Vm.part, fillC, splice, reduceIte, reduceCtorEq, Nat.reduceEqDiff, Nat.reduceAdd, Nat.reduceSub, Nat.reduceMul, Nat.reduceLeDiff, ne_eq, not_false_eq_true, Int.reduceEq, Int.reduceLT, Int.reduceLE, Int.reduceNeg, Int.reduceToNat, Int.reduceGT, Int.reduceGE, Nat.reduceLT, Nat.lt_add_one, Nat.zero_lt_succ, Nat.succ_pos, Nat.zero_le, beq_self_eq_true, k_gatepostlaw10_StoringKeeps_10, hsl, hl1, hl2, i0, a1, fldV, Int.toNat_natCast]
      refine Cf.pu (Same_ok (t := kZ) (by omega) (by decide)) fun u2 => ?_
      cases q2 : (low f.1 == low kZ) with
      | true => simp (maxSteps := 4000000) only [vm, vl, Arg.get, cells, stor, boundO, resultsV, resV, partK, loadV, Vm.part, fillC, splice, reduceIte, reduceCtorEq, Nat.reduceEqDiff, Nat.reduceAdd, Nat.reduceSub, Nat.reduceMul, Nat.reduceLeDiff, ne_eq, not_false_eq_true, Int.reduceEq, Int.reduceLT, Int.reduceLE, Int.reduceNeg, Int.reduceToNat, Int.reduceGT, Int.reduceGE, Nat.reduceLT, Nat.lt_add_one, Nat.zero_lt_succ, Nat.succ_pos, Nat.zero_le, beq_self_eq_true]
      | false =>
        simp (maxSteps := 4000000) only [vm, vl, Arg.get, cells, stor, boundO, resultsV, resV, partK, loadV, Vm.part, fillC, splice, reduceIte, reduceCtorEq, Nat.reduceEqDiff, Nat.reduceAdd, Nat.reduceSub, Nat.reduceMul, Nat.reduceLeDiff, ne_eq, not_false_eq_true, Int.reduceEq, Int.reduceLT, Int.reduceLE, Int.reduceNeg, Int.reduceToNat, Int.reduceGT, Int.reduceGE, Nat.reduceLT, Nat.lt_add_one, Nat.zero_lt_succ, Nat.succ_pos, Nat.zero_le, beq_self_eq_true, k_gatepostlaw10_StoringKeeps_9, w]
        refine ⟨l.length - (i + 1), by omega, i + 1, rfl, hl2, e1, e2, e3, rfl, get_old hb, ?_⟩
        intro g hg
        rw [htk] at hg
        rcases List.mem_append.1 hg with hg | hg
        · exact hno g hg
        · rw [List.mem_singleton.1 hg]; exact ⟨q1, q2⟩
theorem vsks_len : ∀ {ks : List SK} {xs : List V}, VSKs ks xs → ks.length = xs.length
  | [], [], _ => rfl
  | _ :: _, _ :: _, ⟨_, h⟩ => by simp [vsks_len h]
theorem vsks_at : ∀ {ks : List SK} {xs : List V} {i : Nat} {k : SK}, VSKs ks xs → ks[i]? = some k → VSK k (xs.getD i (.tup []))
  | k :: _, x :: _, 0, _, ⟨h, _⟩, hk => by simp at hk; subst hk; exact h
  | _ :: _, _ :: _, i + 1, _, ⟨_, h⟩, hk => by simp at hk; rw [List.getD_cons_succ]; exact vsks_at h hk
def LC : FuncId → List V → V → Prop := fun f a v => LJoin f a v ∨ LIndex f a v ∨ LUnq f a v
theorem lc_at (w0 : World) : LibAt Tryz.prog w0 LC := fun f a v h => h.elim (join_at w0 f a v) fun h => h.elim (index_at w0 f a v) (unq_at w0 f a v)
theorem StoringKeeps_row {x0 x1 x2 : V} (v0 : VPar [.l (.i .i64), .l .b, .l .b, .l .b, .l .b, .l .b, .l .b, .l .b, .l (.i .i64), .l (.i .i64), .l (.i .i64), .l (.i .i64), .l (.i .i64), .l (.i .i64), .l (.i .i64), .l (.i .i64), .l (.i .i64), .l (.i .i64), .l (.i .i64), .l (.i .i64), .l .s] x0) (v1 : VPar [.sl [.s, .s]] x1) (v2 : VPar [.l (.i .i64)] x2) (w : World) (vs : List Value) (hv : Rvs w.heap.size G0 w [x0, x1, x2] vs) :
    Calls Tryz.prog i_gatepostlaw10_StoringKeeps vs.toArray w fun e w' => e = .returned (.bool true) ∧ RowKit.Below w.heap.size w w' := by
  obtain ⟨ms, rfl, hms⟩ := v0
  obtain ⟨l, h1, h2, h3⟩ := fields_par v1
  obtain ⟨g, rfl, _⟩ := v2
  obtain ⟨m, h16, _⟩ : VLeaf (.i .i64) (ms.getD 0 (.tup [])) := vsks_at (i := 0) (k := .l (.i .i64)) hms rfl
  have h5 : ms.length = 21 := (vsks_len hms).symm
  exact calls_at hm hF (lc_at w) (Keeps_ok (joinOk fun _ _ _ h => .inl h) (indexOk fun _ _ _ h => .inr (.inl h)) (unqOk fun _ _ _ h => .inr (.inr h)) h1 h2 h3 h16 h5) hv
end Go.Proofs.YtaahialaegfjgaaGreatDoor.Vh
end
