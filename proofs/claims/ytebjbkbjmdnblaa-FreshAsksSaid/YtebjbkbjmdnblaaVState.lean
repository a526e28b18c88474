/- fresh.State, run on the small machine. -/
import Derived.Test.YtebjbkbjmdnblaaVFresh
set_option linter.unusedVariables false
set_option linter.unusedSimpArgs false
namespace Go.Proofs.Ytebjbkbjmdnblaa.Vh
open Go.Vm
attribute [local congr] wi_congr wg_congr wgd_congr wb_congr wl_congr cf_congr
variable {L : FuncId → List V → V → Prop} {h : Heap}
theorem State_ok {c0 : Int} {c1 c2 c3 c4 c5 c6 c7 : Bool} {c8 c9 c10 c11 c12 c13 c14 c15 c16 c17 c18 c19 : Int} {c20 : List UInt8} {r0 r1 r2 r3 r4 r5 r6 : Bool} {r7 r8 r9 r10 r11 r12 : Int} {now : Int} : Cf F L i_fresh_State [.agg [.int .i64 c0, .bool c1, .bool c2, .bool c3, .bool c4, .bool c5, .bool c6, .bool c7, .int .i64 c8, .int .i64 c9, .int .i64 c10, .int .i64 c11, .int .i64 c12, .int .i64 c13, .int .i64 c14, .int .i64 c15, .int .i64 c16, .int .i64 c17, .int .i64 c18, .int .i64 c19, .str c20], .agg [.bool r0, .bool r1, .bool r2, .bool r3, .bool r4, .bool r5, .bool r6, .int .i64 r7, .int .i64 r8, .int .i64 r9, .int .i64 r10, .int .i64 r11, .int .i64 r12], .int .i64 now] h
    (Pu h (.int .i64 (stateS c2 c5 c6 c9 c10 r1 r7 r11 r12 (ageS c14 c17 c18 c19 now) (lifeS c0 c9 c8 c14 c15 c16 c19)))) := by
  have a1 := ageS_range c14 c17 c18 c19 now
  have a2 := lifeS_range c0 c9 c8 c14 c15 c16 c19
  refine run_fresh_State ?_
  simp only [p_fresh_State]
  simp (maxSteps := 4000000) only [vm, vl, Arg.get, cells, stor, boundO, resultsV, resV, partK, loadV, Vm.part, fillC, splice, reduceIte, reduceCtorEq, Nat.reduceEqDiff, Nat.reduceAdd, Nat.reduceSub, Nat.reduceMul, Nat.reduceLeDiff, ne_eq, not_false_eq_true, Int.reduceEq, Int.reduceLT, Int.reduceLE, Int.reduceNeg, Int.reduceToNat, k_fresh_State_0]
  refine Cf.pu Age_ok (fun _ => ?_)
  simp (maxSteps := 4000000) only [vm, vl, Arg.get, cells, stor, boundO, resultsV, resV, partK, loadV, Vm.part, fillC, splice, reduceIte, reduceCtorEq, Nat.reduceEqDiff, Nat.reduceAdd, Nat.reduceSub, Nat.reduceMul, Nat.reduceLeDiff, ne_eq, not_false_eq_true, Int.reduceEq, Int.reduceLT, Int.reduceLE, Int.reduceNeg, Int.reduceToNat, k_fresh_State_0]
  refine Cf.pu Lifetime_ok (fun _ => ?_)
  generalize ageS c14 c17 c18 c19 now = A at *
  generalize lifeS c0 c9 c8 c14 c15 c16 c19 = Y at *
  have w1 := wrap64 (x := A - Y) (by omega) (by omega)
  have w2 := wrap64 (x := Y - A) (by omega) (by omega)
  clear a1 a2
  simp (maxSteps := 4000000) only [vm, vl, Arg.get, cells, stor, boundO, resultsV, resV, partK, loadV, Vm.part, fillC, splice, reduceIte, reduceCtorEq, Nat.reduceEqDiff, Nat.reduceAdd, Nat.reduceSub, Nat.reduceMul, Nat.reduceLeDiff, ne_eq, not_false_eq_true, Int.reduceEq, Int.reduceLT, Int.reduceLE, Int.reduceNeg, Int.reduceToNat, k_fresh_State_0]
  (repeat' ((first | refine wg_casep (fun _ => ?_) (fun _ => ?_) | refine wg_casen (fun _ => ?_) (fun _ => ?_) | refine wg_case (fun _ => ?_) (fun _ => ?_) | refine wgd_casep (fun _ => ?_) (fun _ => ?_) | refine wgd_casen (fun _ => ?_) (fun _ => ?_) | refine wgd_case (fun _ => ?_) (fun _ => ?_) | refine wb_casep (fun _ => ?_) (fun _ => ?_) | refine wb_casen (fun _ => ?_) (fun _ => ?_) | refine wb_case (fun _ => ?_) (fun _ => ?_) | refine Cf.pu late_ok (fun _ => ?_)) <;> simp (maxSteps := 4000000) only [vm, vl, Arg.get, cells, stor, boundO, resultsV, resV, partK, loadV, Vm.part, fillC, splice, reduceIte, reduceCtorEq, Nat.reduceEqDiff, Nat.reduceAdd, Nat.reduceSub, Nat.reduceMul, Nat.reduceLeDiff, ne_eq, not_false_eq_true, Int.reduceEq, Int.reduceLT, Int.reduceLE, Int.reduceNeg, Int.reduceToNat, k_fresh_State_0, *]))
  all_goals simp only [stateS, *, reduceIte, Bool.false_eq_true, and_self, and_false, false_and, and_true, true_and]
end Go.Proofs.Ytebjbkbjmdnblaa.Vh
