/- FreshAges on the small machine. -/
import Derived.Test.YtebjbkbjmdnblaaVFresh
set_option linter.unusedVariables false
set_option linter.unusedSimpArgs false
set_option maxHeartbeats 4000000
namespace Go.Proofs.Ytebjbkbjmdnblaa.Vh
open Go.Vm
attribute [local congr] wi_congr wg_congr wgd_congr wb_congr wl_congr cf_congr
variable {L : FuncId → List V → V → Prop} {h : Heap}
theorem age_mono (d x y s g now : Int) (h : x ≤ y) : ¬ ageS d y s g now < ageS d x s g now := by
  unfold ageS
  have h1 := sinceS_range d g
  have h2 := sinceS_range s g
  have h3 := sinceS_range g now
  omega
theorem since_100 (m : Int) (h0 : 0 ≤ m) (h1 : m ≤ 65535) : sinceS 100 (100 + m) = m := by
  unfold sinceS
  rw [if_neg (by omega), if_neg (by omega)]
  omega
theorem Ages_ok {c0 : Int} {c1 c2 c3 c4 c5 c6 c7 : Bool} {c8 c9 c10 c11 c12 c13 c14 c15 c16 c17 c18 c19 : Int} {c20 : List UInt8} {now more : Int} : Cf F L i_gatepostlaw09_FreshAges [.agg [.int .i64 c0, .bool c1, .bool c2, .bool c3, .bool c4, .bool c5, .bool c6, .bool c7, .int .i64 c8, .int .i64 c9, .int .i64 c10, .int .i64 c11, .int .i64 c12, .int .i64 c13, .int .i64 c14, .int .i64 c15, .int .i64 c16, .int .i64 c17, .int .i64 c18, .int .i64 c19, .str c20], .int .i64 now, .int .i64 more] h (Pu h (.bool true)) := by
  refine run_gatepostlaw09_FreshAges ?_
  simp only [p_gatepostlaw09_FreshAges]
  simp only [vm, vl, Arg.get, cells, stor, boundO, resultsV, resV, partK, loadV, Vm.part, fillC, splice, reduceIte, reduceCtorEq, Nat.reduceEqDiff, Nat.reduceAdd, Nat.reduceSub, Nat.reduceMul, Nat.reduceLeDiff, ne_eq, not_false_eq_true, Int.reduceEq, Int.reduceLT, Int.reduceLE, Int.reduceNeg, Int.reduceToNat, k_gatepostlaw09_FreshAges_0]
  obtain ⟨a0, a1⟩ := andI_range c17 1048575 (by omega) (by omega)
  obtain ⟨d0, d1⟩ := andI_range more 65535 (by omega) (by omega)
  generalize bitsI .and .i64 c17 1048575 = A at *
  generalize bitsI .and .i64 more 65535 = D at *
  have e0 := age_mono c14 A (A + D) c18 c19 now (by omega)
  have hk : isKept 206 = true := by decide
  have e1 : ageS (-1) (-1) (-1) (-1) now = 0 := by
    unfold ageS
    rw [show sinceS (-1) (-1) = 0 from by decide, show sinceS (-1) now = 0 from by unfold sinceS; rfl]
    decide
  have s1 : sinceS (-1) 100 = 0 := by decide
  have s2 : sinceS 90 100 = 10 := by decide
  have s3 : sinceS 100 (-1) = 0 := by decide
  have e2 : ageS (-1) 7 90 100 (100 + D) = 17 + D := by
    unfold ageS
    rw [s1, s2, since_100 D d0 d1]
    omega
  have e3 : ageS (-1) 7 90 100 (-1) = 17 := by
    unfold ageS
    rw [s1, s2, s3]
    decide
  have w1 := wrap64 (x := A + D) (by omega) (by omega)
  have w2 := wrap64 (x := 100 + D) (by omega) (by omega)
  have w3 := wrap64 (x := 17 + D) (by omega) (by omega)
  clear s1 s2 s3 a0 a1 d0 d1
  simp only [vm, vl, Arg.get, cells, stor, boundO, resultsV, resV, partK, loadV, Vm.part, fillC, splice, reduceIte, reduceCtorEq, Nat.reduceEqDiff, Nat.reduceAdd, Nat.reduceSub, Nat.reduceMul, Nat.reduceLeDiff, ne_eq, not_false_eq_true, Int.reduceEq, Int.reduceLT, Int.reduceLE, Int.reduceNeg, Int.reduceToNat, k_gatepostlaw09_FreshAges_0, *]
  (repeat' ((first | refine wg_casep (fun _ => ?_) (fun _ => ?_) | refine wg_casen (fun _ => ?_) (fun _ => ?_) | refine wg_case (fun _ => ?_) (fun _ => ?_) | refine wgd_casep (fun _ => ?_) (fun _ => ?_) | refine wgd_casen (fun _ => ?_) (fun _ => ?_) | refine wgd_case (fun _ => ?_) (fun _ => ?_) | refine wb_casep (fun _ => ?_) (fun _ => ?_) | refine wb_casen (fun _ => ?_) (fun _ => ?_) | refine wb_case (fun _ => ?_) (fun _ => ?_) | refine Cf.pu Age_ok (fun _ => ?_) | refine Cf.pu Heuristic_ok (fun _ => ?_)) <;> simp only [vm, vl, Arg.get, cells, stor, boundO, resultsV, resV, partK, loadV, Vm.part, fillC, splice, reduceIte, reduceCtorEq, Nat.reduceEqDiff, Nat.reduceAdd, Nat.reduceSub, Nat.reduceMul, Nat.reduceLeDiff, ne_eq, not_false_eq_true, Int.reduceEq, Int.reduceLT, Int.reduceLE, Int.reduceNeg, Int.reduceToNat, k_gatepostlaw09_FreshAges_0, *]))
  trace_state
end Go.Proofs.Ytebjbkbjmdnblaa.Vh
