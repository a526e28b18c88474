/- TokenTells and TokenTrims on the small machine. -/
import Derived.Test.YtmfpmnfbcgchjaaDoorVRef1
import Derived.Test.YtmfpmnfbcgchjaaDoorVmOpen
set_option linter.unusedVariables false
set_option linter.unusedSimpArgs false
namespace Go.Proofs.YtmfpmnfbcgchjaaDoor.Vh
open Go.Vm Go.Vt
attribute [local congr] wi_congr wg_congr wgd_congr wb_congr wl_congr cf_congr
variable {L : FuncId → List V → V → Prop} {h : Heap}
theorem beq_s (x : Bs) : (x == x) = true := by simp
theorem dec_same (b : Bool) : decide (b = b) = true := by simp
theorem TokenTells_ok {s t : Bs} : Cf F L i_gatepostlaw01_TokenTells [.str s, .str t] h (Pu h (.bool true)) := by
  refine run_gatepostlaw01_TokenTells ?_
  simp only [p_gatepostlaw01_TokenTells]
  by_cases hs : (s.length : Int) > 3000
  · simp (maxSteps := 4000000) only [vm, vl, Arg.get, cells, stor, boundO, resultsV, resV, partK, loadV, Vm.part, fillC, splice, reduceIte, reduceCtorEq, Nat.reduceEqDiff, Nat.reduceAdd, Nat.reduceSub, Nat.reduceMul, Nat.reduceLeDiff, ne_eq, not_false_eq_true, Int.reduceEq, Int.reduceLT, Int.reduceLE, Int.reduceNeg, Int.reduceToNat, Int.reduceGT, Int.reduceGE, Nat.reduceLT, Nat.lt_add_one, Nat.zero_lt_succ, Nat.succ_pos, beq_self_eq_true, k_gatepostlaw01_TokenTells_0, hs]
  by_cases ht : (t.length : Int) > 3000
  · simp (maxSteps := 4000000) only [vm, vl, Arg.get, cells, stor, boundO, resultsV, resV, partK, loadV, Vm.part, fillC, splice, reduceIte, reduceCtorEq, Nat.reduceEqDiff, Nat.reduceAdd, Nat.reduceSub, Nat.reduceMul, Nat.reduceLeDiff, ne_eq, not_false_eq_true, Int.reduceEq, Int.reduceLT, Int.reduceLE, Int.reduceNeg, Int.reduceToNat, Int.reduceGT, Int.reduceGE, Nat.reduceLT, Nat.lt_add_one, Nat.zero_lt_succ, Nat.succ_pos, beq_self_eq_true, k_gatepostlaw01_TokenTells_0, hs, ht]
  have a1 : s.length < 9223372036854775807 := by omega
  have a2 : s.length ≤ 140737488355328 := by omega
  have a3 : t.length ≤ 140737488355328 := by omega
  simp (maxSteps := 4000000) only [vm, vl, Arg.get, cells, stor, boundO, resultsV, resV, partK, loadV, Vm.part, fillC, splice, reduceIte, reduceCtorEq, Nat.reduceEqDiff, Nat.reduceAdd, Nat.reduceSub, Nat.reduceMul, Nat.reduceLeDiff, ne_eq, not_false_eq_true, Int.reduceEq, Int.reduceLT, Int.reduceLE, Int.reduceNeg, Int.reduceToNat, Int.reduceGT, Int.reduceGE, Nat.reduceLT, Nat.lt_add_one, Nat.zero_lt_succ, Nat.succ_pos, beq_self_eq_true, k_gatepostlaw01_TokenTells_0, hs, ht]
  (repeat' ((first | refine wg_casep (fun _ => ?_) (fun _ => ?_) | refine wg_casen (fun _ => ?_) (fun _ => ?_) | refine wg_case (fun _ => ?_) (fun _ => ?_) | refine wgd_casep (fun _ => ?_) (fun _ => ?_) | refine wgd_casen (fun _ => ?_) (fun _ => ?_) | refine wgd_case (fun _ => ?_) (fun _ => ?_) | refine wb_casep (fun _ => ?_) (fun _ => ?_) | refine wb_casen (fun _ => ?_) (fun _ => ?_) | refine wb_case (fun _ => ?_) (fun _ => ?_) | refine Cf.pu (Is_ok a1) (fun _ => ?_) | refine Cf.pu (rIs_ok a1) (fun _ => ?_) | refine Cf.pu (Value_ok a1) (fun _ => ?_) | refine Cf.pu (rValue_ok a1) (fun _ => ?_) | refine Cf.pu (Lower_ok a2) (fun _ => ?_) | refine Cf.pu (rLower_ok a2) (fun _ => ?_) | refine Cf.pu (Trim_ok a1) (fun _ => ?_) | refine Cf.pu (rTrim_ok a1) (fun _ => ?_) | refine Cf.pu (Same_ok a2 a3) (fun _ => ?_) | refine Cf.pu (rSame_ok a2 a3) (fun _ => ?_)) <;> try simp (maxSteps := 4000000) only [vm, vl, Arg.get, cells, stor, boundO, resultsV, resV, partK, loadV, Vm.part, fillC, splice, reduceIte, reduceCtorEq, Nat.reduceEqDiff, Nat.reduceAdd, Nat.reduceSub, Nat.reduceMul, Nat.reduceLeDiff, ne_eq, not_false_eq_true, Int.reduceEq, Int.reduceLT, Int.reduceLE, Int.reduceNeg, Int.reduceToNat, Int.reduceGT, Int.reduceGE, Nat.reduceLT, Nat.lt_add_one, Nat.zero_lt_succ, Nat.succ_pos, beq_self_eq_true, k_gatepostlaw01_TokenTells_0, *]))
  all_goals trace_state
theorem TokenTells_row {x0 x1 : V} (v0 : VPar [.l .s] x0) (v1 : VPar [.l .s] x1) (w : World) (vs : List Value) (hv : Rvs w.heap.size G0 w [x0, x1] vs) :
    Calls Tryd.prog i_gatepostlaw01_TokenTells vs.toArray w fun e w' => e = .returned (.bool true) ∧ RowKit.Below w.heap.size w w' := by
  obtain ⟨s, rfl, _⟩ := v0
  obtain ⟨t, rfl, _⟩ := v1
  exact calls_at hm hF (L := fun _ _ _ => False) (fun _ _ _ h => h.elim) (TokenTells_ok.mono fun v h' hp => hp.1) hv
end Go.Proofs.YtmfpmnfbcgchjaaDoor.Vh
