/- TokenPairs on the small machine. -/
import Derived.Test.YtmfpmnfbcgchjaaDoorVPairR
import Derived.Test.YtmfpmnfbcgchjaaDoorVQuote
import Derived.Test.YtmfpmnfbcgchjaaDoorVmOpen
set_option linter.unusedVariables false
set_option linter.unusedSimpArgs false
namespace Go.Proofs.YtmfpmnfbcgchjaaDoor.Vh
open Go.Vm Go.Vt
attribute [local congr] wi_congr wg_congr wgd_congr wb_congr wl_congr cf_congr
variable {L : FuncId → List V → V → Prop} {h : Heap}
theorem Pairs0_ok (HI : IndexOk L) (HU : UnqOk L) (HR : ReplOk L) {s : Bs} (hs : s.length ≤ 100000) : k_gatepostlaw01_TokenPairs_0 L (fun v _ => v = .bool true) (.str s) h := by
  
  unfold k_gatepostlaw01_TokenPairs_0
  
  simp (maxSteps := 4000000) only [vm, vl, Arg.get, cells, stor, boundO, resultsV, resV, partK, loadV, Vm.part, fillC, splice, reduceIte, reduceCtorEq, Nat.reduceEqDiff, Nat.reduceAdd, Nat.reduceSub, Nat.reduceMul, Nat.reduceLeDiff, ne_eq, not_false_eq_true, Int.reduceEq, Int.reduceLT, Int.reduceLE, Int.reduceNeg, Int.reduceToNat, Int.reduceGT, Int.reduceGE, Nat.reduceLT, Nat.lt_add_one, Nat.zero_lt_succ, Nat.succ_pos, Nat.zero_le, beq_self_eq_true]
  refine Cf.pu (Pair_ok HI HU (by omega)) fun u1 => ?_
  simp (maxSteps := 4000000) only [vm, vl, Arg.get, cells, stor, boundO, resultsV, resV, partK, loadV, Vm.part, fillC, splice, reduceIte, reduceCtorEq, Nat.reduceEqDiff, Nat.reduceAdd, Nat.reduceSub, Nat.reduceMul, Nat.reduceLeDiff, ne_eq, not_false_eq_true, Int.reduceEq, Int.reduceLT, Int.reduceLE, Int.reduceNeg, Int.reduceToNat, Int.reduceGT, Int.reduceGE, Nat.reduceLT, Nat.lt_add_one, Nat.zero_lt_succ, Nat.succ_pos, Nat.zero_le, beq_self_eq_true, pairV]
  refine Cf.pu (rPair_ok (by omega)) fun u2 => ?_
  simp (maxSteps := 4000000) only [vm, vl, Arg.get, cells, stor, boundO, resultsV, resV, partK, loadV, Vm.part, fillC, splice, reduceIte, reduceCtorEq, Nat.reduceEqDiff, Nat.reduceAdd, Nat.reduceSub, Nat.reduceMul, Nat.reduceLeDiff, ne_eq, not_false_eq_true, Int.reduceEq, Int.reduceLT, Int.reduceLE, Int.reduceNeg, Int.reduceToNat, Int.reduceGT, Int.reduceGE, Nat.reduceLT, Nat.lt_add_one, Nat.zero_lt_succ, Nat.succ_pos, Nat.zero_le, beq_self_eq_true, pairV]
  refine Cf.pu (Quote_ok HR hs) fun u3 => ?_
  simp (maxSteps := 4000000) only [vm, vl, Arg.get, cells, stor, boundO, resultsV, resV, partK, loadV, Vm.part, fillC, splice, reduceIte, reduceCtorEq, Nat.reduceEqDiff, Nat.reduceAdd, Nat.reduceSub, Nat.reduceMul, Nat.reduceLeDiff, ne_eq, not_false_eq_true, Int.reduceEq, Int.reduceLT, Int.reduceLE, Int.reduceNeg, Int.reduceToNat, Int.reduceGT, Int.reduceGE, Nat.reduceLT, Nat.lt_add_one, Nat.zero_lt_succ, Nat.succ_pos, Nat.zero_le, beq_self_eq_true, unqV]
  refine Cf.pu (rQuote_ok hs) fun u4 => ?_
  simp (maxSteps := 4000000) only [vm, vl, Arg.get, cells, stor, boundO, resultsV, resV, partK, loadV, Vm.part, fillC, splice, reduceIte, reduceCtorEq, Nat.reduceEqDiff, Nat.reduceAdd, Nat.reduceSub, Nat.reduceMul, Nat.reduceLeDiff, ne_eq, not_false_eq_true, Int.reduceEq, Int.reduceLT, Int.reduceLE, Int.reduceNeg, Int.reduceToNat, Int.reduceGT, Int.reduceGE, Nat.reduceLT, Nat.lt_add_one, Nat.zero_lt_succ, Nat.succ_pos, Nat.zero_le, beq_self_eq_true, unqV]
theorem Pairs_ok (HI : IndexOk L) (HU : UnqOk L) (HR : ReplOk L) {s : Bs} (hs : s.length ≤ 140737488351232) : Cf F L i_gatepostlaw01_TokenPairs [.str s] h (fun v _ => v = .bool true) := by
  refine run_gatepostlaw01_TokenPairs ?_
  simp only [p_gatepostlaw01_TokenPairs]
  
  by_cases hl : (s.length : Int) > 3000
  · have g1 : (0 : Int) ≤ 3000 := by decide
    have g2 : (3000 : Int).toNat = 3000 := rfl
    have g3 : 3000 ≤ s.length := by omega
    simp (maxSteps := 4000000) only [vm, vl, Arg.get, cells, stor, boundO, resultsV, resV, partK, loadV, Vm.part, fillC, splice, reduceIte, reduceCtorEq, Nat.reduceEqDiff, Nat.reduceAdd, Nat.reduceSub, Nat.reduceMul, Nat.reduceLeDiff, ne_eq, not_false_eq_true, Int.reduceEq, Int.reduceLT, Int.reduceLE, Int.reduceNeg, Int.reduceToNat, Int.reduceGT, Int.reduceGE, Nat.reduceLT, Nat.lt_add_one, Nat.zero_lt_succ, Nat.succ_pos, Nat.zero_le, beq_self_eq_true, hl, decide_true, g3, List.drop_zero]
    exact Pairs0_ok HI HU HR (by rw [List.length_take]; omega)
  · simp (maxSteps := 4000000) only [vm, vl, Arg.get, cells, stor, boundO, resultsV, resV, partK, loadV, Vm.part, fillC, splice, reduceIte, reduceCtorEq, Nat.reduceEqDiff, Nat.reduceAdd, Nat.reduceSub, Nat.reduceMul, Nat.reduceLeDiff, ne_eq, not_false_eq_true, Int.reduceEq, Int.reduceLT, Int.reduceLE, Int.reduceNeg, Int.reduceToNat, Int.reduceGT, Int.reduceGE, Nat.reduceLT, Nat.lt_add_one, Nat.zero_lt_succ, Nat.succ_pos, Nat.zero_le, beq_self_eq_true, hl, decide_false]
    exact Pairs0_ok HI HU HR (by omega)
def LP : FuncId → List V → V → Prop := fun f a v => LIndex f a v ∨ LUnq f a v ∨ LRepl f a v
theorem lp_at {w0 : World} (hm : MaxAt w0) : LibAt Tryd.prog w0 LP := fun f a v h => h.elim (index_at w0 f a v) fun h => h.elim (unq_at w0 f a v) (repl_at hm f a v)
theorem TokenPairs_row {x0 : V} (v0 : VPar [.l .s] x0) (w : World) (hx : MaxAt w) (vs : List Value) (hv : Rvs w.heap.size G0 w [x0] vs) :
    Calls Tryd.prog i_gatepostlaw01_TokenPairs vs.toArray w fun e w' => e = .returned (.bool true) ∧ RowKit.Below w.heap.size w w' := by
  obtain ⟨s, rfl, hs⟩ := v0
  exact calls_at hm hF (lp_at hx) (Pairs_ok (indexOk fun _ _ _ h => .inl h) (unqOk fun _ _ _ h => .inr (.inl h)) (replOk fun _ _ _ h => .inr (.inr h)) hs) hv
end Go.Proofs.YtmfpmnfbcgchjaaDoor.Vh
