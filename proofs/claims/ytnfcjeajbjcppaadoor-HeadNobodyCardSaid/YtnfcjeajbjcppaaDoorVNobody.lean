/- HeadNobody on the small machine. -/
import Derived.Test.YtnfcjeajbjcppaaDoorVh
import Derived.Test.YtnfcjeajbjcppaaDoorVmOpen
import Derived.Test.YtnfcjeajbjcppaaDoorVmLib
set_option linter.unusedVariables false
set_option linter.unusedSimpArgs false
namespace Go.Proofs.YtnfcjeajbjcppaaDoor.Vh
open Go.Vm
attribute [local congr] wi_congr wg_congr wgd_congr wb_congr wl_congr cf_congr
variable {L : FuncId → List V → V → Prop} {h : Heap}
/-- A reader that no call made. -/
def Nobody (h : Heap) (v : V) : Prop := v = .nilp ∨ ∃ id cs, v = .ptr id 0 ∧ h[id]? = some (.box (.nfn :: cs))
theorem none_ok {v : V} {h : Heap} (hv : Nobody h v) : Cf F L i___gatepost_head_Reader__none [v] h (Pu h (.bool true)) := by
  refine run___gatepost_head_Reader__none ?_
  simp only [p___gatepost_head_Reader__none]
  rcases hv with rfl | ⟨id, cs, rfl, hb⟩
  · simp (maxSteps := 4000000) only [vm, vl, Arg.get, cells, stor, boundO, resultsV, resV, partK, loadV, Vm.part, fillC, splice, reduceIte, reduceCtorEq, Nat.reduceEqDiff, Nat.reduceAdd, Nat.reduceSub, Nat.reduceMul, Nat.reduceLeDiff, ne_eq, not_false_eq_true, Int.reduceEq, Int.reduceLT, Int.reduceLE, Int.reduceNeg, Int.reduceToNat, Int.reduceGT, Int.reduceGE, Nat.reduceLT, Nat.lt_add_one, Nat.zero_lt_succ, Nat.succ_pos, Nat.zero_le, beq_self_eq_true, eqp_00]
  · simp (maxSteps := 4000000) only [vm, vl, Arg.get, cells, stor, boundO, resultsV, resV, partK, loadV, Vm.part, fillC, splice, reduceIte, reduceCtorEq, Nat.reduceEqDiff, Nat.reduceAdd, Nat.reduceSub, Nat.reduceMul, Nat.reduceLeDiff, ne_eq, not_false_eq_true, Int.reduceEq, Int.reduceLT, Int.reduceLE, Int.reduceNeg, Int.reduceToNat, Int.reduceGT, Int.reduceGE, Nat.reduceLT, Nat.lt_add_one, Nat.zero_lt_succ, Nat.succ_pos, Nat.zero_le, beq_self_eq_true, eqp_10, eqf_00, hb, List.length_cons, List.getD_cons_zero]
theorem Nobody.more {h t : Heap} {v : V} (hv : Nobody h v) : Nobody (h ++ t) v := by
  rcases hv with rfl | ⟨id, cs, rfl, hb⟩
  · exact .inl rfl
  · exact .inr ⟨id, cs, rfl, by rw [List.getElem?_append_left (List.getElem?_eq_some_iff.1 hb).1, hb]⟩
theorem whole_ok {v : V} {h : Heap} {b : Bool} (hv : Nobody h v) : Cf F L i___gatepost_head_Reader__whole [v, .bool b] h (Pu h (.tup [.nsl, .int .i64 1])) := by
  refine run___gatepost_head_Reader__whole ?_
  simp only [p___gatepost_head_Reader__whole]
  
  refine Cf.pu (none_ok hv) fun u => ?_
  simp (maxSteps := 4000000) only [vm, vl, Arg.get, cells, stor, boundO, resultsV, resV, partK, loadV, Vm.part, fillC, splice, reduceIte, reduceCtorEq, Nat.reduceEqDiff, Nat.reduceAdd, Nat.reduceSub, Nat.reduceMul, Nat.reduceLeDiff, ne_eq, not_false_eq_true, Int.reduceEq, Int.reduceLT, Int.reduceLE, Int.reduceNeg, Int.reduceToNat, Int.reduceGT, Int.reduceGE, Nat.reduceLT, Nat.lt_add_one, Nat.zero_lt_succ, Nat.succ_pos, Nat.zero_le, beq_self_eq_true]
theorem Feed_ok {v x : V} {h : Heap} (hv : Nobody h v) : Cf F L i___gatepost_head_Reader__Feed [v, x] h (Pu h (.tup [.int .i64 0, .bool false, .int .i64 1])) := by
  refine run___gatepost_head_Reader__Feed ?_
  simp only [p___gatepost_head_Reader__Feed]
  
  refine Cf.pu (none_ok hv) fun u => ?_
  simp (maxSteps := 4000000) only [vm, vl, Arg.get, cells, stor, boundO, resultsV, resV, partK, loadV, Vm.part, fillC, splice, reduceIte, reduceCtorEq, Nat.reduceEqDiff, Nat.reduceAdd, Nat.reduceSub, Nat.reduceMul, Nat.reduceLeDiff, ne_eq, not_false_eq_true, Int.reduceEq, Int.reduceLT, Int.reduceLE, Int.reduceNeg, Int.reduceToNat, Int.reduceGT, Int.reduceGE, Nat.reduceLT, Nat.lt_add_one, Nat.zero_lt_succ, Nat.succ_pos, Nat.zero_le, beq_self_eq_true]
theorem Request_ok {v : V} {h : Heap} (hv : Nobody h v) : Cf F L i___gatepost_head_Reader__Request [v] h (Pu h (.tup [.agg [.str [], .str [], .int .i64 0, .nsl], .int .i64 1])) := by
  refine run___gatepost_head_Reader__Request ?_
  simp only [p___gatepost_head_Reader__Request]
  
  simp (maxSteps := 4000000) only [vm, vl, Arg.get, cells, stor, boundO, resultsV, resV, partK, loadV, Vm.part, fillC, splice, reduceIte, reduceCtorEq, Nat.reduceEqDiff, Nat.reduceAdd, Nat.reduceSub, Nat.reduceMul, Nat.reduceLeDiff, ne_eq, not_false_eq_true, Int.reduceEq, Int.reduceLT, Int.reduceLE, Int.reduceNeg, Int.reduceToNat, Int.reduceGT, Int.reduceGE, Nat.reduceLT, Nat.lt_add_one, Nat.zero_lt_succ, Nat.succ_pos, Nat.zero_le, beq_self_eq_true]
  refine Cf.pu (whole_ok hv.more) fun u => ?_
  simp (maxSteps := 4000000) only [vm, vl, Arg.get, cells, stor, boundO, resultsV, resV, partK, loadV, Vm.part, fillC, splice, reduceIte, reduceCtorEq, Nat.reduceEqDiff, Nat.reduceAdd, Nat.reduceSub, Nat.reduceMul, Nat.reduceLeDiff, ne_eq, not_false_eq_true, Int.reduceEq, Int.reduceLT, Int.reduceLE, Int.reduceNeg, Int.reduceToNat, Int.reduceGT, Int.reduceGE, Nat.reduceLT, Nat.lt_add_one, Nat.zero_lt_succ, Nat.succ_pos, Nat.zero_le, beq_self_eq_true, decide_false, Bool.not_false]
theorem Response_ok {v : V} {h : Heap} (hv : Nobody h v) : Cf F L i___gatepost_head_Reader__Response [v] h (Pu h (.tup [.agg [.int .i64 0, .int .i64 0, .str [], .nsl], .int .i64 1])) := by
  refine run___gatepost_head_Reader__Response ?_
  simp only [p___gatepost_head_Reader__Response]
  
  simp (maxSteps := 4000000) only [vm, vl, Arg.get, cells, stor, boundO, resultsV, resV, partK, loadV, Vm.part, fillC, splice, reduceIte, reduceCtorEq, Nat.reduceEqDiff, Nat.reduceAdd, Nat.reduceSub, Nat.reduceMul, Nat.reduceLeDiff, ne_eq, not_false_eq_true, Int.reduceEq, Int.reduceLT, Int.reduceLE, Int.reduceNeg, Int.reduceToNat, Int.reduceGT, Int.reduceGE, Nat.reduceLT, Nat.lt_add_one, Nat.zero_lt_succ, Nat.succ_pos, Nat.zero_le, beq_self_eq_true]
  refine Cf.pu (whole_ok hv.more) fun u => ?_
  simp (maxSteps := 4000000) only [vm, vl, Arg.get, cells, stor, boundO, resultsV, resV, partK, loadV, Vm.part, fillC, splice, reduceIte, reduceCtorEq, Nat.reduceEqDiff, Nat.reduceAdd, Nat.reduceSub, Nat.reduceMul, Nat.reduceLeDiff, ne_eq, not_false_eq_true, Int.reduceEq, Int.reduceLT, Int.reduceLE, Int.reduceNeg, Int.reduceToNat, Int.reduceGT, Int.reduceGE, Nat.reduceLT, Nat.lt_add_one, Nat.zero_lt_succ, Nat.succ_pos, Nat.zero_le, beq_self_eq_true, decide_false, Bool.not_false]
theorem HeadNobody_ok {x : V} : Cf F L i_gatepostlaw05_HeadNobody [x] h (fun v _ => v = .bool true) := by
  refine run_gatepostlaw05_HeadNobody ?_
  simp only [p_gatepostlaw05_HeadNobody]
  
  obtain ⟨cs, hcs⟩ : ∃ cs : List V, cs = [.bool false, .bool false, .bool false, .int .i64 0, .int .i64 0, .nsl, .str [], .str [], .int .i64 0, .nsl, .int .i64 0, .int .i64 0, .str [], .nsl, .nsl] := ⟨_, rfl⟩
  simp (maxSteps := 4000000) only [vm, vl, Arg.get, cells, stor, boundO, resultsV, resV, partK, loadV, Vm.part, fillC, splice, reduceIte, reduceCtorEq, Nat.reduceEqDiff, Nat.reduceAdd, Nat.reduceSub, Nat.reduceMul, Nat.reduceLeDiff, ne_eq, not_false_eq_true, Int.reduceEq, Int.reduceLT, Int.reduceLE, Int.reduceNeg, Int.reduceToNat, Int.reduceGT, Int.reduceGE, Nat.reduceLT, Nat.lt_add_one, Nat.zero_lt_succ, Nat.succ_pos, Nat.zero_le, beq_self_eq_true, List.all_cons, List.all_nil, List.map_cons, List.map_nil, Bool.and_true, Bool.and_self, List.length_cons, List.length_nil, decide_true]
  rw [← hcs]
  refine l_gatepostlaw05_HeadNobody_0 (fun n e h' => ∃ j : Nat, n = 2 - j ∧ j ≤ 2 ∧ e 0 = x ∧ e 14 = .sl 1 .full [.nilp, .ptr h.length 0] ∧ e 15 = .int .i64 2 ∧ e 16 = .int .i64 j ∧ ∃ t, h' = h ++ (O.box (.nfn :: cs) :: t)) ?_ (n := 2) ⟨0, by simp, by simp, rfl, rfl, rfl, rfl, [], rfl⟩
  rintro n e h' ⟨j, rfl, hj, e0, e14, e15, e16, t, rfl⟩
  simp only [b_gatepostlaw05_HeadNobody_0]
  have N1 : Nobody (h ++ (O.box (.nfn :: cs) :: t)) (.ptr h.length 0) := .inr ⟨_, cs, rfl, by simp⟩
  have N0 : ∀ hh, Nobody hh .nilp := fun hh => .inl rfl
  have M1 : ∀ u, Nobody (h ++ (O.box (.nfn :: cs) :: u)) (.ptr h.length 0) := fun u => .inr ⟨_, cs, rfl, by simp⟩
  have hjj : j = 0 ∨ j = 1 ∨ j = 2 := by omega
  rcases hjj with rfl | rfl | rfl
  · have w : IntKind.i64.wrap ((0 : Int) + 1) = 1 := rfl
    simp (maxSteps := 4000000) only [vm, vl, Arg.get, cells, stor, boundO, resultsV, resV, partK, loadV, Vm.part, fillC, splice, reduceIte, reduceCtorEq, Nat.reduceEqDiff, Nat.reduceAdd, Nat.reduceSub, Nat.reduceMul, Nat.reduceLeDiff, ne_eq, not_false_eq_true, Int.reduceEq, Int.reduceLT, Int.reduceLE, Int.reduceNeg, Int.reduceToNat, Int.reduceGT, Int.reduceGE, Nat.reduceLT, Nat.lt_add_one, Nat.zero_lt_succ, Nat.succ_pos, Nat.zero_le, beq_self_eq_true, e0, e14, e15, e16, decide_true, k_gatepostlaw05_HeadNobody_1, List.length_cons, List.length_nil, List.getD_cons_zero, List.getD_cons_succ]
    refine Cf.pu (Feed_ok (N0 _)) fun u1 => ?_
    simp (maxSteps := 4000000) only [vm, vl, Arg.get, cells, stor, boundO, resultsV, resV, partK, loadV, Vm.part, fillC, splice, reduceIte, reduceCtorEq, Nat.reduceEqDiff, Nat.reduceAdd, Nat.reduceSub, Nat.reduceMul, Nat.reduceLeDiff, ne_eq, not_false_eq_true, Int.reduceEq, Int.reduceLT, Int.reduceLE, Int.reduceNeg, Int.reduceToNat, Int.reduceGT, Int.reduceGE, Nat.reduceLT, Nat.lt_add_one, Nat.zero_lt_succ, Nat.succ_pos, Nat.zero_le, beq_self_eq_true]
    refine Cf.pu (Request_ok (N0 _)) fun u2 => ?_
    simp (maxSteps := 4000000) only [vm, vl, Arg.get, cells, stor, boundO, resultsV, resV, partK, loadV, Vm.part, fillC, splice, reduceIte, reduceCtorEq, Nat.reduceEqDiff, Nat.reduceAdd, Nat.reduceSub, Nat.reduceMul, Nat.reduceLeDiff, ne_eq, not_false_eq_true, Int.reduceEq, Int.reduceLT, Int.reduceLE, Int.reduceNeg, Int.reduceToNat, Int.reduceGT, Int.reduceGE, Nat.reduceLT, Nat.lt_add_one, Nat.zero_lt_succ, Nat.succ_pos, Nat.zero_le, beq_self_eq_true]
    refine Cf.pu (Response_ok (N0 _)) fun u3 => ?_
    simp (maxSteps := 4000000) only [vm, vl, Arg.get, cells, stor, boundO, resultsV, resV, partK, loadV, Vm.part, fillC, splice, reduceIte, reduceCtorEq, Nat.reduceEqDiff, Nat.reduceAdd, Nat.reduceSub, Nat.reduceMul, Nat.reduceLeDiff, ne_eq, not_false_eq_true, Int.reduceEq, Int.reduceLT, Int.reduceLE, Int.reduceNeg, Int.reduceToNat, Int.reduceGT, Int.reduceGE, Nat.reduceLT, Nat.lt_add_one, Nat.zero_lt_succ, Nat.succ_pos, Nat.zero_le, beq_self_eq_true, k_gatepostlaw05_HeadNobody_2, decide_true, decide_false, Bool.not_true, w]
    exact ⟨2 - 1, by omega, 1, rfl, by omega, e0, e14, e15, rfl, _, rfl⟩
  · have w : IntKind.i64.wrap ((1 : Int) + 1) = 2 := rfl
    simp (maxSteps := 4000000) only [vm, vl, Arg.get, cells, stor, boundO, resultsV, resV, partK, loadV, Vm.part, fillC, splice, reduceIte, reduceCtorEq, Nat.reduceEqDiff, Nat.reduceAdd, Nat.reduceSub, Nat.reduceMul, Nat.reduceLeDiff, ne_eq, not_false_eq_true, Int.reduceEq, Int.reduceLT, Int.reduceLE, Int.reduceNeg, Int.reduceToNat, Int.reduceGT, Int.reduceGE, Nat.reduceLT, Nat.lt_add_one, Nat.zero_lt_succ, Nat.succ_pos, Nat.zero_le, beq_self_eq_true, e0, e14, e15, e16, decide_true, k_gatepostlaw05_HeadNobody_1, List.length_cons, List.length_nil, List.getD_cons_zero, List.getD_cons_succ]
    refine Cf.pu (Feed_ok (M1 _)) fun u1 => ?_
    simp (maxSteps := 4000000) only [vm, vl, Arg.get, cells, stor, boundO, resultsV, resV, partK, loadV, Vm.part, fillC, splice, reduceIte, reduceCtorEq, Nat.reduceEqDiff, Nat.reduceAdd, Nat.reduceSub, Nat.reduceMul, Nat.reduceLeDiff, ne_eq, not_false_eq_true, Int.reduceEq, Int.reduceLT, Int.reduceLE, Int.reduceNeg, Int.reduceToNat, Int.reduceGT, Int.reduceGE, Nat.reduceLT, Nat.lt_add_one, Nat.zero_lt_succ, Nat.succ_pos, Nat.zero_le, beq_self_eq_true]
    refine Cf.pu (Request_ok (M1 _)) fun u2 => ?_
    simp (maxSteps := 4000000) only [vm, vl, Arg.get, cells, stor, boundO, resultsV, resV, partK, loadV, Vm.part, fillC, splice, reduceIte, reduceCtorEq, Nat.reduceEqDiff, Nat.reduceAdd, Nat.reduceSub, Nat.reduceMul, Nat.reduceLeDiff, ne_eq, not_false_eq_true, Int.reduceEq, Int.reduceLT, Int.reduceLE, Int.reduceNeg, Int.reduceToNat, Int.reduceGT, Int.reduceGE, Nat.reduceLT, Nat.lt_add_one, Nat.zero_lt_succ, Nat.succ_pos, Nat.zero_le, beq_self_eq_true]
    refine Cf.pu (Response_ok (M1 _)) fun u3 => ?_
    simp (maxSteps := 4000000) only [vm, vl, Arg.get, cells, stor, boundO, resultsV, resV, partK, loadV, Vm.part, fillC, splice, reduceIte, reduceCtorEq, Nat.reduceEqDiff, Nat.reduceAdd, Nat.reduceSub, Nat.reduceMul, Nat.reduceLeDiff, ne_eq, not_false_eq_true, Int.reduceEq, Int.reduceLT, Int.reduceLE, Int.reduceNeg, Int.reduceToNat, Int.reduceGT, Int.reduceGE, Nat.reduceLT, Nat.lt_add_one, Nat.zero_lt_succ, Nat.succ_pos, Nat.zero_le, beq_self_eq_true, k_gatepostlaw05_HeadNobody_2, decide_true, decide_false, Bool.not_true, w]
    exact ⟨2 - 2, by omega, 2, rfl, by omega, e0, e14, e15, rfl, _, rfl⟩
  · simp (maxSteps := 4000000) only [vm, vl, Arg.get, cells, stor, boundO, resultsV, resV, partK, loadV, Vm.part, fillC, splice, reduceIte, reduceCtorEq, Nat.reduceEqDiff, Nat.reduceAdd, Nat.reduceSub, Nat.reduceMul, Nat.reduceLeDiff, ne_eq, not_false_eq_true, Int.reduceEq, Int.reduceLT, Int.reduceLE, Int.reduceNeg, Int.reduceToNat, Int.reduceGT, Int.reduceGE, Nat.reduceLT, Nat.lt_add_one, Nat.zero_lt_succ, Nat.succ_pos, Nat.zero_le, beq_self_eq_true, e0, e14, e15, e16, decide_false, k_gatepostlaw05_HeadNobody_0]
theorem HeadNobody_row {x0 : V} (v0 : VPar [.sl [.i .u8]] x0) (w : World) (vs : List Value) (hv : Rvs w.heap.size G0 w [x0] vs) :
    Calls Tryd.prog i_gatepostlaw05_HeadNobody vs.toArray w fun e w' => e = .returned (.bool true) ∧ RowKit.Below w.heap.size w w' :=
  calls_at hm hF (L := fun _ _ _ => False) (fun _ _ _ h => h.elim) HeadNobody_ok hv
end Go.Proofs.YtnfcjeajbjcppaaDoor.Vh
