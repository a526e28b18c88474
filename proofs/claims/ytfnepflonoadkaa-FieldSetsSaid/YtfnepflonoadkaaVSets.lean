/- FieldSets on the small machine. -/
import Derived.Test.YtfnepflonoadkaaVFew
import Derived.Test.YtfnepflonoadkaaVJoin
set_option linter.unusedVariables false
set_option linter.unusedSimpArgs false
namespace Go.Proofs.Ytfnepflonoadkaa.Vh
open Go.Vm Go.Vt
attribute [local congr] wi_congr wg_congr wgd_congr wb_congr wl_congr cf_congr
variable {L : FuncId → List V → V → Prop} {h : Heap}
def without (l : List Fld) (name : Bs) : List Fld := l.filter (stays [name])
theorem stays_one (name : Bs) (f : Fld) : stays [name] f = !(low name == low f.1) := by simp [stays]
theorem vals_without_same {l : List Fld} {name other : Bs} (h : low name = low other) : valsOf (without l name) other = [] := by
  unfold valsOf without
  rw [List.filter_filter]
  rw [List.filter_eq_nil_iff.2 ?_]; rfl
  intro f _
  rw [stays_one, h]
  by_cases hf : low f.1 = low other
  · simp [hf]
  · simp [hf]
theorem vals_without_other {l : List Fld} {name other : Bs} (h : low name ≠ low other) : valsOf (without l name) other = valsOf l other := by
  unfold valsOf without
  rw [List.filter_filter]
  congr 1
  apply List.filter_congr
  intro f _
  rw [stays_one]
  by_cases hf : low f.1 = low other
  · simp [hf, h]
  · simp [hf]
theorem vals_app (l m : List Fld) (name : Bs) : valsOf (l ++ m) name = valsOf l name ++ valsOf m name := by simp [valsOf]
theorem without_app (l m : List Fld) (name : Bs) : without (l ++ m) name = without l name ++ without m name := by simp [without]
theorem without_twice (l : List Fld) (name : Bs) : without (without l name) name = without l name := by simp [without, List.filter_filter]
theorem vals_one_same {name other v : Bs} (h : low name = low other) : valsOf [(name, v)] other = [v] := by simp [valsOf, h]
theorem vals_one_other {name other v : Bs} (h : low name ≠ low other) : valsOf [(name, v)] other = [] := by simp [valsOf, h]
theorem without_one (name v : Bs) : without [(name, v)] name = [] := by simp [without, stays]
theorem join_len : ∀ l : List Bs, (joinS l).length ≤ (l.map List.length).sum + 2 * l.length
  | [] => by simp [joinS]
  | [a] => by simp [joinS]
  | a :: b :: r => by
    have := join_len (b :: r)
    have e : joinS (a :: b :: r) = a ++ ([44, 32] ++ joinS (b :: r)) := by simp [joinS, List.intercalate]
    rw [e]
    simp only [List.length_append, List.length_cons, List.length_nil, List.map_cons, List.sum_cons] at this ⊢
    omega
theorem vals_sum (l : List Fld) (name : Bs) : ((valsOf l name).map List.length).sum ≤ sumF l := by
  induction l with
  | nil => simp [valsOf, sumF]
  | cons f r ih =>
    unfold valsOf sumF at *
    rw [List.filter_cons]
    split <;> simp only [List.map_cons, List.sum_cons] at * <;> omega
theorem vals_join (l : List Fld) (name : Bs) : (joinS (valsOf l name)).length ≤ sumF l + 2 * l.length := by
  have h1 := join_len (valsOf l name)
  have h2 := vals_sum l name
  have h3 := vals_len l name
  omega
theorem join_one (v : Bs) : joinS [v] = v := by simp [joinS]
theorem join_none : joinS [] = [] := rfl
theorem sum_without (l : List Fld) (name : Bs) : sumF (without l name) ≤ sumF l := by
  induction l with
  | nil => simp [without, sumF]
  | cons f r ih =>
    unfold without sumF at *
    rw [List.filter_cons]
    split <;> simp only [List.map_cons, List.sum_cons] at * <;> omega
theorem without_len (l : List Fld) (name : Bs) : (without l name).length ≤ l.length := List.length_filter_le _ _
theorem FieldSets_ok (HJ : JoinOk L) {x : V} {l : List Fld} {name other : Bs} (hx : ListV 2 x (flds l)) (hl : l.length ≤ 140737488351232) (hz : ∀ f ∈ l, f.1.length ≤ 140737488351232 ∧ f.2.length ≤ 140737488351232)
    (hn : name.length ≤ 140737488351232) (ho : other.length ≤ 140737488351232) : Cf F L i_gatepostlaw04_FieldSets [x, .str name, .str other] h (fun v _ => v = .bool true) := by
  refine run_gatepostlaw04_FieldSets ?_
  simp only [p_gatepostlaw04_FieldSets]
  try simp (maxSteps := 4000000) only [vm, vl, Arg.get, cells, stor, boundO, resultsV, resV, partK, loadV, Vm.part, fillC, splice, reduceIte, reduceCtorEq, Nat.reduceEqDiff, Nat.reduceAdd, Nat.reduceSub, Nat.reduceMul, Nat.reduceLeDiff, ne_eq, not_false_eq_true, Int.reduceEq, Int.reduceLT, Int.reduceLE, Int.reduceNeg, Int.reduceToNat, Int.reduceGT, Int.reduceGE, Nat.reduceLT, Nat.lt_add_one, Nat.zero_lt_succ, Nat.succ_pos, Nat.zero_le, beq_self_eq_true, k_gatepostlaw04_FieldSets_2, k_gatepostlaw04_FieldSets_1, k_gatepostlaw04_FieldSets_0]
  refine Cf.pu (few_ok hx hl hz) fun t => ?_
  by_cases hf : l.length + sumF l < 4000
  · by_cases hs : ((name.length : Int) + other.length) > 2000
    · have w := wrap64 (x := (name.length : Int) + other.length) (by omega) (by omega)
      simp (maxSteps := 4000000) only [vm, vl, Arg.get, cells, stor, boundO, resultsV, resV, partK, loadV, Vm.part, fillC, splice, reduceIte, reduceCtorEq, Nat.reduceEqDiff, Nat.reduceAdd, Nat.reduceSub, Nat.reduceMul, Nat.reduceLeDiff, ne_eq, not_false_eq_true, Int.reduceEq, Int.reduceLT, Int.reduceLE, Int.reduceNeg, Int.reduceToNat, Int.reduceGT, Int.reduceGE, Nat.reduceLT, Nat.lt_add_one, Nat.zero_lt_succ, Nat.succ_pos, Nat.zero_le, beq_self_eq_true, k_gatepostlaw04_FieldSets_2, k_gatepostlaw04_FieldSets_1, k_gatepostlaw04_FieldSets_0, hf, hs, w, decide_true, decide_false, Bool.not_true]
    · have w := wrap64 (x := (name.length : Int) + other.length) (by omega) (by omega)
      simp (maxSteps := 4000000) only [vm, vl, Arg.get, cells, stor, boundO, resultsV, resV, partK, loadV, Vm.part, fillC, splice, reduceIte, reduceCtorEq, Nat.reduceEqDiff, Nat.reduceAdd, Nat.reduceSub, Nat.reduceMul, Nat.reduceLeDiff, ne_eq, not_false_eq_true, Int.reduceEq, Int.reduceLT, Int.reduceLE, Int.reduceNeg, Int.reduceToNat, Int.reduceGT, Int.reduceGE, Nat.reduceLT, Nat.lt_add_one, Nat.zero_lt_succ, Nat.succ_pos, Nat.zero_le, beq_self_eq_true, k_gatepostlaw04_FieldSets_2, k_gatepostlaw04_FieldSets_1, k_gatepostlaw04_FieldSets_0, hf, hs, w, decide_true, decide_false, Bool.not_true]
      have hm : ∀ f ∈ l, f.1.length ≤ 140737488355328 := fun f hh => by have := (hz f hh).1; omega
      refine (Set_ok hx (by omega) hm (by omega)).mono fun y h1 G => ?_
      have hmw : ∀ f ∈ without l name, f.1.length ≤ 140737488355328 := fun f hh => hm f (List.mem_filter.1 hh).1
      have hms : ∀ f ∈ without l name ++ [(name, [118])], f.1.length ≤ 140737488355328 := by
        intro f hh
        rcases List.mem_append.1 hh with hh | hh
        · exact hmw f hh
        · simp only [List.mem_singleton] at hh; subst hh; exact (show name.length ≤ _ by omega)
      have q1 := sum_without l name
      have q2 := without_len l name
      have q3 : sumF (without l name ++ [(name, [118])]) = sumF (without l name) + (name.length + 1) := by simp [sumF]
      have q4 : (without l name ++ [(name, [118])]).length = (without l name).length + 1 := by simp
      have hw : l.filter (stays [name]) = without l name := rfl
      rw [hw] at G
      have G1 := G.list
      have jn : ∀ {m : List Fld} {nm : Bs}, m.length + sumF m ≤ 100000 → (joinS (valsOf m nm)).length ≤ 140737488355328 := by
        intro m nm hh; have := vals_join m nm; omega
      try simp (maxSteps := 4000000) only [vm, vl, Arg.get, cells, stor, boundO, resultsV, resV, partK, loadV, Vm.part, fillC, splice, reduceIte, reduceCtorEq, Nat.reduceEqDiff, Nat.reduceAdd, Nat.reduceSub, Nat.reduceMul, Nat.reduceLeDiff, ne_eq, not_false_eq_true, Int.reduceEq, Int.reduceLT, Int.reduceLE, Int.reduceNeg, Int.reduceToNat, Int.reduceGT, Int.reduceGE, Nat.reduceLT, Nat.lt_add_one, Nat.zero_lt_succ, Nat.succ_pos, Nat.zero_le, beq_self_eq_true, k_gatepostlaw04_FieldSets_2, k_gatepostlaw04_FieldSets_1, k_gatepostlaw04_FieldSets_0]
      refine Cf.pu (Get_ok HJ G1 (by omega) hms (by omega) (jn (by omega))) fun t1 => ?_
      have v1 : getV (without l name ++ [(name, [118])]) name = .tup [.str [118], .int .i64 1] := by
        simp only [getV, vals_app, vals_without_same rfl, vals_one_same rfl, List.nil_append, join_one]; rfl
      rw [v1]
      try simp (maxSteps := 4000000) only [vm, vl, Arg.get, cells, stor, boundO, resultsV, resV, partK, loadV, Vm.part, fillC, splice, reduceIte, reduceCtorEq, Nat.reduceEqDiff, Nat.reduceAdd, Nat.reduceSub, Nat.reduceMul, Nat.reduceLeDiff, ne_eq, not_false_eq_true, Int.reduceEq, Int.reduceLT, Int.reduceLE, Int.reduceNeg, Int.reduceToNat, Int.reduceGT, Int.reduceGE, Nat.reduceLT, Nat.lt_add_one, Nat.zero_lt_succ, Nat.succ_pos, Nat.zero_le, beq_self_eq_true, k_gatepostlaw04_FieldSets_2, k_gatepostlaw04_FieldSets_1, k_gatepostlaw04_FieldSets_0]
      refine (Del_ok hx (by omega) hm (by omega)).mono fun z h2 G2 => ?_
      rw [hw] at G2
      have G2 := G2.list
      try simp (maxSteps := 4000000) only [vm, vl, Arg.get, cells, stor, boundO, resultsV, resV, partK, loadV, Vm.part, fillC, splice, reduceIte, reduceCtorEq, Nat.reduceEqDiff, Nat.reduceAdd, Nat.reduceSub, Nat.reduceMul, Nat.reduceLeDiff, ne_eq, not_false_eq_true, Int.reduceEq, Int.reduceLT, Int.reduceLE, Int.reduceNeg, Int.reduceToNat, Int.reduceGT, Int.reduceGE, Nat.reduceLT, Nat.lt_add_one, Nat.zero_lt_succ, Nat.succ_pos, Nat.zero_le, beq_self_eq_true, k_gatepostlaw04_FieldSets_2, k_gatepostlaw04_FieldSets_1, k_gatepostlaw04_FieldSets_0]
      refine Cf.pu (Get_ok HJ G2 (by omega) hmw (by omega) (jn (by omega))) fun t2 => ?_
      have v2 : getV (without l name) name = .tup [.str [], .int .i64 0] := by
        simp only [getV, vals_without_same rfl, join_none]; rfl
      rw [v2]
      try simp (maxSteps := 4000000) only [vm, vl, Arg.get, cells, stor, boundO, resultsV, resV, partK, loadV, Vm.part, fillC, splice, reduceIte, reduceCtorEq, Nat.reduceEqDiff, Nat.reduceAdd, Nat.reduceSub, Nat.reduceMul, Nat.reduceLeDiff, ne_eq, not_false_eq_true, Int.reduceEq, Int.reduceLT, Int.reduceLE, Int.reduceNeg, Int.reduceToNat, Int.reduceGT, Int.reduceGE, Nat.reduceLT, Nat.lt_add_one, Nat.zero_lt_succ, Nat.succ_pos, Nat.zero_le, beq_self_eq_true, k_gatepostlaw04_FieldSets_2, k_gatepostlaw04_FieldSets_1, k_gatepostlaw04_FieldSets_0]
      refine Cf.pu (Same_ok (by omega) (by omega)) fun t3 => ?_
      cases hsm : (low name == low other) with
      | true => simp (maxSteps := 4000000) only [vm, vl, Arg.get, cells, stor, boundO, resultsV, resV, partK, loadV, Vm.part, fillC, splice, reduceIte, reduceCtorEq, Nat.reduceEqDiff, Nat.reduceAdd, Nat.reduceSub, Nat.reduceMul, Nat.reduceLeDiff, ne_eq, not_false_eq_true, Int.reduceEq, Int.reduceLT, Int.reduceLE, Int.reduceNeg, Int.reduceToNat, Int.reduceGT, Int.reduceGE, Nat.reduceLT, Nat.lt_add_one, Nat.zero_lt_succ, Nat.succ_pos, Nat.zero_le, beq_self_eq_true, k_gatepostlaw04_FieldSets_2, k_gatepostlaw04_FieldSets_1, k_gatepostlaw04_FieldSets_0]
      | false =>
        have hne : low name ≠ low other := by intro e; rw [e] at hsm; simp at hsm
        try simp (maxSteps := 4000000) only [vm, vl, Arg.get, cells, stor, boundO, resultsV, resV, partK, loadV, Vm.part, fillC, splice, reduceIte, reduceCtorEq, Nat.reduceEqDiff, Nat.reduceAdd, Nat.reduceSub, Nat.reduceMul, Nat.reduceLeDiff, ne_eq, not_false_eq_true, Int.reduceEq, Int.reduceLT, Int.reduceLE, Int.reduceNeg, Int.reduceToNat, Int.reduceGT, Int.reduceGE, Nat.reduceLT, Nat.lt_add_one, Nat.zero_lt_succ, Nat.succ_pos, Nat.zero_le, beq_self_eq_true, k_gatepostlaw04_FieldSets_2, k_gatepostlaw04_FieldSets_1, k_gatepostlaw04_FieldSets_0]
        have v3 : getV (without l name ++ [(name, [118])]) other = getV l other := by
          simp only [getV, vals_app, vals_without_other hne, vals_one_other hne, List.append_nil]
        have v4 : getV (without l name) other = getV l other := by
          simp only [getV, vals_without_other hne]
        refine Cf.pu (Get_ok HJ G1 (by omega) hms (by omega) (jn (by omega))) fun t4 => ?_
        rw [v3]
        simp only [getV]
        try simp (maxSteps := 4000000) only [vm, vl, Arg.get, cells, stor, boundO, resultsV, resV, partK, loadV, Vm.part, fillC, splice, reduceIte, reduceCtorEq, Nat.reduceEqDiff, Nat.reduceAdd, Nat.reduceSub, Nat.reduceMul, Nat.reduceLeDiff, ne_eq, not_false_eq_true, Int.reduceEq, Int.reduceLT, Int.reduceLE, Int.reduceNeg, Int.reduceToNat, Int.reduceGT, Int.reduceGE, Nat.reduceLT, Nat.lt_add_one, Nat.zero_lt_succ, Nat.succ_pos, Nat.zero_le, beq_self_eq_true, k_gatepostlaw04_FieldSets_2, k_gatepostlaw04_FieldSets_1, k_gatepostlaw04_FieldSets_0]
        refine Cf.pu (Get_ok HJ hx (by omega) hm (by omega) (jn (by omega))) fun t5 => ?_
        simp only [getV]
        try simp (maxSteps := 4000000) only [vm, vl, Arg.get, cells, stor, boundO, resultsV, resV, partK, loadV, Vm.part, fillC, splice, reduceIte, reduceCtorEq, Nat.reduceEqDiff, Nat.reduceAdd, Nat.reduceSub, Nat.reduceMul, Nat.reduceLeDiff, ne_eq, not_false_eq_true, Int.reduceEq, Int.reduceLT, Int.reduceLE, Int.reduceNeg, Int.reduceToNat, Int.reduceGT, Int.reduceGE, Nat.reduceLT, Nat.lt_add_one, Nat.zero_lt_succ, Nat.succ_pos, Nat.zero_le, beq_self_eq_true, k_gatepostlaw04_FieldSets_2, k_gatepostlaw04_FieldSets_1, k_gatepostlaw04_FieldSets_0]
        refine (Del_ok hx (by omega) hm (by omega)).mono fun z3 h3 G3 => ?_
        rw [hw] at G3
        have G3 := G3.list
        try simp (maxSteps := 4000000) only [vm, vl, Arg.get, cells, stor, boundO, resultsV, resV, partK, loadV, Vm.part, fillC, splice, reduceIte, reduceCtorEq, Nat.reduceEqDiff, Nat.reduceAdd, Nat.reduceSub, Nat.reduceMul, Nat.reduceLeDiff, ne_eq, not_false_eq_true, Int.reduceEq, Int.reduceLT, Int.reduceLE, Int.reduceNeg, Int.reduceToNat, Int.reduceGT, Int.reduceGE, Nat.reduceLT, Nat.lt_add_one, Nat.zero_lt_succ, Nat.succ_pos, Nat.zero_le, beq_self_eq_true, k_gatepostlaw04_FieldSets_2, k_gatepostlaw04_FieldSets_1, k_gatepostlaw04_FieldSets_0]
        refine Cf.pu (Get_ok HJ G3 (by omega) hmw (by omega) (jn (by omega))) fun t6 => ?_
        rw [v4]
        simp only [getV]
        try simp (maxSteps := 4000000) only [vm, vl, Arg.get, cells, stor, boundO, resultsV, resV, partK, loadV, Vm.part, fillC, splice, reduceIte, reduceCtorEq, Nat.reduceEqDiff, Nat.reduceAdd, Nat.reduceSub, Nat.reduceMul, Nat.reduceLeDiff, ne_eq, not_false_eq_true, Int.reduceEq, Int.reduceLT, Int.reduceLE, Int.reduceNeg, Int.reduceToNat, Int.reduceGT, Int.reduceGE, Nat.reduceLT, Nat.lt_add_one, Nat.zero_lt_succ, Nat.succ_pos, Nat.zero_le, beq_self_eq_true, k_gatepostlaw04_FieldSets_2, k_gatepostlaw04_FieldSets_1, k_gatepostlaw04_FieldSets_0]
        refine (Del_ok G1 (by omega) hms (by omega)).mono fun z4 h4 G4 => ?_
        have e4 : (without l name ++ [(name, [118])]).filter (stays [name]) = without l name := by
          show without (without l name ++ [(name, [118])]) name = _
          rw [without_app, without_twice, without_one, List.append_nil]
        rw [e4] at G4
        have G4 := G4.list
        try simp (maxSteps := 4000000) only [vm, vl, Arg.get, cells, stor, boundO, resultsV, resV, partK, loadV, Vm.part, fillC, splice, reduceIte, reduceCtorEq, Nat.reduceEqDiff, Nat.reduceAdd, Nat.reduceSub, Nat.reduceMul, Nat.reduceLeDiff, ne_eq, not_false_eq_true, Int.reduceEq, Int.reduceLT, Int.reduceLE, Int.reduceNeg, Int.reduceToNat, Int.reduceGT, Int.reduceGE, Nat.reduceLT, Nat.lt_add_one, Nat.zero_lt_succ, Nat.succ_pos, Nat.zero_le, beq_self_eq_true, k_gatepostlaw04_FieldSets_2, k_gatepostlaw04_FieldSets_1, k_gatepostlaw04_FieldSets_0]
        refine (Del_ok hx (by omega) hm (by omega)).mono fun z5 h5 G5 => ?_
        rw [hw] at G5
        have G5 := G5.list
        try simp (maxSteps := 4000000) only [vm, vl, Arg.get, cells, stor, boundO, resultsV, resV, partK, loadV, Vm.part, fillC, splice, reduceIte, reduceCtorEq, Nat.reduceEqDiff, Nat.reduceAdd, Nat.reduceSub, Nat.reduceMul, Nat.reduceLeDiff, ne_eq, not_false_eq_true, Int.reduceEq, Int.reduceLT, Int.reduceLE, Int.reduceNeg, Int.reduceToNat, Int.reduceGT, Int.reduceGE, Nat.reduceLT, Nat.lt_add_one, Nat.zero_lt_succ, Nat.succ_pos, Nat.zero_le, beq_self_eq_true, k_gatepostlaw04_FieldSets_2, k_gatepostlaw04_FieldSets_1, k_gatepostlaw04_FieldSets_0]
        refine Cf.pu (rSame_ok G4 G5 (by omega) (by omega)) fun t7 => ?_
        simp (maxSteps := 4000000) only [vm, vl, Arg.get, cells, stor, boundO, resultsV, resV, partK, loadV, Vm.part, fillC, splice, reduceIte, reduceCtorEq, Nat.reduceEqDiff, Nat.reduceAdd, Nat.reduceSub, Nat.reduceMul, Nat.reduceLeDiff, ne_eq, not_false_eq_true, Int.reduceEq, Int.reduceLT, Int.reduceLE, Int.reduceNeg, Int.reduceToNat, Int.reduceGT, Int.reduceGE, Nat.reduceLT, Nat.lt_add_one, Nat.zero_lt_succ, Nat.succ_pos, Nat.zero_le, beq_self_eq_true, k_gatepostlaw04_FieldSets_2, k_gatepostlaw04_FieldSets_1, k_gatepostlaw04_FieldSets_0, decide_true]
  · simp (maxSteps := 4000000) only [vm, vl, Arg.get, cells, stor, boundO, resultsV, resV, partK, loadV, Vm.part, fillC, splice, reduceIte, reduceCtorEq, Nat.reduceEqDiff, Nat.reduceAdd, Nat.reduceSub, Nat.reduceMul, Nat.reduceLeDiff, ne_eq, not_false_eq_true, Int.reduceEq, Int.reduceLT, Int.reduceLE, Int.reduceNeg, Int.reduceToNat, Int.reduceGT, Int.reduceGE, Nat.reduceLT, Nat.lt_add_one, Nat.zero_lt_succ, Nat.succ_pos, Nat.zero_le, beq_self_eq_true, k_gatepostlaw04_FieldSets_2, k_gatepostlaw04_FieldSets_1, k_gatepostlaw04_FieldSets_0, hf, decide_true, decide_false, Bool.not_false]
theorem FieldSets_row {x0 x1 x2 : V} (v0 : VPar [.sl [.s, .s]] x0) (v1 : VPar [.l .s] x1) (v2 : VPar [.l .s] x2) (w : World) (vs : List Value) (hv : Rvs w.heap.size G0 w [x0, x1, x2] vs) :
    Calls Try.prog i_gatepostlaw04_FieldSets vs.toArray w fun e w' => e = .returned (.bool true) ∧ RowKit.Below w.heap.size w w' := by
  obtain ⟨l, h1, h2, h3⟩ := fields_par v0
  obtain ⟨s, rfl, hs⟩ := v1
  obtain ⟨t, rfl, ht⟩ := v2
  exact calls_at hm hF (join_at w) (FieldSets_ok (joinOk fun _ _ _ h => h) h1 h2 h3 hs ht) hv
end Go.Proofs.Ytfnepflonoadkaa.Vh
