/- FieldBack on the small machine. -/
import Derived.Test.YtfnepflonoadkaaDoorVParses
set_option linter.unusedVariables false
set_option linter.unusedSimpArgs false
namespace Go.Proofs.YtfnepflonoadkaaDoor.Vh
open Go.Vm Go.Vt
attribute [local congr] wi_congr wg_congr wgd_congr wb_congr wl_congr cf_congr
variable {L : FuncId → List V → V → Prop} {h : Heap}
theorem tok_no58 {s : Bs} (h : isTok s = true) : ∀ j, j < s.length → s.getD j 0 ≠ 58 := by
  intro j hj e
  simp only [isTok, Bool.and_eq_true, List.all_eq_true] at h
  have hm : s.getD j 0 ∈ s := by rw [List.getD_eq_getElem?_getD, List.getElem?_eq_getElem hj]; exact List.getElem_mem _
  have := h.2 _ hm
  rw [e] at this
  revert this; decide
theorem getD_left {s t : Bs} {j : Nat} (hj : j < s.length) : (s ++ t).getD j 0 = s.getD j 0 := by
  rw [List.getD_eq_getElem?_getD, List.getD_eq_getElem?_getD, List.getElem?_append_left hj]
theorem trim_blank {c : UInt8} {s : Bs} (hc : blankB c = true) : trim (c :: s) = trim s := by
  rw [← trim_comm, ← trim_comm, trimL_blank hc]
theorem parse_line {f : Fld} (h : valF f = true) : parseF (f.1 ++ [58, 32] ++ f.2) = some f := by
  have hv := h
  simp only [valF, Bool.and_eq_true] at h
  obtain ⟨h1, h2⟩ := h
  have e : pos 58 (f.1 ++ [58, 32] ++ f.2) = f.1.length := by
    refine pos_at (by simp) (fun j hj => ?_) ?_
    · rw [List.append_assoc, getD_left hj]
      exact tok_no58 h1 j hj
    · rw [List.append_assoc, List.getD_eq_getElem?_getD, List.getElem?_append_right (Nat.le_refl _), Nat.sub_self]; rfl
  have e1 : (f.1 ++ [58, 32] ++ f.2).take f.1.length = f.1 := by rw [List.append_assoc]; exact List.take_left ..
  have e2 : (f.1 ++ [58, 32] ++ f.2).drop (f.1.length + 1) = 32 :: f.2 := by
    rw [List.append_assoc, ← List.drop_drop, List.drop_left]; rfl
  have e3 : trim (32 :: f.2) = f.2 := by
    rw [trim_blank (by decide)]
    simp only [isVal, Bool.and_eq_true, decide_eq_true_eq] at h2
    exact h2.1
  unfold parseF
  rw [e, e1, e2, e3, if_pos ⟨by simp, hv⟩]
theorem parse_line' {f : Fld} (h : valF f = true) : parseF (f.1 ++ 58 :: 32 :: f.2) = some f := by
  have := parse_line h
  simpa using this
theorem parse_len {s : Bs} {g : Fld} (h : parseF s = some g) : g.1.length + g.2.length ≤ 2 * s.length ∧ valF g = true := by
  unfold parseF at h
  split at h
  · rename_i hh
    simp only [Option.some.injEq] at h
    subst h
    refine ⟨?_, hh.2⟩
    have ht := trim_length (s.drop (pos 58 s + 1))
    rw [List.length_drop] at ht
    show (s.take (pos 58 s)).length + (trim (s.drop (pos 58 s + 1))).length ≤ _
    rw [List.length_take]; omega
  · cases h
theorem back2_ok (HI : IndexOk L) {s : Bs} (hs : s.length ≤ 2000) : k_gatepostlaw04_FieldBack_2 L (fun v _ => v = .bool true) (.str s) h := by
  
  simp (maxSteps := 4000000) only [vm, vl, Arg.get, cells, stor, boundO, resultsV, resV, partK, loadV, Vm.part, fillC, splice, reduceIte, reduceCtorEq, Nat.reduceEqDiff, Nat.reduceAdd, Nat.reduceSub, Nat.reduceMul, Nat.reduceLeDiff, ne_eq, not_false_eq_true, Int.reduceEq, Int.reduceLT, Int.reduceLE, Int.reduceNeg, Int.reduceToNat, Int.reduceGT, Int.reduceGE, Nat.reduceLT, Nat.lt_add_one, Nat.zero_lt_succ, Nat.succ_pos, Nat.zero_le, beq_self_eq_true, k_gatepostlaw04_FieldBack_3, k_gatepostlaw04_FieldBack_2, k_gatepostlaw04_FieldBack_1, k_gatepostlaw04_FieldBack_0]
  refine Cf.pu (Parse_ok HI (by omega)) fun t1 => ?_
  cases q : parseF s with
  | none =>
    simp only [parseV, fldV]
    simp (maxSteps := 4000000) only [vm, vl, Arg.get, cells, stor, boundO, resultsV, resV, partK, loadV, Vm.part, fillC, splice, reduceIte, reduceCtorEq, Nat.reduceEqDiff, Nat.reduceAdd, Nat.reduceSub, Nat.reduceMul, Nat.reduceLeDiff, ne_eq, not_false_eq_true, Int.reduceEq, Int.reduceLT, Int.reduceLE, Int.reduceNeg, Int.reduceToNat, Int.reduceGT, Int.reduceGE, Nat.reduceLT, Nat.lt_add_one, Nat.zero_lt_succ, Nat.succ_pos, Nat.zero_le, beq_self_eq_true, k_gatepostlaw04_FieldBack_3, k_gatepostlaw04_FieldBack_2, k_gatepostlaw04_FieldBack_1, k_gatepostlaw04_FieldBack_0, decide_true]
  | some g =>
    obtain ⟨hg, hv⟩ := parse_len q
    have hl := fun {h : Heap} => Line_ok (L := L) (h := h) (f := g) (by omega)
    simp only [parseV, fldV] at hl ⊢
    simp (maxSteps := 4000000) only [vm, vl, Arg.get, cells, stor, boundO, resultsV, resV, partK, loadV, Vm.part, fillC, splice, reduceIte, reduceCtorEq, Nat.reduceEqDiff, Nat.reduceAdd, Nat.reduceSub, Nat.reduceMul, Nat.reduceLeDiff, ne_eq, not_false_eq_true, Int.reduceEq, Int.reduceLT, Int.reduceLE, Int.reduceNeg, Int.reduceToNat, Int.reduceGT, Int.reduceGE, Nat.reduceLT, Nat.lt_add_one, Nat.zero_lt_succ, Nat.succ_pos, Nat.zero_le, beq_self_eq_true, k_gatepostlaw04_FieldBack_3, k_gatepostlaw04_FieldBack_2, k_gatepostlaw04_FieldBack_1, k_gatepostlaw04_FieldBack_0, decide_true]
    refine Cf.pu hl fun t2 => ?_
    have hq : lineF g = some (g.1 ++ [58, 32] ++ g.2) := by unfold lineF; rw [if_pos hv]
    rw [hq]
    simp only [lineV]
    simp (maxSteps := 4000000) only [vm, vl, Arg.get, cells, stor, boundO, resultsV, resV, partK, loadV, Vm.part, fillC, splice, reduceIte, reduceCtorEq, Nat.reduceEqDiff, Nat.reduceAdd, Nat.reduceSub, Nat.reduceMul, Nat.reduceLeDiff, ne_eq, not_false_eq_true, Int.reduceEq, Int.reduceLT, Int.reduceLE, Int.reduceNeg, Int.reduceToNat, Int.reduceGT, Int.reduceGE, Nat.reduceLT, Nat.lt_add_one, Nat.zero_lt_succ, Nat.succ_pos, Nat.zero_le, beq_self_eq_true, k_gatepostlaw04_FieldBack_3, k_gatepostlaw04_FieldBack_2, k_gatepostlaw04_FieldBack_1, k_gatepostlaw04_FieldBack_0]
    refine Cf.pu (Parse_ok HI (by simp; omega)) fun t3 => ?_
    rw [parse_line' hv]
    simp only [parseV, fldV]
    simp (maxSteps := 4000000) only [vm, vl, Arg.get, cells, stor, boundO, resultsV, resV, partK, loadV, Vm.part, fillC, splice, reduceIte, reduceCtorEq, Nat.reduceEqDiff, Nat.reduceAdd, Nat.reduceSub, Nat.reduceMul, Nat.reduceLeDiff, ne_eq, not_false_eq_true, Int.reduceEq, Int.reduceLT, Int.reduceLE, Int.reduceNeg, Int.reduceToNat, Int.reduceGT, Int.reduceGE, Nat.reduceLT, Nat.lt_add_one, Nat.zero_lt_succ, Nat.succ_pos, Nat.zero_le, beq_self_eq_true, k_gatepostlaw04_FieldBack_3, k_gatepostlaw04_FieldBack_2, k_gatepostlaw04_FieldBack_1, k_gatepostlaw04_FieldBack_0, decide_true]
theorem FieldBack_ok (HI : IndexOk L) {s : Bs} {f : Fld} (h1 : f.1.length ≤ 140737488351232) (h2 : f.2.length ≤ 140737488351232) : Cf F L i_gatepostlaw04_FieldBack [fldV f, .str s] h (fun v _ => v = .bool true) := by
  refine run_gatepostlaw04_FieldBack ?_
  simp only [p_gatepostlaw04_FieldBack]
  
  have hw := fun {h : Heap} => few_one (L := L) (h := h) h1 h2
  simp only [fldV] at hw
  simp (maxSteps := 4000000) only [vm, vl, Arg.get, cells, stor, boundO, resultsV, resV, partK, loadV, Vm.part, fillC, splice, reduceIte, reduceCtorEq, Nat.reduceEqDiff, Nat.reduceAdd, Nat.reduceSub, Nat.reduceMul, Nat.reduceLeDiff, ne_eq, not_false_eq_true, Int.reduceEq, Int.reduceLT, Int.reduceLE, Int.reduceNeg, Int.reduceToNat, Int.reduceGT, Int.reduceGE, Nat.reduceLT, Nat.lt_add_one, Nat.zero_lt_succ, Nat.succ_pos, Nat.zero_le, beq_self_eq_true, fldV]
  refine Cf.pu hw fun t => ?_
  by_cases hf : 1 + (f.1.length + f.2.length) < 4000
  · by_cases hs : (s.length : Int) > 2000
    · simp (maxSteps := 4000000) only [vm, vl, Arg.get, cells, stor, boundO, resultsV, resV, partK, loadV, Vm.part, fillC, splice, reduceIte, reduceCtorEq, Nat.reduceEqDiff, Nat.reduceAdd, Nat.reduceSub, Nat.reduceMul, Nat.reduceLeDiff, ne_eq, not_false_eq_true, Int.reduceEq, Int.reduceLT, Int.reduceLE, Int.reduceNeg, Int.reduceToNat, Int.reduceGT, Int.reduceGE, Nat.reduceLT, Nat.lt_add_one, Nat.zero_lt_succ, Nat.succ_pos, Nat.zero_le, beq_self_eq_true, hf, hs, fldV, decide_true, decide_false, Bool.not_true]
    · simp (maxSteps := 4000000) only [vm, vl, Arg.get, cells, stor, boundO, resultsV, resV, partK, loadV, Vm.part, fillC, splice, reduceIte, reduceCtorEq, Nat.reduceEqDiff, Nat.reduceAdd, Nat.reduceSub, Nat.reduceMul, Nat.reduceLeDiff, ne_eq, not_false_eq_true, Int.reduceEq, Int.reduceLT, Int.reduceLE, Int.reduceNeg, Int.reduceToNat, Int.reduceGT, Int.reduceGE, Nat.reduceLT, Nat.lt_add_one, Nat.zero_lt_succ, Nat.succ_pos, Nat.zero_le, beq_self_eq_true, hf, hs, fldV, decide_true, decide_false, Bool.not_true, k_gatepostlaw04_FieldBack_0]
      have h3 := fun {h : Heap} => Line_ok (L := L) (h := h) (f := ([65, 103, 101], [53])) (by simp)
      have h4 : lineF ([65, 103, 101], [53]) = some [65, 103, 101, 58, 32, 53] := by decide +kernel
      rw [h4] at h3
      simp only [fldV, lineV] at h3
      refine Cf.pu h3 fun t1 => ?_
      have hl := fun {h : Heap} => Line_ok (L := L) (h := h) (f := f) (by omega)
      simp only [fldV] at hl
      simp (maxSteps := 4000000) only [vm, vl, Arg.get, cells, stor, boundO, resultsV, resV, partK, loadV, Vm.part, fillC, splice, reduceIte, reduceCtorEq, Nat.reduceEqDiff, Nat.reduceAdd, Nat.reduceSub, Nat.reduceMul, Nat.reduceLeDiff, ne_eq, not_false_eq_true, Int.reduceEq, Int.reduceLT, Int.reduceLE, Int.reduceNeg, Int.reduceToNat, Int.reduceGT, Int.reduceGE, Nat.reduceLT, Nat.lt_add_one, Nat.zero_lt_succ, Nat.succ_pos, Nat.zero_le, beq_self_eq_true, decide_true, decide_false, Bool.not_true, k_gatepostlaw04_FieldBack_1]
      refine Cf.pu hl fun t2 => ?_
      cases hv : valF f with
      | true =>
        have hq : lineF f = some (f.1 ++ [58, 32] ++ f.2) := by unfold lineF; rw [if_pos hv]
        rw [hq]
        simp only [lineV]
        simp (maxSteps := 4000000) only [vm, vl, Arg.get, cells, stor, boundO, resultsV, resV, partK, loadV, Vm.part, fillC, splice, reduceIte, reduceCtorEq, Nat.reduceEqDiff, Nat.reduceAdd, Nat.reduceSub, Nat.reduceMul, Nat.reduceLeDiff, ne_eq, not_false_eq_true, Int.reduceEq, Int.reduceLT, Int.reduceLE, Int.reduceNeg, Int.reduceToNat, Int.reduceGT, Int.reduceGE, Nat.reduceLT, Nat.lt_add_one, Nat.zero_lt_succ, Nat.succ_pos, Nat.zero_le, beq_self_eq_true, decide_true, decide_false]
        refine Cf.pu (Parse_ok HI (by simp; omega)) fun t3 => ?_
        rw [parse_line' hv]
        simp only [parseV, fldV]
        simp (maxSteps := 4000000) only [vm, vl, Arg.get, cells, stor, boundO, resultsV, resV, partK, loadV, Vm.part, fillC, splice, reduceIte, reduceCtorEq, Nat.reduceEqDiff, Nat.reduceAdd, Nat.reduceSub, Nat.reduceMul, Nat.reduceLeDiff, ne_eq, not_false_eq_true, Int.reduceEq, Int.reduceLT, Int.reduceLE, Int.reduceNeg, Int.reduceToNat, Int.reduceGT, Int.reduceGE, Nat.reduceLT, Nat.lt_add_one, Nat.zero_lt_succ, Nat.succ_pos, Nat.zero_le, beq_self_eq_true, decide_true, decide_false]
        exact back2_ok HI (by omega)
      | false =>
        have hq : lineF f = none := by unfold lineF; rw [hv]; rfl
        rw [hq]
        simp only [lineV]
        simp (maxSteps := 4000000) only [vm, vl, Arg.get, cells, stor, boundO, resultsV, resV, partK, loadV, Vm.part, fillC, splice, reduceIte, reduceCtorEq, Nat.reduceEqDiff, Nat.reduceAdd, Nat.reduceSub, Nat.reduceMul, Nat.reduceLeDiff, ne_eq, not_false_eq_true, Int.reduceEq, Int.reduceLT, Int.reduceLE, Int.reduceNeg, Int.reduceToNat, Int.reduceGT, Int.reduceGE, Nat.reduceLT, Nat.lt_add_one, Nat.zero_lt_succ, Nat.succ_pos, Nat.zero_le, beq_self_eq_true, decide_true, decide_false]
        exact back2_ok HI (by omega)
  · simp (maxSteps := 4000000) only [vm, vl, Arg.get, cells, stor, boundO, resultsV, resV, partK, loadV, Vm.part, fillC, splice, reduceIte, reduceCtorEq, Nat.reduceEqDiff, Nat.reduceAdd, Nat.reduceSub, Nat.reduceMul, Nat.reduceLeDiff, ne_eq, not_false_eq_true, Int.reduceEq, Int.reduceLT, Int.reduceLE, Int.reduceNeg, Int.reduceToNat, Int.reduceGT, Int.reduceGE, Nat.reduceLT, Nat.lt_add_one, Nat.zero_lt_succ, Nat.succ_pos, Nat.zero_le, beq_self_eq_true, hf, decide_false, Bool.not_false]
theorem FieldBack_row {x0 x1 : V} (v0 : VPar [.l .s, .l .s] x0) (v1 : VPar [.l .s] x1) (w : World) (vs : List Value) (hv : Rvs w.heap.size G0 w [x0, x1] vs) :
    Calls Tryd.prog i_gatepostlaw04_FieldBack vs.toArray w fun e w' => e = .returned (.bool true) ∧ RowKit.Below w.heap.size w w' := by
  obtain ⟨f, rfl, h1, h2⟩ := field_par v0
  obtain ⟨s, rfl, hs⟩ := v1
  exact calls_at hm hF (l4_at w) (FieldBack_ok (indexOk fun _ _ _ h => .inr h) h1 h2) hv
end Go.Proofs.YtfnepflonoadkaaDoor.Vh
