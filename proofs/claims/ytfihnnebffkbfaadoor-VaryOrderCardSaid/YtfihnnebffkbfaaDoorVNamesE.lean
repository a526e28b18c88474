/- Package field's Names and Strip, and the reference's Get, Del, Set, Names, Strip. -/
import Derived.Test.YtfihnnebffkbfaaDoorVSplitN
import Derived.Test.YtfihnnebffkbfaaDoorVRGet
set_option linter.unusedVariables false
set_option linter.unusedSimpArgs false
namespace Go.Proofs.YtfihnnebffkbfaaDoor.Vh
open Go.Vm Go.Vt
attribute [local congr] wi_congr wg_congr wgd_congr wb_congr wl_congr cf_congr
variable {L : FuncId → List V → V → Prop} {h : Heap}
theorem strs_at {l : List Bs} {i : Nat} (hi : i < l.length) : (strs l).getD i (.tup []) = .str (l.getD i []) := by
  unfold strs
  rw [List.getD_eq_getElem?_getD, List.getD_eq_getElem?_getD, List.getElem?_map, List.getElem?_eq_getElem hi]; rfl
/-- What Names come to. -/
def namesO (s : Bs) : Option (List Bs) := match split s with
  | some a => if a.all isTok then some (a.map low) else none
  | none => none
def NamesP (h : Heap) (o : Option (List Bs)) (v : V) (h' : Heap) : Prop := (o = none ∧ v = .tup [.nsl, .bool false] ∧ ∃ t, h' = h ++ t) ∨ ∃ out x, o = some out ∧ v = .tup [x, .bool true] ∧ Grow 1 h h' x (strs out)
theorem mem_split_len {s : Bs} {a : List Bs} (hs : split s = some a) : a.length ≤ s.length + 1 := by
  have := splitG_len (Nat.le_refl _) hs
  simp at this; omega
theorem Names_ok (HJ : JoinOk L) {x : V} {l : List Fld} {name : Bs} (hx : ListV 2 x (flds l)) (hl : l.length < 100000) (hln : ∀ f ∈ l, f.1.length ≤ 140737488355328) (hn : name.length ≤ 140737488355328) (hj : (joinS (valsOf l name)).length ≤ 100000) :
    Cf F L i_field_Names [x, .str name] h (NamesP h (namesO (joinS (valsOf l name)))) := by
  refine run_field_Names ?_
  simp only [p_field_Names]
  simp (maxSteps := 4000000) only [vm, vl, Arg.get, cells, stor, boundO, resultsV, resV, partK, loadV, Vm.part, fillC, splice, reduceIte, reduceCtorEq, Nat.reduceEqDiff, Nat.reduceAdd, Nat.reduceSub, Nat.reduceMul, Nat.reduceLeDiff, ne_eq, not_false_eq_true, Int.reduceEq, Int.reduceLT, Int.reduceLE, Int.reduceNeg, Int.reduceToNat, Int.reduceGT, Int.reduceGE, Nat.reduceLT, Nat.lt_add_one, Nat.zero_lt_succ, Nat.succ_pos, Nat.zero_le, beq_self_eq_true, k_field_Names_1, k_field_Names_0, k_field_Names_3, k_field_Names_2]
  refine Cf.pu (Get_ok HJ hx (by omega) hln hn (by omega)) fun t => ?_
  simp only [getV]
  simp (maxSteps := 4000000) only [vm, vl, Arg.get, cells, stor, boundO, resultsV, resV, partK, loadV, Vm.part, fillC, splice, reduceIte, reduceCtorEq, Nat.reduceEqDiff, Nat.reduceAdd, Nat.reduceSub, Nat.reduceMul, Nat.reduceLeDiff, ne_eq, not_false_eq_true, Int.reduceEq, Int.reduceLT, Int.reduceLE, Int.reduceNeg, Int.reduceToNat, Int.reduceGT, Int.reduceGE, Nat.reduceLT, Nat.lt_add_one, Nat.zero_lt_succ, Nat.succ_pos, Nat.zero_le, beq_self_eq_true, k_field_Names_1, k_field_Names_0, k_field_Names_3, k_field_Names_2]
  refine Cf.pu (Split_ok (by omega)) fun t1 => ?_
  generalize joinS (valsOf l name) = s at *
  cases q : split s with
  | none =>
    simp only [splitV]
    simp (maxSteps := 4000000) only [vm, vl, Arg.get, cells, stor, boundO, resultsV, resV, partK, loadV, Vm.part, fillC, splice, reduceIte, reduceCtorEq, Nat.reduceEqDiff, Nat.reduceAdd, Nat.reduceSub, Nat.reduceMul, Nat.reduceLeDiff, ne_eq, not_false_eq_true, Int.reduceEq, Int.reduceLT, Int.reduceLE, Int.reduceNeg, Int.reduceToNat, Int.reduceGT, Int.reduceGE, Nat.reduceLT, Nat.lt_add_one, Nat.zero_lt_succ, Nat.succ_pos, Nat.zero_le, beq_self_eq_true, k_field_Names_1, k_field_Names_0, k_field_Names_3, k_field_Names_2]
    refine l_field_Names_0 (fun n e h' => e 9 = .bool false ∧ e 10 = .nsl ∧ e 25 = .int .i64 0 ∧ e 26 = .int .i64 0 ∧ ∃ t, h' = h ++ t) ?_ (n := 0) ⟨rfl, rfl, rfl, rfl, _, rfl⟩
    rintro n e h' ⟨e9, e10, e25, e26, t, rfl⟩
    simp only [b_field_Names_0]
    simp (maxSteps := 4000000) only [vm, vl, Arg.get, cells, stor, boundO, resultsV, resV, partK, loadV, Vm.part, fillC, splice, reduceIte, reduceCtorEq, Nat.reduceEqDiff, Nat.reduceAdd, Nat.reduceSub, Nat.reduceMul, Nat.reduceLeDiff, ne_eq, not_false_eq_true, Int.reduceEq, Int.reduceLT, Int.reduceLE, Int.reduceNeg, Int.reduceToNat, Int.reduceGT, Int.reduceGE, Nat.reduceLT, Nat.lt_add_one, Nat.zero_lt_succ, Nat.succ_pos, Nat.zero_le, beq_self_eq_true, k_field_Names_1, k_field_Names_0, k_field_Names_3, k_field_Names_2, e9, e10, e25, e26, decide_false, Bool.not_false]
    exact .inl ⟨by simp [namesO, q], rfl, _, rfl⟩
  | some a =>
    simp only [splitV]
    have hal := mem_split_len q
    have hfl := full_list a
    generalize fullV a = fa at *
    have l1 := fun {K : V → Heap → Prop} {h : Heap} => hfl.len (F := F) (L := L) (e := E0) (K := K) (h := h)
    simp only [strs_len] at l1
    have main : ∀ (e : Env) (h' : Heap), e 9 = .bool true → e 10 = .nsl → e 24 = fa → e 25 = .int .i64 a.length → e 26 = .int .i64 0 → (∃ t, h' = h ++ t) → Wl F L lc_field_Names_0 (q_field_Names_0 L (NamesP h (namesO s))) e h' := by
      rintro e h' e9 e10 e24 e25 e26 ⟨t, rfl⟩
      refine l_field_Names_0 (fun n e h' => ∃ i, n = a.length - i ∧ i ≤ a.length ∧ e 9 = .bool ((a.take i).all isTok) ∧ Grow 1 h h' (e 10) (strs ((a.take i).map low)) ∧ e 24 = fa ∧ e 25 = .int .i64 a.length ∧ e 26 = .int .i64 i) ?_ (n := a.length) ⟨0, by simp, by simp, e9, by rw [e10]; exact Grow.nil, e24, e25, e26⟩
      clear e9 e10 e24 e25 e26
      rintro n e h' ⟨i, rfl, hi, e9, G, e24, e25, e26⟩
      simp only [b_field_Names_0]
      generalize e10 : e 10 = x10 at *
      rcases list_at [] hi with ⟨hn', rfl, hd⟩ | ⟨hl1, hl2, hd, htk⟩
      · rw [List.take_of_length_le (Nat.le_refl _)] at G e9
        cases qa : a.all isTok with
        | true =>
          rw [qa] at e9
          simp (maxSteps := 4000000) only [vm, vl, Arg.get, cells, stor, boundO, resultsV, resV, partK, loadV, Vm.part, fillC, splice, reduceIte, reduceCtorEq, Nat.reduceEqDiff, Nat.reduceAdd, Nat.reduceSub, Nat.reduceMul, Nat.reduceLeDiff, ne_eq, not_false_eq_true, Int.reduceEq, Int.reduceLT, Int.reduceLE, Int.reduceNeg, Int.reduceToNat, Int.reduceGT, Int.reduceGE, Nat.reduceLT, Nat.lt_add_one, Nat.zero_lt_succ, Nat.succ_pos, Nat.zero_le, beq_self_eq_true, k_field_Names_1, k_field_Names_0, k_field_Names_3, k_field_Names_2, e9, e10, e24, e25, e26, hn', Bool.not_true]
          exact .inr ⟨a.map low, x10, by simp only [namesO, q, qa, if_true], rfl, G⟩
        | false =>
          rw [qa] at e9
          simp (maxSteps := 4000000) only [vm, vl, Arg.get, cells, stor, boundO, resultsV, resV, partK, loadV, Vm.part, fillC, splice, reduceIte, reduceCtorEq, Nat.reduceEqDiff, Nat.reduceAdd, Nat.reduceSub, Nat.reduceMul, Nat.reduceLeDiff, ne_eq, not_false_eq_true, Int.reduceEq, Int.reduceLT, Int.reduceLE, Int.reduceNeg, Int.reduceToNat, Int.reduceGT, Int.reduceGE, Nat.reduceLT, Nat.lt_add_one, Nat.zero_lt_succ, Nat.succ_pos, Nat.zero_le, beq_self_eq_true, k_field_Names_1, k_field_Names_0, k_field_Names_3, k_field_Names_2, e9, e10, e24, e25, e26, hn', Bool.not_false]
          exact .inl ⟨by simp [namesO, q, qa], rfl, G.1⟩
      · have w := wrap64 (x := (i : Int) + 1) (by omega) (by omega)
        have i1 := fun {K : V → Heap → Prop} {h : Heap} => hfl.at (F := F) (L := L) (e := E0) (K := K) (h := h) (i := i) (by rw [strs_len]; exact hl2)
        have a1 := strs_at hl2
        have hmem : a.getD i [] ∈ a := getD_mem hl2
        have hml := split_mem q _ hmem
        generalize hf : a.getD i [] = f at *
        obtain ⟨⟨t0, rfl⟩, _⟩ := id G
        have fin : ∀ t2, ∃ x' h'', appV (h ++ (t0 ++ t2)) 1 16 false x10 (.sl 1 .full [.str (low f)]) = some (x', h'') ∧ Grow 1 h h'' x' (strs ((a.take (i + 1)).map low)) := by
          intro t2
          obtain ⟨x', h'', ha, G3⟩ := (G.more (t := t2)).app (bytes := 16) (y := .str (low f)) (by rw [strs_len, List.length_map, List.length_take]; omega)
          rw [strs_app] at G3
          rw [List.append_assoc] at ha
          exact ⟨x', h'', ha, by rw [htk, List.map_append]; exact G3⟩
        cases qi : (a.take i).all isTok with
        | true =>
          rw [qi] at e9
          simp (maxSteps := 4000000) only [vm, vl, Arg.get, cells, stor, boundO, resultsV, resV, partK, loadV, Vm.part, fillC, splice, reduceIte, reduceCtorEq, Nat.reduceEqDiff, Nat.reduceAdd, Nat.reduceSub, Nat.reduceMul, Nat.reduceLeDiff, ne_eq, not_false_eq_true, Int.reduceEq, Int.reduceLT, Int.reduceLE, Int.reduceNeg, Int.reduceToNat, Int.reduceGT, Int.reduceGE, Nat.reduceLT, Nat.lt_add_one, Nat.zero_lt_succ, Nat.succ_pos, Nat.zero_le, beq_self_eq_true, k_field_Names_1, k_field_Names_0, k_field_Names_3, k_field_Names_2, e9, e10, e24, e25, e26, hl1, i1, a1, cells, w]
          refine Cf.pu (Is_ok (by omega)) fun t2 => ?_
          simp (maxSteps := 4000000) only [vm, vl, Arg.get, cells, stor, boundO, resultsV, resV, partK, loadV, Vm.part, fillC, splice, reduceIte, reduceCtorEq, Nat.reduceEqDiff, Nat.reduceAdd, Nat.reduceSub, Nat.reduceMul, Nat.reduceLeDiff, ne_eq, not_false_eq_true, Int.reduceEq, Int.reduceLT, Int.reduceLE, Int.reduceNeg, Int.reduceToNat, Int.reduceGT, Int.reduceGE, Nat.reduceLT, Nat.lt_add_one, Nat.zero_lt_succ, Nat.succ_pos, Nat.zero_le, beq_self_eq_true, k_field_Names_1, k_field_Names_0, k_field_Names_3, k_field_Names_2]
          refine Cf.pu (Lower_ok (by omega)) fun t3 => ?_
          obtain ⟨x', h'', ha, G3⟩ := fin (t2 ++ t3)
          simp only [List.append_assoc] at ha ⊢
          simp (maxSteps := 4000000) only [vm, vl, Arg.get, cells, stor, boundO, resultsV, resV, partK, loadV, Vm.part, fillC, splice, reduceIte, reduceCtorEq, Nat.reduceEqDiff, Nat.reduceAdd, Nat.reduceSub, Nat.reduceMul, Nat.reduceLeDiff, ne_eq, not_false_eq_true, Int.reduceEq, Int.reduceLT, Int.reduceLE, Int.reduceNeg, Int.reduceToNat, Int.reduceGT, Int.reduceGE, Nat.reduceLT, Nat.lt_add_one, Nat.zero_lt_succ, Nat.succ_pos, Nat.zero_le, beq_self_eq_true, k_field_Names_1, k_field_Names_0, k_field_Names_3, k_field_Names_2, ha, w]
          refine ⟨a.length - (i + 1), by omega, i + 1, rfl, hl2, ?_, G3, rfl⟩
          rw [htk, List.all_append, qi]; simp
        | false =>
          rw [qi] at e9
          simp (maxSteps := 4000000) only [vm, vl, Arg.get, cells, stor, boundO, resultsV, resV, partK, loadV, Vm.part, fillC, splice, reduceIte, reduceCtorEq, Nat.reduceEqDiff, Nat.reduceAdd, Nat.reduceSub, Nat.reduceMul, Nat.reduceLeDiff, ne_eq, not_false_eq_true, Int.reduceEq, Int.reduceLT, Int.reduceLE, Int.reduceNeg, Int.reduceToNat, Int.reduceGT, Int.reduceGE, Nat.reduceLT, Nat.lt_add_one, Nat.zero_lt_succ, Nat.succ_pos, Nat.zero_le, beq_self_eq_true, k_field_Names_1, k_field_Names_0, k_field_Names_3, k_field_Names_2, e9, e10, e24, e25, e26, hl1, i1, a1, cells, w]
          refine Cf.pu (Lower_ok (by omega)) fun t3 => ?_
          obtain ⟨x', h'', ha, G3⟩ := fin t3
          simp only [List.append_assoc] at ha ⊢
          simp (maxSteps := 4000000) only [vm, vl, Arg.get, cells, stor, boundO, resultsV, resV, partK, loadV, Vm.part, fillC, splice, reduceIte, reduceCtorEq, Nat.reduceEqDiff, Nat.reduceAdd, Nat.reduceSub, Nat.reduceMul, Nat.reduceLeDiff, ne_eq, not_false_eq_true, Int.reduceEq, Int.reduceLT, Int.reduceLE, Int.reduceNeg, Int.reduceToNat, Int.reduceGT, Int.reduceGE, Nat.reduceLT, Nat.lt_add_one, Nat.zero_lt_succ, Nat.succ_pos, Nat.zero_le, beq_self_eq_true, k_field_Names_1, k_field_Names_0, k_field_Names_3, k_field_Names_2, ha, w]
          refine ⟨a.length - (i + 1), by omega, i + 1, rfl, hl2, ?_, G3, rfl⟩
          rw [htk, List.all_append, qi]; simp
    rcases id hfl with ⟨he, rfl⟩ | ⟨o, rfl⟩
    · have ha : a = [] := by simpa [strs] using he
      subst ha
      
      simp (maxSteps := 4000000) only [vm, vl, Arg.get, cells, stor, boundO, resultsV, resV, partK, loadV, Vm.part, fillC, splice, reduceIte, reduceCtorEq, Nat.reduceEqDiff, Nat.reduceAdd, Nat.reduceSub, Nat.reduceMul, Nat.reduceLeDiff, ne_eq, not_false_eq_true, Int.reduceEq, Int.reduceLT, Int.reduceLE, Int.reduceNeg, Int.reduceToNat, Int.reduceGT, Int.reduceGE, Nat.reduceLT, Nat.lt_add_one, Nat.zero_lt_succ, Nat.succ_pos, Nat.zero_le, beq_self_eq_true]
      exact main _ _ rfl rfl rfl rfl rfl ⟨_, rfl⟩
    · simp (maxSteps := 4000000) only [vm, vl, Arg.get, cells, stor, boundO, resultsV, resV, partK, loadV, Vm.part, fillC, splice, reduceIte, reduceCtorEq, Nat.reduceEqDiff, Nat.reduceAdd, Nat.reduceSub, Nat.reduceMul, Nat.reduceLeDiff, ne_eq, not_false_eq_true, Int.reduceEq, Int.reduceLT, Int.reduceLE, Int.reduceNeg, Int.reduceToNat, Int.reduceGT, Int.reduceGE, Nat.reduceLT, Nat.lt_add_one, Nat.zero_lt_succ, Nat.succ_pos, Nat.zero_le, beq_self_eq_true, strs_len]
      exact main _ _ rfl rfl rfl rfl rfl ⟨_, rfl⟩
theorem rNames_ok {x : V} {l : List Fld} {name : Bs} (hx : ListV 2 x (flds l)) (hl : l.length < 100000) (hln : ∀ f ∈ l, f.1.length ≤ 140737488355328) (hn : name.length ≤ 140737488355328) (hsm : sumF l < 100000) (hj : (joinS (valsOf l name)).length ≤ 100000) :
    Cf F L i_gatepostref04_Names [x, .str name] h (NamesP h (namesO (joinS (valsOf l name)))) := by
  refine run_gatepostref04_Names ?_
  simp only [p_gatepostref04_Names]
  simp (maxSteps := 4000000) only [vm, vl, Arg.get, cells, stor, boundO, resultsV, resV, partK, loadV, Vm.part, fillC, splice, reduceIte, reduceCtorEq, Nat.reduceEqDiff, Nat.reduceAdd, Nat.reduceSub, Nat.reduceMul, Nat.reduceLeDiff, ne_eq, not_false_eq_true, Int.reduceEq, Int.reduceLT, Int.reduceLE, Int.reduceNeg, Int.reduceToNat, Int.reduceGT, Int.reduceGE, Nat.reduceLT, Nat.lt_add_one, Nat.zero_lt_succ, Nat.succ_pos, Nat.zero_le, beq_self_eq_true, k_gatepostref04_Names_1, k_gatepostref04_Names_3, k_gatepostref04_Names_4, k_gatepostref04_Names_2, k_gatepostref04_Names_0]
  refine Cf.pu (rGet_ok hx hl hln hn hsm) fun t => ?_
  simp only [getV]
  simp (maxSteps := 4000000) only [vm, vl, Arg.get, cells, stor, boundO, resultsV, resV, partK, loadV, Vm.part, fillC, splice, reduceIte, reduceCtorEq, Nat.reduceEqDiff, Nat.reduceAdd, Nat.reduceSub, Nat.reduceMul, Nat.reduceLeDiff, ne_eq, not_false_eq_true, Int.reduceEq, Int.reduceLT, Int.reduceLE, Int.reduceNeg, Int.reduceToNat, Int.reduceGT, Int.reduceGE, Nat.reduceLT, Nat.lt_add_one, Nat.zero_lt_succ, Nat.succ_pos, Nat.zero_le, beq_self_eq_true, k_gatepostref04_Names_1, k_gatepostref04_Names_3, k_gatepostref04_Names_4, k_gatepostref04_Names_2, k_gatepostref04_Names_0]
  refine (rSplit_ok (by omega)).mono fun v h' hp => ?_
  obtain ⟨⟨t1, rfl⟩, hv⟩ := hp
  generalize joinS (valsOf l name) = s at *
  rcases hv with ⟨q, rfl⟩ | ⟨a, y, q, rfl, hy⟩
  · simp (maxSteps := 4000000) only [vm, vl, Arg.get, cells, stor, boundO, resultsV, resV, partK, loadV, Vm.part, fillC, splice, reduceIte, reduceCtorEq, Nat.reduceEqDiff, Nat.reduceAdd, Nat.reduceSub, Nat.reduceMul, Nat.reduceLeDiff, ne_eq, not_false_eq_true, Int.reduceEq, Int.reduceLT, Int.reduceLE, Int.reduceNeg, Int.reduceToNat, Int.reduceGT, Int.reduceGE, Nat.reduceLT, Nat.lt_add_one, Nat.zero_lt_succ, Nat.succ_pos, Nat.zero_le, beq_self_eq_true, k_gatepostref04_Names_1, k_gatepostref04_Names_3, k_gatepostref04_Names_4, k_gatepostref04_Names_2, k_gatepostref04_Names_0, Bool.not_false]
    exact .inl ⟨by simp [namesO, q], rfl, _, rfl⟩
  · have hal := mem_split_len q
    have l1 := fun {K : V → Heap → Prop} {h : Heap} => hy.len (F := F) (L := L) (e := E0) (K := K) (h := h)
    simp only [strs_len] at l1
    simp (maxSteps := 4000000) only [vm, vl, Arg.get, cells, stor, boundO, resultsV, resV, partK, loadV, Vm.part, fillC, splice, reduceIte, reduceCtorEq, Nat.reduceEqDiff, Nat.reduceAdd, Nat.reduceSub, Nat.reduceMul, Nat.reduceLeDiff, ne_eq, not_false_eq_true, Int.reduceEq, Int.reduceLT, Int.reduceLE, Int.reduceNeg, Int.reduceToNat, Int.reduceGT, Int.reduceGE, Nat.reduceLT, Nat.lt_add_one, Nat.zero_lt_succ, Nat.succ_pos, Nat.zero_le, beq_self_eq_true, k_gatepostref04_Names_1, k_gatepostref04_Names_3, k_gatepostref04_Names_4, k_gatepostref04_Names_2, k_gatepostref04_Names_0, Bool.not_true]
    refine l_gatepostref04_Names_0 (fun n e h' => ∃ i, n = a.length - i ∧ i ≤ a.length ∧ (a.take i).all isTok = true ∧ e 8 = y ∧ Grow 1 h h' (e 10) (strs ((a.take i).map low)) ∧ e 11 = .int .i64 i) ?_ (n := a.length) ⟨0, by simp, by simp, by simp, rfl, by exact Grow.nil, rfl⟩
    rintro n e h' ⟨i, rfl, hi, hall, e8, G, e11⟩
    simp only [b_gatepostref04_Names_0]
    generalize e10 : e 10 = x10 at *
    rcases list_at [] hi with ⟨hn', rfl, hd⟩ | ⟨hl1, hl2, hd, htk⟩
    · rw [List.take_of_length_le (Nat.le_refl _)] at G hall
      simp (maxSteps := 4000000) only [vm, vl, Arg.get, cells, stor, boundO, resultsV, resV, partK, loadV, Vm.part, fillC, splice, reduceIte, reduceCtorEq, Nat.reduceEqDiff, Nat.reduceAdd, Nat.reduceSub, Nat.reduceMul, Nat.reduceLeDiff, ne_eq, not_false_eq_true, Int.reduceEq, Int.reduceLT, Int.reduceLE, Int.reduceNeg, Int.reduceToNat, Int.reduceGT, Int.reduceGE, Nat.reduceLT, Nat.lt_add_one, Nat.zero_lt_succ, Nat.succ_pos, Nat.zero_le, beq_self_eq_true, k_gatepostref04_Names_1, k_gatepostref04_Names_3, k_gatepostref04_Names_4, k_gatepostref04_Names_2, k_gatepostref04_Names_0, e8, e10, e11, l1, hn']
      exact .inr ⟨a.map low, x10, by simp only [namesO, q, hall, if_true], rfl, G⟩
    · have w := wrap64 (x := (i : Int) + 1) (by omega) (by omega)
      have i1 := fun {K : V → Heap → Prop} {h : Heap} => hy.at (F := F) (L := L) (e := E0) (K := K) (h := h) (i := i) (by rw [strs_len]; exact hl2)
      have a1 := strs_at hl2
      have hmem : a.getD i [] ∈ a := getD_mem hl2
      have hml := split_mem q _ hmem
      generalize hf : a.getD i [] = f at *
      simp (maxSteps := 4000000) only [vm, vl, Arg.get, cells, stor, boundO, resultsV, resV, partK, loadV, Vm.part, fillC, splice, reduceIte, reduceCtorEq, Nat.reduceEqDiff, Nat.reduceAdd, Nat.reduceSub, Nat.reduceMul, Nat.reduceLeDiff, ne_eq, not_false_eq_true, Int.reduceEq, Int.reduceLT, Int.reduceLE, Int.reduceNeg, Int.reduceToNat, Int.reduceGT, Int.reduceGE, Nat.reduceLT, Nat.lt_add_one, Nat.zero_lt_succ, Nat.succ_pos, Nat.zero_le, beq_self_eq_true, k_gatepostref04_Names_1, k_gatepostref04_Names_3, k_gatepostref04_Names_4, k_gatepostref04_Names_2, k_gatepostref04_Names_0, e8, e10, e11, l1, hl1, i1, a1, cells]
      refine Cf.pu (rIs_ok (by omega)) fun t2 => ?_
      cases qf : isTok f with
      | false =>
        simp (maxSteps := 4000000) only [vm, vl, Arg.get, cells, stor, boundO, resultsV, resV, partK, loadV, Vm.part, fillC, splice, reduceIte, reduceCtorEq, Nat.reduceEqDiff, Nat.reduceAdd, Nat.reduceSub, Nat.reduceMul, Nat.reduceLeDiff, ne_eq, not_false_eq_true, Int.reduceEq, Int.reduceLT, Int.reduceLE, Int.reduceNeg, Int.reduceToNat, Int.reduceGT, Int.reduceGE, Nat.reduceLT, Nat.lt_add_one, Nat.zero_lt_succ, Nat.succ_pos, Nat.zero_le, beq_self_eq_true, k_gatepostref04_Names_1, k_gatepostref04_Names_3, k_gatepostref04_Names_4, k_gatepostref04_Names_2, k_gatepostref04_Names_0, Bool.not_false]
        refine .inl ⟨?_, rfl, ?_⟩
        · have : a.all isTok = false := by
            rw [List.all_eq_false]; exact ⟨f, hmem, by rw [qf]; simp⟩
          simp [namesO, q, this]
        · obtain ⟨⟨t0, rfl⟩, _⟩ := G
          exact ⟨_, by rw [List.append_assoc]⟩
      | true =>
        simp (maxSteps := 4000000) only [vm, vl, Arg.get, cells, stor, boundO, resultsV, resV, partK, loadV, Vm.part, fillC, splice, reduceIte, reduceCtorEq, Nat.reduceEqDiff, Nat.reduceAdd, Nat.reduceSub, Nat.reduceMul, Nat.reduceLeDiff, ne_eq, not_false_eq_true, Int.reduceEq, Int.reduceLT, Int.reduceLE, Int.reduceNeg, Int.reduceToNat, Int.reduceGT, Int.reduceGE, Nat.reduceLT, Nat.lt_add_one, Nat.zero_lt_succ, Nat.succ_pos, Nat.zero_le, beq_self_eq_true, k_gatepostref04_Names_1, k_gatepostref04_Names_3, k_gatepostref04_Names_4, k_gatepostref04_Names_2, k_gatepostref04_Names_0, Bool.not_true, i1, a1, cells]
        refine Cf.pu (rLower_ok (by omega)) fun t3 => ?_
        obtain ⟨x', h'', ha, G3⟩ := (G.more (t := t2)).more (t := t3) |>.app (bytes := 16) (y := .str (low f)) (by rw [strs_len, List.length_map, List.length_take]; omega)
        rw [strs_app] at G3
        try simp only [List.append_assoc] at ha
        simp (maxSteps := 4000000) only [vm, vl, Arg.get, cells, stor, boundO, resultsV, resV, partK, loadV, Vm.part, fillC, splice, reduceIte, reduceCtorEq, Nat.reduceEqDiff, Nat.reduceAdd, Nat.reduceSub, Nat.reduceMul, Nat.reduceLeDiff, ne_eq, not_false_eq_true, Int.reduceEq, Int.reduceLT, Int.reduceLE, Int.reduceNeg, Int.reduceToNat, Int.reduceGT, Int.reduceGE, Nat.reduceLT, Nat.lt_add_one, Nat.zero_lt_succ, Nat.succ_pos, Nat.zero_le, beq_self_eq_true, k_gatepostref04_Names_1, k_gatepostref04_Names_3, k_gatepostref04_Names_4, k_gatepostref04_Names_2, k_gatepostref04_Names_0, ha, w]
        refine ⟨a.length - (i + 1), by omega, i + 1, rfl, hl2, ?_, ?_, rfl⟩
        · rw [htk, List.all_append, hall]; simp [qf]
        · rw [htk, List.map_append]; exact G3
end Go.Proofs.YtfihnnebffkbfaaDoor.Vh
