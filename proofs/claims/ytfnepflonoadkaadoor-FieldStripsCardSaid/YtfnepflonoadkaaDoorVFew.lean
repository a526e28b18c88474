/- Part 4's few and texts, and the reference's Same. -/
import Derived.Test.YtfnepflonoadkaaDoorVField
import Derived.Test.YtfnepflonoadkaaDoorVmOpen
set_option linter.unusedVariables false
set_option linter.unusedSimpArgs false
namespace Go.Proofs.YtfnepflonoadkaaDoor.Vh
open Go.Vm Go.Vt
attribute [local congr] wi_congr wg_congr wgd_congr wb_congr wl_congr cf_congr
variable {L : FuncId → List V → V → Prop} {h : Heap}
def sumF (l : List Fld) : Nat := (l.map fun f => f.1.length + f.2.length).sum
theorem sumF_take {l : List Fld} {i : Nat} (hi : i < l.length) : sumF (l.take (i + 1)) = sumF (l.take i) + ((l.getD i ([], [])).1.length + (l.getD i ([], [])).2.length) := by
  have e : l.getD i ([], []) = l[i] := by rw [List.getD_eq_getElem?_getD, List.getElem?_eq_getElem hi, Option.getD_some]
  unfold sumF
  rw [List.take_add_one, List.getElem?_eq_getElem hi, e]
  simp only [List.map_append, List.sum_append, Option.toList_some, List.map_cons, List.map_nil, List.sum_cons, List.sum_nil, Nat.add_zero]
theorem sumF_le (l : List Fld) (i : Nat) : sumF (l.take i) ≤ sumF l := by
  conv => rhs; rw [← List.take_append_drop i l]
  unfold sumF
  rw [List.map_append, List.sum_append]
  omega
theorem sumF_mem {l : List Fld} {f : Fld} (hf : f ∈ l) : f.1.length + f.2.length ≤ sumF l := by
  unfold sumF
  induction l with
  | nil => cases hf
  | cons a r ih =>
    rw [List.map_cons, List.sum_cons]
    rcases List.mem_cons.1 hf with rfl | hf
    · omega
    · have := ih hf; omega
/-- A list of fields as a parameter. -/
theorem fields_par {x : V} (v : VPar [.sl [.s, .s]] x) : ∃ l, ListV 2 x (flds l) ∧ l.length ≤ 140737488351232 ∧ ∀ f ∈ l, f.1.length ≤ 140737488351232 ∧ f.2.length ≤ 140737488351232 := by
  rcases v with rfl | ⟨es, rfl, hl, he⟩
  · exact ⟨[], .inl ⟨rfl, rfl⟩, by simp, by simp⟩
  · have : ∃ l, flds l = es ∧ ∀ f ∈ l, f.1.length ≤ 140737488351232 ∧ f.2.length ≤ 140737488351232 := by
      clear hl
      induction es with
      | nil => exact ⟨[], rfl, by simp⟩
      | cons e r ih =>
        obtain ⟨l, h1, h2⟩ := ih fun x hx => he x (by simp [hx])
        obtain ⟨a1, _, a3⟩ := he e (by simp)
        have a3 := a3 (by simp)
        generalize cells e = cs at a1 a3
        subst a3
        match cs, a1 with
        | [x, y], ⟨⟨s, e1, b1⟩, ⟨t, e2, b2⟩, _⟩ =>
          subst e1; subst e2
          refine ⟨(s, t) :: l, by rw [← h1]; rfl, ?_⟩
          intro f hf
          rcases List.mem_cons.1 hf with rfl | hf
          · exact ⟨b1, b2⟩
          · exact h2 f hf
    obtain ⟨l, rfl, h2⟩ := this
    exact ⟨l, .inr ⟨_, rfl⟩, by rwa [flds_len] at hl, h2⟩
theorem few_ok {x : V} {l : List Fld} (hx : ListV 2 x (flds l)) (hl : l.length ≤ 140737488351232) (hz : ∀ f ∈ l, f.1.length ≤ 140737488351232 ∧ f.2.length ≤ 140737488351232) :
    Cf F L i_gatepostlaw04_few [x] h (Pu h (.bool (decide (l.length + sumF l < 4000)))) := by
  refine run_gatepostlaw04_few ?_
  simp only [p_gatepostlaw04_few]
  have l1 := fun {K : V → Heap → Prop} {h : Heap} => hx.len (F := F) (L := L) (e := E0) (K := K) (h := h)
  simp only [flds_len] at l1
  simp (maxSteps := 4000000) only [vm, vl, Arg.get, cells, stor, boundO, resultsV, resV, partK, loadV, Vm.part, fillC, splice, reduceIte, reduceCtorEq, Nat.reduceEqDiff, Nat.reduceAdd, Nat.reduceSub, Nat.reduceMul, Nat.reduceLeDiff, ne_eq, not_false_eq_true, Int.reduceEq, Int.reduceLT, Int.reduceLE, Int.reduceNeg, Int.reduceToNat, Int.reduceGT, Int.reduceGE, Nat.reduceLT, Nat.lt_add_one, Nat.zero_lt_succ, Nat.succ_pos, Nat.zero_le, beq_self_eq_true, k_gatepostlaw04_few_0, k_gatepostlaw04_few_2, k_gatepostlaw04_few_1, l1]
  refine l_gatepostlaw04_few_0 (fun n e h' => ∃ i, n = l.length - i ∧ i ≤ l.length ∧ e 0 = x ∧ e 3 = .int .i64 ((l.length + sumF (l.take i) : Nat)) ∧ e 4 = .int .i64 i ∧ ∃ t, h' = h ++ t) ?_ (n := l.length) ⟨0, by simp, by simp, rfl, by simp [upd, sumF], rfl, [], by simp⟩
  rintro n e h' ⟨i, rfl, hi, e0, e3, e4, t, rfl⟩
  simp only [b_gatepostlaw04_few_0]
  generalize hS : l.length + sumF (l.take i) = S at *
  have hmono := sumF_le l i
  rcases list_at ([], []) hi with ⟨hn, rfl, hd⟩ | ⟨hl1, hl2, hd, htk⟩
  · rw [List.take_of_length_le (Nat.le_refl _)] at hS
    have d : decide ((S : Int) < 4000) = decide (l.length + sumF l < 4000) := by rw [hS]; exact decide_eq_decide.2 (by omega)
    simp (maxSteps := 4000000) only [vm, vl, Arg.get, cells, stor, boundO, resultsV, resV, partK, loadV, Vm.part, fillC, splice, reduceIte, reduceCtorEq, Nat.reduceEqDiff, Nat.reduceAdd, Nat.reduceSub, Nat.reduceMul, Nat.reduceLeDiff, ne_eq, not_false_eq_true, Int.reduceEq, Int.reduceLT, Int.reduceLE, Int.reduceNeg, Int.reduceToNat, Int.reduceGT, Int.reduceGE, Nat.reduceLT, Nat.lt_add_one, Nat.zero_lt_succ, Nat.succ_pos, Nat.zero_le, beq_self_eq_true, k_gatepostlaw04_few_0, k_gatepostlaw04_few_2, k_gatepostlaw04_few_1, e0, e3, e4, hn, l1, d]
  · by_cases hs : (S : Int) < 4000
    · have w := wrap64 (x := (i : Int) + 1) (by omega) (by omega)
      have i1 := fun {K : V → Heap → Prop} {h : Heap} => hx.at (F := F) (L := L) (e := E0) (K := K) (h := h) (i := i) (by rw [flds_len]; exact hl2)
      have a1 := flds_at hl2
      have hmem : l.getD i ([], []) ∈ l := by
        rw [List.getD_eq_getElem?_getD, List.getElem?_eq_getElem hl2]; exact List.getElem_mem _
      have hst := sumF_take hl2
      have hzf := hz _ hmem
      generalize hf : l.getD i ([], []) = f at *
      have w1 := wrap64 (x := (S : Int) + f.1.length) (by omega) (by omega)
      have w2 := wrap64 (x := (S : Int) + f.1.length + f.2.length) (by omega) (by omega)
      simp (maxSteps := 4000000) only [vm, vl, Arg.get, cells, stor, boundO, resultsV, resV, partK, loadV, Vm.part, fillC, splice, reduceIte, reduceCtorEq, Nat.reduceEqDiff, Nat.reduceAdd, Nat.reduceSub, Nat.reduceMul, Nat.reduceLeDiff, ne_eq, not_false_eq_true, Int.reduceEq, Int.reduceLT, Int.reduceLE, Int.reduceNeg, Int.reduceToNat, Int.reduceGT, Int.reduceGE, Nat.reduceLT, Nat.lt_add_one, Nat.zero_lt_succ, Nat.succ_pos, Nat.zero_le, beq_self_eq_true, k_gatepostlaw04_few_0, k_gatepostlaw04_few_2, k_gatepostlaw04_few_1, e0, e3, e4, l1, hl1, hs, i1, a1, fldV, w, w1, w2]
      exact ⟨l.length - (i + 1), by omega, i + 1, rfl, hl2, by rw [hst]; congr 1; omega, rfl, t, rfl⟩
    · have d : decide ((S : Int) < 4000) = false := by simpa using hs
      have d2 : decide (l.length + sumF l < 4000) = false := by simp; omega
      simp (maxSteps := 4000000) only [vm, vl, Arg.get, cells, stor, boundO, resultsV, resV, partK, loadV, Vm.part, fillC, splice, reduceIte, reduceCtorEq, Nat.reduceEqDiff, Nat.reduceAdd, Nat.reduceSub, Nat.reduceMul, Nat.reduceLeDiff, ne_eq, not_false_eq_true, Int.reduceEq, Int.reduceLT, Int.reduceLE, Int.reduceNeg, Int.reduceToNat, Int.reduceGT, Int.reduceGE, Nat.reduceLT, Nat.lt_add_one, Nat.zero_lt_succ, Nat.succ_pos, Nat.zero_le, beq_self_eq_true, k_gatepostlaw04_few_0, k_gatepostlaw04_few_2, k_gatepostlaw04_few_1, e0, e3, e4, hl1, hs, l1, d, d2]
theorem fSame_ok {x y : V} {l m : List Fld} (hx : ListV 2 x (flds l)) (hy : ListV 2 y (flds m)) (hl : l.length < 1000000000) (hm : m.length < 1000000000) :
    Cf F L i_gatepostref04_Same [x, y] h (Pu h (.bool (decide (l = m)))) := by
  refine run_gatepostref04_Same ?_
  simp only [p_gatepostref04_Same]
  have l1 := fun {K : V → Heap → Prop} {h : Heap} => hx.len (F := F) (L := L) (e := E0) (K := K) (h := h)
  have l2 := fun {K : V → Heap → Prop} {h : Heap} => hy.len (F := F) (L := L) (e := E0) (K := K) (h := h)
  simp only [flds_len] at l1 l2
  by_cases hlm : l.length = m.length
  · have hlm' : ((l.length : Nat) : Int) = m.length := by omega
    simp (maxSteps := 4000000) only [vm, vl, Arg.get, cells, stor, boundO, resultsV, resV, partK, loadV, Vm.part, fillC, splice, reduceIte, reduceCtorEq, Nat.reduceEqDiff, Nat.reduceAdd, Nat.reduceSub, Nat.reduceMul, Nat.reduceLeDiff, ne_eq, not_false_eq_true, Int.reduceEq, Int.reduceLT, Int.reduceLE, Int.reduceNeg, Int.reduceToNat, Int.reduceGT, Int.reduceGE, Nat.reduceLT, Nat.lt_add_one, Nat.zero_lt_succ, Nat.succ_pos, Nat.zero_le, beq_self_eq_true, k_gatepostref04_Same_1, k_gatepostref04_Same_3, k_gatepostref04_Same_2, k_gatepostref04_Same_0, l1, l2, hlm']
    refine l_gatepostref04_Same_0 (fun n e h' => ∃ i, n = l.length - i ∧ i ≤ l.length ∧ e 0 = x ∧ e 1 = y ∧ e 5 = .int .i64 i ∧ l.take i = m.take i ∧ ∃ t, h' = h ++ t) ?_ (n := l.length) ⟨0, by simp, by simp, rfl, rfl, rfl, by simp, [], by simp⟩
    rintro n e h' ⟨i, rfl, hi, e0, e1, e5, ht, t, rfl⟩
    simp only [b_gatepostref04_Same_0]
    rcases list_at ([], []) hi with ⟨hn, rfl, hd⟩ | ⟨hl1, hl2, hd, htk⟩
    · have he : l = m := by rwa [List.take_of_length_le (Nat.le_refl _), List.take_of_length_le (by omega)] at ht
      have d : decide (l = m) = true := by simpa using he
      simp (maxSteps := 4000000) only [vm, vl, Arg.get, cells, stor, boundO, resultsV, resV, partK, loadV, Vm.part, fillC, splice, reduceIte, reduceCtorEq, Nat.reduceEqDiff, Nat.reduceAdd, Nat.reduceSub, Nat.reduceMul, Nat.reduceLeDiff, ne_eq, not_false_eq_true, Int.reduceEq, Int.reduceLT, Int.reduceLE, Int.reduceNeg, Int.reduceToNat, Int.reduceGT, Int.reduceGE, Nat.reduceLT, Nat.lt_add_one, Nat.zero_lt_succ, Nat.succ_pos, Nat.zero_le, beq_self_eq_true, k_gatepostref04_Same_1, k_gatepostref04_Same_3, k_gatepostref04_Same_2, k_gatepostref04_Same_0, e0, e1, e5, l1, hn, d]
    · have w := wrap64 (x := (i : Int) + 1) (by omega) (by omega)
      obtain ⟨o1, rfl⟩ : ∃ o, x = .sl 2 o (flds l) := by
        rcases hx with ⟨he, _⟩ | hx
        · have := congrArg List.length he; rw [flds_len] at this; simp only [List.length_nil] at this; omega
        · exact hx
      obtain ⟨o2, rfl⟩ : ∃ o, y = .sl 2 o (flds m) := by
        rcases hy with ⟨he, _⟩ | hy
        · have := congrArg List.length he; rw [flds_len] at this; simp only [List.length_nil] at this; omega
        · exact hy
      have z1 : (0 : Int) ≤ i := by omega
      have z2 : i < m.length := by omega
      have a1 := flds_at hl2
      have a2 := flds_at (l := m) (i := i) (by omega)
      obtain ⟨_, hm2, _⟩ | ⟨hm1, hm2, _, htm⟩ := list_at (l := m) (i := i) ([], []) (by omega)
      · omega
      have hne : l.getD i ([], []) ≠ m.getD i ([], []) → decide (l = m) = false := by
        intro hh; simp only [decide_eq_false_iff_not]; rintro rfl; exact hh rfl
      have heq : l.getD i ([], []) = m.getD i ([], []) → l.take (i + 1) = m.take (i + 1) := by intro hh; rw [htk, htm, ht, hh]
      generalize hf : l.getD i ([], []) = f at *
      generalize hg : m.getD i ([], []) = g at *
      simp (maxSteps := 4000000) only [vm, vl, Arg.get, cells, stor, boundO, resultsV, resV, partK, loadV, Vm.part, fillC, splice, reduceIte, reduceCtorEq, Nat.reduceEqDiff, Nat.reduceAdd, Nat.reduceSub, Nat.reduceMul, Nat.reduceLeDiff, ne_eq, not_false_eq_true, Int.reduceEq, Int.reduceLT, Int.reduceLE, Int.reduceNeg, Int.reduceToNat, Int.reduceGT, Int.reduceGE, Nat.reduceLT, Nat.lt_add_one, Nat.zero_lt_succ, Nat.succ_pos, Nat.zero_le, beq_self_eq_true, k_gatepostref04_Same_1, k_gatepostref04_Same_3, k_gatepostref04_Same_2, k_gatepostref04_Same_0, e0, e1, e5, l1, hl1, Int.toNat_natCast, z1, z2, hl2, flds_len, a1, a2, fldV, w]
      cases q1 : (f.1 == g.1) with
      | true =>
        cases q2 : (f.2 == g.2) with
        | true =>
          simp (maxSteps := 4000000) only [vm, vl, Arg.get, cells, stor, boundO, resultsV, resV, partK, loadV, Vm.part, fillC, splice, reduceIte, reduceCtorEq, Nat.reduceEqDiff, Nat.reduceAdd, Nat.reduceSub, Nat.reduceMul, Nat.reduceLeDiff, ne_eq, not_false_eq_true, Int.reduceEq, Int.reduceLT, Int.reduceLE, Int.reduceNeg, Int.reduceToNat, Int.reduceGT, Int.reduceGE, Nat.reduceLT, Nat.lt_add_one, Nat.zero_lt_succ, Nat.succ_pos, Nat.zero_le, beq_self_eq_true, k_gatepostref04_Same_1, k_gatepostref04_Same_3, k_gatepostref04_Same_2, k_gatepostref04_Same_0, q1, q2, Int.toNat_natCast, z1, z2, hl2, flds_len, a1, a2, and_self, true_and, fldV, w, Bool.not_true, Bool.not_false]
          exact ⟨l.length - (i + 1), by omega, i + 1, rfl, hl2, rfl, heq (Prod.ext (eq_of_beq q1) (eq_of_beq q2)), t, rfl⟩
        | false =>
          have d := hne (fun hh => by rw [hh] at q2; simp at q2)
          simp (maxSteps := 4000000) only [vm, vl, Arg.get, cells, stor, boundO, resultsV, resV, partK, loadV, Vm.part, fillC, splice, reduceIte, reduceCtorEq, Nat.reduceEqDiff, Nat.reduceAdd, Nat.reduceSub, Nat.reduceMul, Nat.reduceLeDiff, ne_eq, not_false_eq_true, Int.reduceEq, Int.reduceLT, Int.reduceLE, Int.reduceNeg, Int.reduceToNat, Int.reduceGT, Int.reduceGE, Nat.reduceLT, Nat.lt_add_one, Nat.zero_lt_succ, Nat.succ_pos, Nat.zero_le, beq_self_eq_true, k_gatepostref04_Same_1, k_gatepostref04_Same_3, k_gatepostref04_Same_2, k_gatepostref04_Same_0, q1, q2, d, Int.toNat_natCast, z1, z2, hl2, flds_len, a1, a2, and_self, true_and, fldV, w, Bool.not_true, Bool.not_false]
      | false =>
        have d := hne (fun hh => by rw [hh] at q1; simp at q1)
        simp (maxSteps := 4000000) only [vm, vl, Arg.get, cells, stor, boundO, resultsV, resV, partK, loadV, Vm.part, fillC, splice, reduceIte, reduceCtorEq, Nat.reduceEqDiff, Nat.reduceAdd, Nat.reduceSub, Nat.reduceMul, Nat.reduceLeDiff, ne_eq, not_false_eq_true, Int.reduceEq, Int.reduceLT, Int.reduceLE, Int.reduceNeg, Int.reduceToNat, Int.reduceGT, Int.reduceGE, Nat.reduceLT, Nat.lt_add_one, Nat.zero_lt_succ, Nat.succ_pos, Nat.zero_le, beq_self_eq_true, k_gatepostref04_Same_1, k_gatepostref04_Same_3, k_gatepostref04_Same_2, k_gatepostref04_Same_0, q1, d, Int.toNat_natCast, z1, z2, hl2, flds_len, a1, a2, and_self, true_and, fldV, w, Bool.not_true, Bool.not_false]
  · have hlm' : ¬ ((l.length : Nat) : Int) = m.length := by omega
    have d : decide (l = m) = false := by simp only [decide_eq_false_iff_not]; rintro rfl; exact hlm rfl
    simp (maxSteps := 4000000) only [vm, vl, Arg.get, cells, stor, boundO, resultsV, resV, partK, loadV, Vm.part, fillC, splice, reduceIte, reduceCtorEq, Nat.reduceEqDiff, Nat.reduceAdd, Nat.reduceSub, Nat.reduceMul, Nat.reduceLeDiff, ne_eq, not_false_eq_true, Int.reduceEq, Int.reduceLT, Int.reduceLE, Int.reduceNeg, Int.reduceToNat, Int.reduceGT, Int.reduceGE, Nat.reduceLT, Nat.lt_add_one, Nat.zero_lt_succ, Nat.succ_pos, Nat.zero_le, beq_self_eq_true, k_gatepostref04_Same_1, k_gatepostref04_Same_3, k_gatepostref04_Same_2, k_gatepostref04_Same_0, l1, l2, hlm', d]
def without (l : List Fld) (name : Bs) : List Fld := l.filter (stays [name])
theorem stays_one (name : Bs) (f : Fld) : stays [name] f = !(low name == low f.1) := by simp [stays]
theorem vals_without_same {l : List Fld} {name other : Bs} (h : low name = low other) : valsOf (without l name) other = [] := by
  unfold valsOf without
  rw [List.filter_filter]
  rw [List.filter_eq_nil_iff.2 ?_]; rfl
  intro f _
  rw [stays_one, h]
  by_cases hf : low f.1 = low other
  · simp [hf]
  · simp [hf]
theorem vals_without_other {l : List Fld} {name other : Bs} (h : low name ≠ low other) : valsOf (without l name) other = valsOf l other := by
  unfold valsOf without
  rw [List.filter_filter]
  congr 1
  apply List.filter_congr
  intro f _
  rw [stays_one]
  by_cases hf : low f.1 = low other
  · simp [hf, h]
  · simp [hf]
theorem vals_app (l m : List Fld) (name : Bs) : valsOf (l ++ m) name = valsOf l name ++ valsOf m name := by simp [valsOf]
theorem without_app (l m : List Fld) (name : Bs) : without (l ++ m) name = without l name ++ without m name := by simp [without]
theorem without_twice (l : List Fld) (name : Bs) : without (without l name) name = without l name := by simp [without, List.filter_filter]
theorem vals_one_same {name other v : Bs} (h : low name = low other) : valsOf [(name, v)] other = [v] := by simp [valsOf, h]
theorem vals_one_other {name other v : Bs} (h : low name ≠ low other) : valsOf [(name, v)] other = [] := by simp [valsOf, h]
theorem without_one (name v : Bs) : without [(name, v)] name = [] := by simp [without, stays]
theorem join_len : ∀ l : List Bs, (joinS l).length ≤ (l.map List.length).sum + 2 * l.length
  | [] => by simp [joinS]
  | [a] => by simp [joinS]
  | a :: b :: r => by
    have := join_len (b :: r)
    have e : joinS (a :: b :: r) = a ++ ([44, 32] ++ joinS (b :: r)) := by simp [joinS, List.intercalate]
    rw [e]
    simp only [List.length_append, List.length_cons, List.length_nil, List.map_cons, List.sum_cons] at this ⊢
    omega
theorem vals_sum (l : List Fld) (name : Bs) : ((valsOf l name).map List.length).sum ≤ sumF l := by
  induction l with
  | nil => simp [valsOf, sumF]
  | cons f r ih =>
    unfold valsOf sumF at *
    rw [List.filter_cons]
    split <;> simp only [List.map_cons, List.sum_cons] at * <;> omega
theorem vals_join (l : List Fld) (name : Bs) : (joinS (valsOf l name)).length ≤ sumF l + 2 * l.length := by
  have h1 := join_len (valsOf l name)
  have h2 := vals_sum l name
  have h3 := vals_len l name
  omega
theorem join_one (v : Bs) : joinS [v] = v := by simp [joinS]
theorem join_none : joinS [] = [] := rfl
theorem sum_without (l : List Fld) (name : Bs) : sumF (without l name) ≤ sumF l := by
  induction l with
  | nil => simp [without, sumF]
  | cons f r ih =>
    unfold without sumF at *
    rw [List.filter_cons]
    split <;> simp only [List.map_cons, List.sum_cons] at * <;> omega
theorem without_len (l : List Fld) (name : Bs) : (without l name).length ≤ l.length := List.length_filter_le _ _
end Go.Proofs.YtfnepflonoadkaaDoor.Vh
