/- Several texts in one: VFew, VRGet. -/
import Derived.Test.YtfihnnebffkbfaaDoorPk6
import Derived.Test.YtfihnnebffkbfaaDoorPk7
import Derived.Test.YtfihnnebffkbfaaDoorPk4
import Derived.Test.YtfihnnebffkbfaaDoorPk5
section
set_option linter.unusedVariables false
set_option linter.unusedSimpArgs false
namespace Go.Proofs.YtfihnnebffkbfaaDoor.Vh
open Go.Vm Go.Vt
attribute [local congr] wi_congr wg_congr wgd_congr wb_congr wl_congr cf_congr
variable {L : FuncId → List V → V → Prop} {h : Heap}
def sumF (l : List Fld) : Nat := (l.map fun f => f.1.length + f.2.length).sum
theorem sumF_take {l : List Fld} {i : Nat} (hi : i < l.length) : sumF (l.take (i + 1)) = sumF (l.take i) + ((l.getD i ([], [])).1.length + (l.getD i ([], [])).2.length) := by
  have e : l.getD i ([], []) = l[i] := by rw [List.getD_eq_getElem?_getD, List.getElem?_eq_getElem hi, Option.getD_some]
  unfold sumF
  rw [List.take_add_one, List.getElem?_eq_getElem hi, e]
  simp only [List.map_append, List.sum_append, Option.toList_some, List.map_cons, List.map_nil, List.sum_cons, List.sum_nil, Nat.add_zero]
theorem sumF_le (l : List Fld) (i : Nat) : sumF (l.take i) ≤ sumF l := by
  conv => rhs; rw [← List.take_append_drop i l]
  unfold sumF
  rw [List.map_append, List.sum_append]
  omega
theorem sumF_mem {l : List Fld} {f : Fld} (hf : f ∈ l) : f.1.length + f.2.length ≤ sumF l := by
  unfold sumF
  induction l with
  | nil => cases hf
  | cons a r ih =>
    rw [List.map_cons, List.sum_cons]
    rcases List.mem_cons.1 hf with rfl | hf
    · omega
    · have := ih hf; omega
/-- A list of fields as a parameter. -/
theorem fields_par {x : V} (v : VPar [.sl [.s, .s]] x) : ∃ l, ListV 2 x (flds l) ∧ l.length ≤ 140737488351232 ∧ ∀ f ∈ l, f.1.length ≤ 140737488351232 ∧ f.2.length ≤ 140737488351232 := by
  rcases v with rfl | ⟨es, rfl, hl, he⟩
  · exact ⟨[], .inl ⟨rfl, rfl⟩, by simp, by simp⟩
  · have : ∃ l, flds l = es ∧ ∀ f ∈ l, f.1.length ≤ 140737488351232 ∧ f.2.length ≤ 140737488351232 := by
      clear hl
      induction es with
      | nil => exact ⟨[], rfl, by simp⟩
      | cons e r ih =>
        obtain ⟨l, h1, h2⟩ := ih fun x hx => he x (by simp [hx])
        obtain ⟨a1, _, a3⟩ := he e (by simp)
        have a3 := a3 (by simp)
        generalize cells e = cs at a1 a3
        subst a3
        match cs, a1 with
        | [x, y], ⟨⟨s, e1, b1⟩, ⟨t, e2, b2⟩, _⟩ =>
          subst e1; subst e2
          refine ⟨(s, t) :: l, by rw [← h1]; rfl, ?_⟩
          intro f hf
          rcases List.mem_cons.1 hf with rfl | hf
          · exact ⟨b1, b2⟩
          · exact h2 f hf
    obtain ⟨l, rfl, h2⟩ := this
    exact ⟨l, .inr ⟨_, rfl⟩, by rwa [flds_len] at hl, h2⟩
theorem join_len : ∀ l : List Bs, (joinS l).length ≤ (l.map List.length).sum + 2 * l.length
  | [] => by simp [joinS]
  | [a] => by simp [joinS]
  | a :: b :: r => by
    have := join_len (b :: r)
    have e : joinS (a :: b :: r) = a ++ ([44, 32] ++ joinS (b :: r)) := by simp [joinS, List.intercalate]
    rw [e]
    simp only [List.length_append, List.length_cons, List.length_nil, List.map_cons, List.sum_cons] at this ⊢
    omega
theorem vals_sum (l : List Fld) (name : Bs) : ((valsOf l name).map List.length).sum ≤ sumF l := by
  induction l with
  | nil => simp [valsOf, sumF]
  | cons f r ih =>
    unfold valsOf sumF at *
    rw [List.filter_cons]
    split <;> simp only [List.map_cons, List.sum_cons] at * <;> omega
theorem vals_join (l : List Fld) (name : Bs) : (joinS (valsOf l name)).length ≤ sumF l + 2 * l.length := by
  have h1 := join_len (valsOf l name)
  have h2 := vals_sum l name
  have h3 := vals_len l name
  omega
theorem join_none : joinS [] = [] := rfl
end Go.Proofs.YtfihnnebffkbfaaDoor.Vh
end
section
set_option linter.unusedVariables false
set_option linter.unusedSimpArgs false
namespace Go.Proofs.YtfihnnebffkbfaaDoor.Vh
open Go.Vm Go.Vt
attribute [local congr] wi_congr wg_congr wgd_congr wb_congr wl_congr cf_congr
variable {L : FuncId → List V → V → Prop} {h : Heap}
theorem getD_mem {α : Type} {l : List α} {i : Nat} {d : α} (hi : i < l.length) : l.getD i d ∈ l := by
  rw [List.getD_eq_getElem?_getD, List.getElem?_eq_getElem hi]; exact List.getElem_mem _
/-- What Names come to. -/
theorem joinS_snoc (l : List Bs) (v : Bs) : joinS (l ++ [v]) = if l = [] then v else joinS l ++ [44, 32] ++ v := by
  induction l with
  | nil => simp [joinS]
  | cons a r ih =>
    cases r with
    | nil => simp [joinS, List.intercalate]
    | cons b r' =>
      have e : ∀ (m : List Bs), m ≠ [] → joinS (a :: m) = a ++ ([44, 32] ++ joinS m) := by
        intro m hm
        cases m with
        | nil => exact absurd rfl hm
        | cons x y => simp [joinS, List.intercalate]
      rw [List.cons_append, e _ (by simp), ih, e _ (by simp)]
      simp
theorem rGet_ok {x : V} {l : List Fld} {name : Bs} (hx : ListV 2 x (flds l)) (hl : l.length < 100000) (hln : ∀ f ∈ l, f.1.length ≤ 140737488355328) (hn : name.length ≤ 140737488355328) (hsm : sumF l < 100000) :
    Cf F L i_gatepostref04_Get [x, .str name] h (Pu h (getV l name)) := by
  refine run_gatepostref04_Get ?_
  simp only [p_gatepostref04_Get]
  have l1 := fun {K : V → Heap → Prop} {h : Heap} => hx.len (F := F) (L := L) (e := E0) (K := K) (h := h)
  simp only [flds_len] at l1
  refine l_gatepostref04_Get_0 (fun n e h' => ∃ i, n = l.length - i ∧ i ≤ l.length ∧ e 0 = x ∧ e 1 = .str name ∧ e 6 = .str (joinS (valsOf (l.take i) name)) ∧ e 7 = .int .i64 (valsOf (l.take i) name).length ∧ e 8 = .int .i64 i ∧ ∃ t, h' = h ++ t) ?_ (n := l.length) ⟨0, by simp, by simp, rfl, rfl, rfl, rfl, rfl, [], by simp⟩
  rintro n e h' ⟨i, rfl, hi, e0, e1, e6, e7, e8, t, rfl⟩
  simp only [b_gatepostref04_Get_0]
  have vj := vals_join (l.take i) name
  have vln := vals_len (l.take i) name
  have hsi := sumF_le l i
  rw [List.length_take] at vj vln
  rcases list_at ([], []) hi with ⟨hn', rfl, hd⟩ | ⟨hl1, hl2, hd, htk⟩
  · rw [List.take_of_length_le (Nat.le_refl _)] at e6 e7
    simp (maxSteps := 4000000) only [vm, vl, Arg.get, cells, stor, boundO, resultsV, resV, partK, loadV, Vm.part, fillC, splice, reduceIte, reduceCtorEq, Nat.reduceEqDiff, Nat.reduceAdd, Nat.reduceSub, Nat.reduceMul, Nat.reduceLeDiff, ne_eq, not_false_eq_true, Int.reduceEq, Int.reduceLT, Int.reduceLE, Int.reduceNeg, Int.reduceToNat, Int.reduceGT, Int.reduceGE, Nat.reduceLT, Nat.lt_add_one, Nat.zero_lt_succ, Nat.succ_pos, Nat.zero_le, beq_self_eq_true, k_gatepostref04_Get_0, k_gatepostref04_Get_2, k_gatepostref04_Get_3, k_gatepostref04_Get_1, e0, e1, e6, e7, e8, l1, hn', getV]
  · have w := wrap64 (x := (i : Int) + 1) (by omega) (by omega)
    have i1 := fun {K : V → Heap → Prop} {h : Heap} => hx.at (F := F) (L := L) (e := E0) (K := K) (h := h) (i := i) (by rw [flds_len]; exact hl2)
    have a1 := flds_at hl2
    have hmem : l.getD i ([], []) ∈ l := getD_mem hl2
    have hmz := sumF_mem hmem
    generalize hf : l.getD i ([], []) = f at *
    simp (maxSteps := 4000000) only [vm, vl, Arg.get, cells, stor, boundO, resultsV, resV, partK, loadV, Vm.part, fillC, splice, reduceIte, reduceCtorEq, Nat.reduceEqDiff, Nat.reduceAdd, Nat.reduceSub, Nat.reduceMul, Nat.reduceLeDiff, ne_eq, not_false_eq_true, Int.reduceEq, Int.reduceLT, Int.reduceLE, Int.reduceNeg, Int.reduceToNat, Int.reduceGT, Int.reduceGE, Nat.reduceLT, Nat.lt_add_one, Nat.zero_lt_succ, Nat.succ_pos, Nat.zero_le, beq_self_eq_true, k_gatepostref04_Get_0, k_gatepostref04_Get_2, k_gatepostref04_Get_3, k_gatepostref04_Get_1, e0, e1, e6, e7, e8, l1, hl1, i1, a1, fldV]
    refine Cf.pu (rSame_ok (hln f hmem) hn) fun t1 => ?_
    cases hp : (low f.1 == low name) with
    | false =>
      have hv : valsOf (l.take (i + 1)) name = valsOf (l.take i) name := by simp [valsOf, htk, hp]
      simp (maxSteps := 4000000) only [vm, vl, Arg.get, cells, stor, boundO, resultsV, resV, partK, loadV, Vm.part, fillC, splice, reduceIte, reduceCtorEq, Nat.reduceEqDiff, Nat.reduceAdd, Nat.reduceSub, Nat.reduceMul, Nat.reduceLeDiff, ne_eq, not_false_eq_true, Int.reduceEq, Int.reduceLT, Int.reduceLE, Int.reduceNeg, Int.reduceToNat, Int.reduceGT, Int.reduceGE, Nat.reduceLT, Nat.lt_add_one, Nat.zero_lt_succ, Nat.succ_pos, Nat.zero_le, beq_self_eq_true, k_gatepostref04_Get_0, k_gatepostref04_Get_2, k_gatepostref04_Get_3, k_gatepostref04_Get_1, i1, a1, w]
      exact ⟨l.length - (i + 1), by omega, i + 1, rfl, hl2, by rw [hv], by rw [hv], rfl, _, rfl⟩
    | true =>
      have hv : valsOf (l.take (i + 1)) name = valsOf (l.take i) name ++ [f.2] := by simp [valsOf, htk, hp]
      have hjs := joinS_snoc (valsOf (l.take i) name) f.2
      rw [← hv] at hjs
      have hc : (valsOf (l.take (i + 1)) name).length = (valsOf (l.take i) name).length + 1 := by rw [hv]; simp
      generalize valsOf (l.take i) name = vs at *
      have w2 := wrap64 (x := (vs.length : Int) + 1) (by omega) (by omega)
      by_cases hz : vs = []
      · subst hz
        have a2 : binV .add (.str (joinS [])) (.str f.2) = some (.str f.2) := by rw [join_none]; exact bin_sadd (by simp; omega)
        have z : ¬ (((([] : List Bs).length : Nat) : Int) > 0) := by simp
        rw [if_pos rfl] at hjs
        simp (maxSteps := 4000000) only [vm, vl, Arg.get, cells, stor, boundO, resultsV, resV, partK, loadV, Vm.part, fillC, splice, reduceIte, reduceCtorEq, Nat.reduceEqDiff, Nat.reduceAdd, Nat.reduceSub, Nat.reduceMul, Nat.reduceLeDiff, ne_eq, not_false_eq_true, Int.reduceEq, Int.reduceLT, Int.reduceLE, Int.reduceNeg, Int.reduceToNat, Int.reduceGT, Int.reduceGE, Nat.reduceLT, Nat.lt_add_one, Nat.zero_lt_succ, Nat.succ_pos, Nat.zero_le, beq_self_eq_true, k_gatepostref04_Get_0, k_gatepostref04_Get_2, k_gatepostref04_Get_3, k_gatepostref04_Get_1, i1, a1, fldV, w, z, a2, w2]
        exact ⟨l.length - (i + 1), by omega, i + 1, rfl, hl2, by rw [hjs], by rw [hc]; rfl, rfl, _, rfl⟩
      · have hpos : 0 < vs.length := List.length_pos_iff.2 hz
        have z : ((vs.length : Int) > 0) := by omega
        have a2 : binV .add (.str (joinS vs)) (.str [44, 32]) = some (.str (joinS vs ++ [44, 32])) := bin_sadd (by simp; omega)
        have a3 : binV .add (.str (joinS vs ++ [44, 32])) (.str f.2) = some (.str (joinS vs ++ [44, 32] ++ f.2)) := bin_sadd (by simp; omega)
        rw [if_neg hz] at hjs
        simp (maxSteps := 4000000) only [vm, vl, Arg.get, cells, stor, boundO, resultsV, resV, partK, loadV, Vm.part, fillC, splice, reduceIte, reduceCtorEq, Nat.reduceEqDiff, Nat.reduceAdd, Nat.reduceSub, Nat.reduceMul, Nat.reduceLeDiff, ne_eq, not_false_eq_true, Int.reduceEq, Int.reduceLT, Int.reduceLE, Int.reduceNeg, Int.reduceToNat, Int.reduceGT, Int.reduceGE, Nat.reduceLT, Nat.lt_add_one, Nat.zero_lt_succ, Nat.succ_pos, Nat.zero_le, beq_self_eq_true, k_gatepostref04_Get_0, k_gatepostref04_Get_2, k_gatepostref04_Get_3, k_gatepostref04_Get_1, i1, a1, fldV, w, z, a2, a3, w2]
        exact ⟨l.length - (i + 1), by omega, i + 1, rfl, hl2, by rw [hjs]; simp, by rw [hc]; rfl, rfl, _, rfl⟩
end Go.Proofs.YtfihnnebffkbfaaDoor.Vh
end
