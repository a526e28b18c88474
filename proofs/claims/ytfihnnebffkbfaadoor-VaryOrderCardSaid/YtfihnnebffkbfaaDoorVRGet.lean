/- The reference's Get. -/
import Derived.Test.YtfihnnebffkbfaaDoorVRef1
import Derived.Test.YtfihnnebffkbfaaDoorVFew
import Derived.Test.YtfihnnebffkbfaaDoorVmGrow
set_option linter.unusedVariables false
set_option linter.unusedSimpArgs false
namespace Go.Proofs.YtfihnnebffkbfaaDoor.Vh
open Go.Vm Go.Vt
attribute [local congr] wi_congr wg_congr wgd_congr wb_congr wl_congr cf_congr
variable {L : FuncId → List V → V → Prop} {h : Heap}
theorem getD_mem {α : Type} {l : List α} {i : Nat} {d : α} (hi : i < l.length) : l.getD i d ∈ l := by
  rw [List.getD_eq_getElem?_getD, List.getElem?_eq_getElem hi]; exact List.getElem_mem _
/-- What Names come to. -/
theorem joinS_snoc (l : List Bs) (v : Bs) : joinS (l ++ [v]) = if l = [] then v else joinS l ++ [44, 32] ++ v := by
  induction l with
  | nil => simp [joinS]
  | cons a r ih =>
    cases r with
    | nil => simp [joinS, List.intercalate]
    | cons b r' =>
      have e : ∀ (m : List Bs), m ≠ [] → joinS (a :: m) = a ++ ([44, 32] ++ joinS m) := by
        intro m hm
        cases m with
        | nil => exact absurd rfl hm
        | cons x y => simp [joinS, List.intercalate]
      rw [List.cons_append, e _ (by simp), ih, e _ (by simp)]
      simp
theorem rGet_ok {x : V} {l : List Fld} {name : Bs} (hx : ListV 2 x (flds l)) (hl : l.length < 100000) (hln : ∀ f ∈ l, f.1.length ≤ 140737488355328) (hn : name.length ≤ 140737488355328) (hsm : sumF l < 100000) :
    Cf F L i_gatepostref04_Get [x, .str name] h (Pu h (getV l name)) := by
  refine run_gatepostref04_Get ?_
  simp only [p_gatepostref04_Get]
  have l1 := fun {K : V → Heap → Prop} {h : Heap} => hx.len (F := F) (L := L) (e := E0) (K := K) (h := h)
  simp only [flds_len] at l1
  refine l_gatepostref04_Get_0 (fun n e h' => ∃ i, n = l.length - i ∧ i ≤ l.length ∧ e 0 = x ∧ e 1 = .str name ∧ e 6 = .str (joinS (valsOf (l.take i) name)) ∧ e 7 = .int .i64 (valsOf (l.take i) name).length ∧ e 8 = .int .i64 i ∧ ∃ t, h' = h ++ t) ?_ (n := l.length) ⟨0, by simp, by simp, rfl, rfl, rfl, rfl, rfl, [], by simp⟩
  rintro n e h' ⟨i, rfl, hi, e0, e1, e6, e7, e8, t, rfl⟩
  simp only [b_gatepostref04_Get_0]
  have vj := vals_join (l.take i) name
  have vln := vals_len (l.take i) name
  have hsi := sumF_le l i
  rw [List.length_take] at vj vln
  rcases list_at ([], []) hi with ⟨hn', rfl, hd⟩ | ⟨hl1, hl2, hd, htk⟩
  · rw [List.take_of_length_le (Nat.le_refl _)] at e6 e7
    simp (maxSteps := 4000000) only [vm, vl, Arg.get, cells, stor, boundO, resultsV, resV, partK, loadV, Vm.part, fillC, splice, reduceIte, reduceCtorEq, Nat.reduceEqDiff, Nat.reduceAdd, Nat.reduceSub, Nat.reduceMul, Nat.reduceLeDiff, ne_eq, not_false_eq_true, Int.reduceEq, Int.reduceLT, Int.reduceLE, Int.reduceNeg, Int.reduceToNat, Int.reduceGT, Int.reduceGE, Nat.reduceLT, Nat.lt_add_one, Nat.zero_lt_succ, Nat.succ_pos, Nat.zero_le, beq_self_eq_true, k_gatepostref04_Get_0, k_gatepostref04_Get_2, k_gatepostref04_Get_3, k_gatepostref04_Get_1, e0, e1, e6, e7, e8, l1, hn', getV]
  · have w := wrap64 (x := (i : Int) + 1) (by omega) (by omega)
    have i1 := fun {K : V → Heap → Prop} {h : Heap} => hx.at (F := F) (L := L) (e := E0) (K := K) (h := h) (i := i) (by rw [flds_len]; exact hl2)
    have a1 := flds_at hl2
    have hmem : l.getD i ([], []) ∈ l := getD_mem hl2
    have hmz := sumF_mem hmem
    generalize hf : l.getD i ([], []) = f at *
    simp (maxSteps := 4000000) only [vm, vl, Arg.get, cells, stor, boundO, resultsV, resV, partK, loadV, Vm.part, fillC, splice, reduceIte, reduceCtorEq, Nat.reduceEqDiff, Nat.reduceAdd, Nat.reduceSub, Nat.reduceMul, Nat.reduceLeDiff, ne_eq, not_false_eq_true, Int.reduceEq, Int.reduceLT, Int.reduceLE, Int.reduceNeg, Int.reduceToNat, Int.reduceGT, Int.reduceGE, Nat.reduceLT, Nat.lt_add_one, Nat.zero_lt_succ, Nat.succ_pos, Nat.zero_le, beq_self_eq_true, k_gatepostref04_Get_0, k_gatepostref04_Get_2, k_gatepostref04_Get_3, k_gatepostref04_Get_1, e0, e1, e6, e7, e8, l1, hl1, i1, a1, fldV]
    refine Cf.pu (rSame_ok (hln f hmem) hn) fun t1 => ?_
    cases hp : (low f.1 == low name) with
    | false =>
      have hv : valsOf (l.take (i + 1)) name = valsOf (l.take i) name := by simp [valsOf, htk, hp]
      simp (maxSteps := 4000000) only [vm, vl, Arg.get, cells, stor, boundO, resultsV, resV, partK, loadV, Vm.part, fillC, splice, reduceIte, reduceCtorEq, Nat.reduceEqDiff, Nat.reduceAdd, Nat.reduceSub, Nat.reduceMul, Nat.reduceLeDiff, ne_eq, not_false_eq_true, Int.reduceEq, Int.reduceLT, Int.reduceLE, Int.reduceNeg, Int.reduceToNat, Int.reduceGT, Int.reduceGE, Nat.reduceLT, Nat.lt_add_one, Nat.zero_lt_succ, Nat.succ_pos, Nat.zero_le, beq_self_eq_true, k_gatepostref04_Get_0, k_gatepostref04_Get_2, k_gatepostref04_Get_3, k_gatepostref04_Get_1, i1, a1, w]
      exact ⟨l.length - (i + 1), by omega, i + 1, rfl, hl2, by rw [hv], by rw [hv], rfl, _, rfl⟩
    | true =>
      have hv : valsOf (l.take (i + 1)) name = valsOf (l.take i) name ++ [f.2] := by simp [valsOf, htk, hp]
      have hjs := joinS_snoc (valsOf (l.take i) name) f.2
      rw [← hv] at hjs
      have hc : (valsOf (l.take (i + 1)) name).length = (valsOf (l.take i) name).length + 1 := by rw [hv]; simp
      generalize valsOf (l.take i) name = vs at *
      have w2 := wrap64 (x := (vs.length : Int) + 1) (by omega) (by omega)
      by_cases hz : vs = []
      · subst hz
        have a2 : binV .add (.str (joinS [])) (.str f.2) = some (.str f.2) := by rw [join_none]; exact bin_sadd (by simp; omega)
        have z : ¬ (((([] : List Bs).length : Nat) : Int) > 0) := by simp
        rw [if_pos rfl] at hjs
        simp (maxSteps := 4000000) only [vm, vl, Arg.get, cells, stor, boundO, resultsV, resV, partK, loadV, Vm.part, fillC, splice, reduceIte, reduceCtorEq, Nat.reduceEqDiff, Nat.reduceAdd, Nat.reduceSub, Nat.reduceMul, Nat.reduceLeDiff, ne_eq, not_false_eq_true, Int.reduceEq, Int.reduceLT, Int.reduceLE, Int.reduceNeg, Int.reduceToNat, Int.reduceGT, Int.reduceGE, Nat.reduceLT, Nat.lt_add_one, Nat.zero_lt_succ, Nat.succ_pos, Nat.zero_le, beq_self_eq_true, k_gatepostref04_Get_0, k_gatepostref04_Get_2, k_gatepostref04_Get_3, k_gatepostref04_Get_1, i1, a1, fldV, w, z, a2, w2]
        exact ⟨l.length - (i + 1), by omega, i + 1, rfl, hl2, by rw [hjs], by rw [hc]; rfl, rfl, _, rfl⟩
      · have hpos : 0 < vs.length := List.length_pos_iff.2 hz
        have z : ((vs.length : Int) > 0) := by omega
        have a2 : binV .add (.str (joinS vs)) (.str [44, 32]) = some (.str (joinS vs ++ [44, 32])) := bin_sadd (by simp; omega)
        have a3 : binV .add (.str (joinS vs ++ [44, 32])) (.str f.2) = some (.str (joinS vs ++ [44, 32] ++ f.2)) := bin_sadd (by simp; omega)
        rw [if_neg hz] at hjs
        simp (maxSteps := 4000000) only [vm, vl, Arg.get, cells, stor, boundO, resultsV, resV, partK, loadV, Vm.part, fillC, splice, reduceIte, reduceCtorEq, Nat.reduceEqDiff, Nat.reduceAdd, Nat.reduceSub, Nat.reduceMul, Nat.reduceLeDiff, ne_eq, not_false_eq_true, Int.reduceEq, Int.reduceLT, Int.reduceLE, Int.reduceNeg, Int.reduceToNat, Int.reduceGT, Int.reduceGE, Nat.reduceLT, Nat.lt_add_one, Nat.zero_lt_succ, Nat.succ_pos, Nat.zero_le, beq_self_eq_true, k_gatepostref04_Get_0, k_gatepostref04_Get_2, k_gatepostref04_Get_3, k_gatepostref04_Get_1, i1, a1, fldV, w, z, a2, a3, w2]
        exact ⟨l.length - (i + 1), by omega, i + 1, rfl, hl2, by rw [hjs]; simp, by rw [hc]; rfl, rfl, _, rfl⟩
end Go.Proofs.YtfihnnebffkbfaaDoor.Vh
