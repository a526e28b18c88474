/- VaryParts on the small machine. -/
import Derived.Test.YtfihnnebffkbfaaDoorVVaryP
set_option linter.unusedVariables false
set_option linter.unusedSimpArgs false
namespace Go.Proofs.YtfihnnebffkbfaaDoor.Vh
open Go.Vm Go.Vt
attribute [local congr] wi_congr wg_congr wgd_congr wb_congr wl_congr cf_congr
variable {L : FuncId → List V → V → Prop} {h : Heap}
theorem vtexts_par {x : V} (v : VPar [.sl [.s]] x) : ∃ l : List Bs, ListV 1 x (strs l) ∧ l.length ≤ 140737488351232 ∧ ∀ f ∈ l, f.length ≤ 140737488351232 := by
  rcases v with rfl | ⟨es, rfl, hl, hes⟩
  · exact ⟨[], .inl ⟨rfl, rfl⟩, by decide, by simp⟩
  · obtain ⟨l, rfl, hl2⟩ : ∃ l : List Bs, es = strs l ∧ ∀ f ∈ l, f.length ≤ 140737488351232 := by
      clear hl
      induction es with
      | nil => exact ⟨[], rfl, by simp⟩
      | cons a es ih =>
        obtain ⟨l, rfl, hl⟩ := ih fun e he => hes e (by simp [he])
        obtain ⟨h1, h2, _⟩ := hes a (by simp)
        rw [h2 rfl] at h1
        obtain ⟨s, rfl, hs⟩ := h1.1
        exact ⟨s :: l, rfl, by intro f hf; rcases List.mem_cons.1 hf with rfl | hf; exact hs; exact hl f hf⟩
    exact ⟨l, .inr ⟨_, rfl⟩, by simpa [strs, reachBytes] using hl, hl2⟩
theorem vstrs_at {l : List Bs} {i : Nat} (hi : i < l.length) : (strs l).getD i (.tup []) = .str (l.getD i []) := by
  unfold strs
  rw [List.getD_eq_getElem?_getD, List.getD_eq_getElem?_getD, List.getElem?_map, List.getElem?_eq_getElem hi]; rfl
def sumN (l : List Bs) : Nat := (l.map List.length).sum
theorem sumN_take {l : List Bs} {i : Nat} (hi : i < l.length) : sumN (l.take (i + 1)) = sumN (l.take i) + (l.getD i []).length := by
  have e : l.getD i [] = l[i] := by rw [List.getD_eq_getElem?_getD, List.getElem?_eq_getElem hi, Option.getD_some]
  unfold sumN
  rw [List.take_add_one, List.getElem?_eq_getElem hi, e]
  simp only [List.map_append, List.sum_append, Option.toList_some, List.map_cons, List.map_nil, List.sum_cons, List.sum_nil, Nat.add_zero]
theorem sumN_le (l : List Bs) (i : Nat) : sumN (l.take i) ≤ sumN l := by
  conv => rhs; rw [← List.take_append_drop i l]
  unfold sumN
  rw [List.map_append, List.sum_append]
  omega
theorem sumN_mem {l : List Bs} {s : Bs} (hs : s ∈ l) : s.length ≤ sumN l := by
  unfold sumN
  induction l with
  | nil => cases hs
  | cons a r ih =>
    rw [List.map_cons, List.sum_cons]
    rcases List.mem_cons.1 hs with rfl | hs
    · omega
    · have := ih hs; omega
theorem few11_ok {x : V} {l : List Fld} (hx : ListV 2 x (flds l)) (hl : l.length ≤ 140737488351232) (hz : ∀ f ∈ l, f.1.length ≤ 140737488351232 ∧ f.2.length ≤ 140737488351232) :
    Cf F L i_gatepostlaw11_few [x] h (Pu h (.bool (decide (20 * l.length + sumF l < 3000)))) := by
  refine run_gatepostlaw11_few ?_
  simp only [p_gatepostlaw11_few]
  have l1 := fun {K : V → Heap → Prop} {h : Heap} => hx.len (F := F) (L := L) (e := E0) (K := K) (h := h)
  simp only [flds_len] at l1
  have w20 := wrap64 (x := 20 * (l.length : Int)) (by omega) (by omega)
  simp (maxSteps := 4000000) only [vm, vl, Arg.get, cells, stor, boundO, resultsV, resV, partK, loadV, Vm.part, fillC, splice, reduceIte, reduceCtorEq, Nat.reduceEqDiff, Nat.reduceAdd, Nat.reduceSub, Nat.reduceMul, Nat.reduceLeDiff, ne_eq, not_false_eq_true, Int.reduceEq, Int.reduceLT, Int.reduceLE, Int.reduceNeg, Int.reduceToNat, Int.reduceGT, Int.reduceGE, Nat.reduceLT, Nat.lt_add_one, Nat.zero_lt_succ, Nat.succ_pos, Nat.zero_le, beq_self_eq_true, k_gatepostlaw11_few_0, k_gatepostlaw11_few_2, k_gatepostlaw11_few_1, l1, w20]
  refine l_gatepostlaw11_few_0 (fun n e h' => ∃ i, n = l.length - i ∧ i ≤ l.length ∧ e 0 = x ∧ e 3 = .int .i64 ((20 * l.length + sumF (l.take i) : Nat)) ∧ e 4 = .int .i64 i ∧ ∃ t, h' = h ++ t) ?_ (n := l.length) ⟨0, by simp, by simp, rfl, by simp [upd, sumF], rfl, [], by simp⟩
  rintro n e h' ⟨i, rfl, hi, e0, e3, e4, t, rfl⟩
  simp only [b_gatepostlaw11_few_0]
  generalize hS : 20 * l.length + sumF (l.take i) = S at *
  have hmono := sumF_le l i
  rcases list_at ([], []) hi with ⟨hn, rfl, hd⟩ | ⟨hl1, hl2, hd, htk⟩
  · rw [List.take_of_length_le (Nat.le_refl _)] at hS
    have d : decide ((S : Int) < 3000) = decide (20 * l.length + sumF l < 3000) := by rw [hS]; exact decide_eq_decide.2 (by omega)
    simp (maxSteps := 4000000) only [vm, vl, Arg.get, cells, stor, boundO, resultsV, resV, partK, loadV, Vm.part, fillC, splice, reduceIte, reduceCtorEq, Nat.reduceEqDiff, Nat.reduceAdd, Nat.reduceSub, Nat.reduceMul, Nat.reduceLeDiff, ne_eq, not_false_eq_true, Int.reduceEq, Int.reduceLT, Int.reduceLE, Int.reduceNeg, Int.reduceToNat, Int.reduceGT, Int.reduceGE, Nat.reduceLT, Nat.lt_add_one, Nat.zero_lt_succ, Nat.succ_pos, Nat.zero_le, beq_self_eq_true, k_gatepostlaw11_few_0, k_gatepostlaw11_few_2, k_gatepostlaw11_few_1, e0, e3, e4, hn, l1, d]
  · by_cases hs : (S : Int) < 3000
    · have w := wrap64 (x := (i : Int) + 1) (by omega) (by omega)
      have i1 := fun {K : V → Heap → Prop} {h : Heap} => hx.at (F := F) (L := L) (e := E0) (K := K) (h := h) (i := i) (by rw [flds_len]; exact hl2)
      have a1 := flds_at hl2
      have hmem : l.getD i ([], []) ∈ l := by
        rw [List.getD_eq_getElem?_getD, List.getElem?_eq_getElem hl2]; exact List.getElem_mem _
      have hst := sumF_take hl2
      have hzf := hz _ hmem
      generalize hf : l.getD i ([], []) = f at *
      have w1 := wrap64 (x := (S : Int) + f.1.length) (by omega) (by omega)
      have w2 := wrap64 (x := (S : Int) + f.1.length + f.2.length) (by omega) (by omega)
      simp (maxSteps := 4000000) only [vm, vl, Arg.get, cells, stor, boundO, resultsV, resV, partK, loadV, Vm.part, fillC, splice, reduceIte, reduceCtorEq, Nat.reduceEqDiff, Nat.reduceAdd, Nat.reduceSub, Nat.reduceMul, Nat.reduceLeDiff, ne_eq, not_false_eq_true, Int.reduceEq, Int.reduceLT, Int.reduceLE, Int.reduceNeg, Int.reduceToNat, Int.reduceGT, Int.reduceGE, Nat.reduceLT, Nat.lt_add_one, Nat.zero_lt_succ, Nat.succ_pos, Nat.zero_le, beq_self_eq_true, k_gatepostlaw11_few_0, k_gatepostlaw11_few_2, k_gatepostlaw11_few_1, e0, e3, e4, l1, hl1, hs, i1, a1, fldV, w, w1, w2]
      exact ⟨l.length - (i + 1), by omega, i + 1, rfl, hl2, by rw [hst]; congr 1; omega, rfl, t, rfl⟩
    · have d : decide ((S : Int) < 3000) = false := by simpa using hs
      have d2 : decide (20 * l.length + sumF l < 3000) = false := by simp; omega
      simp (maxSteps := 4000000) only [vm, vl, Arg.get, cells, stor, boundO, resultsV, resV, partK, loadV, Vm.part, fillC, splice, reduceIte, reduceCtorEq, Nat.reduceEqDiff, Nat.reduceAdd, Nat.reduceSub, Nat.reduceMul, Nat.reduceLeDiff, ne_eq, not_false_eq_true, Int.reduceEq, Int.reduceLT, Int.reduceLE, Int.reduceNeg, Int.reduceToNat, Int.reduceGT, Int.reduceGE, Nat.reduceLT, Nat.lt_add_one, Nat.zero_lt_succ, Nat.succ_pos, Nat.zero_le, beq_self_eq_true, k_gatepostlaw11_few_0, k_gatepostlaw11_few_2, k_gatepostlaw11_few_1, e0, e3, e4, hl1, hs, l1, d, d2]
theorem short11_ok {x : V} {l : List Bs} (hx : ListV 1 x (strs l)) (hl : l.length ≤ 140737488351232) (hz : ∀ f ∈ l, f.length ≤ 140737488351232) :
    Cf F L i_gatepostlaw11_short [x] h (Pu h (.bool (decide (5 * l.length + sumN l < 300)))) := by
  refine run_gatepostlaw11_short ?_
  simp only [p_gatepostlaw11_short]
  have l1 := fun {K : V → Heap → Prop} {h : Heap} => hx.len (F := F) (L := L) (e := E0) (K := K) (h := h)
  simp only [strs_len] at l1
  refine l_gatepostlaw11_short_0 (fun n e h' => ∃ i, n = l.length - i ∧ i ≤ l.length ∧ e 0 = x ∧ e 3 = .int .i64 ((5 * i + sumN (l.take i) : Nat)) ∧ e 4 = .int .i64 i ∧ ∃ t, h' = h ++ t) ?_ (n := l.length) ⟨0, by simp, by simp, rfl, by simp [upd, sumN], rfl, [], by simp⟩
  rintro n e h' ⟨i, rfl, hi, e0, e3, e4, t, rfl⟩
  simp only [b_gatepostlaw11_short_0]
  generalize hS : 5 * i + sumN (l.take i) = S at *
  have hmono := sumN_le l i
  rcases list_at [] hi with ⟨hn, rfl, hd⟩ | ⟨hl1, hl2, hd, htk⟩
  · rw [List.take_of_length_le (Nat.le_refl _)] at hS
    have d : decide ((S : Int) < 300) = decide (5 * l.length + sumN l < 300) := by rw [hS]; exact decide_eq_decide.2 (by omega)
    simp (maxSteps := 4000000) only [vm, vl, Arg.get, cells, stor, boundO, resultsV, resV, partK, loadV, Vm.part, fillC, splice, reduceIte, reduceCtorEq, Nat.reduceEqDiff, Nat.reduceAdd, Nat.reduceSub, Nat.reduceMul, Nat.reduceLeDiff, ne_eq, not_false_eq_true, Int.reduceEq, Int.reduceLT, Int.reduceLE, Int.reduceNeg, Int.reduceToNat, Int.reduceGT, Int.reduceGE, Nat.reduceLT, Nat.lt_add_one, Nat.zero_lt_succ, Nat.succ_pos, Nat.zero_le, beq_self_eq_true, k_gatepostlaw11_short_0, k_gatepostlaw11_short_2, k_gatepostlaw11_short_1, e0, e3, e4, hn, l1, d]
  · by_cases hs : (S : Int) < 300
    · have w := wrap64 (x := (i : Int) + 1) (by omega) (by omega)
      have i1 := fun {K : V → Heap → Prop} {h : Heap} => hx.at (F := F) (L := L) (e := E0) (K := K) (h := h) (i := i) (by rw [strs_len]; exact hl2)
      have a1 := vstrs_at hl2
      have hmem : l.getD i [] ∈ l := getD_mem hl2
      have hst := sumN_take hl2
      have hzf := hz _ hmem
      generalize hf : l.getD i [] = f at *
      have w1 := wrap64 (x := (S : Int) + 5) (by omega) (by omega)
      have w2 := wrap64 (x := (S : Int) + 5 + f.length) (by omega) (by omega)
      simp (maxSteps := 4000000) only [vm, vl, Arg.get, cells, stor, boundO, resultsV, resV, partK, loadV, Vm.part, fillC, splice, reduceIte, reduceCtorEq, Nat.reduceEqDiff, Nat.reduceAdd, Nat.reduceSub, Nat.reduceMul, Nat.reduceLeDiff, ne_eq, not_false_eq_true, Int.reduceEq, Int.reduceLT, Int.reduceLE, Int.reduceNeg, Int.reduceToNat, Int.reduceGT, Int.reduceGE, Nat.reduceLT, Nat.lt_add_one, Nat.zero_lt_succ, Nat.succ_pos, Nat.zero_le, beq_self_eq_true, k_gatepostlaw11_short_0, k_gatepostlaw11_short_2, k_gatepostlaw11_short_1, e0, e3, e4, l1, hl1, hs, i1, a1, w, w1, w2]
      exact ⟨l.length - (i + 1), by omega, i + 1, rfl, hl2, by rw [hst]; congr 1; omega, rfl, t, rfl⟩
    · have d : decide ((S : Int) < 300) = false := by simpa using hs
      have d2 : decide (5 * l.length + sumN l < 300) = false := by simp; omega
      simp (maxSteps := 4000000) only [vm, vl, Arg.get, cells, stor, boundO, resultsV, resV, partK, loadV, Vm.part, fillC, splice, reduceIte, reduceCtorEq, Nat.reduceEqDiff, Nat.reduceAdd, Nat.reduceSub, Nat.reduceMul, Nat.reduceLeDiff, ne_eq, not_false_eq_true, Int.reduceEq, Int.reduceLT, Int.reduceLE, Int.reduceNeg, Int.reduceToNat, Int.reduceGT, Int.reduceGE, Nat.reduceLT, Nat.lt_add_one, Nat.zero_lt_succ, Nat.succ_pos, Nat.zero_le, beq_self_eq_true, k_gatepostlaw11_short_0, k_gatepostlaw11_short_2, k_gatepostlaw11_short_1, e0, e3, e4, hl1, hs, l1, d, d2]
theorem Same11_ok (HK : KeyOk L) {x y z : V} {names : List Bs} {a b : List Fld} (hx : ListV 1 x (strs names)) (hy : ListV 2 y (flds a)) (hz : ListV 2 z (flds b)) (ha : names = [] ∨ KeyB names a) (hb : names = [] ∨ KeyB names b) :
    Cf F L i_vary_Same [x, y, z] h (Pu h (.bool (keyS names a == keyS names b))) := by
  refine run_vary_Same ?_
  simp only [p_vary_Same]
  refine Cf.pu (HK hx hy ha) fun t1 => ?_
  simp (maxSteps := 4000000) only [vm, vl, Arg.get, cells, stor, boundO, resultsV, resV, partK, loadV, Vm.part, fillC, splice, reduceIte, reduceCtorEq, Nat.reduceEqDiff, Nat.reduceAdd, Nat.reduceSub, Nat.reduceMul, Nat.reduceLeDiff, ne_eq, not_false_eq_true, Int.reduceEq, Int.reduceLT, Int.reduceLE, Int.reduceNeg, Int.reduceToNat, Int.reduceGT, Int.reduceGE, Nat.reduceLT, Nat.lt_add_one, Nat.zero_lt_succ, Nat.succ_pos, Nat.zero_le, beq_self_eq_true]
  refine Cf.pu (HK hx hz hb) fun t2 => ?_
  simp (maxSteps := 4000000) only [vm, vl, Arg.get, cells, stor, boundO, resultsV, resV, partK, loadV, Vm.part, fillC, splice, reduceIte, reduceCtorEq, Nat.reduceEqDiff, Nat.reduceAdd, Nat.reduceSub, Nat.reduceMul, Nat.reduceLeDiff, ne_eq, not_false_eq_true, Int.reduceEq, Int.reduceLT, Int.reduceLE, Int.reduceNeg, Int.reduceToNat, Int.reduceGT, Int.reduceGE, Nat.reduceLT, Nat.lt_add_one, Nat.zero_lt_succ, Nat.succ_pos, Nat.zero_le, beq_self_eq_true]
theorem VParts2_ok (HK : KeyOk L) {x y z : V} {names : List Bs} {a b : List Fld} {s : Bool} (hx : ListV 1 x (strs names)) (hy : ListV 2 y (flds a)) (hz : ListV 2 z (flds b)) (ha : KeyB names a) (hb : KeyB names b) (hs : s = (keyS names a == keyS names b)) :
    k_gatepostlaw11_VaryParts_2 L (fun v _ => v = .bool true) x y z (.bool s) h := by
  
  unfold k_gatepostlaw11_VaryParts_2
  simp (maxSteps := 4000000) only [vm, vl, Arg.get, cells, stor, boundO, resultsV, resV, partK, loadV, Vm.part, fillC, splice, reduceIte, reduceCtorEq, Nat.reduceEqDiff, Nat.reduceAdd, Nat.reduceSub, Nat.reduceMul, Nat.reduceLeDiff, ne_eq, not_false_eq_true, Int.reduceEq, Int.reduceLT, Int.reduceLE, Int.reduceNeg, Int.reduceToNat, Int.reduceGT, Int.reduceGE, Nat.reduceLT, Nat.lt_add_one, Nat.zero_lt_succ, Nat.succ_pos, Nat.zero_le, beq_self_eq_true]
  refine Cf.pu (Same11_ok HK hx hy hz (.inr ha) (.inr hb)) fun t1 => ?_
  rw [← hs]
  simp (maxSteps := 4000000) only [vm, vl, Arg.get, cells, stor, boundO, resultsV, resV, partK, loadV, Vm.part, fillC, splice, reduceIte, reduceCtorEq, Nat.reduceEqDiff, Nat.reduceAdd, Nat.reduceSub, Nat.reduceMul, Nat.reduceLeDiff, ne_eq, not_false_eq_true, Int.reduceEq, Int.reduceLT, Int.reduceLE, Int.reduceNeg, Int.reduceToNat, Int.reduceGT, Int.reduceGE, Nat.reduceLT, Nat.lt_add_one, Nat.zero_lt_succ, Nat.succ_pos, Nat.zero_le, beq_self_eq_true]
  refine Cf.pu (HK hx hy (.inr ha)) fun t2 => ?_
  unfold k_gatepostlaw11_VaryParts_3
  simp (maxSteps := 4000000) only [vm, vl, Arg.get, cells, stor, boundO, resultsV, resV, partK, loadV, Vm.part, fillC, splice, reduceIte, reduceCtorEq, Nat.reduceEqDiff, Nat.reduceAdd, Nat.reduceSub, Nat.reduceMul, Nat.reduceLeDiff, ne_eq, not_false_eq_true, Int.reduceEq, Int.reduceLT, Int.reduceLE, Int.reduceNeg, Int.reduceToNat, Int.reduceGT, Int.reduceGE, Nat.reduceLT, Nat.lt_add_one, Nat.zero_lt_succ, Nat.succ_pos, Nat.zero_le, beq_self_eq_true]
  refine Cf.pu (HK hx hz (.inr hb)) fun t3 => ?_
  simp (maxSteps := 4000000) only [vm, vl, Arg.get, cells, stor, boundO, resultsV, resV, partK, loadV, Vm.part, fillC, splice, reduceIte, reduceCtorEq, Nat.reduceEqDiff, Nat.reduceAdd, Nat.reduceSub, Nat.reduceMul, Nat.reduceLeDiff, ne_eq, not_false_eq_true, Int.reduceEq, Int.reduceLT, Int.reduceLE, Int.reduceNeg, Int.reduceToNat, Int.reduceGT, Int.reduceGE, Nat.reduceLT, Nat.lt_add_one, Nat.zero_lt_succ, Nat.succ_pos, Nat.zero_le, beq_self_eq_true, hs]
theorem VParts_ok (HK : KeyOk L) {x y z : V} {names : List Bs} {a b : List Fld} (hx : ListV 1 x (strs names)) (hn : names.length ≤ 140737488351232) (hnz : ∀ f ∈ names, f.length ≤ 140737488351232)
    (hy : ListV 2 y (flds a)) (hya : a.length ≤ 140737488351232) (hyz : ∀ f ∈ a, f.1.length ≤ 140737488351232 ∧ f.2.length ≤ 140737488351232)
    (hz : ListV 2 z (flds b)) (hzb : b.length ≤ 140737488351232) (hzz : ∀ f ∈ b, f.1.length ≤ 140737488351232 ∧ f.2.length ≤ 140737488351232) :
    Cf F L i_gatepostlaw11_VaryParts [x, y, z] h (fun v _ => v = .bool true) := by
  refine run_gatepostlaw11_VaryParts ?_
  simp only [p_gatepostlaw11_VaryParts]
  
  simp (maxSteps := 4000000) only [vm, vl, Arg.get, cells, stor, boundO, resultsV, resV, partK, loadV, Vm.part, fillC, splice, reduceIte, reduceCtorEq, Nat.reduceEqDiff, Nat.reduceAdd, Nat.reduceSub, Nat.reduceMul, Nat.reduceLeDiff, ne_eq, not_false_eq_true, Int.reduceEq, Int.reduceLT, Int.reduceLE, Int.reduceNeg, Int.reduceToNat, Int.reduceGT, Int.reduceGE, Nat.reduceLT, Nat.lt_add_one, Nat.zero_lt_succ, Nat.succ_pos, Nat.zero_le, beq_self_eq_true]
  refine Cf.pu (Same11_ok HK (x := .nsl) (names := []) (.inl ⟨rfl, rfl⟩) hy hz (.inl rfl) (.inl rfl)) fun t1 => ?_
  have e1 : (keyS [] a == keyS [] b) = true := rfl
  rw [e1]
  simp (maxSteps := 4000000) only [vm, vl, Arg.get, cells, stor, boundO, resultsV, resV, partK, loadV, Vm.part, fillC, splice, reduceIte, reduceCtorEq, Nat.reduceEqDiff, Nat.reduceAdd, Nat.reduceSub, Nat.reduceMul, Nat.reduceLeDiff, ne_eq, not_false_eq_true, Int.reduceEq, Int.reduceLT, Int.reduceLE, Int.reduceNeg, Int.reduceToNat, Int.reduceGT, Int.reduceGE, Nat.reduceLT, Nat.lt_add_one, Nat.zero_lt_succ, Nat.succ_pos, Nat.zero_le, beq_self_eq_true, k_gatepostlaw11_VaryParts_0, Bool.not_true]
  refine Cf.pu (few11_ok hy hya hyz) fun t2 => ?_
  unfold k_gatepostlaw11_VaryParts_9
  by_cases c1 : 20 * a.length + sumF a < 3000
  case neg =>
    simp (maxSteps := 4000000) only [vm, vl, Arg.get, cells, stor, boundO, resultsV, resV, partK, loadV, Vm.part, fillC, splice, reduceIte, reduceCtorEq, Nat.reduceEqDiff, Nat.reduceAdd, Nat.reduceSub, Nat.reduceMul, Nat.reduceLeDiff, ne_eq, not_false_eq_true, Int.reduceEq, Int.reduceLT, Int.reduceLE, Int.reduceNeg, Int.reduceToNat, Int.reduceGT, Int.reduceGE, Nat.reduceLT, Nat.lt_add_one, Nat.zero_lt_succ, Nat.succ_pos, Nat.zero_le, beq_self_eq_true, c1, decide_false, Bool.not_false, k_gatepostlaw11_VaryParts_8]
  simp (maxSteps := 4000000) only [vm, vl, Arg.get, cells, stor, boundO, resultsV, resV, partK, loadV, Vm.part, fillC, splice, reduceIte, reduceCtorEq, Nat.reduceEqDiff, Nat.reduceAdd, Nat.reduceSub, Nat.reduceMul, Nat.reduceLeDiff, ne_eq, not_false_eq_true, Int.reduceEq, Int.reduceLT, Int.reduceLE, Int.reduceNeg, Int.reduceToNat, Int.reduceGT, Int.reduceGE, Nat.reduceLT, Nat.lt_add_one, Nat.zero_lt_succ, Nat.succ_pos, Nat.zero_le, beq_self_eq_true, c1, decide_true, Bool.not_true]
  refine Cf.pu (few11_ok hz hzb hzz) fun t3 => ?_
  by_cases c2 : 20 * b.length + sumF b < 3000
  case neg =>
    simp (maxSteps := 4000000) only [vm, vl, Arg.get, cells, stor, boundO, resultsV, resV, partK, loadV, Vm.part, fillC, splice, reduceIte, reduceCtorEq, Nat.reduceEqDiff, Nat.reduceAdd, Nat.reduceSub, Nat.reduceMul, Nat.reduceLeDiff, ne_eq, not_false_eq_true, Int.reduceEq, Int.reduceLT, Int.reduceLE, Int.reduceNeg, Int.reduceToNat, Int.reduceGT, Int.reduceGE, Nat.reduceLT, Nat.lt_add_one, Nat.zero_lt_succ, Nat.succ_pos, Nat.zero_le, beq_self_eq_true, c2, decide_false, Bool.not_false, k_gatepostlaw11_VaryParts_8]
  simp (maxSteps := 4000000) only [vm, vl, Arg.get, cells, stor, boundO, resultsV, resV, partK, loadV, Vm.part, fillC, splice, reduceIte, reduceCtorEq, Nat.reduceEqDiff, Nat.reduceAdd, Nat.reduceSub, Nat.reduceMul, Nat.reduceLeDiff, ne_eq, not_false_eq_true, Int.reduceEq, Int.reduceLT, Int.reduceLE, Int.reduceNeg, Int.reduceToNat, Int.reduceGT, Int.reduceGE, Nat.reduceLT, Nat.lt_add_one, Nat.zero_lt_succ, Nat.succ_pos, Nat.zero_le, beq_self_eq_true, c2, decide_true, Bool.not_true]
  refine Cf.pu (short11_ok hx hn hnz) fun t4 => ?_
  unfold k_gatepostlaw11_VaryParts_8
  by_cases c3 : 5 * names.length + sumN names < 300
  case neg =>
    simp (maxSteps := 4000000) only [vm, vl, Arg.get, cells, stor, boundO, resultsV, resV, partK, loadV, Vm.part, fillC, splice, reduceIte, reduceCtorEq, Nat.reduceEqDiff, Nat.reduceAdd, Nat.reduceSub, Nat.reduceMul, Nat.reduceLeDiff, ne_eq, not_false_eq_true, Int.reduceEq, Int.reduceLT, Int.reduceLE, Int.reduceNeg, Int.reduceToNat, Int.reduceGT, Int.reduceGE, Nat.reduceLT, Nat.lt_add_one, Nat.zero_lt_succ, Nat.succ_pos, Nat.zero_le, beq_self_eq_true, c3, decide_false, Bool.not_false]
  simp (maxSteps := 4000000) only [vm, vl, Arg.get, cells, stor, boundO, resultsV, resV, partK, loadV, Vm.part, fillC, splice, reduceIte, reduceCtorEq, Nat.reduceEqDiff, Nat.reduceAdd, Nat.reduceSub, Nat.reduceMul, Nat.reduceLeDiff, ne_eq, not_false_eq_true, Int.reduceEq, Int.reduceLT, Int.reduceLE, Int.reduceNeg, Int.reduceToNat, Int.reduceGT, Int.reduceGE, Nat.reduceLT, Nat.lt_add_one, Nat.zero_lt_succ, Nat.succ_pos, Nat.zero_le, beq_self_eq_true, c3, decide_true, Bool.not_true, k_gatepostlaw11_VaryParts_1]
  have kb : ∀ l : List Fld, 20 * l.length + sumF l < 3000 → KeyB names l := fun l hl => ⟨by omega, fun s hs => by have := sumN_mem hs; omega, by omega, by omega⟩
  have ha := kb a c1
  have hb := kb b c2
  refine l_gatepostlaw11_VaryParts_0 (fun n e h' => ∃ i, n = names.length - i ∧ i ≤ names.length ∧ e 0 = x ∧ e 1 = y ∧ e 2 = z ∧ e 7 = .bool ((names.take i).all fun s => likeB (gv a s) (gv b s)) ∧ e 8 = .int .i64 i) ?_ (n := names.length) ⟨0, by simp, by simp, rfl, rfl, rfl, rfl, rfl⟩
  rintro n e h' ⟨i, rfl, hi, e0, e1', e2, e7, e8⟩
  simp only [b_gatepostlaw11_VaryParts_0]
  have l1 := fun {K : V → Heap → Prop} {h : Heap} => hx.len (F := F) (L := L) (e := E0) (K := K) (h := h)
  simp only [strs_len] at l1
  rcases list_at [] hi with ⟨hn', rfl, hd⟩ | ⟨hl1, hl2, hd, htk⟩
  · rw [List.take_of_length_le (Nat.le_refl _)] at e7
    simp (maxSteps := 4000000) only [vm, vl, Arg.get, cells, stor, boundO, resultsV, resV, partK, loadV, Vm.part, fillC, splice, reduceIte, reduceCtorEq, Nat.reduceEqDiff, Nat.reduceAdd, Nat.reduceSub, Nat.reduceMul, Nat.reduceLeDiff, ne_eq, not_false_eq_true, Int.reduceEq, Int.reduceLT, Int.reduceLE, Int.reduceNeg, Int.reduceToNat, Int.reduceGT, Int.reduceGE, Nat.reduceLT, Nat.lt_add_one, Nat.zero_lt_succ, Nat.succ_pos, Nat.zero_le, beq_self_eq_true, e0, e1', e2, e7, e8, l1, hn', decide_false]
    exact VParts2_ok HK hx hy hz ha hb (keyS_eq a b names).symm
  · have w := wrap64 (x := (i : Int) + 1) (by omega) (by omega)
    have i1 := fun {K : V → Heap → Prop} {h : Heap} => hx.at (F := F) (L := L) (e := E0) (K := K) (h := h) (i := i) (by rw [strs_len]; exact hl2)
    have a1 := vstrs_at hl2
    have hmem : names.getD i [] ∈ names := getD_mem hl2
    have hall : ((names.take (i + 1)).all fun s => likeB (gv a s) (gv b s)) = (((names.take i).all fun s => likeB (gv a s) (gv b s)) && likeB (gv a (names.getD i [])) (gv b (names.getD i []))) := by
      rw [htk, List.all_append]; simp
    have hmz := sumN_mem hmem
    generalize names.getD i [] = nm at *
    generalize ((names.take i).all fun s => likeB (gv a s) (gv b s)) = sm at *
    simp (maxSteps := 4000000) only [vm, vl, Arg.get, cells, stor, boundO, resultsV, resV, partK, loadV, Vm.part, fillC, splice, reduceIte, reduceCtorEq, Nat.reduceEqDiff, Nat.reduceAdd, Nat.reduceSub, Nat.reduceMul, Nat.reduceLeDiff, ne_eq, not_false_eq_true, Int.reduceEq, Int.reduceLT, Int.reduceLE, Int.reduceNeg, Int.reduceToNat, Int.reduceGT, Int.reduceGE, Nat.reduceLT, Nat.lt_add_one, Nat.zero_lt_succ, Nat.succ_pos, Nat.zero_le, beq_self_eq_true, e0, e1', e2, e7, e8, l1, hl1, decide_true, k_gatepostlaw11_VaryParts_4, i1, a1]
    refine Cf.pu (rIs_ok (by omega)) fun t5 => ?_
    cases htok : isTok nm with
    | false => simp (maxSteps := 4000000) only [vm, vl, Arg.get, cells, stor, boundO, resultsV, resV, partK, loadV, Vm.part, fillC, splice, reduceIte, reduceCtorEq, Nat.reduceEqDiff, Nat.reduceAdd, Nat.reduceSub, Nat.reduceMul, Nat.reduceLeDiff, ne_eq, not_false_eq_true, Int.reduceEq, Int.reduceLT, Int.reduceLE, Int.reduceNeg, Int.reduceToNat, Int.reduceGT, Int.reduceGE, Nat.reduceLT, Nat.lt_add_one, Nat.zero_lt_succ, Nat.succ_pos, Nat.zero_le, beq_self_eq_true, Bool.not_false]
    | true =>
      simp (maxSteps := 4000000) only [vm, vl, Arg.get, cells, stor, boundO, resultsV, resV, partK, loadV, Vm.part, fillC, splice, reduceIte, reduceCtorEq, Nat.reduceEqDiff, Nat.reduceAdd, Nat.reduceSub, Nat.reduceMul, Nat.reduceLeDiff, ne_eq, not_false_eq_true, Int.reduceEq, Int.reduceLT, Int.reduceLE, Int.reduceNeg, Int.reduceToNat, Int.reduceGT, Int.reduceGE, Nat.reduceLT, Nat.lt_add_one, Nat.zero_lt_succ, Nat.succ_pos, Nat.zero_le, beq_self_eq_true, Bool.not_true, k_gatepostlaw11_VaryParts_6, i1, a1]
      refine Cf.pu (rGet_ok hy (by omega) (fun f hf => by have := sumF_mem hf; omega) (by omega) (by omega)) fun t6 => ?_
      have g1 : getV a nm = .tup [.str (gv a nm).1, .int .i64 (gv a nm).2] := rfl
      have g2 : getV b nm = .tup [.str (gv b nm).1, .int .i64 (gv b nm).2] := rfl
      rw [g1]
      simp (maxSteps := 4000000) only [vm, vl, Arg.get, cells, stor, boundO, resultsV, resV, partK, loadV, Vm.part, fillC, splice, reduceIte, reduceCtorEq, Nat.reduceEqDiff, Nat.reduceAdd, Nat.reduceSub, Nat.reduceMul, Nat.reduceLeDiff, ne_eq, not_false_eq_true, Int.reduceEq, Int.reduceLT, Int.reduceLE, Int.reduceNeg, Int.reduceToNat, Int.reduceGT, Int.reduceGE, Nat.reduceLT, Nat.lt_add_one, Nat.zero_lt_succ, Nat.succ_pos, Nat.zero_le, beq_self_eq_true, i1, a1]
      refine Cf.pu (rGet_ok hz (by omega) (fun f hf => by have := sumF_mem hf; omega) (by omega) (by omega)) fun t7 => ?_
      rw [g2]
      rw [likeB_eq] at hall
      unfold k_gatepostlaw11_VaryParts_7 k_gatepostlaw11_VaryParts_5
      generalize gv a nm = p at *
      generalize gv b nm = q at *
      cases sm with
      | false =>
        simp (maxSteps := 4000000) only [vm, vl, Arg.get, cells, stor, boundO, resultsV, resV, partK, loadV, Vm.part, fillC, splice, reduceIte, reduceCtorEq, Nat.reduceEqDiff, Nat.reduceAdd, Nat.reduceSub, Nat.reduceMul, Nat.reduceLeDiff, ne_eq, not_false_eq_true, Int.reduceEq, Int.reduceLT, Int.reduceLE, Int.reduceNeg, Int.reduceToNat, Int.reduceGT, Int.reduceGE, Nat.reduceLT, Nat.lt_add_one, Nat.zero_lt_succ, Nat.succ_pos, Nat.zero_le, beq_self_eq_true, w]
        exact ⟨names.length - (i + 1), by omega, i + 1, rfl, hl2, e0, e1', e2, by rw [hall]; rfl, rfl⟩
      | true =>
        cases hpq : (p.1 == q.1) with
        | false =>
          rw [hpq] at hall
          simp (maxSteps := 4000000) only [vm, vl, Arg.get, cells, stor, boundO, resultsV, resV, partK, loadV, Vm.part, fillC, splice, reduceIte, reduceCtorEq, Nat.reduceEqDiff, Nat.reduceAdd, Nat.reduceSub, Nat.reduceMul, Nat.reduceLeDiff, ne_eq, not_false_eq_true, Int.reduceEq, Int.reduceLT, Int.reduceLE, Int.reduceNeg, Int.reduceToNat, Int.reduceGT, Int.reduceGE, Nat.reduceLT, Nat.lt_add_one, Nat.zero_lt_succ, Nat.succ_pos, Nat.zero_le, beq_self_eq_true, w, hpq]
          exact ⟨names.length - (i + 1), by omega, i + 1, rfl, hl2, e0, e1', e2, by rw [hall]; rfl, rfl⟩
        | true =>
          rw [hpq] at hall
          simp (maxSteps := 4000000) only [vm, vl, Arg.get, cells, stor, boundO, resultsV, resV, partK, loadV, Vm.part, fillC, splice, reduceIte, reduceCtorEq, Nat.reduceEqDiff, Nat.reduceAdd, Nat.reduceSub, Nat.reduceMul, Nat.reduceLeDiff, ne_eq, not_false_eq_true, Int.reduceEq, Int.reduceLT, Int.reduceLE, Int.reduceNeg, Int.reduceToNat, Int.reduceGT, Int.reduceGE, Nat.reduceLT, Nat.lt_add_one, Nat.zero_lt_succ, Nat.succ_pos, Nat.zero_le, beq_self_eq_true, w, hpq]
          exact ⟨names.length - (i + 1), by omega, i + 1, rfl, hl2, e0, e1', e2, by rw [hall]; rfl, rfl⟩
theorem VaryParts_row {x0 x1 x2 : V} (v0 : VPar [.sl [.s]] x0) (v1 : VPar [.sl [.s, .s]] x1) (v2 : VPar [.sl [.s, .s]] x2) (w : World) (ht : TabAt w) (vs : List Value) (hv : Rvs w.heap.size G0 w [x0, x1, x2] vs) :
    Calls Tryd.prog i_gatepostlaw11_VaryParts vs.toArray w fun e w' => e = .returned (.bool true) ∧ RowKit.Below w.heap.size w w' := by
  obtain ⟨names, n1, n2, n3⟩ := vtexts_par v0
  obtain ⟨a, a1, a2, a3⟩ := fields_par v1
  obtain ⟨b, b1, b2, b3⟩ := fields_par v2
  exact calls_at hm hF (key_at ht) (VParts_ok (keyOk fun _ _ _ h => h) n1 n2 n3 a1 a2 a3 b1 b2 b3) hv
end Go.Proofs.YtfihnnebffkbfaaDoor.Vh
