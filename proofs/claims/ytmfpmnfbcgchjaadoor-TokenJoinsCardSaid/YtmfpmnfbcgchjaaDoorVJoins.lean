/- TokenJoins on the small machine. -/
import Derived.Test.YtmfpmnfbcgchjaaDoorVGood
import Derived.Test.YtmfpmnfbcgchjaaDoorVSplit2
set_option linter.unusedVariables false
set_option linter.unusedSimpArgs false
namespace Go.Proofs.YtmfpmnfbcgchjaaDoor.Vh
open Go.Vm Go.Vt
attribute [local congr] wi_congr wg_congr wgd_congr wb_congr wl_congr cf_congr
variable {L : FuncId → List V → V → Prop} {h : Heap}
theorem texts_par {x : V} (v : VPar [.sl [.s]] x) : ∃ l : List Bs, ListV 1 x (strs l) ∧ l.length ≤ 140737488351232 ∧ ∀ f ∈ l, f.length ≤ 140737488351232 := by
  rcases v with rfl | ⟨es, rfl, hl, he⟩
  · exact ⟨[], .inl ⟨rfl, rfl⟩, by simp, by simp⟩
  · have : ∃ l : List Bs, strs l = es ∧ ∀ f ∈ l, f.length ≤ 140737488351232 := by
      clear hl
      induction es with
      | nil => exact ⟨[], rfl, by simp⟩
      | cons e r ih =>
        obtain ⟨l, h1, h2⟩ := ih fun x hx => he x (by simp [hx])
        obtain ⟨a1, a2, _⟩ := he e (by simp)
        have a2 := a2 rfl
        rw [a2] at a1
        obtain ⟨⟨s, e1, b1⟩, _⟩ := a1
        subst e1
        refine ⟨s :: l, by rw [← h1]; rfl, ?_⟩
        intro f hf
        rcases List.mem_cons.1 hf with rfl | hf
        · exact b1
        · exact h2 f hf
    obtain ⟨l, rfl, h2⟩ := this
    exact ⟨l, .inr ⟨_, rfl⟩, by rwa [strs_len] at hl, h2⟩
/-- What is taken of the list. -/
def wants : List Bs → List Bs
  | [] => []
  | x :: r => if (pairS x).2.2.2 = true ∧ x.length ≤ 500 then x :: wants r else wants r
theorem wants_app : ∀ a b : List Bs, wants (a ++ b) = wants a ++ wants b
  | [], b => rfl
  | x :: r, b => by
    rw [List.cons_append, wants, wants, wants_app r b]
    split <;> rfl
theorem wants_good : ∀ {l : List Bs}, ∀ x ∈ wants l, (pairS x).2.2.2 = true ∧ x.length ≤ 500
  | [], x, h => by cases h
  | y :: r, x, h => by
    rw [wants] at h
    split at h
    · rcases List.mem_cons.1 h with rfl | h
      · assumption
      · exact wants_good x h
    · exact wants_good x h
theorem wants_len : ∀ l : List Bs, (wants l).length ≤ l.length
  | [] => by simp [wants]
  | x :: r => by
    have := wants_len r
    rw [wants]
    split <;> simp <;> omega
theorem joinB_len (l : List Bs) : ∀ k, l.length = k → (∀ x ∈ l, x.length ≤ 500) → (joinB l).length ≤ k * 503 := by
  intro k
  induction k generalizing l with
  | zero => intro hk _; have := List.length_eq_zero_iff.1 hk; subst this; simp [joinB]
  | succ k ih =>
    intro hk hl
    rcases List.eq_nil_or_concat l with rfl | ⟨r, x, hc⟩
    · simp at hk
    · rw [List.concat_eq_append] at hc
      subst hc
      have h1 := ih r (by simpa using hk) (fun y hy => hl y (by simp [hy]))
      have h2 := hl x (by simp)
      rw [joinB_snoc]
      split <;> simp <;> omega
theorem joinB_nil_iff {w : List Bs} (hw : ∀ x ∈ w, Runs x ∧ Firm x) : joinB w = [] ↔ w = [] := by
  rcases join_runs _ w rfl hw with ⟨h1, h2⟩ | ⟨ini, x, p, h1, h2, _⟩
  · exact iff_of_true h2 h1
  · exact iff_of_false h2 (by rw [h1]; simp)
theorem joins_end {w : List Bs} {x : V} {h : Heap} (hw : ∀ x ∈ w, (pairS x).2.2.2 = true ∧ x.length ≤ 500) (hl : w.length ≤ 20) (hx : ListV 1 x (strs w)) :
    k_gatepostlaw01_TokenJoins_1 L (fun v _ => v = .bool true) (.str (joinB w)) x h := by
  
  unfold k_gatepostlaw01_TokenJoins_1
  have hj := joinB_len w w.length rfl fun x hx => (hw x hx).2
  
  simp (maxSteps := 4000000) only [vm, vl, Arg.get, cells, stor, boundO, resultsV, resV, partK, loadV, Vm.part, fillC, splice, reduceIte, reduceCtorEq, Nat.reduceEqDiff, Nat.reduceAdd, Nat.reduceSub, Nat.reduceMul, Nat.reduceLeDiff, ne_eq, not_false_eq_true, Int.reduceEq, Int.reduceLT, Int.reduceLE, Int.reduceNeg, Int.reduceToNat, Int.reduceGT, Int.reduceGE, Nat.reduceLT, Nat.lt_add_one, Nat.zero_lt_succ, Nat.succ_pos, Nat.zero_le, beq_self_eq_true]
  refine Cf.pu (Split_ok (by omega)) fun t1 => ?_
  rw [join_split fun x hx => pair_good (hw x hx).1]
  simp only [splitV]
  simp (maxSteps := 4000000) only [vm, vl, Arg.get, cells, stor, boundO, resultsV, resV, partK, loadV, Vm.part, fillC, splice, reduceIte, reduceCtorEq, Nat.reduceEqDiff, Nat.reduceAdd, Nat.reduceSub, Nat.reduceMul, Nat.reduceLeDiff, ne_eq, not_false_eq_true, Int.reduceEq, Int.reduceLT, Int.reduceLE, Int.reduceNeg, Int.reduceToNat, Int.reduceGT, Int.reduceGE, Nat.reduceLT, Nat.lt_add_one, Nat.zero_lt_succ, Nat.succ_pos, Nat.zero_le, beq_self_eq_true]
  refine Cf.pu (texts_ok (full_list w) hx (by omega)) fun t2 => ?_
  simp (maxSteps := 4000000) only [vm, vl, Arg.get, cells, stor, boundO, resultsV, resV, partK, loadV, Vm.part, fillC, splice, reduceIte, reduceCtorEq, Nat.reduceEqDiff, Nat.reduceAdd, Nat.reduceSub, Nat.reduceMul, Nat.reduceLeDiff, ne_eq, not_false_eq_true, Int.reduceEq, Int.reduceLT, Int.reduceLE, Int.reduceNeg, Int.reduceToNat, Int.reduceGT, Int.reduceGE, Nat.reduceLT, Nat.lt_add_one, Nat.zero_lt_succ, Nat.succ_pos, Nat.zero_le, beq_self_eq_true]
theorem TokenJoins_ok (HI : IndexOk L) (HU : UnqOk L) {x : V} {l : List Bs} (hx : ListV 1 x (strs l)) (hl : l.length ≤ 140737488351232) (hb : ∀ f ∈ l, f.length ≤ 140737488351232) : Cf F L i_gatepostlaw01_TokenJoins [x] h (fun v _ => v = .bool true) := by
  refine run_gatepostlaw01_TokenJoins ?_
  simp only [p_gatepostlaw01_TokenJoins]
  
  have e1 : split [97, 44, 32, 98] = some [[97], [98]] := by decide
  simp (maxSteps := 4000000) only [vm, vl, Arg.get, cells, stor, boundO, resultsV, resV, partK, loadV, Vm.part, fillC, splice, reduceIte, reduceCtorEq, Nat.reduceEqDiff, Nat.reduceAdd, Nat.reduceSub, Nat.reduceMul, Nat.reduceLeDiff, ne_eq, not_false_eq_true, Int.reduceEq, Int.reduceLT, Int.reduceLE, Int.reduceNeg, Int.reduceToNat, Int.reduceGT, Int.reduceGE, Nat.reduceLT, Nat.lt_add_one, Nat.zero_lt_succ, Nat.succ_pos, Nat.zero_le, beq_self_eq_true]
  refine Cf.pu (Split_ok (by simp)) fun t1 => ?_
  rw [e1]
  simp only [splitV, fullV]
  simp (maxSteps := 4000000) only [vm, vl, Arg.get, cells, stor, boundO, resultsV, resV, partK, loadV, Vm.part, fillC, splice, reduceIte, reduceCtorEq, Nat.reduceEqDiff, Nat.reduceAdd, Nat.reduceSub, Nat.reduceMul, Nat.reduceLeDiff, ne_eq, not_false_eq_true, Int.reduceEq, Int.reduceLT, Int.reduceLE, Int.reduceNeg, Int.reduceToNat, Int.reduceGT, Int.reduceGE, Nat.reduceLT, Nat.lt_add_one, Nat.zero_lt_succ, Nat.succ_pos, Nat.zero_le, beq_self_eq_true, List.cons_ne_nil]
  unfold k_gatepostlaw01_TokenJoins_0
  refine l_gatepostlaw01_TokenJoins_0 (fun n e h' => ∃ i : Nat, n = l.length - i ∧ i ≤ l.length ∧ i ≤ 20 ∧ e 0 = x ∧ e 5 = .str (joinB (wants (l.take i))) ∧ Grow 1 h h' (e 6) (strs (wants (l.take i))) ∧ e 7 = .int .i64 i) ?_ (n := l.length) ⟨0, by simp, by simp, by simp, rfl, rfl, Grow.nil, rfl⟩
  rintro n e h' ⟨i, rfl, hi, hi2, e0, e5, hg, e7⟩
  simp only [b_gatepostlaw01_TokenJoins_0]
  have l1 := fun {K : V → Heap → Prop} {h : Heap} => hx.len (F := F) (L := L) (e := E0) (K := K) (h := h)
  simp only [strs_len] at l1
  have hfin : k_gatepostlaw01_TokenJoins_1 L (fun v _ => v = .bool true) (.str (joinB (wants (l.take i)))) (e 6) h' :=
    joins_end wants_good (by have := wants_len (l.take i); rw [List.length_take] at this; omega) hg.list
  by_cases hlt : i < l.length
  case neg =>
    have c1 : ¬ (i : Int) < l.length := by omega
    simp (maxSteps := 4000000) only [vm, vl, Arg.get, cells, stor, boundO, resultsV, resV, partK, loadV, Vm.part, fillC, splice, reduceIte, reduceCtorEq, Nat.reduceEqDiff, Nat.reduceAdd, Nat.reduceSub, Nat.reduceMul, Nat.reduceLeDiff, ne_eq, not_false_eq_true, Int.reduceEq, Int.reduceLT, Int.reduceLE, Int.reduceNeg, Int.reduceToNat, Int.reduceGT, Int.reduceGE, Nat.reduceLT, Nat.lt_add_one, Nat.zero_lt_succ, Nat.succ_pos, Nat.zero_le, beq_self_eq_true, e0, e5, e7, l1, c1, decide_false]
    exact hfin
  by_cases hlt2 : i < 20
  case neg =>
    have c1 : (i : Int) < l.length := by omega
    have c2 : ¬ (i : Int) < 20 := by omega
    simp (maxSteps := 4000000) only [vm, vl, Arg.get, cells, stor, boundO, resultsV, resV, partK, loadV, Vm.part, fillC, splice, reduceIte, reduceCtorEq, Nat.reduceEqDiff, Nat.reduceAdd, Nat.reduceSub, Nat.reduceMul, Nat.reduceLeDiff, ne_eq, not_false_eq_true, Int.reduceEq, Int.reduceLT, Int.reduceLE, Int.reduceNeg, Int.reduceToNat, Int.reduceGT, Int.reduceGE, Nat.reduceLT, Nat.lt_add_one, Nat.zero_lt_succ, Nat.succ_pos, Nat.zero_le, beq_self_eq_true, e0, e5, e7, l1, c1, c2, decide_false, decide_true]
    exact hfin
  clear hfin
  have c1 : (i : Int) < l.length := by omega
  have c2 : (i : Int) < 20 := by omega
  have i1 := fun {K : V → Heap → Prop} {h : Heap} => hx.at (F := F) (L := L) (e := E0) (K := K) (h := h) (i := i) (by rw [strs_len]; exact hlt)
  have g : (strs l).getD i (.tup []) = .str (l.getD i []) := by
    unfold strs
    rw [List.getD_eq_getElem?_getD, List.getD_eq_getElem?_getD, List.getElem?_map, List.getElem?_eq_getElem hlt]; rfl
  have hsb : (l.getD i []).length ≤ 140737488351232 := by
    rw [List.getD_eq_getElem?_getD, List.getElem?_eq_getElem hlt]
    exact hb _ (List.getElem_mem hlt)
  have ht : l.take (i + 1) = l.take i ++ [l.getD i []] := by
    rw [List.take_add_one, List.getD_eq_getElem?_getD, List.getElem?_eq_getElem hlt]; rfl
  have w := wrap64 (x := (i : Int) + 1) (by omega) (by omega)
  have hwl := wants_len (l.take i)
  have hjl := joinB_len (wants (l.take i)) _ rfl fun x hx => (wants_good x hx).2
  have hne := joinB_nil_iff (w := wants (l.take i)) fun x hx => pair_good (wants_good x hx).1
  rw [List.length_take] at hwl
  obtain ⟨⟨t, rfl⟩, hg1⟩ := hg
  have hg : Grow 1 h (h ++ t) (e 6) (strs (wants (l.take i))) := ⟨⟨t, rfl⟩, hg1⟩
  clear hg1
  generalize l.getD i [] = y at *
  have hw1 : wants (l.take (i + 1)) = if (pairS y).2.2.2 = true ∧ y.length ≤ 500 then wants (l.take i) ++ [y] else wants (l.take i) := by
    rw [ht, wants_app, wants, wants]
    split <;> simp
  generalize hW : wants (l.take i) = W at *
  obtain ⟨o, rfl⟩ : ∃ o, x = .sl 1 o (strs l) := by
    rcases hx with ⟨he, _⟩ | h
    · have := strs_len l
      rw [he] at this
      simp at this
      omega
    · exact h
  have hsl : i < (strs l).length := by rw [strs_len]; exact hlt
  have hi0 : (0 : Int) ≤ (i : Int) := by omega
  have hst : ∀ s : Bs, cells (V.str s) = [V.str s] := fun _ => rfl
  
  simp (maxSteps := 4000000) only [vm, vl, Arg.get, cells, stor, boundO, resultsV, resV, partK, loadV, Vm.part, fillC, splice, reduceIte, reduceCtorEq, Nat.reduceEqDiff, Nat.reduceAdd, Nat.reduceSub, Nat.reduceMul, Nat.reduceLeDiff, ne_eq, not_false_eq_true, Int.reduceEq, Int.reduceLT, Int.reduceLE, Int.reduceNeg, Int.reduceToNat, Int.reduceGT, Int.reduceGE, Nat.reduceLT, Nat.lt_add_one, Nat.zero_lt_succ, Nat.succ_pos, Nat.zero_le, beq_self_eq_true, k_gatepostlaw01_TokenJoins_1, k_gatepostlaw01_TokenJoins_3, k_gatepostlaw01_TokenJoins_5, k_gatepostlaw01_TokenJoins_4, k_gatepostlaw01_TokenJoins_2, k_gatepostlaw01_TokenJoins_0, e0, e5, e7, l1, c1, c2, i1, g, decide_true, k_gatepostlaw01_TokenJoins_2]
  refine Cf.pu (Pair_ok HI HU hsb) fun t2 => ?_
  cases hp : (pairS y).2.2.2 with
  | false =>
    rw [if_neg (by rw [hp]; simp)] at hw1
    simp (maxSteps := 4000000) only [vm, vl, Arg.get, cells, stor, boundO, resultsV, resV, partK, loadV, Vm.part, fillC, splice, reduceIte, reduceCtorEq, Nat.reduceEqDiff, Nat.reduceAdd, Nat.reduceSub, Nat.reduceMul, Nat.reduceLeDiff, ne_eq, not_false_eq_true, Int.reduceEq, Int.reduceLT, Int.reduceLE, Int.reduceNeg, Int.reduceToNat, Int.reduceGT, Int.reduceGE, Nat.reduceLT, Nat.lt_add_one, Nat.zero_lt_succ, Nat.succ_pos, Nat.zero_le, beq_self_eq_true, k_gatepostlaw01_TokenJoins_1, k_gatepostlaw01_TokenJoins_3, k_gatepostlaw01_TokenJoins_5, k_gatepostlaw01_TokenJoins_4, k_gatepostlaw01_TokenJoins_2, k_gatepostlaw01_TokenJoins_0, pairV, hp, Bool.not_false, e0, e5, w]
    exact ⟨l.length - (i + 1), by omega, i + 1, rfl, hlt, hlt2, by rw [hw1], by rw [hw1, ← List.append_assoc]; exact hg.more, rfl⟩
  | true =>
    by_cases hy : y.length ≤ 500
    case neg =>
      rw [if_neg (fun h => hy h.2)] at hw1
      have c3 : (y.length : Int) > 500 := by omega
      simp (maxSteps := 4000000) only [vm, vl, Arg.get, cells, stor, boundO, resultsV, resV, partK, loadV, Vm.part, fillC, splice, reduceIte, reduceCtorEq, Nat.reduceEqDiff, Nat.reduceAdd, Nat.reduceSub, Nat.reduceMul, Nat.reduceLeDiff, ne_eq, not_false_eq_true, Int.reduceEq, Int.reduceLT, Int.reduceLE, Int.reduceNeg, Int.reduceToNat, Int.reduceGT, Int.reduceGE, Nat.reduceLT, Nat.lt_add_one, Nat.zero_lt_succ, Nat.succ_pos, Nat.zero_le, beq_self_eq_true, k_gatepostlaw01_TokenJoins_1, k_gatepostlaw01_TokenJoins_3, k_gatepostlaw01_TokenJoins_5, k_gatepostlaw01_TokenJoins_4, k_gatepostlaw01_TokenJoins_2, k_gatepostlaw01_TokenJoins_0, pairV, hp, Bool.not_true, e0, e5, e7, i1, g, c3, hsl, hi0, decide_true, w]
      exact ⟨l.length - (i + 1), by omega, i + 1, rfl, hlt, hlt2, by rw [hw1], by rw [hw1, ← List.append_assoc]; exact hg.more, rfl⟩
    have c3 : ¬ (y.length : Int) > 500 := by omega
    rw [if_pos ⟨hp, hy⟩] at hw1
    have hg2 : Grow 1 h (h ++ (t ++ t2)) (e 6) (strs W) := by rw [← List.append_assoc]; exact hg.more
    have hend : ∀ x' h'', Grow 1 h h'' x' (strs W ++ [.str y]) → Grow 1 h h'' x' (strs (wants (l.take (i + 1)))) := by
      intro x' h'' hh
      rw [hw1, ← strs_app]; exact hh
    obtain ⟨x', h'', ha, hg'⟩ := hg2.app (bytes := 16) (y := .str y) (by rw [strs_len]; omega)
    by_cases hW0 : joinB W = []
    · have b1 : (joinB W == []) = true := by rw [hW0]; rfl
      have ba : binV .add (.str (joinB W)) (.str y) = some (.str (joinB (W ++ [y]))) := by rw [bin_sadd (by omega), joinB_snoc, if_pos hW0, hW0]; rfl
      simp (maxSteps := 4000000) only [vm, vl, Arg.get, cells, stor, boundO, resultsV, resV, partK, loadV, Vm.part, fillC, splice, reduceIte, reduceCtorEq, Nat.reduceEqDiff, Nat.reduceAdd, Nat.reduceSub, Nat.reduceMul, Nat.reduceLeDiff, ne_eq, not_false_eq_true, Int.reduceEq, Int.reduceLT, Int.reduceLE, Int.reduceNeg, Int.reduceToNat, Int.reduceGT, Int.reduceGE, Nat.reduceLT, Nat.lt_add_one, Nat.zero_lt_succ, Nat.succ_pos, Nat.zero_le, beq_self_eq_true, k_gatepostlaw01_TokenJoins_1, k_gatepostlaw01_TokenJoins_3, k_gatepostlaw01_TokenJoins_5, k_gatepostlaw01_TokenJoins_4, k_gatepostlaw01_TokenJoins_2, k_gatepostlaw01_TokenJoins_0, pairV, hp, Bool.not_true, e0, e5, e7, i1, g, c3, hsl, hi0, decide_false, w, b1, ba, ha, k_gatepostlaw01_TokenJoins_4, k_gatepostlaw01_TokenJoins_5]
      exact ⟨l.length - (i + 1), by omega, i + 1, rfl, hlt, hlt2, by rw [hw1], hend _ _ hg', rfl⟩
    · have b1 : (joinB W == []) = false := by simpa using hW0
      have b2 : binV .add (.str (joinB W)) (.str [32, 44, 9]) = some (.str (joinB W ++ [32, 44, 9])) := bin_sadd (by simp; omega)
      have ba : binV .add (.str (joinB W ++ [32, 44, 9])) (.str y) = some (.str (joinB (W ++ [y]))) := by rw [bin_sadd (by simp; omega), joinB_snoc, if_neg hW0]
      simp (maxSteps := 4000000) only [vm, vl, Arg.get, cells, stor, boundO, resultsV, resV, partK, loadV, Vm.part, fillC, splice, reduceIte, reduceCtorEq, Nat.reduceEqDiff, Nat.reduceAdd, Nat.reduceSub, Nat.reduceMul, Nat.reduceLeDiff, ne_eq, not_false_eq_true, Int.reduceEq, Int.reduceLT, Int.reduceLE, Int.reduceNeg, Int.reduceToNat, Int.reduceGT, Int.reduceGE, Nat.reduceLT, Nat.lt_add_one, Nat.zero_lt_succ, Nat.succ_pos, Nat.zero_le, beq_self_eq_true, k_gatepostlaw01_TokenJoins_1, k_gatepostlaw01_TokenJoins_3, k_gatepostlaw01_TokenJoins_5, k_gatepostlaw01_TokenJoins_4, k_gatepostlaw01_TokenJoins_2, k_gatepostlaw01_TokenJoins_0, pairV, hp, Bool.not_true, e0, e5, e7, i1, g, c3, hsl, hi0, decide_false, w, b1, b2, ba, ha, k_gatepostlaw01_TokenJoins_4, k_gatepostlaw01_TokenJoins_5]
      exact ⟨l.length - (i + 1), by omega, i + 1, rfl, hlt, hlt2, by rw [hw1], hend _ _ hg', rfl⟩
def LJ1 : FuncId → List V → V → Prop := fun f a v => LIndex f a v ∨ LUnq f a v
theorem lj1_at (w0 : World) : LibAt Tryd.prog w0 LJ1 := fun f a v h => h.elim (index_at w0 f a v) (unq_at w0 f a v)
theorem TokenJoins_row {x0 : V} (v0 : VPar [.sl [.s]] x0) (w : World) (vs : List Value) (hv : Rvs w.heap.size G0 w [x0] vs) :
    Calls Tryd.prog i_gatepostlaw01_TokenJoins vs.toArray w fun e w' => e = .returned (.bool true) ∧ RowKit.Below w.heap.size w w' := by
  obtain ⟨l, h1, h2, h3⟩ := texts_par v0
  exact calls_at hm hF (lj1_at w) (TokenJoins_ok (indexOk fun _ _ _ h => .inl h) (unqOk fun _ _ _ h => .inr h) h1 h2 h3) hv
end Go.Proofs.YtmfpmnfbcgchjaaDoor.Vh
