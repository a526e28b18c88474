/- FieldNames on the small machine. -/
import Derived.Test.YtfnepflonoadkaaDoorVNamesB
import Derived.Test.YtfnepflonoadkaaDoorVParses
set_option linter.unusedVariables false
set_option linter.unusedSimpArgs false
namespace Go.Proofs.YtfnepflonoadkaaDoor.Vh
open Go.Vm Go.Vt
attribute [local congr] wi_congr wg_congr wgd_congr wb_congr wl_congr cf_congr
variable {L : FuncId → List V → V → Prop} {h : Heap}
theorem tokB_plain (c : UInt8) : tokB c = true → c ≠ 34 ∧ c ≠ 44 ∧ blankB c = false :=
  byte_all (p := fun c => tokB c = true → c ≠ 34 ∧ c ≠ 44 ∧ blankB c = false) (by decide +kernel) c
theorem trim_tok {s : Bs} (h : isTok s = true) : trim s = s := by
  simp only [isTok, Bool.and_eq_true, List.all_eq_true] at h
  have hb : ∀ c ∈ s, blankB c = false := fun c hc => (tokB_plain c (h.2 c hc)).2.2
  have hR : trimR s = s := by
    rcases List.eq_nil_or_concat s with rfl | ⟨r, c, rfl⟩
    · rfl
    · rw [List.concat_eq_append] at hb ⊢
      exact trimR_full (hb c (by simp))
  unfold trim
  rw [hR]
  cases s with
  | nil => rfl
  | cons c r => exact trimL_full (hb c (by simp))
theorem splitG_tok : ∀ {t r own : Bs} {out : List Bs}, (∀ c ∈ t, tokB c = true) → splitG (t ++ r) own false out = splitG r (own ++ t) false out
  | [], r, own, out, _ => by simp
  | c :: t, r, own, out, h => by
    obtain ⟨h1, h2, _⟩ := tokB_plain c (h c (by simp))
    rw [List.cons_append, splitG_step, if_neg h1, if_neg (by simp), if_neg (by simp [h2]), splitG_tok fun x hx => h x (by simp [hx])]
    simp
theorem split_two {a b : Bs} (ha : isTok a = true) (hb : isTok b = true) : split (a ++ [44, 32] ++ b) = some [a, b] := by
  have ta := trim_tok ha
  have tb := trim_tok hb
  have a1 : ∀ c ∈ a, tokB c = true := by simp only [isTok, Bool.and_eq_true, List.all_eq_true] at ha; exact ha.2
  have b1 : ∀ c ∈ b, tokB c = true := by simp only [isTok, Bool.and_eq_true, List.all_eq_true] at hb; exact hb.2
  have a2 : a ≠ [] := by rintro rfl; simp [isTok] at ha
  have b2 : b ≠ [] := by rintro rfl; simp [isTok] at hb
  unfold split
  rw [List.append_assoc, splitG_tok a1, List.nil_append]
  show splitG (44 :: 32 :: b) a false [] = _
  rw [splitG_step, if_neg (by decide), if_neg (by simp), if_pos (by simp), splitG_step, if_neg (by decide), if_neg (by simp), if_neg (by simp)]
  have := splitG_tok (t := b) (r := []) (own := [32]) (out := flush [] a) b1
  rw [List.append_nil] at this
  rw [show ([] : Bs) ++ [32] = [32] from rfl, this]
  have tb2 : trim (32 :: b) = b := by
    have : trim (32 :: b) = trim b := by rw [← trim_comm, ← trim_comm, trimL_blank (by decide)]
    rw [← tb]; rw [tb]; exact this.trans tb
  rw [splitG_none rfl]
  simp [flush, ta, a2, tb2, b2]
theorem names_two {a b : Bs} (ha : isTok a = true) (hb : isTok b = true) : namesO (joinS [a, b]) = some [low a, low b] := by
  have e : joinS [a, b] = a ++ [44, 32] ++ b := by simp [joinS, List.intercalate]
  unfold namesO
  rw [e, split_two ha hb]
  simp [ha, hb]
theorem FieldNames_ok (HJ : JoinOk L) {a b : Bs} (hA : a.length ≤ 140737488351232) (hB : b.length ≤ 140737488351232) : Cf F L i_gatepostlaw04_FieldNames [.str a, .str b] h (fun v _ => v = .bool true) := by
  refine run_gatepostlaw04_FieldNames ?_
  simp only [p_gatepostlaw04_FieldNames]
  have w := wrap64 (x := (a.length : Int) + b.length) (by omega) (by omega)
  by_cases hs : ((a.length : Int) + b.length) > 1000
  · simp (maxSteps := 4000000) only [vm, vl, Arg.get, cells, stor, boundO, resultsV, resV, partK, loadV, Vm.part, fillC, splice, reduceIte, reduceCtorEq, Nat.reduceEqDiff, Nat.reduceAdd, Nat.reduceSub, Nat.reduceMul, Nat.reduceLeDiff, ne_eq, not_false_eq_true, Int.reduceEq, Int.reduceLT, Int.reduceLE, Int.reduceNeg, Int.reduceToNat, Int.reduceGT, Int.reduceGE, Nat.reduceLT, Nat.lt_add_one, Nat.zero_lt_succ, Nat.succ_pos, Nat.zero_le, beq_self_eq_true, k_gatepostlaw04_FieldNames_1, k_gatepostlaw04_FieldNames_0, hs, w, decide_true]
  · simp (maxSteps := 4000000) only [vm, vl, Arg.get, cells, stor, boundO, resultsV, resV, partK, loadV, Vm.part, fillC, splice, reduceIte, reduceCtorEq, Nat.reduceEqDiff, Nat.reduceAdd, Nat.reduceSub, Nat.reduceMul, Nat.reduceLeDiff, ne_eq, not_false_eq_true, Int.reduceEq, Int.reduceLT, Int.reduceLE, Int.reduceNeg, Int.reduceToNat, Int.reduceGT, Int.reduceGE, Nat.reduceLT, Nat.lt_add_one, Nat.zero_lt_succ, Nat.succ_pos, Nat.zero_le, beq_self_eq_true, k_gatepostlaw04_FieldNames_1, k_gatepostlaw04_FieldNames_0, hs, w, decide_false]
    have e0 : V.sl 2 .full [.agg [.str [118], .str a], .agg [.str [120], .str [110, 111]], .agg [.str [86], .str b]] = .sl 2 .full (flds [([118], a), ([120], [110, 111]), ([86], b)]) := rfl
    have ev : valsOf [([118], a), ([120], [110, 111]), ([86], b)] [86] = [a, b] := by
      have e1 : (low [118] == low [86]) = true := by decide +kernel
      have e2 : (low [120] == low [86]) = false := by decide +kernel
      have e3 : (low [86] == low [86]) = true := by decide +kernel
      simp only [valsOf, List.filter_cons, e1, e2, e3, if_true, List.filter_nil]
      rfl
    have ej : joinS [a, b] = a ++ [44, 32] ++ b := by simp [joinS, List.intercalate]
    rw [e0]
    have hn := Names_ok (L := L) (h := h) (x := .sl 2 .full (flds [([118], a), ([120], [110, 111]), ([86], b)])) (l := [([118], a), ([120], [110, 111]), ([86], b)]) (name := [86]) HJ (.inr ⟨_, rfl⟩) (by simp) (by simp) (by simp) (by rw [ev, ej]; simp; omega)
    rw [ev] at hn
    refine hn.mono fun v h' hp => ?_
    have h1 : ∃ y o, v = .tup [y, .bool o] ∧ (isTok a = true → isTok b = true → o = true ∧ ∃ k, y = .sl 1 (.tip k) [.str (low a), .str (low b)]) := by
      rcases hp with ⟨q, rfl, t, rfl⟩ | ⟨out, y, q, rfl, G⟩
      · refine ⟨_, _, rfl, fun ha hb => ?_⟩
        rw [names_two ha hb] at q; cases q
      · refine ⟨_, _, rfl, fun ha hb => ?_⟩
        rw [names_two ha hb] at q
        injection q with q; subst q
        obtain ⟨_, ⟨he, _⟩ | ⟨_, k, e, _⟩⟩ := G
        · cases he
        · exact ⟨rfl, k, e⟩
    obtain ⟨y, o, rfl, h1⟩ := h1
    have con : ∀ {h : Heap} {K : V → Heap → Prop}, (∀ k h', K (.tup [.sl 1 (.tip k) [.str [97], .str [98]], .bool true]) h') → Cf F L i_field_Names [.sl 2 .full [.agg [.str [118], .str [65, 44, 32, 98]]], .str [118]] h K := by
      intro h K hk
      have ev2 : valsOf [([118], [65, 44, 32, 98])] [118] = [[65, 44, 32, 98]] := by decide +kernel
      have hn2 := Names_ok (L := L) (h := h) (x := .sl 2 .full (flds [([118], [65, 44, 32, 98])])) (l := [([118], [65, 44, 32, 98])]) (name := [118]) HJ (.inr ⟨_, rfl⟩) (by simp) (by simp) (by simp) (by rw [ev2]; decide)
      rw [ev2] at hn2
      refine hn2.mono fun v h' hp => ?_
      have en : namesO (joinS [[65, 44, 32, 98]]) = some [[97], [98]] := by decide +kernel
      rw [en] at hp
      rcases hp with ⟨q, _⟩ | ⟨out, y, q, rfl, G⟩
      · cases q
      · injection q with q; subst q
        obtain ⟨_, ⟨he, _⟩ | ⟨_, k, rfl, _⟩⟩ := G
        · cases he
        · exact hk k h'
    simp (maxSteps := 4000000) only [vm, vl, Arg.get, cells, stor, boundO, resultsV, resV, partK, loadV, Vm.part, fillC, splice, reduceIte, reduceCtorEq, Nat.reduceEqDiff, Nat.reduceAdd, Nat.reduceSub, Nat.reduceMul, Nat.reduceLeDiff, ne_eq, not_false_eq_true, Int.reduceEq, Int.reduceLT, Int.reduceLE, Int.reduceNeg, Int.reduceToNat, Int.reduceGT, Int.reduceGE, Nat.reduceLT, Nat.lt_add_one, Nat.zero_lt_succ, Nat.succ_pos, Nat.zero_le, beq_self_eq_true, k_gatepostlaw04_FieldNames_1, k_gatepostlaw04_FieldNames_0]
    refine Cf.pu (Is_ok (by omega)) fun t1 => ?_
    cases ha : isTok a with
    | false =>
      simp (maxSteps := 4000000) only [vm, vl, Arg.get, cells, stor, boundO, resultsV, resV, partK, loadV, Vm.part, fillC, splice, reduceIte, reduceCtorEq, Nat.reduceEqDiff, Nat.reduceAdd, Nat.reduceSub, Nat.reduceMul, Nat.reduceLeDiff, ne_eq, not_false_eq_true, Int.reduceEq, Int.reduceLT, Int.reduceLE, Int.reduceNeg, Int.reduceToNat, Int.reduceGT, Int.reduceGE, Nat.reduceLT, Nat.lt_add_one, Nat.zero_lt_succ, Nat.succ_pos, Nat.zero_le, beq_self_eq_true, k_gatepostlaw04_FieldNames_1, k_gatepostlaw04_FieldNames_0, Bool.not_false]
      refine con fun k h' => ?_
      simp (maxSteps := 4000000) only [vm, vl, Arg.get, cells, stor, boundO, resultsV, resV, partK, loadV, Vm.part, fillC, splice, reduceIte, reduceCtorEq, Nat.reduceEqDiff, Nat.reduceAdd, Nat.reduceSub, Nat.reduceMul, Nat.reduceLeDiff, ne_eq, not_false_eq_true, Int.reduceEq, Int.reduceLT, Int.reduceLE, Int.reduceNeg, Int.reduceToNat, Int.reduceGT, Int.reduceGE, Nat.reduceLT, Nat.lt_add_one, Nat.zero_lt_succ, Nat.succ_pos, Nat.zero_le, beq_self_eq_true, k_gatepostlaw04_FieldNames_1, k_gatepostlaw04_FieldNames_0, decide_true, List.getD_cons_zero, List.length_cons, List.length_nil]
    | true =>
      simp (maxSteps := 4000000) only [vm, vl, Arg.get, cells, stor, boundO, resultsV, resV, partK, loadV, Vm.part, fillC, splice, reduceIte, reduceCtorEq, Nat.reduceEqDiff, Nat.reduceAdd, Nat.reduceSub, Nat.reduceMul, Nat.reduceLeDiff, ne_eq, not_false_eq_true, Int.reduceEq, Int.reduceLT, Int.reduceLE, Int.reduceNeg, Int.reduceToNat, Int.reduceGT, Int.reduceGE, Nat.reduceLT, Nat.lt_add_one, Nat.zero_lt_succ, Nat.succ_pos, Nat.zero_le, beq_self_eq_true, k_gatepostlaw04_FieldNames_1, k_gatepostlaw04_FieldNames_0, Bool.not_true]
      refine Cf.pu (Is_ok (by omega)) fun t2 => ?_
      cases hb : isTok b with
      | false =>
        simp (maxSteps := 4000000) only [vm, vl, Arg.get, cells, stor, boundO, resultsV, resV, partK, loadV, Vm.part, fillC, splice, reduceIte, reduceCtorEq, Nat.reduceEqDiff, Nat.reduceAdd, Nat.reduceSub, Nat.reduceMul, Nat.reduceLeDiff, ne_eq, not_false_eq_true, Int.reduceEq, Int.reduceLT, Int.reduceLE, Int.reduceNeg, Int.reduceToNat, Int.reduceGT, Int.reduceGE, Nat.reduceLT, Nat.lt_add_one, Nat.zero_lt_succ, Nat.succ_pos, Nat.zero_le, beq_self_eq_true, k_gatepostlaw04_FieldNames_1, k_gatepostlaw04_FieldNames_0, Bool.not_false]
        refine con fun k h' => ?_
        simp (maxSteps := 4000000) only [vm, vl, Arg.get, cells, stor, boundO, resultsV, resV, partK, loadV, Vm.part, fillC, splice, reduceIte, reduceCtorEq, Nat.reduceEqDiff, Nat.reduceAdd, Nat.reduceSub, Nat.reduceMul, Nat.reduceLeDiff, ne_eq, not_false_eq_true, Int.reduceEq, Int.reduceLT, Int.reduceLE, Int.reduceNeg, Int.reduceToNat, Int.reduceGT, Int.reduceGE, Nat.reduceLT, Nat.lt_add_one, Nat.zero_lt_succ, Nat.succ_pos, Nat.zero_le, beq_self_eq_true, k_gatepostlaw04_FieldNames_1, k_gatepostlaw04_FieldNames_0, decide_true, List.getD_cons_zero, List.length_cons, List.length_nil]
      | true =>
        obtain ⟨rfl, k, rfl⟩ := h1 ha hb
        simp (maxSteps := 4000000) only [vm, vl, Arg.get, cells, stor, boundO, resultsV, resV, partK, loadV, Vm.part, fillC, splice, reduceIte, reduceCtorEq, Nat.reduceEqDiff, Nat.reduceAdd, Nat.reduceSub, Nat.reduceMul, Nat.reduceLeDiff, ne_eq, not_false_eq_true, Int.reduceEq, Int.reduceLT, Int.reduceLE, Int.reduceNeg, Int.reduceToNat, Int.reduceGT, Int.reduceGE, Nat.reduceLT, Nat.lt_add_one, Nat.zero_lt_succ, Nat.succ_pos, Nat.zero_le, beq_self_eq_true, k_gatepostlaw04_FieldNames_1, k_gatepostlaw04_FieldNames_0, Bool.not_true, decide_true, List.getD_cons_zero, List.getD_cons_succ, List.length_cons, List.length_nil]
        refine Cf.pu (Lower_ok (by omega)) fun t3 => ?_
        simp (maxSteps := 4000000) only [vm, vl, Arg.get, cells, stor, boundO, resultsV, resV, partK, loadV, Vm.part, fillC, splice, reduceIte, reduceCtorEq, Nat.reduceEqDiff, Nat.reduceAdd, Nat.reduceSub, Nat.reduceMul, Nat.reduceLeDiff, ne_eq, not_false_eq_true, Int.reduceEq, Int.reduceLT, Int.reduceLE, Int.reduceNeg, Int.reduceToNat, Int.reduceGT, Int.reduceGE, Nat.reduceLT, Nat.lt_add_one, Nat.zero_lt_succ, Nat.succ_pos, Nat.zero_le, beq_self_eq_true, k_gatepostlaw04_FieldNames_1, k_gatepostlaw04_FieldNames_0, decide_true, List.getD_cons_zero, List.getD_cons_succ, List.length_cons, List.length_nil]
        refine Cf.pu (Lower_ok (by omega)) fun t4 => ?_
        simp (maxSteps := 4000000) only [vm, vl, Arg.get, cells, stor, boundO, resultsV, resV, partK, loadV, Vm.part, fillC, splice, reduceIte, reduceCtorEq, Nat.reduceEqDiff, Nat.reduceAdd, Nat.reduceSub, Nat.reduceMul, Nat.reduceLeDiff, ne_eq, not_false_eq_true, Int.reduceEq, Int.reduceLT, Int.reduceLE, Int.reduceNeg, Int.reduceToNat, Int.reduceGT, Int.reduceGE, Nat.reduceLT, Nat.lt_add_one, Nat.zero_lt_succ, Nat.succ_pos, Nat.zero_le, beq_self_eq_true, k_gatepostlaw04_FieldNames_1, k_gatepostlaw04_FieldNames_0, decide_true, List.getD_cons_zero, List.getD_cons_succ, List.length_cons, List.length_nil]
theorem FieldNames_row {x0 x1 : V} (v0 : VPar [.l .s] x0) (v1 : VPar [.l .s] x1) (w : World) (vs : List Value) (hv : Rvs w.heap.size G0 w [x0, x1] vs) :
    Calls Tryd.prog i_gatepostlaw04_FieldNames vs.toArray w fun e w' => e = .returned (.bool true) ∧ RowKit.Below w.heap.size w w' := by
  obtain ⟨s, rfl, hs⟩ := v0
  obtain ⟨t, rfl, ht⟩ := v1
  exact calls_at hm hF (l4_at w) (FieldNames_ok (joinOk fun _ _ _ h => .inl h) hs ht) hv
end Go.Proofs.YtfnepflonoadkaaDoor.Vh
