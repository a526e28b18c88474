/- Package date's Parse on the small machine. -/
import Derived.Test.YtdgklgeddbfeaaaDoorVForms2
set_option linter.unusedVariables false
set_option linter.unusedSimpArgs false
namespace Go.Proofs.YtdgklgeddbfeaaaDoor.Vh
open Go.Vm Go.Vt
attribute [local congr] wi_congr wg_congr wgd_congr wb_congr wl_congr cf_congr
variable {L : FuncId → List V → V → Prop} {h : Heap}
def formR (s : Bs) : Nat → V
  | 0 => fixedR (s, true)
  | 1 => oldR (s, true)
  | _ => plainR (s, true)
theorem formR_tup (s : Bs) (i : Nat) : ∃ (n : Int) (b : Bool), formR s i = .tup [.int .i64 n, .bool b] := by
  match i with
  | 0 => unfold formR fixedR; simp only; exact secR_tup _ _ _ _ _ _
  | 1 => unfold formR oldR; simp only; exact secR_tup _ _ _ _ _ _
  | _ + 2 =>
    unfold formR plainR plainB
    simp only
    split
    · exact secR_tup _ _ _ _ _ _
    · exact secR_tup _ _ _ _ _ _
def okV : V → Option Int
  | .tup [.int .i64 n, .bool true] => some n
  | _ => none
def orG (a b : Option Int) : Option Int := match a with
  | some n => some n
  | none => b
def dateS (s : Bs) : Option Int := orG (okV (formR s 0)) (orG (okV (formR s 1)) (okV (formR s 2)))
def dateV : Option Int → V
  | some n => .tup [.int .i64 n, .bool true]
  | none => .tup [.int .i64 0, .bool false]
theorem form_ok {s : Bs} (hs : s.length < 9223372036854775807) : ∀ (f : FuncId) (i : Nat), (i = 0 ∧ f = i_date_fixed) ∨ (i = 1 ∧ f = i_date_old) ∨ (i = 2 ∧ f = i_date_plain) → ∀ (t : Heap) (K : V → Heap → Prop), (∀ t', K (formR s i) (h ++ t')) → Cf F L f [.ptr (h.length + t.length) 0] (h ++ (t ++ [O.box [.str s, .bool true]])) K := by
  intro f i hfi t K hK
  have hb : (h ++ (t ++ [O.box [.str s, .bool true]]))[h.length + t.length]? = some (bx (s, true)) := by
    rw [← List.append_assoc, List.getElem?_append_right (by simp)]; simp [bx]
  have post : ∀ (v : V), v = formR s i → ∀ h', (∃ r' t', h' = (h ++ (t ++ [O.box [.str s, .bool true]])).set (h.length + t.length) (bx r') ++ t') → K v h' := by
    rintro v rfl h' ⟨r', t', rfl⟩
    rw [List.set_append_right _ _ (by omega), List.append_assoc]
    exact hK _
  rcases hfi with ⟨rfl, rfl⟩ | ⟨rfl, rfl⟩ | ⟨rfl, rfl⟩
  · exact (fixed_ok hb hs).mono fun v h' hp => post v hp.1 h' hp.2
  · exact (old_ok hb hs).mono fun v h' hp => post v hp.1 h' hp.2
  · exact (plain_ok hb hs).mono fun v h' hp => post v hp.1 h' hp.2
theorem DParse_ok {s : Bs} (hs : s.length < 9223372036854775807) : Cf F L i_date_Parse [.str s] h (Pu h (dateV (dateS s))) := by
  refine run_date_Parse ?_
  simp only [p_date_Parse]
  simp (maxSteps := 4000000) only [vm, vl, Arg.get, cells, stor, boundO, resultsV, resV, partK, loadV, Vm.part, fillC, splice, reduceIte, reduceCtorEq, Nat.reduceEqDiff, Nat.reduceAdd, Nat.reduceSub, Nat.reduceMul, Nat.reduceLeDiff, ne_eq, not_false_eq_true, Int.reduceEq, Int.reduceLT, Int.reduceLE, Int.reduceNeg, Int.reduceToNat, Int.reduceGT, Int.reduceGE, Nat.reduceLT, Nat.lt_add_one, Nat.zero_lt_succ, Nat.succ_pos, Nat.zero_le, beq_self_eq_true, k_date_Parse_0, k_date_Parse_2, k_date_Parse_1]
  refine l_date_Parse_0 (fun n e h' => ∃ i, n = 3 - i ∧ i ≤ 3 ∧ e 0 = .str s ∧ e 8 = .agg [.fn i_date_fixed [], .fn i_date_old [], .fn i_date_plain []] ∧ e 9 = .int .i64 i ∧ (∃ t, h' = h ++ t) ∧ ∀ j, j < i → okV (formR s j) = none) ?_ (n := 3) ⟨0, by simp, by simp, rfl, rfl, rfl, ⟨[], by simp⟩, by simp⟩
  rintro n e h' ⟨i, rfl, hil, e0, e8, e9, ⟨t, rfl⟩, hj⟩
  simp only [b_date_Parse_0]
  have hi : i = 0 ∨ i = 1 ∨ i = 2 ∨ i = 3 := by omega
  have nx : okV (formR s i) = none → ∀ j, j < i + 1 → okV (formR s j) = none := by
    intro hx j hj'
    rcases Nat.lt_or_ge j i with h1 | h1
    · exact hj j h1
    · have : j = i := by omega
      subst this; exact hx
  obtain ⟨n, b, en⟩ := formR_tup s i
  have P := fun f hf => form_ok (L := L) (h := h) hs f i hf t
  rcases hi with rfl | rfl | rfl | rfl
  · simp (maxSteps := 4000000) only [vm, vl, Arg.get, cells, stor, boundO, resultsV, resV, partK, loadV, Vm.part, fillC, splice, reduceIte, reduceCtorEq, Nat.reduceEqDiff, Nat.reduceAdd, Nat.reduceSub, Nat.reduceMul, Nat.reduceLeDiff, ne_eq, not_false_eq_true, Int.reduceEq, Int.reduceLT, Int.reduceLE, Int.reduceNeg, Int.reduceToNat, Int.reduceGT, Int.reduceGE, Nat.reduceLT, Nat.lt_add_one, Nat.zero_lt_succ, Nat.succ_pos, Nat.zero_le, beq_self_eq_true, k_date_Parse_0, k_date_Parse_2, k_date_Parse_1, e0, e8, e9, decide_true, List.getD_cons_zero, List.getD_cons_succ, List.length_append]
    refine P _ (.inl ⟨rfl, rfl⟩) _ fun t' => ?_
    rw [en]
    cases b with
    | true =>
      have ed : dateS s = some n := by rw [dateS, en]; rfl
      rw [ed]
      simp (maxSteps := 4000000) only [vm, vl, Arg.get, cells, stor, boundO, resultsV, resV, partK, loadV, Vm.part, fillC, splice, reduceIte, reduceCtorEq, Nat.reduceEqDiff, Nat.reduceAdd, Nat.reduceSub, Nat.reduceMul, Nat.reduceLeDiff, ne_eq, not_false_eq_true, Int.reduceEq, Int.reduceLT, Int.reduceLE, Int.reduceNeg, Int.reduceToNat, Int.reduceGT, Int.reduceGE, Nat.reduceLT, Nat.lt_add_one, Nat.zero_lt_succ, Nat.succ_pos, Nat.zero_le, beq_self_eq_true, k_date_Parse_0, k_date_Parse_2, k_date_Parse_1, dateV]
    | false =>
      have w : IntKind.i64.wrap ((0 : Int) + 1) = ((0 + 1 : Nat) : Int) := by rw [wrap64 (by omega) (by omega)]; rfl
      simp (maxSteps := 4000000) only [vm, vl, Arg.get, cells, stor, boundO, resultsV, resV, partK, loadV, Vm.part, fillC, splice, reduceIte, reduceCtorEq, Nat.reduceEqDiff, Nat.reduceAdd, Nat.reduceSub, Nat.reduceMul, Nat.reduceLeDiff, ne_eq, not_false_eq_true, Int.reduceEq, Int.reduceLT, Int.reduceLE, Int.reduceNeg, Int.reduceToNat, Int.reduceGT, Int.reduceGE, Nat.reduceLT, Nat.lt_add_one, Nat.zero_lt_succ, Nat.succ_pos, Nat.zero_le, beq_self_eq_true, k_date_Parse_0, k_date_Parse_2, k_date_Parse_1, w]
      exact ⟨3 - (0 + 1), by omega, 0 + 1, rfl, by omega, rfl, ⟨t', rfl⟩, nx (by rw [en]; rfl)⟩
  · simp (maxSteps := 4000000) only [vm, vl, Arg.get, cells, stor, boundO, resultsV, resV, partK, loadV, Vm.part, fillC, splice, reduceIte, reduceCtorEq, Nat.reduceEqDiff, Nat.reduceAdd, Nat.reduceSub, Nat.reduceMul, Nat.reduceLeDiff, ne_eq, not_false_eq_true, Int.reduceEq, Int.reduceLT, Int.reduceLE, Int.reduceNeg, Int.reduceToNat, Int.reduceGT, Int.reduceGE, Nat.reduceLT, Nat.lt_add_one, Nat.zero_lt_succ, Nat.succ_pos, Nat.zero_le, beq_self_eq_true, k_date_Parse_0, k_date_Parse_2, k_date_Parse_1, e0, e8, e9, decide_true, List.getD_cons_zero, List.getD_cons_succ, List.length_append]
    refine P _ (.inr (.inl ⟨rfl, rfl⟩)) _ fun t' => ?_
    rw [en]
    cases b with
    | true =>
      have ed : dateS s = some n := by rw [dateS, hj 0 (by omega), en]; rfl
      rw [ed]
      simp (maxSteps := 4000000) only [vm, vl, Arg.get, cells, stor, boundO, resultsV, resV, partK, loadV, Vm.part, fillC, splice, reduceIte, reduceCtorEq, Nat.reduceEqDiff, Nat.reduceAdd, Nat.reduceSub, Nat.reduceMul, Nat.reduceLeDiff, ne_eq, not_false_eq_true, Int.reduceEq, Int.reduceLT, Int.reduceLE, Int.reduceNeg, Int.reduceToNat, Int.reduceGT, Int.reduceGE, Nat.reduceLT, Nat.lt_add_one, Nat.zero_lt_succ, Nat.succ_pos, Nat.zero_le, beq_self_eq_true, k_date_Parse_0, k_date_Parse_2, k_date_Parse_1, dateV]
    | false =>
      have w : IntKind.i64.wrap ((1 : Int) + 1) = ((1 + 1 : Nat) : Int) := by rw [wrap64 (by omega) (by omega)]; rfl
      simp (maxSteps := 4000000) only [vm, vl, Arg.get, cells, stor, boundO, resultsV, resV, partK, loadV, Vm.part, fillC, splice, reduceIte, reduceCtorEq, Nat.reduceEqDiff, Nat.reduceAdd, Nat.reduceSub, Nat.reduceMul, Nat.reduceLeDiff, ne_eq, not_false_eq_true, Int.reduceEq, Int.reduceLT, Int.reduceLE, Int.reduceNeg, Int.reduceToNat, Int.reduceGT, Int.reduceGE, Nat.reduceLT, Nat.lt_add_one, Nat.zero_lt_succ, Nat.succ_pos, Nat.zero_le, beq_self_eq_true, k_date_Parse_0, k_date_Parse_2, k_date_Parse_1, w]
      exact ⟨3 - (1 + 1), by omega, 1 + 1, rfl, by omega, rfl, ⟨t', rfl⟩, nx (by rw [en]; rfl)⟩
  · simp (maxSteps := 4000000) only [vm, vl, Arg.get, cells, stor, boundO, resultsV, resV, partK, loadV, Vm.part, fillC, splice, reduceIte, reduceCtorEq, Nat.reduceEqDiff, Nat.reduceAdd, Nat.reduceSub, Nat.reduceMul, Nat.reduceLeDiff, ne_eq, not_false_eq_true, Int.reduceEq, Int.reduceLT, Int.reduceLE, Int.reduceNeg, Int.reduceToNat, Int.reduceGT, Int.reduceGE, Nat.reduceLT, Nat.lt_add_one, Nat.zero_lt_succ, Nat.succ_pos, Nat.zero_le, beq_self_eq_true, k_date_Parse_0, k_date_Parse_2, k_date_Parse_1, e0, e8, e9, decide_true, List.getD_cons_zero, List.getD_cons_succ, List.length_append]
    refine P _ (.inr (.inr ⟨rfl, rfl⟩)) _ fun t' => ?_
    rw [en]
    cases b with
    | true =>
      have ed : dateS s = some n := by rw [dateS, hj 0 (by omega), hj 1 (by omega), en]; rfl
      rw [ed]
      simp (maxSteps := 4000000) only [vm, vl, Arg.get, cells, stor, boundO, resultsV, resV, partK, loadV, Vm.part, fillC, splice, reduceIte, reduceCtorEq, Nat.reduceEqDiff, Nat.reduceAdd, Nat.reduceSub, Nat.reduceMul, Nat.reduceLeDiff, ne_eq, not_false_eq_true, Int.reduceEq, Int.reduceLT, Int.reduceLE, Int.reduceNeg, Int.reduceToNat, Int.reduceGT, Int.reduceGE, Nat.reduceLT, Nat.lt_add_one, Nat.zero_lt_succ, Nat.succ_pos, Nat.zero_le, beq_self_eq_true, k_date_Parse_0, k_date_Parse_2, k_date_Parse_1, dateV]
    | false =>
      have w : IntKind.i64.wrap ((2 : Int) + 1) = ((2 + 1 : Nat) : Int) := by rw [wrap64 (by omega) (by omega)]; rfl
      simp (maxSteps := 4000000) only [vm, vl, Arg.get, cells, stor, boundO, resultsV, resV, partK, loadV, Vm.part, fillC, splice, reduceIte, reduceCtorEq, Nat.reduceEqDiff, Nat.reduceAdd, Nat.reduceSub, Nat.reduceMul, Nat.reduceLeDiff, ne_eq, not_false_eq_true, Int.reduceEq, Int.reduceLT, Int.reduceLE, Int.reduceNeg, Int.reduceToNat, Int.reduceGT, Int.reduceGE, Nat.reduceLT, Nat.lt_add_one, Nat.zero_lt_succ, Nat.succ_pos, Nat.zero_le, beq_self_eq_true, k_date_Parse_0, k_date_Parse_2, k_date_Parse_1, w]
      exact ⟨3 - (2 + 1), by omega, 2 + 1, rfl, by omega, rfl, ⟨t', rfl⟩, nx (by rw [en]; rfl)⟩
  · have ed : dateS s = none := by rw [dateS, hj 0 (by omega), hj 1 (by omega), hj 2 (by omega)]; rfl
    rw [ed]
    simp (maxSteps := 4000000) only [vm, vl, Arg.get, cells, stor, boundO, resultsV, resV, partK, loadV, Vm.part, fillC, splice, reduceIte, reduceCtorEq, Nat.reduceEqDiff, Nat.reduceAdd, Nat.reduceSub, Nat.reduceMul, Nat.reduceLeDiff, ne_eq, not_false_eq_true, Int.reduceEq, Int.reduceLT, Int.reduceLE, Int.reduceNeg, Int.reduceToNat, Int.reduceGT, Int.reduceGE, Nat.reduceLT, Nat.lt_add_one, Nat.zero_lt_succ, Nat.succ_pos, Nat.zero_le, beq_self_eq_true, k_date_Parse_0, k_date_Parse_2, k_date_Parse_1, e0, e8, e9, decide_false, dateV]
end Go.Proofs.YtdgklgeddbfeaaaDoor.Vh
