/- The document's layer 1 on the small machine: bytes, Is, Value, Lower, Same, Trim. -/
import Derived.Test.YtfihnnebffkbfaaDoorVTrim
set_option linter.unusedVariables false
set_option linter.unusedSimpArgs false
namespace Go.Proofs.YtfihnnebffkbfaaDoor.Vh
open Go.Vm Go.Vt
attribute [local congr] wi_congr wg_congr wgd_congr wb_congr wl_congr cf_congr
variable {L : FuncId → List V → V → Prop} {h : Heap}
theorem tokB_az (c : UInt8) : (c.toNat : Int) ≥ 97 → (c.toNat : Int) ≤ 122 → tokB c = true :=
  byte_all (p := fun c => (c.toNat : Int) ≥ 97 → (c.toNat : Int) ≤ 122 → tokB c = true) (by decide +kernel) c
theorem tokB_AZ (c : UInt8) : (c.toNat : Int) ≥ 65 → (c.toNat : Int) ≤ 90 → tokB c = true :=
  byte_all (p := fun c => (c.toNat : Int) ≥ 65 → (c.toNat : Int) ≤ 90 → tokB c = true) (by decide +kernel) c
theorem tokB_no2 (c : UInt8) : ¬ ((c.toNat : Int) ≥ 97 ∧ (c.toNat : Int) ≤ 122) → ¬ ((c.toNat : Int) ≥ 65 ∧ (c.toNat : Int) ≤ 90) → ¬ ((c.toNat : Int) ≥ 48 ∧ (c.toNat : Int) ≤ 57) → ¬ (c.toNat : Int) ∈ marksL → tokB c = false :=
  byte_all (p := fun c => ¬ ((c.toNat : Int) ≥ 97 ∧ (c.toNat : Int) ≤ 122) → ¬ ((c.toNat : Int) ≥ 65 ∧ (c.toNat : Int) ≤ 90) → ¬ ((c.toNat : Int) ≥ 48 ∧ (c.toNat : Int) ≤ 57) → ¬ (c.toNat : Int) ∈ marksL → tokB c = false) (by decide +kernel) c
theorem tchar_ok {c : UInt8} : Cf F L i_gatepostref01_tchar [byV c] h (Pu h (.bool (tokB c))) := by
  refine run_gatepostref01_tchar ?_
  simp only [p_gatepostref01_tchar]
  by_cases h1 : (c.toNat : Int) ≥ 97 ∧ (c.toNat : Int) ≤ 122
  · have e := tokB_az c h1.1 h1.2
    have h2 := h1.1
    have h3 := h1.2
    simp (maxSteps := 4000000) only [vm, vl, Arg.get, cells, stor, boundO, resultsV, resV, partK, loadV, Vm.part, fillC, splice, reduceIte, reduceCtorEq, Nat.reduceEqDiff, Nat.reduceAdd, Nat.reduceSub, Nat.reduceMul, Nat.reduceLeDiff, ne_eq, not_false_eq_true, Int.reduceEq, Int.reduceLT, Int.reduceLE, Int.reduceNeg, Int.reduceToNat, Int.reduceGT, Int.reduceGE, Nat.reduceLT, Nat.lt_add_one, Nat.zero_lt_succ, Nat.succ_pos, Nat.zero_le, beq_self_eq_true, k_gatepostref01_tchar_1, k_gatepostref01_tchar_2, k_gatepostref01_tchar_0, h2, h3, e]
  by_cases h2 : (c.toNat : Int) ≥ 65 ∧ (c.toNat : Int) ≤ 90
  · have e := tokB_AZ c h2.1 h2.2
    have h3 := h2.1
    have h4 := h2.2
    have h5 : ¬ (c.toNat : Int) ≥ 97 := by omega
    simp (maxSteps := 4000000) only [vm, vl, Arg.get, cells, stor, boundO, resultsV, resV, partK, loadV, Vm.part, fillC, splice, reduceIte, reduceCtorEq, Nat.reduceEqDiff, Nat.reduceAdd, Nat.reduceSub, Nat.reduceMul, Nat.reduceLeDiff, ne_eq, not_false_eq_true, Int.reduceEq, Int.reduceLT, Int.reduceLE, Int.reduceNeg, Int.reduceToNat, Int.reduceGT, Int.reduceGE, Nat.reduceLT, Nat.lt_add_one, Nat.zero_lt_succ, Nat.succ_pos, Nat.zero_le, beq_self_eq_true, k_gatepostref01_tchar_1, k_gatepostref01_tchar_2, k_gatepostref01_tchar_0, h3, h4, h5, e]
  by_cases h3 : (c.toNat : Int) ≥ 48 ∧ (c.toNat : Int) ≤ 57
  · have e := tokB_dig c h3.1 h3.2
    have h4 := h3.1
    have h5 := h3.2
    have h6 : ¬ (c.toNat : Int) ≥ 97 := by omega
    have h7 : ¬ (c.toNat : Int) ≥ 65 := by omega
    simp (maxSteps := 4000000) only [vm, vl, Arg.get, cells, stor, boundO, resultsV, resV, partK, loadV, Vm.part, fillC, splice, reduceIte, reduceCtorEq, Nat.reduceEqDiff, Nat.reduceAdd, Nat.reduceSub, Nat.reduceMul, Nat.reduceLeDiff, ne_eq, not_false_eq_true, Int.reduceEq, Int.reduceLT, Int.reduceLE, Int.reduceNeg, Int.reduceToNat, Int.reduceGT, Int.reduceGE, Nat.reduceLT, Nat.lt_add_one, Nat.zero_lt_succ, Nat.succ_pos, Nat.zero_le, beq_self_eq_true, k_gatepostref01_tchar_1, k_gatepostref01_tchar_2, k_gatepostref01_tchar_0, h4, h5, h6, h7, e]
  have h4 : ((c.toNat : Int) ∈ marksL) = ((c.toNat : Int) = 33 ∨ (c.toNat : Int) = 35 ∨ (c.toNat : Int) = 36 ∨ (c.toNat : Int) = 37 ∨ (c.toNat : Int) = 38 ∨ (c.toNat : Int) = 39 ∨ (c.toNat : Int) = 42 ∨ (c.toNat : Int) = 43 ∨ (c.toNat : Int) = 45 ∨ (c.toNat : Int) = 46 ∨ (c.toNat : Int) = 94 ∨ (c.toNat : Int) = 95 ∨ (c.toNat : Int) = 96 ∨ (c.toNat : Int) = 124 ∨ (c.toNat : Int) = 126) := by
    simp only [marksL, List.mem_cons, List.not_mem_nil, or_false]
  by_cases hm : (c.toNat : Int) ∈ marksL
  · rw [tokB_mark c hm]
    rw [h4] at hm
    clear h4
    simp (maxSteps := 4000000) only [vm, vl, Arg.get, cells, stor, boundO, resultsV, resV, partK, loadV, Vm.part, fillC, splice, reduceIte, reduceCtorEq, Nat.reduceEqDiff, Nat.reduceAdd, Nat.reduceSub, Nat.reduceMul, Nat.reduceLeDiff, ne_eq, not_false_eq_true, Int.reduceEq, Int.reduceLT, Int.reduceLE, Int.reduceNeg, Int.reduceToNat, Int.reduceGT, Int.reduceGE, Nat.reduceLT, Nat.lt_add_one, Nat.zero_lt_succ, Nat.succ_pos, Nat.zero_le, beq_self_eq_true, k_gatepostref01_tchar_1, k_gatepostref01_tchar_2, k_gatepostref01_tchar_0]
    (repeat' ((first | refine wg_casep (fun _ => ?_) (fun _ => ?_) | refine wg_casen (fun _ => ?_) (fun _ => ?_) | refine wg_case (fun _ => ?_) (fun _ => ?_) | refine wgd_casep (fun _ => ?_) (fun _ => ?_) | refine wgd_casen (fun _ => ?_) (fun _ => ?_) | refine wgd_case (fun _ => ?_) (fun _ => ?_) | refine wb_casep (fun _ => ?_) (fun _ => ?_) | refine wb_casen (fun _ => ?_) (fun _ => ?_) | refine wb_case (fun _ => ?_) (fun _ => ?_)) <;> try simp (maxSteps := 4000000) only [vm, vl, Arg.get, cells, stor, boundO, resultsV, resV, partK, loadV, Vm.part, fillC, splice, reduceIte, reduceCtorEq, Nat.reduceEqDiff, Nat.reduceAdd, Nat.reduceSub, Nat.reduceMul, Nat.reduceLeDiff, ne_eq, not_false_eq_true, Int.reduceEq, Int.reduceLT, Int.reduceLE, Int.reduceNeg, Int.reduceToNat, Int.reduceGT, Int.reduceGE, Nat.reduceLT, Nat.lt_add_one, Nat.zero_lt_succ, Nat.succ_pos, Nat.zero_le, beq_self_eq_true, k_gatepostref01_tchar_1, k_gatepostref01_tchar_2, k_gatepostref01_tchar_0, *]))
    all_goals (exfalso; omega)
  · rw [tokB_no2 c h1 h2 h3 hm]
    rw [h4] at hm
    clear h4
    simp (maxSteps := 4000000) only [vm, vl, Arg.get, cells, stor, boundO, resultsV, resV, partK, loadV, Vm.part, fillC, splice, reduceIte, reduceCtorEq, Nat.reduceEqDiff, Nat.reduceAdd, Nat.reduceSub, Nat.reduceMul, Nat.reduceLeDiff, ne_eq, not_false_eq_true, Int.reduceEq, Int.reduceLT, Int.reduceLE, Int.reduceNeg, Int.reduceToNat, Int.reduceGT, Int.reduceGE, Nat.reduceLT, Nat.lt_add_one, Nat.zero_lt_succ, Nat.succ_pos, Nat.zero_le, beq_self_eq_true, k_gatepostref01_tchar_1, k_gatepostref01_tchar_2, k_gatepostref01_tchar_0]
    (repeat' ((first | refine wg_casep (fun _ => ?_) (fun _ => ?_) | refine wg_casen (fun _ => ?_) (fun _ => ?_) | refine wg_case (fun _ => ?_) (fun _ => ?_) | refine wgd_casep (fun _ => ?_) (fun _ => ?_) | refine wgd_casen (fun _ => ?_) (fun _ => ?_) | refine wgd_case (fun _ => ?_) (fun _ => ?_) | refine wb_casep (fun _ => ?_) (fun _ => ?_) | refine wb_casen (fun _ => ?_) (fun _ => ?_) | refine wb_case (fun _ => ?_) (fun _ => ?_)) <;> try simp (maxSteps := 4000000) only [vm, vl, Arg.get, cells, stor, boundO, resultsV, resV, partK, loadV, Vm.part, fillC, splice, reduceIte, reduceCtorEq, Nat.reduceEqDiff, Nat.reduceAdd, Nat.reduceSub, Nat.reduceMul, Nat.reduceLeDiff, ne_eq, not_false_eq_true, Int.reduceEq, Int.reduceLT, Int.reduceLE, Int.reduceNeg, Int.reduceToNat, Int.reduceGT, Int.reduceGE, Nat.reduceLT, Nat.lt_add_one, Nat.zero_lt_succ, Nat.succ_pos, Nat.zero_le, beq_self_eq_true, k_gatepostref01_tchar_1, k_gatepostref01_tchar_2, k_gatepostref01_tchar_0, *]))
    all_goals (exfalso; omega)
theorem rblank_ok {c : UInt8} : Cf F L i_gatepostref01_blank [byV c] h (Pu h (.bool (blankB c))) := by
  refine run_gatepostref01_blank ?_
  simp only [p_gatepostref01_blank]
  simp (maxSteps := 4000000) only [vm, vl, Arg.get, cells, stor, boundO, resultsV, resV, partK, loadV, Vm.part, fillC, splice, reduceIte, reduceCtorEq, Nat.reduceEqDiff, Nat.reduceAdd, Nat.reduceSub, Nat.reduceMul, Nat.reduceLeDiff, ne_eq, not_false_eq_true, Int.reduceEq, Int.reduceLT, Int.reduceLE, Int.reduceNeg, Int.reduceToNat, Int.reduceGT, Int.reduceGE, Nat.reduceLT, Nat.lt_add_one, Nat.zero_lt_succ, Nat.succ_pos, Nat.zero_le, beq_self_eq_true]
  (repeat' ((first | refine wg_casep (fun _ => ?_) (fun _ => ?_) | refine wg_casen (fun _ => ?_) (fun _ => ?_) | refine wg_case (fun _ => ?_) (fun _ => ?_) | refine wgd_casep (fun _ => ?_) (fun _ => ?_) | refine wgd_casen (fun _ => ?_) (fun _ => ?_) | refine wgd_case (fun _ => ?_) (fun _ => ?_) | refine wb_casep (fun _ => ?_) (fun _ => ?_) | refine wb_casen (fun _ => ?_) (fun _ => ?_) | refine wb_case (fun _ => ?_) (fun _ => ?_)) <;> try simp (maxSteps := 4000000) only [vm, vl, Arg.get, cells, stor, boundO, resultsV, resV, partK, loadV, Vm.part, fillC, splice, reduceIte, reduceCtorEq, Nat.reduceEqDiff, Nat.reduceAdd, Nat.reduceSub, Nat.reduceMul, Nat.reduceLeDiff, ne_eq, not_false_eq_true, Int.reduceEq, Int.reduceLT, Int.reduceLE, Int.reduceNeg, Int.reduceToNat, Int.reduceGT, Int.reduceGE, Nat.reduceLT, Nat.lt_add_one, Nat.zero_lt_succ, Nat.succ_pos, Nat.zero_le, beq_self_eq_true, *]))
  all_goals simp [blank_eq, *]
theorem rIs_ok {s : Bs} (hs : s.length < 9223372036854775807) : Cf F L i_gatepostref01_Is [.str s] h (Pu h (.bool (isTok s))) := by
  refine run_gatepostref01_Is ?_
  simp only [p_gatepostref01_Is]
  refine l_gatepostref01_Is_0 (fun n e h' => ∃ i, n = s.length - i ∧ i ≤ s.length ∧ e 0 = .str s ∧ e 3 = .int .i64 i ∧ (∃ t, h' = h ++ t) ∧ s.all tokB = (s.drop i).all tokB) ?_ (n := s.length) ⟨0, by simp, by simp, rfl, rfl, ⟨[], by simp⟩, rfl⟩
  rintro n e h' ⟨i, rfl, hi, e0, e3, ⟨t, rfl⟩, hall⟩
  simp only [b_gatepostref01_Is_0]
  rcases str_at hi with ⟨hn, rfl, hd⟩ | ⟨c, hl, hl', hc, hd⟩
  · simp (maxSteps := 4000000) only [vm, vl, Arg.get, cells, stor, boundO, resultsV, resV, partK, loadV, Vm.part, fillC, splice, reduceIte, reduceCtorEq, Nat.reduceEqDiff, Nat.reduceAdd, Nat.reduceSub, Nat.reduceMul, Nat.reduceLeDiff, ne_eq, not_false_eq_true, Int.reduceEq, Int.reduceLT, Int.reduceLE, Int.reduceNeg, Int.reduceToNat, Int.reduceGT, Int.reduceGE, Nat.reduceLT, Nat.lt_add_one, Nat.zero_lt_succ, Nat.succ_pos, Nat.zero_le, beq_self_eq_true, k_gatepostref01_Is_0, k_gatepostref01_Is_2, k_gatepostref01_Is_1, e0, e3, hn]
    rw [isTok, hall, hd]
    cases s <;> simp
  · have w := wrap64 (x := (i : Int) + 1) (by omega) (by omega)
    rw [hd] at hall
    simp (maxSteps := 4000000) only [vm, vl, Arg.get, cells, stor, boundO, resultsV, resV, partK, loadV, Vm.part, fillC, splice, reduceIte, reduceCtorEq, Nat.reduceEqDiff, Nat.reduceAdd, Nat.reduceSub, Nat.reduceMul, Nat.reduceLeDiff, ne_eq, not_false_eq_true, Int.reduceEq, Int.reduceLT, Int.reduceLE, Int.reduceNeg, Int.reduceToNat, Int.reduceGT, Int.reduceGE, Nat.reduceLT, Nat.lt_add_one, Nat.zero_lt_succ, Nat.succ_pos, Nat.zero_le, beq_self_eq_true, k_gatepostref01_Is_0, k_gatepostref01_Is_2, k_gatepostref01_Is_1, e0, e3, hl, hc, hl', w]
    (repeat' ((first | refine wg_casep (fun _ => ?_) (fun _ => ?_) | refine wg_casen (fun _ => ?_) (fun _ => ?_) | refine wg_case (fun _ => ?_) (fun _ => ?_) | refine wgd_casep (fun _ => ?_) (fun _ => ?_) | refine wgd_casen (fun _ => ?_) (fun _ => ?_) | refine wgd_case (fun _ => ?_) (fun _ => ?_) | refine wb_casep (fun _ => ?_) (fun _ => ?_) | refine wb_casen (fun _ => ?_) (fun _ => ?_) | refine wb_case (fun _ => ?_) (fun _ => ?_) | refine Cf.pu tchar_ok (fun _ => ?_)) <;> try simp (maxSteps := 4000000) only [vm, vl, Arg.get, cells, stor, boundO, resultsV, resV, partK, loadV, Vm.part, fillC, splice, reduceIte, reduceCtorEq, Nat.reduceEqDiff, Nat.reduceAdd, Nat.reduceSub, Nat.reduceMul, Nat.reduceLeDiff, ne_eq, not_false_eq_true, Int.reduceEq, Int.reduceLT, Int.reduceLE, Int.reduceNeg, Int.reduceToNat, Int.reduceGT, Int.reduceGE, Nat.reduceLT, Nat.lt_add_one, Nat.zero_lt_succ, Nat.succ_pos, Nat.zero_le, beq_self_eq_true, k_gatepostref01_Is_0, k_gatepostref01_Is_2, k_gatepostref01_Is_1, *]))
    · rename_i hp; simp at hp
      rw [isTok, hall]
      simp [hp]
    · rename_i hp; simp at hp
      refine ⟨s.length - (i + 1), by omega, i + 1, rfl, hl', by simp, ⟨_, rfl⟩, ?_⟩
      simp [hp]
theorem isVal_ref (s : Bs) : isVal s = (s.all valB && (s == [] || (!blankB (s.getD 0 0) && !blankB (s.getD (s.length - 1) 0)))) := by
  have key : (decide (trim s = s)) = (s == [] || (!blankB (s.getD 0 0) && !blankB (s.getD (s.length - 1) 0))) := by
    cases hn : s.length with
    | zero =>
      obtain rfl : s = [] := List.eq_nil_of_length_eq_zero hn
      rfl
    | succ n =>
      obtain ⟨q, c, rfl, hq, hc, ht⟩ := last_at hn
      have e1 : ((q ++ [c] : Bs) == []) = false := by cases q <;> rfl
      rw [e1, Nat.add_sub_cancel, hc, Bool.false_or]
      cases hb : blankB c with
      | true =>
        have : trim (q ++ [c]) ≠ q ++ [c] := by
          intro he
          have := congrArg List.length he
          unfold trim at this
          rw [trimR_blank hb] at this
          have h1 := trimL_length (trimR q)
          have h2 := trimR_length q
          simp at this
          omega
        simp [this]
      | false =>
        unfold trim
        rw [trimR_full hb]
        cases q with
        | nil => simp [trimL, hb]
        | cons d q =>
          rw [List.cons_append]
          cases hd : blankB d with
          | true =>
            rw [trimL_blank hd]
            have : trimL (q ++ [c]) ≠ d :: (q ++ [c]) := by
              intro he
              have := congrArg List.length he
              have h1 := trimL_length (q ++ [c])
              simp at this h1
              omega
            simp [this, hd]
          | false =>
            rw [trimL_full hd]
            simp [hd]
  rw [isVal, key, Bool.and_comm]
theorem val_ref (c : UInt8) : valB c = !(!blankB c && (decide ((c.toNat : Int) < 33) || decide ((c.toNat : Int) = 127))) :=
  byte_all (p := fun c => valB c = !(!blankB c && (decide ((c.toNat : Int) < 33) || decide ((c.toNat : Int) = 127)))) (by decide +kernel) c
theorem low_up (c : UInt8) : (c.toNat : Int) ≥ 65 → (c.toNat : Int) ≤ 90 → IntKind.u8.wrap ((c.toNat : Int) + 32) = ((lowB c).toNat : Int) :=
  byte_all (p := fun c => (c.toNat : Int) ≥ 65 → (c.toNat : Int) ≤ 90 → IntKind.u8.wrap ((c.toNat : Int) + 32) = ((lowB c).toNat : Int)) (by decide +kernel) c
theorem toStr_one {c : UInt8} {h : Heap} : stepI (.toStr (.c (.sl 1 .full [byV c]))) E0 h = some (.str [c], h) := by
  simp [stepI, Arg.get, srcElems, toBytesL, toByte]
theorem rLower_ok {s : Bs} (hs : s.length ≤ 140737488355328) : Cf F L i_gatepostref01_Lower [.str s] h (Pu h (.str (low s))) := by
  refine run_gatepostref01_Lower ?_
  simp only [p_gatepostref01_Lower]
  refine l_gatepostref01_Lower_0 (fun n e h' => ∃ i, n = s.length - i ∧ i ≤ s.length ∧ e 0 = .str s ∧ e 3 = .str (low (s.take i)) ∧ e 4 = .int .i64 i ∧ (∃ t, h' = h ++ t)) ?_ (n := s.length) ⟨0, by simp, by simp, rfl, rfl, rfl, ⟨[], by simp⟩⟩
  rintro n e h' ⟨i, rfl, hi, e0, e3, e4, ⟨t, rfl⟩⟩
  simp only [b_gatepostref01_Lower_0]
  rcases str_at hi with ⟨hn, rfl, hd⟩ | ⟨c, hl, hl', hc, hd⟩
  · simp (maxSteps := 4000000) only [vm, vl, Arg.get, cells, stor, boundO, resultsV, resV, partK, loadV, Vm.part, fillC, splice, reduceIte, reduceCtorEq, Nat.reduceEqDiff, Nat.reduceAdd, Nat.reduceSub, Nat.reduceMul, Nat.reduceLeDiff, ne_eq, not_false_eq_true, Int.reduceEq, Int.reduceLT, Int.reduceLE, Int.reduceNeg, Int.reduceToNat, Int.reduceGT, Int.reduceGE, Nat.reduceLT, Nat.lt_add_one, Nat.zero_lt_succ, Nat.succ_pos, Nat.zero_le, beq_self_eq_true, k_gatepostref01_Lower_0, k_gatepostref01_Lower_2, k_gatepostref01_Lower_3, k_gatepostref01_Lower_1, e0, e3, e4, hn]
    simp
  · have w := wrap64 (x := (i : Int) + 1) (by omega) (by omega)
    have g : (low (s.take i)).length + [lowB c].length ≤ 9223372036854775807 := by rw [low_length, List.length_take]; simp; omega
    have g1 : binV .add (.str (low (s.take i))) (.str [lowB c]) = some (.str (low (s.take (i + 1)))) := by
      rw [bin_sadd g, take_succ hl' hd, low_append]; rfl
    by_cases hu : (c.toNat : Int) ≥ 65 ∧ (c.toNat : Int) ≤ 90
    · have h1 := hu.1
      have h2 := hu.2
      have h3 := low_up c h1 h2
      simp (maxSteps := 4000000) only [vm, vl, Arg.get, cells, stor, boundO, resultsV, resV, partK, loadV, Vm.part, fillC, splice, reduceIte, reduceCtorEq, Nat.reduceEqDiff, Nat.reduceAdd, Nat.reduceSub, Nat.reduceMul, Nat.reduceLeDiff, ne_eq, not_false_eq_true, Int.reduceEq, Int.reduceLT, Int.reduceLE, Int.reduceNeg, Int.reduceToNat, Int.reduceGT, Int.reduceGE, Nat.reduceLT, Nat.lt_add_one, Nat.zero_lt_succ, Nat.succ_pos, Nat.zero_le, beq_self_eq_true, k_gatepostref01_Lower_0, k_gatepostref01_Lower_2, k_gatepostref01_Lower_3, k_gatepostref01_Lower_1, e0, e3, e4, hl, hc, hl', w, h1, h2, h3, toStr_one, g1]
      exact ⟨s.length - (i + 1), by omega, i + 1, rfl, hl', rfl, rfl, _, rfl⟩
    · have h3 := low_no c hu
      rw [h3] at g1
      have ts : ∀ h, stepI (.toStr (.c (.sl 1 .full [byV c]))) E0 h = some (.str [c], h) := fun h => toStr_one
      simp (maxSteps := 4000000) only [vm, vl, Arg.get, cells, stor, boundO, resultsV, resV, partK, loadV, Vm.part, fillC, splice, reduceIte, reduceCtorEq, Nat.reduceEqDiff, Nat.reduceAdd, Nat.reduceSub, Nat.reduceMul, Nat.reduceLeDiff, ne_eq, not_false_eq_true, Int.reduceEq, Int.reduceLT, Int.reduceLE, Int.reduceNeg, Int.reduceToNat, Int.reduceGT, Int.reduceGE, Nat.reduceLT, Nat.lt_add_one, Nat.zero_lt_succ, Nat.succ_pos, Nat.zero_le, beq_self_eq_true, k_gatepostref01_Lower_0, k_gatepostref01_Lower_2, k_gatepostref01_Lower_3, k_gatepostref01_Lower_1, e0, e3, e4, hl, hc, hl', w]
      (repeat' ((first | refine wg_casep (fun _ => ?_) (fun _ => ?_) | refine wg_casen (fun _ => ?_) (fun _ => ?_) | refine wg_case (fun _ => ?_) (fun _ => ?_) | refine wgd_casep (fun _ => ?_) (fun _ => ?_) | refine wgd_casen (fun _ => ?_) (fun _ => ?_) | refine wgd_case (fun _ => ?_) (fun _ => ?_) | refine wb_casep (fun _ => ?_) (fun _ => ?_) | refine wb_casen (fun _ => ?_) (fun _ => ?_) | refine wb_case (fun _ => ?_) (fun _ => ?_)) <;> try simp (maxSteps := 4000000) only [vm, vl, Arg.get, cells, stor, boundO, resultsV, resV, partK, loadV, Vm.part, fillC, splice, reduceIte, reduceCtorEq, Nat.reduceEqDiff, Nat.reduceAdd, Nat.reduceSub, Nat.reduceMul, Nat.reduceLeDiff, ne_eq, not_false_eq_true, Int.reduceEq, Int.reduceLT, Int.reduceLE, Int.reduceNeg, Int.reduceToNat, Int.reduceGT, Int.reduceGE, Nat.reduceLT, Nat.lt_add_one, Nat.zero_lt_succ, Nat.succ_pos, Nat.zero_le, beq_self_eq_true, k_gatepostref01_Lower_0, k_gatepostref01_Lower_2, k_gatepostref01_Lower_3, k_gatepostref01_Lower_1, *]))
      all_goals first
        | (exfalso; omega)
        | exact ⟨s.length - (i + 1), by omega, i + 1, rfl, hl', rfl, rfl, _, rfl⟩
theorem rSame_ok {s t : Bs} (hs : s.length ≤ 140737488355328) (ht : t.length ≤ 140737488355328) : Cf F L i_gatepostref01_Same [.str s, .str t] h (Pu h (.bool (low s == low t))) := by
  refine run_gatepostref01_Same ?_
  simp only [p_gatepostref01_Same]
  simp (maxSteps := 4000000) only [vm, vl, Arg.get, cells, stor, boundO, resultsV, resV, partK, loadV, Vm.part, fillC, splice, reduceIte, reduceCtorEq, Nat.reduceEqDiff, Nat.reduceAdd, Nat.reduceSub, Nat.reduceMul, Nat.reduceLeDiff, ne_eq, not_false_eq_true, Int.reduceEq, Int.reduceLT, Int.reduceLE, Int.reduceNeg, Int.reduceToNat, Int.reduceGT, Int.reduceGE, Nat.reduceLT, Nat.lt_add_one, Nat.zero_lt_succ, Nat.succ_pos, Nat.zero_le, beq_self_eq_true]
  (repeat' ((first | refine wg_casep (fun _ => ?_) (fun _ => ?_) | refine wg_casen (fun _ => ?_) (fun _ => ?_) | refine wg_case (fun _ => ?_) (fun _ => ?_) | refine wgd_casep (fun _ => ?_) (fun _ => ?_) | refine wgd_casen (fun _ => ?_) (fun _ => ?_) | refine wgd_case (fun _ => ?_) (fun _ => ?_) | refine wb_casep (fun _ => ?_) (fun _ => ?_) | refine wb_casen (fun _ => ?_) (fun _ => ?_) | refine wb_case (fun _ => ?_) (fun _ => ?_) | refine Cf.pu (rLower_ok hs) (fun _ => ?_) | refine Cf.pu (rLower_ok ht) (fun _ => ?_)) <;> try simp (maxSteps := 4000000) only [vm, vl, Arg.get, cells, stor, boundO, resultsV, resV, partK, loadV, Vm.part, fillC, splice, reduceIte, reduceCtorEq, Nat.reduceEqDiff, Nat.reduceAdd, Nat.reduceSub, Nat.reduceMul, Nat.reduceLeDiff, ne_eq, not_false_eq_true, Int.reduceEq, Int.reduceLT, Int.reduceLE, Int.reduceNeg, Int.reduceToNat, Int.reduceGT, Int.reduceGE, Nat.reduceLT, Nat.lt_add_one, Nat.zero_lt_succ, Nat.succ_pos, Nat.zero_le, beq_self_eq_true, *]))
theorem rTrim_ok {s : Bs} (hs : s.length < 9223372036854775807) : Cf F L i_gatepostref01_Trim [.str s] h (Pu h (.str (trim s))) := by
  refine run_gatepostref01_Trim ?_
  simp only [p_gatepostref01_Trim]
  rw [← trim_comm]
  refine l_gatepostref01_Trim_1 (fun n e h' => ∃ r : Bs, n = r.length ∧ e 0 = .str r ∧ (∃ t, h' = h ++ t) ∧ r.length ≤ s.length ∧ trimL r = trimL s) ?_ (n := s.length) ⟨s, rfl, rfl, ⟨[], by simp⟩, by omega, rfl⟩
  rintro n e h' ⟨r, rfl, e0, ⟨t, rfl⟩, hl, hr⟩
  have right : ∀ {e : Env} {h' : Heap} {r : Bs}, e 0 = .str r → (∃ t, h' = h ++ t) → r.length ≤ s.length → trimR r = trimR (trimL s) → Wl F L lc_gatepostref01_Trim_0 (q_gatepostref01_Trim_0 L (Pu h (.str (trimR (trimL s))))) e h' := by
    intro e h' r e0 ht hl hr
    refine l_gatepostref01_Trim_0 (fun n e h' => ∃ r : Bs, n = r.length ∧ e 0 = .str r ∧ (∃ t, h' = h ++ t) ∧ r.length ≤ s.length ∧ trimR r = trimR (trimL s)) ?_ (n := r.length) ⟨r, rfl, e0, ht, hl, hr⟩
    rintro n e h' ⟨r, rfl, e0, ⟨t, rfl⟩, hl, hr⟩
    simp only [b_gatepostref01_Trim_0]
    rw [← hr]
    cases hn : r.length with
    | zero =>
      obtain rfl : r = [] := List.eq_nil_of_length_eq_zero hn
      simp (maxSteps := 4000000) only [vm, vl, Arg.get, cells, stor, boundO, resultsV, resV, partK, loadV, Vm.part, fillC, splice, reduceIte, reduceCtorEq, Nat.reduceEqDiff, Nat.reduceAdd, Nat.reduceSub, Nat.reduceMul, Nat.reduceLeDiff, ne_eq, not_false_eq_true, Int.reduceEq, Int.reduceLT, Int.reduceLE, Int.reduceNeg, Int.reduceToNat, Int.reduceGT, Int.reduceGE, Nat.reduceLT, Nat.lt_add_one, Nat.zero_lt_succ, Nat.succ_pos, Nat.zero_le, beq_self_eq_true, k_gatepostref01_Trim_1, k_gatepostref01_Trim_2, k_gatepostref01_Trim_0, k_gatepostref01_Trim_3, e0]
      rfl
    | succ n =>
      obtain ⟨q, c, rfl, hq, hc, ht⟩ := last_at hn
      have w : IntKind.i64.wrap (((n + 1 : Nat) : Int) - 1) = n := by rw [wrap64 (by omega) (by omega)]; omega
      have g0 : ((n + 1 : Nat) : Int) > 0 := by omega
      simp (maxSteps := 4000000) only [vm, vl, Arg.get, cells, stor, boundO, resultsV, resV, partK, loadV, Vm.part, fillC, splice, reduceIte, reduceCtorEq, Nat.reduceEqDiff, Nat.reduceAdd, Nat.reduceSub, Nat.reduceMul, Nat.reduceLeDiff, ne_eq, not_false_eq_true, Int.reduceEq, Int.reduceLT, Int.reduceLE, Int.reduceNeg, Int.reduceToNat, Int.reduceGT, Int.reduceGE, Nat.reduceLT, Nat.lt_add_one, Nat.zero_lt_succ, Nat.succ_pos, Nat.zero_le, beq_self_eq_true, k_gatepostref01_Trim_1, k_gatepostref01_Trim_2, k_gatepostref01_Trim_0, k_gatepostref01_Trim_3, e0, hn, w, g0, hc, ht]
      (repeat' ((first | refine wg_casep (fun _ => ?_) (fun _ => ?_) | refine wg_casen (fun _ => ?_) (fun _ => ?_) | refine wg_case (fun _ => ?_) (fun _ => ?_) | refine wgd_casep (fun _ => ?_) (fun _ => ?_) | refine wgd_casen (fun _ => ?_) (fun _ => ?_) | refine wgd_case (fun _ => ?_) (fun _ => ?_) | refine wb_casep (fun _ => ?_) (fun _ => ?_) | refine wb_casen (fun _ => ?_) (fun _ => ?_) | refine wb_case (fun _ => ?_) (fun _ => ?_) | refine Cf.pu rblank_ok (fun _ => ?_)) <;> try simp (maxSteps := 4000000) only [vm, vl, Arg.get, cells, stor, boundO, resultsV, resV, partK, loadV, Vm.part, fillC, splice, reduceIte, reduceCtorEq, Nat.reduceEqDiff, Nat.reduceAdd, Nat.reduceSub, Nat.reduceMul, Nat.reduceLeDiff, ne_eq, not_false_eq_true, Int.reduceEq, Int.reduceLT, Int.reduceLE, Int.reduceNeg, Int.reduceToNat, Int.reduceGT, Int.reduceGE, Nat.reduceLT, Nat.lt_add_one, Nat.zero_lt_succ, Nat.succ_pos, Nat.zero_le, beq_self_eq_true, k_gatepostref01_Trim_1, k_gatepostref01_Trim_2, k_gatepostref01_Trim_0, k_gatepostref01_Trim_3, *]))
      · rename_i hp
        exact ⟨by omega, q.length, by omega, q, rfl, rfl, ⟨_, rfl⟩, by rw [hn] at hl; omega, by rw [← hr, trimR_blank hp]⟩
      · rename_i hp
        rw [← hr, trimR_full hp]
  simp only [b_gatepostref01_Trim_1]
  cases r with
  | nil =>
    simp (maxSteps := 4000000) only [vm, vl, Arg.get, cells, stor, boundO, resultsV, resV, partK, loadV, Vm.part, fillC, splice, reduceIte, reduceCtorEq, Nat.reduceEqDiff, Nat.reduceAdd, Nat.reduceSub, Nat.reduceMul, Nat.reduceLeDiff, ne_eq, not_false_eq_true, Int.reduceEq, Int.reduceLT, Int.reduceLE, Int.reduceNeg, Int.reduceToNat, Int.reduceGT, Int.reduceGE, Nat.reduceLT, Nat.lt_add_one, Nat.zero_lt_succ, Nat.succ_pos, Nat.zero_le, beq_self_eq_true, k_gatepostref01_Trim_1, k_gatepostref01_Trim_2, k_gatepostref01_Trim_0, k_gatepostref01_Trim_3, e0]
    exact right (r := []) (by simp [upd, e0]) ⟨_, rfl⟩ (by simp) (by rw [← hr]; rfl)
  | cons c q =>
    have g0 : (((c :: q).length : Nat) : Int) > 0 := by simp
    have g1 : 1 ≤ (c :: q).length := by simp
    have g2 : List.take (c :: q).length (c :: q) = c :: q := List.take_of_length_le (Nat.le_refl _)
    have g3 : 0 < (c :: q).length := by simp
    simp only [List.length_cons] at g0 g1 g2 g3
    simp (maxSteps := 4000000) only [vm, vl, Arg.get, cells, stor, boundO, resultsV, resV, partK, loadV, Vm.part, fillC, splice, reduceIte, reduceCtorEq, Nat.reduceEqDiff, Nat.reduceAdd, Nat.reduceSub, Nat.reduceMul, Nat.reduceLeDiff, ne_eq, not_false_eq_true, Int.reduceEq, Int.reduceLT, Int.reduceLE, Int.reduceNeg, Int.reduceToNat, Int.reduceGT, Int.reduceGE, Nat.reduceLT, Nat.lt_add_one, Nat.zero_lt_succ, Nat.succ_pos, Nat.zero_le, beq_self_eq_true, k_gatepostref01_Trim_1, k_gatepostref01_Trim_2, k_gatepostref01_Trim_0, k_gatepostref01_Trim_3, e0, g0, g1, g2, g3]
    (repeat' ((first | refine wg_casep (fun _ => ?_) (fun _ => ?_) | refine wg_casen (fun _ => ?_) (fun _ => ?_) | refine wg_case (fun _ => ?_) (fun _ => ?_) | refine wgd_casep (fun _ => ?_) (fun _ => ?_) | refine wgd_casen (fun _ => ?_) (fun _ => ?_) | refine wgd_case (fun _ => ?_) (fun _ => ?_) | refine wb_casep (fun _ => ?_) (fun _ => ?_) | refine wb_casen (fun _ => ?_) (fun _ => ?_) | refine wb_case (fun _ => ?_) (fun _ => ?_) | refine Cf.pu rblank_ok (fun _ => ?_)) <;> try simp (maxSteps := 4000000) only [vm, vl, Arg.get, cells, stor, boundO, resultsV, resV, partK, loadV, Vm.part, fillC, splice, reduceIte, reduceCtorEq, Nat.reduceEqDiff, Nat.reduceAdd, Nat.reduceSub, Nat.reduceMul, Nat.reduceLeDiff, ne_eq, not_false_eq_true, Int.reduceEq, Int.reduceLT, Int.reduceLE, Int.reduceNeg, Int.reduceToNat, Int.reduceGT, Int.reduceGE, Nat.reduceLT, Nat.lt_add_one, Nat.zero_lt_succ, Nat.succ_pos, Nat.zero_le, beq_self_eq_true, k_gatepostref01_Trim_1, k_gatepostref01_Trim_2, k_gatepostref01_Trim_0, k_gatepostref01_Trim_3, *]))
    · rename_i hp
      exact ⟨q.length, by omega, q, rfl, rfl, ⟨_, rfl⟩, by simp at hl; omega, by rw [← hr, trimL_blank hp]⟩
    · rename_i hp
      exact right (by simp [upd, e0]) ⟨_, rfl⟩ hl (by rw [← hr, trimL_full hp])
end Go.Proofs.YtfihnnebffkbfaaDoor.Vh
