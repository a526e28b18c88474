/- Package token on the small machine: bytes, Is, Value, Lower, Same. -/
import Derived.Test.YtfihnnebffkbfaaDoorVh
import Derived.Test.YtfihnnebffkbfaaDoorTok
set_option linter.unusedVariables false
set_option linter.unusedSimpArgs false
namespace Go.Proofs.YtfihnnebffkbfaaDoor.Vh
open Go.Vm Go.Vt
attribute [local congr] wi_congr wg_congr wgd_congr wb_congr wl_congr cf_congr
variable {L : FuncId → List V → V → Prop} {h : Heap}
/-- A byte, as a value. -/
abbrev byV (c : UInt8) : V := .int .u8 (c.toNat : Int)
theorem or32 (c : UInt8) : bitsI .or .u8 (c.toNat : Int) 32 = ((c ||| 32).toNat : Int) := byte_all (p := fun c => bitsI .or .u8 (c.toNat : Int) 32 = ((c ||| 32).toNat : Int)) (by decide +kernel) c
theorem marks_ok : Cf F L i_token_marks [] h (Pu h (.agg ([33, 35, 36, 37, 38, 39, 42, 43, 45, 46, 94, 95, 96, 124, 126].map (.int .u8)))) := by
  refine run_token_marks ?_
  simp only [p_token_marks]
  simp (maxSteps := 4000000) only [vm, vl, Arg.get, cells, stor, boundO, resultsV, resV, partK, loadV, Vm.part, fillC, splice, reduceIte, reduceCtorEq, Nat.reduceEqDiff, Nat.reduceAdd, Nat.reduceSub, Nat.reduceMul, Nat.reduceLeDiff, ne_eq, not_false_eq_true, Int.reduceEq, Int.reduceLT, Int.reduceLE, Int.reduceNeg, Int.reduceToNat, Int.reduceGT, Int.reduceGE, Nat.reduceLT, Nat.lt_add_one, Nat.zero_lt_succ, Nat.succ_pos, Nat.zero_le, beq_self_eq_true]
def marksL : List Int := [33, 35, 36, 37, 38, 39, 42, 43, 45, 46, 94, 95, 96, 124, 126]
theorem tokB_low (c : UInt8) : ((c ||| 32).toNat : Int) ≥ 97 → ((c ||| 32).toNat : Int) ≤ 122 → tokB c = true :=
  byte_all (p := fun c => ((c ||| 32).toNat : Int) ≥ 97 → ((c ||| 32).toNat : Int) ≤ 122 → tokB c = true) (by decide +kernel) c
theorem tokB_dig (c : UInt8) : (c.toNat : Int) ≥ 48 → (c.toNat : Int) ≤ 57 → tokB c = true :=
  byte_all (p := fun c => (c.toNat : Int) ≥ 48 → (c.toNat : Int) ≤ 57 → tokB c = true) (by decide +kernel) c
theorem tokB_mark (c : UInt8) : (c.toNat : Int) ∈ marksL → tokB c = true :=
  byte_all (p := fun c => (c.toNat : Int) ∈ marksL → tokB c = true) (by decide +kernel) c
theorem tokB_no (c : UInt8) : ¬ (((c ||| 32).toNat : Int) ≥ 97 ∧ ((c ||| 32).toNat : Int) ≤ 122) → ¬ ((c.toNat : Int) ≥ 48 ∧ (c.toNat : Int) ≤ 57) → ¬ (c.toNat : Int) ∈ marksL → tokB c = false :=
  byte_all (p := fun c => ¬ (((c ||| 32).toNat : Int) ≥ 97 ∧ ((c ||| 32).toNat : Int) ≤ 122) → ¬ ((c.toNat : Int) ≥ 48 ∧ (c.toNat : Int) ≤ 57) → ¬ (c.toNat : Int) ∈ marksL → tokB c = false) (by decide +kernel) c
theorem inToken_loop {c : UInt8} {h : Heap} {e : Env} {t : Heap} (e0 : e 0 = byV c) (e22 : e 22 = .agg (marksL.map (.int .u8))) (e23 : e 23 = .int .i64 0)
    (hn : ¬ (c.toNat : Int) ∈ marksL → tokB c = false) : Wl F L lc_token_inToken_0 (q_token_inToken_0 L (Pu h (.bool (tokB c)))) e (h ++ t) := by
  refine l_token_inToken_0 (fun n e h' => ∃ i, i ≤ 15 ∧ n = 15 - i ∧ e 0 = byV c ∧ e 22 = .agg (marksL.map (.int .u8)) ∧ e 23 = .int .i64 i ∧ h' = h ++ t ∧ ∀ j, j < i → marksL.getD j 0 ≠ (c.toNat : Int)) ?_ (n := 15) ⟨0, by simp, rfl, e0, e22, e23, rfl, by simp⟩
  rintro n e h' ⟨i, hi, rfl, e0, e22, e23, rfl, hj⟩
  simp only [b_token_inToken_0]
  
  have hd : ∀ i, i < 15 → (marksL.map (V.int .u8)).getD i (.tup []) = .int .u8 (marksL.getD i 0) := by
    intro i hi
    have : i < marksL.length := hi
    rw [List.getD_eq_getElem?_getD, List.getD_eq_getElem?_getD, List.getElem?_map, List.getElem?_eq_getElem this, Option.map_some, Option.getD_some, Option.getD_some]
  by_cases hl : (i : Int) < 15
  · have hl' : i < 15 := by omega
    have w := wrap64 (x := (i : Int) + 1) (by omega) (by omega)
    have b1 : i + 1 ≤ 15 := by omega
    have b2 := hd i hl'
    have hmem : marksL.getD i 0 ∈ marksL := by
      have : i < marksL.length := hl'
      rw [List.getD_eq_getElem?_getD, List.getElem?_eq_getElem this, Option.getD_some]
      exact List.getElem_mem _
    have b3 : (marksL.map (V.int .u8)).length = 15 := rfl
    generalize hL : (marksL.map (V.int .u8)) = Ls at *
    simp (maxSteps := 4000000) only [vm, vl, Arg.get, cells, stor, boundO, resultsV, resV, partK, loadV, Vm.part, fillC, splice, reduceIte, reduceCtorEq, Nat.reduceEqDiff, Nat.reduceAdd, Nat.reduceSub, Nat.reduceMul, Nat.reduceLeDiff, ne_eq, not_false_eq_true, Int.reduceEq, Int.reduceLT, Int.reduceLE, Int.reduceNeg, Int.reduceToNat, Int.reduceGT, Int.reduceGE, Nat.reduceLT, Nat.lt_add_one, Nat.zero_lt_succ, Nat.succ_pos, Nat.zero_le, beq_self_eq_true, k_token_inToken_1, k_token_inToken_3, k_token_inToken_2, k_token_inToken_0, e0, e22, e23, hl, w, hl', b1, b2, b3]
    (repeat' ((first | refine wg_casep (fun _ => ?_) (fun _ => ?_) | refine wg_casen (fun _ => ?_) (fun _ => ?_) | refine wg_case (fun _ => ?_) (fun _ => ?_) | refine wgd_casep (fun _ => ?_) (fun _ => ?_) | refine wgd_casen (fun _ => ?_) (fun _ => ?_) | refine wgd_case (fun _ => ?_) (fun _ => ?_) | refine wb_casep (fun _ => ?_) (fun _ => ?_) | refine wb_casen (fun _ => ?_) (fun _ => ?_) | refine wb_case (fun _ => ?_) (fun _ => ?_)) <;> try simp (maxSteps := 4000000) only [vm, vl, Arg.get, cells, stor, boundO, resultsV, resV, partK, loadV, Vm.part, fillC, splice, reduceIte, reduceCtorEq, Nat.reduceEqDiff, Nat.reduceAdd, Nat.reduceSub, Nat.reduceMul, Nat.reduceLeDiff, ne_eq, not_false_eq_true, Int.reduceEq, Int.reduceLT, Int.reduceLE, Int.reduceNeg, Int.reduceToNat, Int.reduceGT, Int.reduceGE, Nat.reduceLT, Nat.lt_add_one, Nat.zero_lt_succ, Nat.succ_pos, Nat.zero_le, beq_self_eq_true, k_token_inToken_1, k_token_inToken_3, k_token_inToken_2, k_token_inToken_0, *]))
    · rename_i hc
      rw [hc] at hmem
      rw [tokB_mark c hmem]
    · rename_i hc
      refine ⟨15 - (i + 1), by omega, i + 1, by omega, rfl, by simp, ?_⟩
      intro j hj'
      rcases Nat.lt_or_ge j i with h1 | h1
      · exact hj j h1
      · have : j = i := by omega
        subst this; exact hc
  · simp (maxSteps := 4000000) only [vm, vl, Arg.get, cells, stor, boundO, resultsV, resV, partK, loadV, Vm.part, fillC, splice, reduceIte, reduceCtorEq, Nat.reduceEqDiff, Nat.reduceAdd, Nat.reduceSub, Nat.reduceMul, Nat.reduceLeDiff, ne_eq, not_false_eq_true, Int.reduceEq, Int.reduceLT, Int.reduceLE, Int.reduceNeg, Int.reduceToNat, Int.reduceGT, Int.reduceGE, Nat.reduceLT, Nat.lt_add_one, Nat.zero_lt_succ, Nat.succ_pos, Nat.zero_le, beq_self_eq_true, k_token_inToken_1, k_token_inToken_3, k_token_inToken_2, k_token_inToken_0, e0, e22, e23, hl]
    refine (hn fun hm => ?_).symm
    obtain ⟨k, hk, he⟩ := List.getElem_of_mem hm
    refine hj k (by have : marksL.length = 15 := rfl; omega) ?_
    rw [List.getD_eq_getElem?_getD, List.getElem?_eq_getElem hk, Option.getD_some]; exact he
theorem inToken_ok {c : UInt8} : Cf F L i_token_inToken [byV c] h (Pu h (.bool (tokB c))) := by
  refine run_token_inToken ?_
  simp only [p_token_inToken]
  simp (maxSteps := 4000000) only [vm, vl, Arg.get, cells, stor, boundO, resultsV, resV, partK, loadV, Vm.part, fillC, splice, reduceIte, reduceCtorEq, Nat.reduceEqDiff, Nat.reduceAdd, Nat.reduceSub, Nat.reduceMul, Nat.reduceLeDiff, ne_eq, not_false_eq_true, Int.reduceEq, Int.reduceLT, Int.reduceLE, Int.reduceNeg, Int.reduceToNat, Int.reduceGT, Int.reduceGE, Nat.reduceLT, Nat.lt_add_one, Nat.zero_lt_succ, Nat.succ_pos, Nat.zero_le, beq_self_eq_true, k_token_inToken_1, k_token_inToken_3, k_token_inToken_2, k_token_inToken_0, or32]
  (repeat' ((first | refine wg_casep (fun _ => ?_) (fun _ => ?_) | refine wg_casen (fun _ => ?_) (fun _ => ?_) | refine wg_case (fun _ => ?_) (fun _ => ?_) | refine wgd_casep (fun _ => ?_) (fun _ => ?_) | refine wgd_casen (fun _ => ?_) (fun _ => ?_) | refine wgd_case (fun _ => ?_) (fun _ => ?_) | refine wb_casep (fun _ => ?_) (fun _ => ?_) | refine wb_casen (fun _ => ?_) (fun _ => ?_) | refine wb_case (fun _ => ?_) (fun _ => ?_) | refine Cf.pu marks_ok (fun _ => ?_)) <;> try simp (maxSteps := 4000000) only [vm, vl, Arg.get, cells, stor, boundO, resultsV, resV, partK, loadV, Vm.part, fillC, splice, reduceIte, reduceCtorEq, Nat.reduceEqDiff, Nat.reduceAdd, Nat.reduceSub, Nat.reduceMul, Nat.reduceLeDiff, ne_eq, not_false_eq_true, Int.reduceEq, Int.reduceLT, Int.reduceLE, Int.reduceNeg, Int.reduceToNat, Int.reduceGT, Int.reduceGE, Nat.reduceLT, Nat.lt_add_one, Nat.zero_lt_succ, Nat.succ_pos, Nat.zero_le, beq_self_eq_true, k_token_inToken_1, k_token_inToken_3, k_token_inToken_2, k_token_inToken_0, *]))
  all_goals first
    | exact inToken_loop rfl rfl rfl fun hm => tokB_no c (by omega) (by omega) hm
    | (rw [tokB_low c (by omega) (by omega)])
    | (rw [tokB_dig c (by omega) (by omega)])
theorem blank_eq (c : UInt8) : blankB c = (decide ((c.toNat : Int) = 32) || decide ((c.toNat : Int) = 9)) :=
  byte_all (p := fun c => blankB c = (decide ((c.toNat : Int) = 32) || decide ((c.toNat : Int) = 9))) (by decide +kernel) c
theorem txt_eq (c : UInt8) : txtB c = (decide ((c.toNat : Int) = 9) || (decide ((c.toNat : Int) ≥ 32) && !decide ((c.toNat : Int) = 127))) :=
  byte_all (p := fun c => txtB c = (decide ((c.toNat : Int) = 9) || (decide ((c.toNat : Int) ≥ 32) && !decide ((c.toNat : Int) = 127)))) (by decide +kernel) c
theorem val_eq (c : UInt8) : valB c = (blankB c || (decide ((c.toNat : Int) > 32) && !decide ((c.toNat : Int) = 127))) :=
  byte_all (p := fun c => valB c = (blankB c || (decide ((c.toNat : Int) > 32) && !decide ((c.toNat : Int) = 127)))) (by decide +kernel) c
/-- A text at a place: its end, or a byte. -/
theorem str_at {s : Bs} {i : Nat} (hi : i ≤ s.length) : (¬ (i : Int) < s.length ∧ i = s.length ∧ s.drop i = []) ∨ ∃ c, (i : Int) < s.length ∧ i < s.length ∧ s.getD i 0 = c ∧ s.drop i = c :: s.drop (i + 1) := by
  rcases Nat.lt_or_eq_of_le hi with h | h
  · refine .inr ⟨s[i], by omega, h, ?_, List.drop_eq_getElem_cons h⟩
    rw [List.getD_eq_getElem?_getD, List.getElem?_eq_getElem h, Option.getD_some]
  · exact .inl ⟨by omega, h, by rw [h]; simp⟩
theorem all_ok {s : Bs} {f : FuncId} {caps : List V} {p : UInt8 → Bool} (hs : s.length < 9223372036854775807) (hf : ∀ (c : UInt8) (h : Heap), Cf F L f ([byV c] ++ caps) h (Pu h (.bool (p c)))) :
    Cf F L i_token_all [.str s, .fn f caps] h (Pu h (.bool (s.all p))) := by
  refine run_token_all ?_
  simp only [p_token_all]
  simp (maxSteps := 4000000) only [vm, vl, Arg.get, cells, stor, boundO, resultsV, resV, partK, loadV, Vm.part, fillC, splice, reduceIte, reduceCtorEq, Nat.reduceEqDiff, Nat.reduceAdd, Nat.reduceSub, Nat.reduceMul, Nat.reduceLeDiff, ne_eq, not_false_eq_true, Int.reduceEq, Int.reduceLT, Int.reduceLE, Int.reduceNeg, Int.reduceToNat, Int.reduceGT, Int.reduceGE, Nat.reduceLT, Nat.lt_add_one, Nat.zero_lt_succ, Nat.succ_pos, Nat.zero_le, beq_self_eq_true, k_token_all_0, k_token_all_2, k_token_all_1]
  refine l_token_all_0 (fun n e h' => ∃ i, n = s.length - i ∧ i ≤ s.length ∧ e 0 = .str s ∧ e 1 = .fn f caps ∧ e 7 = .int .i64 s.length ∧ e 8 = .int .i64 i ∧ (∃ t, h' = h ++ t) ∧ s.all p = (s.drop i).all p) ?_ (n := s.length) ⟨0, by simp, by simp, rfl, rfl, rfl, rfl, ⟨[], by simp⟩, rfl⟩
  rintro n e h' ⟨i, rfl, hi, e0, e1, e7, e8, ⟨t, rfl⟩, hall⟩
  simp only [b_token_all_0]
  rw [hall]
  rcases str_at hi with ⟨hn, rfl, hd⟩ | ⟨c, hl, hl', hc, hd⟩
  · simp (maxSteps := 4000000) only [vm, vl, Arg.get, cells, stor, boundO, resultsV, resV, partK, loadV, Vm.part, fillC, splice, reduceIte, reduceCtorEq, Nat.reduceEqDiff, Nat.reduceAdd, Nat.reduceSub, Nat.reduceMul, Nat.reduceLeDiff, ne_eq, not_false_eq_true, Int.reduceEq, Int.reduceLT, Int.reduceLE, Int.reduceNeg, Int.reduceToNat, Int.reduceGT, Int.reduceGE, Nat.reduceLT, Nat.lt_add_one, Nat.zero_lt_succ, Nat.succ_pos, Nat.zero_le, beq_self_eq_true, k_token_all_0, k_token_all_2, k_token_all_1, e7, e8, hn, hd]
  · have w := wrap64 (x := (i : Int) + 1) (by omega) (by omega)
    rw [hd]
    simp (maxSteps := 4000000) only [vm, vl, Arg.get, cells, stor, boundO, resultsV, resV, partK, loadV, Vm.part, fillC, splice, reduceIte, reduceCtorEq, Nat.reduceEqDiff, Nat.reduceAdd, Nat.reduceSub, Nat.reduceMul, Nat.reduceLeDiff, ne_eq, not_false_eq_true, Int.reduceEq, Int.reduceLT, Int.reduceLE, Int.reduceNeg, Int.reduceToNat, Int.reduceGT, Int.reduceGE, Nat.reduceLT, Nat.lt_add_one, Nat.zero_lt_succ, Nat.succ_pos, Nat.zero_le, beq_self_eq_true, k_token_all_0, k_token_all_2, k_token_all_1, e0, e1, e7, e8, hl, hc, hl', w]
    (repeat' ((first | refine wg_casep (fun _ => ?_) (fun _ => ?_) | refine wg_casen (fun _ => ?_) (fun _ => ?_) | refine wg_case (fun _ => ?_) (fun _ => ?_) | refine wgd_casep (fun _ => ?_) (fun _ => ?_) | refine wgd_casen (fun _ => ?_) (fun _ => ?_) | refine wgd_case (fun _ => ?_) (fun _ => ?_) | refine wb_casep (fun _ => ?_) (fun _ => ?_) | refine wb_casen (fun _ => ?_) (fun _ => ?_) | refine wb_case (fun _ => ?_) (fun _ => ?_) | refine Cf.pu (hf _ _) (fun _ => ?_)) <;> try simp (maxSteps := 4000000) only [vm, vl, Arg.get, cells, stor, boundO, resultsV, resV, partK, loadV, Vm.part, fillC, splice, reduceIte, reduceCtorEq, Nat.reduceEqDiff, Nat.reduceAdd, Nat.reduceSub, Nat.reduceMul, Nat.reduceLeDiff, ne_eq, not_false_eq_true, Int.reduceEq, Int.reduceLT, Int.reduceLE, Int.reduceNeg, Int.reduceToNat, Int.reduceGT, Int.reduceGE, Nat.reduceLT, Nat.lt_add_one, Nat.zero_lt_succ, Nat.succ_pos, Nat.zero_le, beq_self_eq_true, k_token_all_0, k_token_all_2, k_token_all_1, *]))
    · rename_i hp; simp at hp; simp [hp]
    · rename_i hp
      simp at hp
      refine ⟨s.length - (i + 1), by omega, i + 1, rfl, hl', by simp, ⟨_, rfl⟩, ?_⟩
      simp [hp]
theorem Is_ok {s : Bs} (hs : s.length < 9223372036854775807) : Cf F L i_token_Is [.str s] h (Pu h (.bool (isTok s))) := by
  refine run_token_Is ?_
  simp only [p_token_Is]
  simp (maxSteps := 4000000) only [vm, vl, Arg.get, cells, stor, boundO, resultsV, resV, partK, loadV, Vm.part, fillC, splice, reduceIte, reduceCtorEq, Nat.reduceEqDiff, Nat.reduceAdd, Nat.reduceSub, Nat.reduceMul, Nat.reduceLeDiff, ne_eq, not_false_eq_true, Int.reduceEq, Int.reduceLT, Int.reduceLE, Int.reduceNeg, Int.reduceToNat, Int.reduceGT, Int.reduceGE, Nat.reduceLT, Nat.lt_add_one, Nat.zero_lt_succ, Nat.succ_pos, Nat.zero_le, beq_self_eq_true]
  have hA := fun h => all_ok (L := L) (h := h) (s := s) (caps := []) hs (fun c h => inToken_ok)
  cases s with
  | nil =>
    have e1 : (([] : Bs) == []) = true := rfl
    simp (maxSteps := 4000000) only [vm, vl, Arg.get, cells, stor, boundO, resultsV, resV, partK, loadV, Vm.part, fillC, splice, reduceIte, reduceCtorEq, Nat.reduceEqDiff, Nat.reduceAdd, Nat.reduceSub, Nat.reduceMul, Nat.reduceLeDiff, ne_eq, not_false_eq_true, Int.reduceEq, Int.reduceLT, Int.reduceLE, Int.reduceNeg, Int.reduceToNat, Int.reduceGT, Int.reduceGE, Nat.reduceLT, Nat.lt_add_one, Nat.zero_lt_succ, Nat.succ_pos, Nat.zero_le, beq_self_eq_true, *]
    rfl
  | cons c r =>
    have e1 : ((c :: r : Bs) == []) = false := rfl
    simp (maxSteps := 4000000) only [vm, vl, Arg.get, cells, stor, boundO, resultsV, resV, partK, loadV, Vm.part, fillC, splice, reduceIte, reduceCtorEq, Nat.reduceEqDiff, Nat.reduceAdd, Nat.reduceSub, Nat.reduceMul, Nat.reduceLeDiff, ne_eq, not_false_eq_true, Int.reduceEq, Int.reduceLT, Int.reduceLE, Int.reduceNeg, Int.reduceToNat, Int.reduceGT, Int.reduceGE, Nat.reduceLT, Nat.lt_add_one, Nat.zero_lt_succ, Nat.succ_pos, Nat.zero_le, beq_self_eq_true, *]
    (repeat' ((first | refine wg_casep (fun _ => ?_) (fun _ => ?_) | refine wg_casen (fun _ => ?_) (fun _ => ?_) | refine wg_case (fun _ => ?_) (fun _ => ?_) | refine wgd_casep (fun _ => ?_) (fun _ => ?_) | refine wgd_casen (fun _ => ?_) (fun _ => ?_) | refine wgd_case (fun _ => ?_) (fun _ => ?_) | refine wb_casep (fun _ => ?_) (fun _ => ?_) | refine wb_casen (fun _ => ?_) (fun _ => ?_) | refine wb_case (fun _ => ?_) (fun _ => ?_) | refine Cf.pu (hA _) (fun _ => ?_)) <;> try simp (maxSteps := 4000000) only [vm, vl, Arg.get, cells, stor, boundO, resultsV, resV, partK, loadV, Vm.part, fillC, splice, reduceIte, reduceCtorEq, Nat.reduceEqDiff, Nat.reduceAdd, Nat.reduceSub, Nat.reduceMul, Nat.reduceLeDiff, ne_eq, not_false_eq_true, Int.reduceEq, Int.reduceLT, Int.reduceLE, Int.reduceNeg, Int.reduceToNat, Int.reduceGT, Int.reduceGE, Nat.reduceLT, Nat.lt_add_one, Nat.zero_lt_succ, Nat.succ_pos, Nat.zero_le, beq_self_eq_true, *]))
    rfl
theorem low_at (c : UInt8) : (c.toNat : Int) ≥ 65 → (c.toNat : Int) ≤ 90 → bitsI .or .u8 (c.toNat : Int) 32 = ((lowB c).toNat : Int) :=
  byte_all (p := fun c => (c.toNat : Int) ≥ 65 → (c.toNat : Int) ≤ 90 → bitsI .or .u8 (c.toNat : Int) 32 = ((lowB c).toNat : Int)) (by decide +kernel) c
theorem low_no (c : UInt8) (h : ¬ ((c.toNat : Int) ≥ 65 ∧ (c.toNat : Int) ≤ 90)) : lowB c = c := by
  unfold lowB; rw [if_neg (by omega)]
theorem toBytes_of (s : Bs) : toBytesL (s.map ofByte) = some s := by
  induction s with
  | nil => rfl
  | cons c r ih => simp [toBytesL, toByte, ofByte, ih]
/-- A text that has been turned up to a place. -/
def lowTo (s : Bs) (i : Nat) : List V := (low (s.take i) ++ s.drop i).map ofByte
theorem lowTo_0 (s : Bs) : lowTo s 0 = s.map ofByte := by simp [lowTo, low]
theorem lowTo_all (s : Bs) : lowTo s s.length = (low s).map ofByte := by simp [lowTo]
theorem lowTo_len {s : Bs} {i : Nat} (hi : i ≤ s.length) : (lowTo s i).length = s.length := by simp [lowTo, low]; omega
theorem lowTo_get {s : Bs} {i : Nat} {c : UInt8} (hl : i < s.length) (hd : s.drop i = c :: s.drop (i + 1)) : (lowTo s i).getD i (.tup []) = .int .u8 (c.toNat : Int) := by
  have e1 : (low (s.take i)).length = i := by simp [low]; omega
  rw [lowTo, List.getD_eq_getElem?_getD, List.getElem?_map, List.getElem?_append_right (by omega), e1, hd]
  simp [ofByte]
theorem take_succ {s : Bs} {i : Nat} {c : UInt8} (hl : i < s.length) (hd : s.drop i = c :: s.drop (i + 1)) : s.take (i + 1) = s.take i ++ [c] := by
  rw [List.take_add_one, List.getElem?_eq_getElem hl]
  have := List.drop_eq_getElem_cons hl
  rw [hd] at this
  injection this with h1 h2
  rw [h1]; rfl
theorem lowTo_put {s : Bs} {i : Nat} {c : UInt8} (hl : i < s.length) (hd : s.drop i = c :: s.drop (i + 1)) : (lowTo s i).take i ++ (.int .u8 ((lowB c).toNat : Int) :: (lowTo s i).drop (i + 1)) = lowTo s (i + 1) := by
  have e1 : (low (s.take i)).length = i := by simp [low]; omega
  unfold lowTo
  rw [take_succ hl hd, low_append, ← List.map_take, ← List.map_drop, List.take_left' e1, List.drop_append, e1, List.drop_eq_nil_of_le (by omega), hd]
  simp [low, ofByte, show i + 1 - i = 1 by omega]
theorem lowTo_same {s : Bs} {i : Nat} {c : UInt8} (hl : i < s.length) (hd : s.drop i = c :: s.drop (i + 1)) (h : lowB c = c) : lowTo s (i + 1) = lowTo s i := by
  unfold lowTo
  rw [take_succ hl hd, low_append, hd]
  simp [low, h]
theorem toStr_of {s : Bs} {id n : Nat} {h : Heap} (hb : h[id]? = some (.box (s.map ofByte))) (hn : n = s.length) : stepI (.toStr (.c (.hsl 1 id n))) E0 h = some (.str s, h) := by
  subst hn
  simp only [stepI, Arg.get, srcElems, hb, and_self, if_true, List.length_map, Nat.le_refl, List.take_of_length_le, Option.bind_some, toBytes_of, Option.map_some]
theorem Lower_ok {s : Bs} (hs : s.length ≤ 140737488355328) : Cf F L i_token_Lower [.str s] h (Pu h (.str (low s))) := by
  refine run_token_Lower ?_
  simp only [p_token_Lower]
  simp (maxSteps := 4000000) only [vm, vl, Arg.get, cells, stor, boundO, resultsV, resV, partK, loadV, Vm.part, fillC, splice, reduceIte, reduceCtorEq, Nat.reduceEqDiff, Nat.reduceAdd, Nat.reduceSub, Nat.reduceMul, Nat.reduceLeDiff, ne_eq, not_false_eq_true, Int.reduceEq, Int.reduceLT, Int.reduceLE, Int.reduceNeg, Int.reduceToNat, Int.reduceGT, Int.reduceGE, Nat.reduceLT, Nat.lt_add_one, Nat.zero_lt_succ, Nat.succ_pos, Nat.zero_le, beq_self_eq_true, k_token_Lower_0, k_token_Lower_2, k_token_Lower_1]
  refine l_token_Lower_0 (fun n e h' => ∃ i, n = s.length - i ∧ i ≤ s.length ∧ e 3 = .hsl 1 h.length s.length ∧ e 8 = .hsl 1 h.length s.length ∧ e 9 = .int .i64 s.length ∧ e 10 = .int .i64 i ∧ h' = h ++ [.box (lowTo s i)]) ?_ (n := s.length) ⟨0, by simp, by simp, rfl, rfl, rfl, rfl, by rw [lowTo_0]⟩
  rintro n e h' ⟨i, rfl, hi, e3, e8, e9, e10, rfl⟩
  simp only [b_token_Lower_0]
  rcases str_at hi with ⟨hn, rfl, hd⟩ | ⟨c, hl, hl', hc, hd⟩
  · have hb : (h ++ [O.box ((low s).map ofByte)])[h.length]? = some (.box ((low s).map ofByte)) := by simp
    have ht := toStr_of hb (low_length s).symm
    simp (maxSteps := 4000000) only [vm, vl, Arg.get, cells, stor, boundO, resultsV, resV, partK, loadV, Vm.part, fillC, splice, reduceIte, reduceCtorEq, Nat.reduceEqDiff, Nat.reduceAdd, Nat.reduceSub, Nat.reduceMul, Nat.reduceLeDiff, ne_eq, not_false_eq_true, Int.reduceEq, Int.reduceLT, Int.reduceLE, Int.reduceNeg, Int.reduceToNat, Int.reduceGT, Int.reduceGE, Nat.reduceLT, Nat.lt_add_one, Nat.zero_lt_succ, Nat.succ_pos, Nat.zero_le, beq_self_eq_true, k_token_Lower_0, k_token_Lower_2, k_token_Lower_1, e3, e8, e9, e10, hn, hd, lowTo_all, ht]
  · have w := wrap64 (x := (i : Int) + 1) (by omega) (by omega)
    have g1 := lowTo_get hl' hd
    have g2 := lowTo_len hi
    have g3 := lowTo_put hl' hd
    have g4 : i + 1 ≤ s.length := hl'
    simp (maxSteps := 4000000) only [vm, vl, Arg.get, cells, stor, boundO, resultsV, resV, partK, loadV, Vm.part, fillC, splice, reduceIte, reduceCtorEq, Nat.reduceEqDiff, Nat.reduceAdd, Nat.reduceSub, Nat.reduceMul, Nat.reduceLeDiff, ne_eq, not_false_eq_true, Int.reduceEq, Int.reduceLT, Int.reduceLE, Int.reduceNeg, Int.reduceToNat, Int.reduceGT, Int.reduceGE, Nat.reduceLT, Nat.lt_add_one, Nat.zero_lt_succ, Nat.succ_pos, Nat.zero_le, beq_self_eq_true, k_token_Lower_0, k_token_Lower_2, k_token_Lower_1, e3, e8, e9, e10, hl, hl', w, g1, g2, g4]
    (repeat' ((first | refine wg_casep (fun _ => ?_) (fun _ => ?_) | refine wg_casen (fun _ => ?_) (fun _ => ?_) | refine wg_case (fun _ => ?_) (fun _ => ?_) | refine wgd_casep (fun _ => ?_) (fun _ => ?_) | refine wgd_casen (fun _ => ?_) (fun _ => ?_) | refine wgd_case (fun _ => ?_) (fun _ => ?_) | refine wb_casep (fun _ => ?_) (fun _ => ?_) | refine wb_casen (fun _ => ?_) (fun _ => ?_) | refine wb_case (fun _ => ?_) (fun _ => ?_)) <;> try simp (maxSteps := 4000000) only [vm, vl, Arg.get, cells, stor, boundO, resultsV, resV, partK, loadV, Vm.part, fillC, splice, reduceIte, reduceCtorEq, Nat.reduceEqDiff, Nat.reduceAdd, Nat.reduceSub, Nat.reduceMul, Nat.reduceLeDiff, ne_eq, not_false_eq_true, Int.reduceEq, Int.reduceLT, Int.reduceLE, Int.reduceNeg, Int.reduceToNat, Int.reduceGT, Int.reduceGE, Nat.reduceLT, Nat.lt_add_one, Nat.zero_lt_succ, Nat.succ_pos, Nat.zero_le, beq_self_eq_true, k_token_Lower_0, k_token_Lower_2, k_token_Lower_1, *]))
    · rename_i h1 h2
      rw [low_at c h1 h2, g3]
      exact ⟨s.length - (i + 1), by omega, i + 1, rfl, hl', rfl, rfl⟩
    · rename_i h1 h2
      exact ⟨s.length - (i + 1), by omega, i + 1, rfl, hl', rfl, by rw [lowTo_same hl' hd (low_no c (by omega))]⟩
    · rename_i h1
      exact ⟨s.length - (i + 1), by omega, i + 1, rfl, hl', rfl, by rw [lowTo_same hl' hd (low_no c (by omega))]⟩
theorem Same_ok {s t : Bs} (hs : s.length ≤ 140737488355328) (ht : t.length ≤ 140737488355328) : Cf F L i_token_Same [.str s, .str t] h (Pu h (.bool (low s == low t))) := by
  refine run_token_Same ?_
  simp only [p_token_Same]
  simp (maxSteps := 4000000) only [vm, vl, Arg.get, cells, stor, boundO, resultsV, resV, partK, loadV, Vm.part, fillC, splice, reduceIte, reduceCtorEq, Nat.reduceEqDiff, Nat.reduceAdd, Nat.reduceSub, Nat.reduceMul, Nat.reduceLeDiff, ne_eq, not_false_eq_true, Int.reduceEq, Int.reduceLT, Int.reduceLE, Int.reduceNeg, Int.reduceToNat, Int.reduceGT, Int.reduceGE, Nat.reduceLT, Nat.lt_add_one, Nat.zero_lt_succ, Nat.succ_pos, Nat.zero_le, beq_self_eq_true]
  have hA : ∀ h, _ := fun h => Lower_ok (L := L) (h := h) hs
  have hB : ∀ h, _ := fun h => Lower_ok (L := L) (h := h) ht
  by_cases hne : (s.length : Int) = t.length
  · simp (maxSteps := 4000000) only [vm, vl, Arg.get, cells, stor, boundO, resultsV, resV, partK, loadV, Vm.part, fillC, splice, reduceIte, reduceCtorEq, Nat.reduceEqDiff, Nat.reduceAdd, Nat.reduceSub, Nat.reduceMul, Nat.reduceLeDiff, ne_eq, not_false_eq_true, Int.reduceEq, Int.reduceLT, Int.reduceLE, Int.reduceNeg, Int.reduceToNat, Int.reduceGT, Int.reduceGE, Nat.reduceLT, Nat.lt_add_one, Nat.zero_lt_succ, Nat.succ_pos, Nat.zero_le, beq_self_eq_true, *]
    (repeat' ((first | refine wg_casep (fun _ => ?_) (fun _ => ?_) | refine wg_casen (fun _ => ?_) (fun _ => ?_) | refine wg_case (fun _ => ?_) (fun _ => ?_) | refine wgd_casep (fun _ => ?_) (fun _ => ?_) | refine wgd_casen (fun _ => ?_) (fun _ => ?_) | refine wgd_case (fun _ => ?_) (fun _ => ?_) | refine wb_casep (fun _ => ?_) (fun _ => ?_) | refine wb_casen (fun _ => ?_) (fun _ => ?_) | refine wb_case (fun _ => ?_) (fun _ => ?_) | refine Cf.pu (hA _) (fun _ => ?_) | refine Cf.pu (hB _) (fun _ => ?_)) <;> try simp (maxSteps := 4000000) only [vm, vl, Arg.get, cells, stor, boundO, resultsV, resV, partK, loadV, Vm.part, fillC, splice, reduceIte, reduceCtorEq, Nat.reduceEqDiff, Nat.reduceAdd, Nat.reduceSub, Nat.reduceMul, Nat.reduceLeDiff, ne_eq, not_false_eq_true, Int.reduceEq, Int.reduceLT, Int.reduceLE, Int.reduceNeg, Int.reduceToNat, Int.reduceGT, Int.reduceGE, Nat.reduceLT, Nat.lt_add_one, Nat.zero_lt_succ, Nat.succ_pos, Nat.zero_le, beq_self_eq_true, *]))
  simp (maxSteps := 4000000) only [vm, vl, Arg.get, cells, stor, boundO, resultsV, resV, partK, loadV, Vm.part, fillC, splice, reduceIte, reduceCtorEq, Nat.reduceEqDiff, Nat.reduceAdd, Nat.reduceSub, Nat.reduceMul, Nat.reduceLeDiff, ne_eq, not_false_eq_true, Int.reduceEq, Int.reduceLT, Int.reduceLE, Int.reduceNeg, Int.reduceToNat, Int.reduceGT, Int.reduceGE, Nat.reduceLT, Nat.lt_add_one, Nat.zero_lt_succ, Nat.succ_pos, Nat.zero_le, beq_self_eq_true, *]
  have : (low s == low t) = false := by
    rw [beq_eq_false_iff_ne]
    intro he
    have := congrArg List.length he
    rw [low_length, low_length] at this
    omega
  rw [this]
def strs (out : List Bs) : List V := out.map .str
theorem strs_app (out : List Bs) (x : Bs) : strs out ++ [V.str x] = strs (out ++ [x]) := by simp [strs]
theorem strs_len (out : List Bs) : (strs out).length = out.length := by simp [strs]
end Go.Proofs.YtfihnnebffkbfaaDoor.Vh
