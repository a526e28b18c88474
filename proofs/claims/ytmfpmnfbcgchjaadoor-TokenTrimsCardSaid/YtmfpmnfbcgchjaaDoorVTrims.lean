/- TokenTrims on the small machine. -/
import Derived.Test.YtmfpmnfbcgchjaaDoorVRef1
import Derived.Test.YtmfpmnfbcgchjaaDoorVmOpen
set_option linter.unusedVariables false
set_option linter.unusedSimpArgs false
namespace Go.Proofs.YtmfpmnfbcgchjaaDoor.Vh
open Go.Vm Go.Vt
attribute [local congr] wi_congr wg_congr wgd_congr wb_congr wl_congr cf_congr
variable {L : FuncId → List V → V → Prop} {h : Heap}
theorem trim_cons {c : UInt8} {s : Bs} (hc : blankB c = true) : trim (c :: s) = trim s := by
  rw [← trim_comm, ← trim_comm, trimL_blank hc]
theorem trim_snoc {c : UInt8} {s : Bs} (hc : blankB c = true) : trim (s ++ [c]) = trim s := by
  unfold trim; rw [trimR_blank hc]
theorem trimR_end : ∀ {s t : Bs} {c : UInt8}, trimR s = t ++ [c] → blankB c = false
  | [], t, c, h => by simp [trimR] at h
  | a :: s, t, c, h => by
    by_cases hr : trimR s = []
    · rw [trimR_cons_nil hr] at h
      split at h
      · simp at h
      · rename_i hb
        cases t with
        | nil => simp at h; rw [← h]; simpa using hb
        | cons x t => simp at h
    · rw [trimR_cons_ne hr] at h
      cases t with
      | nil => simp at h; exact absurd h.2 hr
      | cons x t =>
        simp at h
        exact trimR_end h.2
theorem trimL_head {s r : Bs} {c : UInt8} (h : trimL s = c :: r) : blankB c = false := by
  induction s with
  | nil => simp [trimL] at h
  | cons a s ih =>
    by_cases ha : blankB a = true
    · rw [trimL_blank ha] at h; exact ih h
    · have ha' : blankB a = false := by simpa using ha
      rw [trimL_full ha'] at h
      injection h with h1 h2
      rw [← h1]; exact ha'
theorem trimR_idem (s : Bs) : trimR (trimR s) = trimR s := by
  cases hn : (trimR s).length with
  | zero => rw [List.eq_nil_of_length_eq_zero hn]; rfl
  | succ n =>
    obtain ⟨t, c, h, _⟩ := last_at hn
    rw [h, trimR_full (trimR_end h)]
theorem trimL_idem (s : Bs) : trimL (trimL s) = trimL s := by
  cases h : trimL s with
  | nil => rfl
  | cons c r => rw [trimL_full (trimL_head h)]
theorem trim_idem (s : Bs) : trim (trim s) = trim s := by
  have h1 : trimR (trim s) = trim s := by rw [← trim_comm, trimR_idem]
  rw [trim, h1, trim, trimL_idem]
theorem trim_head {s r : Bs} {c : UInt8} (h : trim s = c :: r) : blankB c = false := trimL_head h
theorem trim_last {s r : Bs} {c : UInt8} (h : trim s = r ++ [c]) : blankB c = false := by
  rw [← trim_comm] at h; exact trimR_end h
theorem blank_no {c : UInt8} (h : blankB c = false) : ¬ (c.toNat : Int) = 32 ∧ ¬ (c.toNat : Int) = 9 := by
  rw [blank_eq] at h
  simpa using h
theorem trims_2 {s x : Bs} {e : Env} {a b : Int} {h' : Heap} (hs : s.length ≤ 2000) (hx : x.length ≤ 2008) (ht : trim x = trim s) (e0 : e 0 = .str s) (e2 : e 2 = .int .i64 b) (e7 : e 7 = .str x) (e9 : e 9 = .int .i64 0) (hh : ∃ t, h' = h ++ t) :
    Wl F L lc_gatepostlaw01_TokenTrims_0 (q_gatepostlaw01_TokenTrims_0 L (Pu h (.bool true))) e h' := by
  obtain ⟨b0, b1⟩ := andI_range b 7 (by omega) (by omega)
  refine l_gatepostlaw01_TokenTrims_0 (fun n e h' => ∃ (i : Nat) (x : Bs), n = 8 - i ∧ (i : Int) ≤ bitsI .and .i64 b 7 ∧ e 0 = .str s ∧ e 2 = .int .i64 b ∧ e 7 = .str x ∧ e 9 = .int .i64 i ∧ (∃ t, h' = h ++ t) ∧ x.length ≤ 2008 + i ∧ trim x = trim s) ?_ (n := 8) ⟨0, x, by simp, by omega, e0, e2, e7, e9, hh, by omega, ht⟩
  rintro n e h' ⟨i, x, rfl, hi, e0, e2, e7, e9, ⟨t, rfl⟩, hx, ht⟩
  simp only [b_gatepostlaw01_TokenTrims_0]
  generalize hB : bitsI .and .i64 b 7 = B at *
  by_cases hl : (i : Int) < B
  · have w := wrap64 (x := (i : Int) + 1) (by omega) (by omega)
    have g : binV .add (.str x) (.str [9]) = some (.str (x ++ [9])) := bin_sadd (by simp; omega)
    
    simp (maxSteps := 4000000) only [vm, vl, Arg.get, cells, stor, boundO, resultsV, resV, partK, loadV, Vm.part, fillC, splice, reduceIte, reduceCtorEq, Nat.reduceEqDiff, Nat.reduceAdd, Nat.reduceSub, Nat.reduceMul, Nat.reduceLeDiff, ne_eq, not_false_eq_true, Int.reduceEq, Int.reduceLT, Int.reduceLE, Int.reduceNeg, Int.reduceToNat, Int.reduceGT, Int.reduceGE, Nat.reduceLT, Nat.lt_add_one, Nat.zero_lt_succ, Nat.succ_pos, beq_self_eq_true, k_gatepostlaw01_TokenTrims_3, k_gatepostlaw01_TokenTrims_2, k_gatepostlaw01_TokenTrims_5, k_gatepostlaw01_TokenTrims_4, k_gatepostlaw01_TokenTrims_1, k_gatepostlaw01_TokenTrims_7, k_gatepostlaw01_TokenTrims_6, k_gatepostlaw01_TokenTrims_0, e0, e2, e7, e9, hB, hl, w, g]
    exact ⟨8 - (i + 1), by omega, i + 1, x ++ [9], rfl, by omega, rfl, rfl, ⟨_, rfl⟩, by simp; omega, by rw [trim_snoc (by decide), ht]⟩
  · have s1 : x.length < 9223372036854775807 := by omega
    have s2 : s.length < 9223372036854775807 := by omega
    have s3 : (trim x).length < 9223372036854775807 := Nat.lt_of_le_of_lt (trim_length x) s1
    have c0 : ([32, 97, 32, 98, 9] : Bs).length < 9223372036854775807 := by decide
    have c1 : trim [32, 97, 32, 98, 9] = [97, 32, 98] := by decide
    have i1 := trim_idem s
    rw [ht] at s3
    cases hz : (trim s).length with
    | zero =>
      have q : (trim s == []) = true := by rw [List.eq_nil_of_length_eq_zero hz]; rfl
      simp (maxSteps := 4000000) only [vm, vl, Arg.get, cells, stor, boundO, resultsV, resV, partK, loadV, Vm.part, fillC, splice, reduceIte, reduceCtorEq, Nat.reduceEqDiff, Nat.reduceAdd, Nat.reduceSub, Nat.reduceMul, Nat.reduceLeDiff, ne_eq, not_false_eq_true, Int.reduceEq, Int.reduceLT, Int.reduceLE, Int.reduceNeg, Int.reduceToNat, Int.reduceGT, Int.reduceGE, Nat.reduceLT, Nat.lt_add_one, Nat.zero_lt_succ, Nat.succ_pos, beq_self_eq_true, k_gatepostlaw01_TokenTrims_3, k_gatepostlaw01_TokenTrims_2, k_gatepostlaw01_TokenTrims_5, k_gatepostlaw01_TokenTrims_4, k_gatepostlaw01_TokenTrims_1, k_gatepostlaw01_TokenTrims_7, k_gatepostlaw01_TokenTrims_6, k_gatepostlaw01_TokenTrims_0, e0, e2, e7, e9, hB, hl]
      (repeat' ((first | refine wg_casep (fun _ => ?_) (fun _ => ?_) | refine wg_casen (fun _ => ?_) (fun _ => ?_) | refine wg_case (fun _ => ?_) (fun _ => ?_) | refine wgd_casep (fun _ => ?_) (fun _ => ?_) | refine wgd_casen (fun _ => ?_) (fun _ => ?_) | refine wgd_case (fun _ => ?_) (fun _ => ?_) | refine wb_casep (fun _ => ?_) (fun _ => ?_) | refine wb_casen (fun _ => ?_) (fun _ => ?_) | refine wb_case (fun _ => ?_) (fun _ => ?_) | refine Cf.pu (Trim_ok s1) (fun _ => ?_) | refine Cf.pu (Trim_ok s2) (fun _ => ?_) | refine Cf.pu (Trim_ok s3) (fun _ => ?_) | refine Cf.pu (Trim_ok c0) (fun _ => ?_)) <;> try simp (maxSteps := 4000000) only [vm, vl, Arg.get, cells, stor, boundO, resultsV, resV, partK, loadV, Vm.part, fillC, splice, reduceIte, reduceCtorEq, Nat.reduceEqDiff, Nat.reduceAdd, Nat.reduceSub, Nat.reduceMul, Nat.reduceLeDiff, ne_eq, not_false_eq_true, Int.reduceEq, Int.reduceLT, Int.reduceLE, Int.reduceNeg, Int.reduceToNat, Int.reduceGT, Int.reduceGE, Nat.reduceLT, Nat.lt_add_one, Nat.zero_lt_succ, Nat.succ_pos, beq_self_eq_true, k_gatepostlaw01_TokenTrims_3, k_gatepostlaw01_TokenTrims_2, k_gatepostlaw01_TokenTrims_5, k_gatepostlaw01_TokenTrims_4, k_gatepostlaw01_TokenTrims_1, k_gatepostlaw01_TokenTrims_7, k_gatepostlaw01_TokenTrims_6, k_gatepostlaw01_TokenTrims_0, *]))
    | succ n =>
      have q : (trim s == []) = false := by
        cases h : trim s with
        | nil => rw [h] at hz; simp at hz
        | cons c r => rfl
      have f0 : 0 < n + 1 := by omega
      have f1 : ¬ (((trim s).getD 0 0).toNat : Int) = 32 ∧ ¬ (((trim s).getD 0 0).toNat : Int) = 9 := by
        cases h : trim s with
        | nil => rw [h] at hz; simp at hz
        | cons c r => exact blank_no (trim_head h)
      have f2 : ¬ (((trim s).getD n 0).toNat : Int) = 32 ∧ ¬ (((trim s).getD n 0).toNat : Int) = 9 := by
        obtain ⟨t, c, h, _, hc, _⟩ := last_at hz
        rw [hc]
        exact blank_no (trim_last h)
      have f3 := f1.1
      have f4 := f1.2
      have f5 := f2.1
      have f6 := f2.2
      have f7 : n < n + 1 := by omega
      have w : IntKind.i64.wrap (((n + 1 : Nat) : Int) - 1) = n := by
        rw [hz] at s3
        rw [wrap64 (by omega) (by omega)]; omega
      simp (maxSteps := 4000000) only [vm, vl, Arg.get, cells, stor, boundO, resultsV, resV, partK, loadV, Vm.part, fillC, splice, reduceIte, reduceCtorEq, Nat.reduceEqDiff, Nat.reduceAdd, Nat.reduceSub, Nat.reduceMul, Nat.reduceLeDiff, ne_eq, not_false_eq_true, Int.reduceEq, Int.reduceLT, Int.reduceLE, Int.reduceNeg, Int.reduceToNat, Int.reduceGT, Int.reduceGE, Nat.reduceLT, Nat.lt_add_one, Nat.zero_lt_succ, Nat.succ_pos, beq_self_eq_true, k_gatepostlaw01_TokenTrims_3, k_gatepostlaw01_TokenTrims_2, k_gatepostlaw01_TokenTrims_5, k_gatepostlaw01_TokenTrims_4, k_gatepostlaw01_TokenTrims_1, k_gatepostlaw01_TokenTrims_7, k_gatepostlaw01_TokenTrims_6, k_gatepostlaw01_TokenTrims_0, e0, e2, e7, e9, hB, hl]
      (repeat' ((first | refine wg_casep (fun _ => ?_) (fun _ => ?_) | refine wg_casen (fun _ => ?_) (fun _ => ?_) | refine wg_case (fun _ => ?_) (fun _ => ?_) | refine wgd_casep (fun _ => ?_) (fun _ => ?_) | refine wgd_casen (fun _ => ?_) (fun _ => ?_) | refine wgd_case (fun _ => ?_) (fun _ => ?_) | refine wb_casep (fun _ => ?_) (fun _ => ?_) | refine wb_casen (fun _ => ?_) (fun _ => ?_) | refine wb_case (fun _ => ?_) (fun _ => ?_) | refine Cf.pu (Trim_ok s1) (fun _ => ?_) | refine Cf.pu (Trim_ok s2) (fun _ => ?_) | refine Cf.pu (Trim_ok s3) (fun _ => ?_) | refine Cf.pu (Trim_ok c0) (fun _ => ?_)) <;> try simp (maxSteps := 4000000) only [vm, vl, Arg.get, cells, stor, boundO, resultsV, resV, partK, loadV, Vm.part, fillC, splice, reduceIte, reduceCtorEq, Nat.reduceEqDiff, Nat.reduceAdd, Nat.reduceSub, Nat.reduceMul, Nat.reduceLeDiff, ne_eq, not_false_eq_true, Int.reduceEq, Int.reduceLT, Int.reduceLE, Int.reduceNeg, Int.reduceToNat, Int.reduceGT, Int.reduceGE, Nat.reduceLT, Nat.lt_add_one, Nat.zero_lt_succ, Nat.succ_pos, beq_self_eq_true, k_gatepostlaw01_TokenTrims_3, k_gatepostlaw01_TokenTrims_2, k_gatepostlaw01_TokenTrims_5, k_gatepostlaw01_TokenTrims_4, k_gatepostlaw01_TokenTrims_1, k_gatepostlaw01_TokenTrims_7, k_gatepostlaw01_TokenTrims_6, k_gatepostlaw01_TokenTrims_0, *]))
theorem trims_1 {s : Bs} {e : Env} {a b : Int} {h' : Heap} (hs : s.length ≤ 2000) (e0 : e 0 = .str s) (e1 : e 1 = .int .i64 a) (e2 : e 2 = .int .i64 b) (e7 : e 7 = .str s) (e8 : e 8 = .int .i64 0) (hh : ∃ t, h' = h ++ t) :
    Wl F L lc_gatepostlaw01_TokenTrims_1 (q_gatepostlaw01_TokenTrims_1 L (Pu h (.bool true))) e h' := by
  obtain ⟨b0, b1⟩ := andI_range a 7 (by omega) (by omega)
  refine l_gatepostlaw01_TokenTrims_1 (fun n e h' => ∃ (i : Nat) (x : Bs), n = 8 - i ∧ (i : Int) ≤ bitsI .and .i64 a 7 ∧ e 0 = .str s ∧ e 1 = .int .i64 a ∧ e 2 = .int .i64 b ∧ e 7 = .str x ∧ e 8 = .int .i64 i ∧ (∃ t, h' = h ++ t) ∧ x.length ≤ 2000 + i ∧ trim x = trim s) ?_ (n := 8) ⟨0, s, by simp, by omega, e0, e1, e2, e7, e8, hh, by omega, rfl⟩
  rintro n e h' ⟨i, x, rfl, hi, e0, e1, e2, e7, e8, ⟨t, rfl⟩, hx, ht⟩
  simp only [b_gatepostlaw01_TokenTrims_1]
  generalize hB : bitsI .and .i64 a 7 = B at *
  by_cases hl : (i : Int) < B
  · have w := wrap64 (x := (i : Int) + 1) (by omega) (by omega)
    have g : binV .add (.str [32]) (.str x) = some (.str (32 :: x)) := bin_sadd (by simp; omega)
    
    simp (maxSteps := 4000000) only [vm, vl, Arg.get, cells, stor, boundO, resultsV, resV, partK, loadV, Vm.part, fillC, splice, reduceIte, reduceCtorEq, Nat.reduceEqDiff, Nat.reduceAdd, Nat.reduceSub, Nat.reduceMul, Nat.reduceLeDiff, ne_eq, not_false_eq_true, Int.reduceEq, Int.reduceLT, Int.reduceLE, Int.reduceNeg, Int.reduceToNat, Int.reduceGT, Int.reduceGE, Nat.reduceLT, Nat.lt_add_one, Nat.zero_lt_succ, Nat.succ_pos, beq_self_eq_true, k_gatepostlaw01_TokenTrims_3, k_gatepostlaw01_TokenTrims_2, k_gatepostlaw01_TokenTrims_5, k_gatepostlaw01_TokenTrims_4, k_gatepostlaw01_TokenTrims_1, k_gatepostlaw01_TokenTrims_7, k_gatepostlaw01_TokenTrims_6, k_gatepostlaw01_TokenTrims_0, e0, e1, e2, e7, e8, hB, hl, w, g]
    exact ⟨8 - (i + 1), by omega, i + 1, 32 :: x, rfl, by omega, rfl, rfl, ⟨_, rfl⟩, by simp; omega, by rw [trim_cons (by decide), ht]⟩
  · simp (maxSteps := 4000000) only [vm, vl, Arg.get, cells, stor, boundO, resultsV, resV, partK, loadV, Vm.part, fillC, splice, reduceIte, reduceCtorEq, Nat.reduceEqDiff, Nat.reduceAdd, Nat.reduceSub, Nat.reduceMul, Nat.reduceLeDiff, ne_eq, not_false_eq_true, Int.reduceEq, Int.reduceLT, Int.reduceLE, Int.reduceNeg, Int.reduceToNat, Int.reduceGT, Int.reduceGE, Nat.reduceLT, Nat.lt_add_one, Nat.zero_lt_succ, Nat.succ_pos, beq_self_eq_true, k_gatepostlaw01_TokenTrims_3, k_gatepostlaw01_TokenTrims_2, k_gatepostlaw01_TokenTrims_5, k_gatepostlaw01_TokenTrims_4, k_gatepostlaw01_TokenTrims_1, k_gatepostlaw01_TokenTrims_7, k_gatepostlaw01_TokenTrims_6, k_gatepostlaw01_TokenTrims_0, e0, e1, e2, e7, e8, hB, hl]
    exact trims_2 (x := x) (a := a) (b := b) hs (by omega) ht (by simp [upd, e0]) (by simp [upd, e2]) (by simp [upd, e7]) (by simp [upd]) ⟨_, rfl⟩
theorem TokenTrims_ok {s : Bs} {a b : Int} : Cf F L i_gatepostlaw01_TokenTrims [.str s, .int .i64 a, .int .i64 b] h (Pu h (.bool true)) := by
  refine run_gatepostlaw01_TokenTrims ?_
  simp only [p_gatepostlaw01_TokenTrims]
  by_cases hs : (s.length : Int) > 2000
  · have h2 : 2000 ≤ s.length := by omega
    simp (maxSteps := 4000000) only [vm, vl, Arg.get, cells, stor, boundO, resultsV, resV, partK, loadV, Vm.part, fillC, splice, reduceIte, reduceCtorEq, Nat.reduceEqDiff, Nat.reduceAdd, Nat.reduceSub, Nat.reduceMul, Nat.reduceLeDiff, ne_eq, not_false_eq_true, Int.reduceEq, Int.reduceLT, Int.reduceLE, Int.reduceNeg, Int.reduceToNat, Int.reduceGT, Int.reduceGE, Nat.reduceLT, Nat.lt_add_one, Nat.zero_lt_succ, Nat.succ_pos, beq_self_eq_true, k_gatepostlaw01_TokenTrims_3, k_gatepostlaw01_TokenTrims_2, k_gatepostlaw01_TokenTrims_5, k_gatepostlaw01_TokenTrims_4, k_gatepostlaw01_TokenTrims_1, k_gatepostlaw01_TokenTrims_7, k_gatepostlaw01_TokenTrims_6, k_gatepostlaw01_TokenTrims_0, hs, h2]
    exact trims_1 (s := s.take 2000) (by simp; omega) rfl rfl rfl rfl rfl ⟨[], by simp⟩
  · simp (maxSteps := 4000000) only [vm, vl, Arg.get, cells, stor, boundO, resultsV, resV, partK, loadV, Vm.part, fillC, splice, reduceIte, reduceCtorEq, Nat.reduceEqDiff, Nat.reduceAdd, Nat.reduceSub, Nat.reduceMul, Nat.reduceLeDiff, ne_eq, not_false_eq_true, Int.reduceEq, Int.reduceLT, Int.reduceLE, Int.reduceNeg, Int.reduceToNat, Int.reduceGT, Int.reduceGE, Nat.reduceLT, Nat.lt_add_one, Nat.zero_lt_succ, Nat.succ_pos, beq_self_eq_true, k_gatepostlaw01_TokenTrims_3, k_gatepostlaw01_TokenTrims_2, k_gatepostlaw01_TokenTrims_5, k_gatepostlaw01_TokenTrims_4, k_gatepostlaw01_TokenTrims_1, k_gatepostlaw01_TokenTrims_7, k_gatepostlaw01_TokenTrims_6, k_gatepostlaw01_TokenTrims_0, hs]
    exact trims_1 (s := s) (by omega) rfl rfl rfl rfl rfl ⟨[], by simp⟩
theorem TokenTrims_row {x0 x1 x2 : V} (v0 : VPar [.l .s] x0) (v1 : VPar [.l (.i .i64)] x1) (v2 : VPar [.l (.i .i64)] x2) (w : World) (vs : List Value) (hv : Rvs w.heap.size G0 w [x0, x1, x2] vs) :
    Calls Tryd.prog i_gatepostlaw01_TokenTrims vs.toArray w fun e w' => e = .returned (.bool true) ∧ RowKit.Below w.heap.size w w' := by
  obtain ⟨s, rfl, _⟩ := v0
  obtain ⟨a, rfl, _⟩ := v1
  obtain ⟨b, rfl, _⟩ := v2
  exact calls_at hm hF (L := fun _ _ _ => False) (fun _ _ _ h => h.elim) (TokenTrims_ok.mono fun v h' hp => hp.1) hv
end Go.Proofs.YtmfpmnfbcgchjaaDoor.Vh
