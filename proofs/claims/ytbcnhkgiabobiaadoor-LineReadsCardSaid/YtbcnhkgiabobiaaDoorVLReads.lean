/- The reference's Request and Status on the small machine; LineReads. -/
import Derived.Test.YtbcnhkgiabobiaaDoorVLBack
import Derived.Test.YtbcnhkgiabobiaaDoorVLWords
set_option linter.unusedVariables false
set_option linter.unusedSimpArgs false
namespace Go.Proofs.YtbcnhkgiabobiaaDoor.Vh
open Go.Vm Go.Vt
attribute [local congr] wi_congr wg_congr wgd_congr wb_congr wl_congr cf_congr
variable {L : FuncId → List V → V → Prop} {h : Heap}
theorem rversion_ok {s : Bs} : Cf F L i_gatepostref03_version [.str s] h (Pu h (.int .i64 (versS s))) := by
  refine run_gatepostref03_version ?_
  simp only [p_gatepostref03_version]
  unfold versS ver0 ver1
  by_cases a : s = [72, 84, 84, 80, 47, 49, 46, 48]
  · have a' : (s == [72, 84, 84, 80, 47, 49, 46, 48]) = true := beq_iff_eq.2 a
    rw [if_pos a]
    simp (maxSteps := 4000000) only [vm, vl, Arg.get, cells, stor, boundO, resultsV, resV, partK, loadV, Vm.part, fillC, splice, reduceIte, reduceCtorEq, Nat.reduceEqDiff, Nat.reduceAdd, Nat.reduceSub, Nat.reduceMul, Nat.reduceLeDiff, ne_eq, not_false_eq_true, Int.reduceEq, Int.reduceLT, Int.reduceLE, Int.reduceNeg, Int.reduceToNat, Int.reduceGT, Int.reduceGE, Nat.reduceLT, Nat.lt_add_one, Nat.zero_lt_succ, Nat.succ_pos, Nat.zero_le, beq_self_eq_true, k_gatepostref03_version_1, k_gatepostref03_version_0, a']
  have a' : (s == [72, 84, 84, 80, 47, 49, 46, 48]) = false := beq_eq_false_iff_ne.2 a
  rw [if_neg a]
  by_cases b : s = [72, 84, 84, 80, 47, 49, 46, 49]
  · have b' : (s == [72, 84, 84, 80, 47, 49, 46, 49]) = true := beq_iff_eq.2 b
    rw [if_pos b]
    simp (maxSteps := 4000000) only [vm, vl, Arg.get, cells, stor, boundO, resultsV, resV, partK, loadV, Vm.part, fillC, splice, reduceIte, reduceCtorEq, Nat.reduceEqDiff, Nat.reduceAdd, Nat.reduceSub, Nat.reduceMul, Nat.reduceLeDiff, ne_eq, not_false_eq_true, Int.reduceEq, Int.reduceLT, Int.reduceLE, Int.reduceNeg, Int.reduceToNat, Int.reduceGT, Int.reduceGE, Nat.reduceLT, Nat.lt_add_one, Nat.zero_lt_succ, Nat.succ_pos, Nat.zero_le, beq_self_eq_true, k_gatepostref03_version_1, k_gatepostref03_version_0, a', b']
  have b' : (s == [72, 84, 84, 80, 47, 49, 46, 49]) = false := beq_eq_false_iff_ne.2 b
  rw [if_neg b]
  simp (maxSteps := 4000000) only [vm, vl, Arg.get, cells, stor, boundO, resultsV, resV, partK, loadV, Vm.part, fillC, splice, reduceIte, reduceCtorEq, Nat.reduceEqDiff, Nat.reduceAdd, Nat.reduceSub, Nat.reduceMul, Nat.reduceLeDiff, ne_eq, not_false_eq_true, Int.reduceEq, Int.reduceLT, Int.reduceLE, Int.reduceNeg, Int.reduceToNat, Int.reduceGT, Int.reduceGE, Nat.reduceLT, Nat.lt_add_one, Nat.zero_lt_succ, Nat.succ_pos, Nat.zero_le, beq_self_eq_true, k_gatepostref03_version_1, k_gatepostref03_version_0, a', b']
def okAt (s : Bs) (i k : Nat) : Prop := i < k ∧ k < s.length ∧ s.getD i 0 = 32 ∧ s.getD k 0 = 32 ∧ isTok (s.take i) = true ∧ tgtS ((s.take k).drop (i + 1)) = true ∧ 0 ≤ versS (s.drop (k + 1))
theorem ok_req {s : Bs} {i k : Nat} (h : okAt s i k) : reqW (splitB s) = some (s.take i, (s.take k).drop (i + 1), versS (s.drop (k + 1))) := by
  obtain ⟨h1, h2, h3, h4, h5, h6, h7⟩ := h
  have one : ∀ j, j < s.length → s.drop j = s.getD j 0 :: s.drop (j + 1) := by
    intro j hj
    rw [List.drop_eq_getElem_cons hj, List.getD_eq_getElem?_getD, List.getElem?_eq_getElem hj]; rfl
  have e2 : (s.take k).drop (i + 1) ++ s.drop k = s.drop (i + 1) := by
    rw [List.drop_take]
    have : s.drop k = (s.drop (i + 1)).drop (k - (i + 1)) := by rw [List.drop_drop]; congr 1; omega
    rw [this, List.take_append_drop]
  have e : s = s.take i ++ ([32] ++ ((s.take k).drop (i + 1) ++ ([32] ++ s.drop (k + 1)))) := by
    have e3 : [32] ++ s.drop (k + 1) = s.drop k := by rw [one k h2, h4]; rfl
    have e4 : [32] ++ s.drop (i + 1) = s.drop i := by rw [one i (by omega), h3]; rfl
    rw [e3, e2, e4, List.take_append_drop]
  obtain ⟨v1, v2⟩ := vers_is h7
  have vs : ∀ x ∈ s.drop (k + 1), x ≠ 32 := by rw [v2]; exact vers_sp v1
  have : splitB s = [s.take i, (s.take k).drop (i + 1), s.drop (k + 1)] := by
    conv => lhs; rw [e]
    rw [splitB_app (tok_sp h5), splitB_app (tgt_sp h6), splitB_last vs]
  rw [this]
  show req3 _ _ _ = _
  unfold req3
  rw [if_pos ⟨h5, h6, h7⟩]
theorem req_ok {s a b : Bs} {m : Int} (h : reqW (splitB s) = some (a, b, m)) : ∃ i k, okAt s i k := by
  obtain ⟨h1, h2, h3, h4⟩ := line_back h
  have e : s = a ++ ([32] ++ (b ++ ([32] ++ ([72, 84, 84, 80, 47, 49, 46] ++ [UInt8.ofNat (48 + m.toNat)])))) := by rw [← h4]; simp only [List.append_assoc]
  have vo := vers_of h3
  generalize ([72, 84, 84, 80, 47, 49, 46] ++ [UInt8.ofNat (48 + m.toNat)] : Bs) = v at *
  clear h4 h
  subst e
  refine ⟨a.length, a.length + 1 + b.length, by omega, ?_, ?_, ?_, ?_, ?_, ?_⟩
  · simp only [List.length_append, List.length_cons, List.length_nil]; omega
  · simp [List.getD_eq_getElem?_getD, List.getElem?_append]
  · have e5 : a ++ ([32] ++ (b ++ ([32] ++ v))) = (a ++ [32] ++ b) ++ ([32] ++ v) := by simp only [List.append_assoc]
    have e6 : (a ++ [32] ++ b).length = a.length + 1 + b.length := by simp only [List.length_append, List.length_cons, List.length_nil]
    rw [e5, ← e6, List.getD_eq_getElem?_getD, List.getElem?_append_right (Nat.le_refl _)]; simp
  · rw [List.take_left' rfl]; exact h1
  · have e5 : a ++ ([32] ++ (b ++ ([32] ++ v))) = (a ++ [32]) ++ (b ++ ([32] ++ v)) := by simp only [List.append_assoc]
    have e6 : (a ++ [32]).length = a.length + 1 := by simp only [List.length_append, List.length_cons, List.length_nil]
    have e7 : a ++ ([32] ++ (b ++ ([32] ++ v))) = ((a ++ [32]) ++ b) ++ ([32] ++ v) := by simp only [List.append_assoc]
    have e8 : ((a ++ [32]) ++ b).length = a.length + 1 + b.length := by rw [List.length_append, e6]
    rw [e7, List.take_left' e8, List.drop_left' e6]; exact h2
  · have e7 : a ++ ([32] ++ (b ++ ([32] ++ v))) = ((a ++ [32]) ++ (b ++ [32])) ++ v := by simp only [List.append_assoc]
    have e8 : ((a ++ [32]) ++ (b ++ [32])).length = a.length + 1 + b.length + 1 := by simp only [List.length_append, List.length_cons, List.length_nil]; omega
    rw [e7, List.drop_left' e8, vo]; omega
theorem req_none {s : Bs} (h : ∀ i k, ¬ okAt s i k) : reqW (splitB s) = none := by
  cases e : reqW (splitB s) with
  | none => rfl
  | some p =>
    obtain ⟨a, b, m⟩ := p
    obtain ⟨i, k, q⟩ := req_ok e
    exact absurd q (h i k)
theorem inner_ok {s : Bs} {i : Nat} {e : Env} {hh : Heap} {N0 : Env → Heap → Prop} {P : V → Heap → Prop} (hs : s.length ≤ 1024) (hi : i < s.length) (h32 : s.getD i 0 = 32) (e0 : e 0 = .str s)
    (hP : ∀ k, okAt s i k → ∀ u, P (.tup [.str (s.take i), .str ((s.take k).drop (i + 1)), .int .i64 (versS (s.drop (k + 1))), .int .i64 0]) (hh ++ u))
    (hN : (∀ k, ¬ okAt s i k) → ∀ e' u, e' 0 = .str s → e' 6 = .int .i64 ((i + 1 : Nat) : Int) → N0 e' (hh ++ u)) (e6 : e 6 = .int .i64 i) :
    k_gatepostref03_Request_4 L P N0 e (.int .i64 i) hh := by
  
  unfold k_gatepostref03_Request_4
  have w1 : IntKind.i64.wrap ((i : Int) + 1) = ((i + 1 : Nat) : Int) := by rw [wrap64 (by omega) (by omega)]; omega
  simp (maxSteps := 4000000) only [vm, vl, Arg.get, cells, stor, boundO, resultsV, resV, partK, loadV, Vm.part, fillC, splice, reduceIte, reduceCtorEq, Nat.reduceEqDiff, Nat.reduceAdd, Nat.reduceSub, Nat.reduceMul, Nat.reduceLeDiff, ne_eq, not_false_eq_true, Int.reduceEq, Int.reduceLT, Int.reduceLE, Int.reduceNeg, Int.reduceToNat, Int.reduceGT, Int.reduceGE, Nat.reduceLT, Nat.lt_add_one, Nat.zero_lt_succ, Nat.succ_pos, Nat.zero_le, beq_self_eq_true, w1]
  refine l_gatepostref03_Request_1 (fun n e h' => ∃ k : Nat, n = s.length - k ∧ i + 1 ≤ k ∧ k ≤ s.length ∧ e 0 = .str s ∧ e 6 = .int .i64 i ∧ e 7 = .int .i64 k ∧ (∃ u, h' = hh ++ u) ∧ ∀ j, j < k → ¬ okAt s i j) ?_ (n := s.length - (i + 1)) ⟨i + 1, rfl, by omega, by omega, by simp [upd, e0], by simp [upd, e6], rfl, ⟨[], by simp⟩, fun j hj q => by have := q.1; omega⟩
  rintro n e h' ⟨k, rfl, hk1, hk, e0, e6, e7, ⟨u, rfl⟩, hn⟩
  simp only [b_gatepostref03_Request_1]
  have w2 : IntKind.i64.wrap ((k : Int) + 1) = ((k + 1 : Nat) : Int) := by rw [wrap64 (by omega) (by omega)]; omega
  by_cases q : k < s.length
  case neg =>
    have q1 : ¬ (k : Int) < s.length := by omega
    simp (maxSteps := 4000000) only [vm, vl, Arg.get, cells, stor, boundO, resultsV, resV, partK, loadV, Vm.part, fillC, splice, reduceIte, reduceCtorEq, Nat.reduceEqDiff, Nat.reduceAdd, Nat.reduceSub, Nat.reduceMul, Nat.reduceLeDiff, ne_eq, not_false_eq_true, Int.reduceEq, Int.reduceLT, Int.reduceLE, Int.reduceNeg, Int.reduceToNat, Int.reduceGT, Int.reduceGE, Nat.reduceLT, Nat.lt_add_one, Nat.zero_lt_succ, Nat.succ_pos, Nat.zero_le, beq_self_eq_true, e0, e6, e7, q1, decide_false, k_gatepostref03_Request_3, w1]
    exact hN (fun j h => by
      rcases Nat.lt_or_ge j k with h1 | h1
      · exact hn j h1 h
      · have := h.2.1; omega) _ _ (by simp [upd, e0]) (by simp [upd])
  have q1 : (k : Int) < s.length := by omega
  have nx : ¬ okAt s i k → ∀ j, j < k + 1 → ¬ okAt s i j := fun hk j hj => by
    rcases Nat.lt_or_ge j k with h1 | h1
    · exact hn j h1
    · rw [show j = k by omega]; exact hk
  by_cases p : s.getD k 0 = 32
  case neg =>
    have p' : ¬ ((s.getD k 0).toNat : Int) = 32 := fun e => p (UInt8.toNat_inj.1 (by have : (32 : UInt8).toNat = 32 := rfl; omega))
    simp (maxSteps := 4000000) only [vm, vl, Arg.get, cells, stor, boundO, resultsV, resV, partK, loadV, Vm.part, fillC, splice, reduceIte, reduceCtorEq, Nat.reduceEqDiff, Nat.reduceAdd, Nat.reduceSub, Nat.reduceMul, Nat.reduceLeDiff, ne_eq, not_false_eq_true, Int.reduceEq, Int.reduceLT, Int.reduceLE, Int.reduceNeg, Int.reduceToNat, Int.reduceGT, Int.reduceGE, Nat.reduceLT, Nat.lt_add_one, Nat.zero_lt_succ, Nat.succ_pos, Nat.zero_le, beq_self_eq_true, e0, e6, e7, q, q1, p', decide_true, decide_false, k_gatepostref03_Request_5, k_gatepostref03_Request_6, w2]
    exact ⟨s.length - (k + 1), by omega, k + 1, rfl, by omega, by omega, rfl, ⟨_, rfl⟩, nx (fun h => p h.2.2.2.1)⟩
  have p' : ((s.getD k 0).toNat : Int) = 32 := by rw [p]; rfl
  have z1 : i ≤ s.length := by omega
  have z2 : (0 : Int) ≤ i := by omega
  have z3 : i + 1 ≤ k := hk1
  have z4 : k ≤ s.length := by omega
  have z5 : (0 : Int) ≤ k := by omega
  have z6 : k + 1 ≤ s.length := by omega
  have I1 := fun hh => rIs_ok (L := L) (h := hh) (s := s.take i) (by rw [List.length_take]; omega)
  have I2 := fun hh => rtarget_ok (L := L) (h := hh) (s := (s.take k).drop (i + 1)) (by rw [List.length_drop, List.length_take]; omega)
  simp (maxSteps := 4000000) only [vm, vl, Arg.get, cells, stor, boundO, resultsV, resV, partK, loadV, Vm.part, fillC, splice, reduceIte, reduceCtorEq, Nat.reduceEqDiff, Nat.reduceAdd, Nat.reduceSub, Nat.reduceMul, Nat.reduceLeDiff, ne_eq, not_false_eq_true, Int.reduceEq, Int.reduceLT, Int.reduceLE, Int.reduceNeg, Int.reduceToNat, Int.reduceGT, Int.reduceGE, Nat.reduceLT, Nat.lt_add_one, Nat.zero_lt_succ, Nat.succ_pos, Nat.zero_le, beq_self_eq_true, e0, e6, e7, q, q1, p', decide_true, k_gatepostref03_Request_5, z1, z2]
  refine Cf.pu (I1 _) fun u1 => ?_
  cases c1 : isTok (s.take i) with
  | false =>
    simp (maxSteps := 4000000) only [vm, vl, Arg.get, cells, stor, boundO, resultsV, resV, partK, loadV, Vm.part, fillC, splice, reduceIte, reduceCtorEq, Nat.reduceEqDiff, Nat.reduceAdd, Nat.reduceSub, Nat.reduceMul, Nat.reduceLeDiff, ne_eq, not_false_eq_true, Int.reduceEq, Int.reduceLT, Int.reduceLE, Int.reduceNeg, Int.reduceToNat, Int.reduceGT, Int.reduceGE, Nat.reduceLT, Nat.lt_add_one, Nat.zero_lt_succ, Nat.succ_pos, Nat.zero_le, beq_self_eq_true, e6, e7, k_gatepostref03_Request_6, w2]
    exact ⟨s.length - (k + 1), by omega, k + 1, rfl, by omega, by omega, e0, rfl, ⟨_, rfl⟩, nx (fun h => by have := h.2.2.2.2.1; rw [c1] at this; cases this)⟩
  | true =>
    simp (maxSteps := 4000000) only [vm, vl, Arg.get, cells, stor, boundO, resultsV, resV, partK, loadV, Vm.part, fillC, splice, reduceIte, reduceCtorEq, Nat.reduceEqDiff, Nat.reduceAdd, Nat.reduceSub, Nat.reduceMul, Nat.reduceLeDiff, ne_eq, not_false_eq_true, Int.reduceEq, Int.reduceLT, Int.reduceLE, Int.reduceNeg, Int.reduceToNat, Int.reduceGT, Int.reduceGE, Nat.reduceLT, Nat.lt_add_one, Nat.zero_lt_succ, Nat.succ_pos, Nat.zero_le, beq_self_eq_true, w1, z2, z3, z4, z5]
    refine Cf.pu (I2 _) fun u2 => ?_
    cases c2 : tgtS ((s.take k).drop (i + 1)) with
    | false =>
      simp (maxSteps := 4000000) only [vm, vl, Arg.get, cells, stor, boundO, resultsV, resV, partK, loadV, Vm.part, fillC, splice, reduceIte, reduceCtorEq, Nat.reduceEqDiff, Nat.reduceAdd, Nat.reduceSub, Nat.reduceMul, Nat.reduceLeDiff, ne_eq, not_false_eq_true, Int.reduceEq, Int.reduceLT, Int.reduceLE, Int.reduceNeg, Int.reduceToNat, Int.reduceGT, Int.reduceGE, Nat.reduceLT, Nat.lt_add_one, Nat.zero_lt_succ, Nat.succ_pos, Nat.zero_le, beq_self_eq_true, e6, e7, k_gatepostref03_Request_6, w2]
      exact ⟨s.length - (k + 1), by omega, k + 1, rfl, by omega, by omega, e0, rfl, ⟨_, rfl⟩, nx (fun h => by have := h.2.2.2.2.2.1; rw [c2] at this; cases this)⟩
    | true =>
      simp (maxSteps := 4000000) only [vm, vl, Arg.get, cells, stor, boundO, resultsV, resV, partK, loadV, Vm.part, fillC, splice, reduceIte, reduceCtorEq, Nat.reduceEqDiff, Nat.reduceAdd, Nat.reduceSub, Nat.reduceMul, Nat.reduceLeDiff, ne_eq, not_false_eq_true, Int.reduceEq, Int.reduceLT, Int.reduceLE, Int.reduceNeg, Int.reduceToNat, Int.reduceGT, Int.reduceGE, Nat.reduceLT, Nat.lt_add_one, Nat.zero_lt_succ, Nat.succ_pos, Nat.zero_le, beq_self_eq_true, w2, z6, z5, List.take_length]
      refine Cf.pu rversion_ok fun u3 => ?_
      by_cases c3 : versS (s.drop (k + 1)) ≥ 0
      · have P1 := hP k ⟨by omega, q, h32, p, c1, c2, c3⟩
        simp (maxSteps := 4000000) only [vm, vl, Arg.get, cells, stor, boundO, resultsV, resV, partK, loadV, Vm.part, fillC, splice, reduceIte, reduceCtorEq, Nat.reduceEqDiff, Nat.reduceAdd, Nat.reduceSub, Nat.reduceMul, Nat.reduceLeDiff, ne_eq, not_false_eq_true, Int.reduceEq, Int.reduceLT, Int.reduceLE, Int.reduceNeg, Int.reduceToNat, Int.reduceGT, Int.reduceGE, Nat.reduceLT, Nat.lt_add_one, Nat.zero_lt_succ, Nat.succ_pos, Nat.zero_le, beq_self_eq_true, c3, decide_true, z1, z2, w1, z3, z4, z5, w2, z6, List.take_length]
        refine Cf.pu rversion_ok fun u4 => ?_
        simp (maxSteps := 4000000) only [vm, vl, Arg.get, cells, stor, boundO, resultsV, resV, partK, loadV, Vm.part, fillC, splice, reduceIte, reduceCtorEq, Nat.reduceEqDiff, Nat.reduceAdd, Nat.reduceSub, Nat.reduceMul, Nat.reduceLeDiff, ne_eq, not_false_eq_true, Int.reduceEq, Int.reduceLT, Int.reduceLE, Int.reduceNeg, Int.reduceToNat, Int.reduceGT, Int.reduceGE, Nat.reduceLT, Nat.lt_add_one, Nat.zero_lt_succ, Nat.succ_pos, Nat.zero_le, beq_self_eq_true]
        exact P1 _
      · simp (maxSteps := 4000000) only [vm, vl, Arg.get, cells, stor, boundO, resultsV, resV, partK, loadV, Vm.part, fillC, splice, reduceIte, reduceCtorEq, Nat.reduceEqDiff, Nat.reduceAdd, Nat.reduceSub, Nat.reduceMul, Nat.reduceLeDiff, ne_eq, not_false_eq_true, Int.reduceEq, Int.reduceLT, Int.reduceLE, Int.reduceNeg, Int.reduceToNat, Int.reduceGT, Int.reduceGE, Nat.reduceLT, Nat.lt_add_one, Nat.zero_lt_succ, Nat.succ_pos, Nat.zero_le, beq_self_eq_true, c3, decide_false, e6, e7, k_gatepostref03_Request_6, w2]
        exact ⟨s.length - (k + 1), by omega, k + 1, rfl, by omega, by omega, e0, rfl, ⟨_, rfl⟩, nx (fun h => c3 h.2.2.2.2.2.2)⟩
theorem rRequest_ok {s : Bs} (hs : s.length ≤ 140737488351232) : Cf F L i_gatepostref03_Request [.str s] h (Pu h (reqRV s)) := by
  refine run_gatepostref03_Request ?_
  simp only [p_gatepostref03_Request]
  
  unfold reqRV
  by_cases c : s.length > 1024
  · have c' : (s.length : Int) > 1024 := by omega
    rw [if_pos c]
    simp (maxSteps := 4000000) only [vm, vl, Arg.get, cells, stor, boundO, resultsV, resV, partK, loadV, Vm.part, fillC, splice, reduceIte, reduceCtorEq, Nat.reduceEqDiff, Nat.reduceAdd, Nat.reduceSub, Nat.reduceMul, Nat.reduceLeDiff, ne_eq, not_false_eq_true, Int.reduceEq, Int.reduceLT, Int.reduceLE, Int.reduceNeg, Int.reduceToNat, Int.reduceGT, Int.reduceGE, Nat.reduceLT, Nat.lt_add_one, Nat.zero_lt_succ, Nat.succ_pos, Nat.zero_le, beq_self_eq_true, c', decide_true]
  have c' : ¬ (s.length : Int) > 1024 := by omega
  rw [if_neg c]
  have oR := fun i k (q : okAt s i k) => ok_req q
  have nR := req_none (s := s)
  generalize reqW (splitB s) = R at *
  simp (maxSteps := 4000000) only [vm, vl, Arg.get, cells, stor, boundO, resultsV, resV, partK, loadV, Vm.part, fillC, splice, reduceIte, reduceCtorEq, Nat.reduceEqDiff, Nat.reduceAdd, Nat.reduceSub, Nat.reduceMul, Nat.reduceLeDiff, ne_eq, not_false_eq_true, Int.reduceEq, Int.reduceLT, Int.reduceLE, Int.reduceNeg, Int.reduceToNat, Int.reduceGT, Int.reduceGE, Nat.reduceLT, Nat.lt_add_one, Nat.zero_lt_succ, Nat.succ_pos, Nat.zero_le, beq_self_eq_true, c', decide_false, k_gatepostref03_Request_0]
  refine l_gatepostref03_Request_0 (fun n e h' => ∃ i : Nat, n = s.length - i ∧ i ≤ s.length ∧ e 0 = .str s ∧ e 6 = .int .i64 i ∧ (∃ u, h' = h ++ u) ∧ ∀ j, j < i → ∀ k, ¬ okAt s j k) ?_ (n := s.length) ⟨0, rfl, by omega, rfl, rfl, ⟨[], by simp⟩, by simp⟩
  rintro n e h' ⟨i, rfl, hi, e0, e6, ⟨u, rfl⟩, hn⟩
  simp only [b_gatepostref03_Request_0]
  by_cases q : i < s.length
  case neg =>
    have q1 : ¬ (i : Int) < s.length := by omega
    rw [nR (fun j k h => by
      rcases Nat.lt_or_ge j i with h1 | h1
      · exact hn j h1 k h
      · have := h.1; have := h.2.1; omega)]
    simp (maxSteps := 4000000) only [vm, vl, Arg.get, cells, stor, boundO, resultsV, resV, partK, loadV, Vm.part, fillC, splice, reduceIte, reduceCtorEq, Nat.reduceEqDiff, Nat.reduceAdd, Nat.reduceSub, Nat.reduceMul, Nat.reduceLeDiff, ne_eq, not_false_eq_true, Int.reduceEq, Int.reduceLT, Int.reduceLE, Int.reduceNeg, Int.reduceToNat, Int.reduceGT, Int.reduceGE, Nat.reduceLT, Nat.lt_add_one, Nat.zero_lt_succ, Nat.succ_pos, Nat.zero_le, beq_self_eq_true, e0, e6, q1, decide_false, k_gatepostref03_Request_1, reqO]
  have q1 : (i : Int) < s.length := by omega
  have w1 : IntKind.i64.wrap ((i : Int) + 1) = ((i + 1 : Nat) : Int) := by rw [wrap64 (by omega) (by omega)]; omega
  have nx : (∀ k, ¬ okAt s i k) → ∀ j, j < i + 1 → ∀ k, ¬ okAt s j k := fun hk j hj => by
    rcases Nat.lt_or_ge j i with h1 | h1
    · exact hn j h1
    · rw [show j = i by omega]; exact hk
  by_cases p : s.getD i 0 = 32
  case neg =>
    have p' : ¬ ((s.getD i 0).toNat : Int) = 32 := fun e => p (UInt8.toNat_inj.1 (by have : (32 : UInt8).toNat = 32 := rfl; omega))
    simp (maxSteps := 4000000) only [vm, vl, Arg.get, cells, stor, boundO, resultsV, resV, partK, loadV, Vm.part, fillC, splice, reduceIte, reduceCtorEq, Nat.reduceEqDiff, Nat.reduceAdd, Nat.reduceSub, Nat.reduceMul, Nat.reduceLeDiff, ne_eq, not_false_eq_true, Int.reduceEq, Int.reduceLT, Int.reduceLE, Int.reduceNeg, Int.reduceToNat, Int.reduceGT, Int.reduceGE, Nat.reduceLT, Nat.lt_add_one, Nat.zero_lt_succ, Nat.succ_pos, Nat.zero_le, beq_self_eq_true, e0, e6, q, q1, p', decide_true, decide_false, Bool.not_false, k_gatepostref03_Request_2, k_gatepostref03_Request_3, w1]
    exact ⟨s.length - (i + 1), by omega, i + 1, rfl, by omega, rfl, ⟨_, rfl⟩, nx (fun k h => p h.2.2.1)⟩
  have p' : ((s.getD i 0).toNat : Int) = 32 := by rw [p]; rfl
  simp (maxSteps := 4000000) only [vm, vl, Arg.get, cells, stor, boundO, resultsV, resV, partK, loadV, Vm.part, fillC, splice, reduceIte, reduceCtorEq, Nat.reduceEqDiff, Nat.reduceAdd, Nat.reduceSub, Nat.reduceMul, Nat.reduceLeDiff, ne_eq, not_false_eq_true, Int.reduceEq, Int.reduceLT, Int.reduceLE, Int.reduceNeg, Int.reduceToNat, Int.reduceGT, Int.reduceGE, Nat.reduceLT, Nat.lt_add_one, Nat.zero_lt_succ, Nat.succ_pos, Nat.zero_le, beq_self_eq_true, e0, e6, q, q1, p', decide_true, Bool.not_true, k_gatepostref03_Request_2]
  refine inner_ok (by omega) q p (by simp [upd, e0]) (fun k hk u' => ?_) (fun hk e' u' e0' e6' => ?_) (by simp [upd, e6])
  · rw [oR i k hk]
    exact ⟨rfl, _, by rw [List.append_assoc]⟩
  · exact ⟨s.length - (i + 1), by omega, i + 1, rfl, by omega, e0', e6', ⟨_, by rw [List.append_assoc]⟩, nx hk⟩
theorem pos_getD {c : UInt8} : ∀ {s : Bs}, pos c s < s.length → s.getD (pos c s) 0 = c
  | [], h => by simp at h
  | x :: r, h => by
    rw [pos_cons] at h ⊢
    by_cases hc : x = c
    · rw [if_pos hc]; exact hc
    · rw [if_neg hc] at h ⊢
      exact pos_getD (by simpa using h)
theorem num_three {d : Bs} (h : d.length = 3) : numS d 1024 = numS d 1000 := by
  match d, h with
  | [a, b, c], _ =>
    unfold numS
    by_cases hd : [a, b, c].all digB = true
    · have h3 := hd
      simp only [List.all_cons, List.all_nil, Bool.and_true, Bool.and_eq_true] at h3
      have d1 := dig_in h3.1
      have d2 := dig_in h3.2.1
      have d3 := dig_in h3.2.2
      rw [hd]
      have g : ∀ most : Int, 999 ≤ most → numG [a, b, c] 0 most = 100 * ((a.toNat : Int) - 48) + 10 * ((b.toNat : Int) - 48) + ((c.toNat : Int) - 48) := by
        intro most hm
        simp only [numG]
        rw [if_neg (by omega), if_neg (by omega), if_neg (by omega)]; omega
      rw [g 1024 (by omega), g 1000 (by omega)]; rfl
    · have : [a, b, c].all digB = false := by cases h : [a, b, c].all digB; rfl; exact absurd h hd
      rw [this]; rfl
def rst (s : Bs) : Option (Int × Int × Bs) :=
  if s.length < 12 ∨ versS (s.take 8) < 0 ∨ s.getD 8 0 ≠ 32 then none
  else if (numS ((s.take 12).drop 9) 1000).2 = false ∨ (numS ((s.take 12).drop 9) 1000).1 < 100 ∨ (numS ((s.take 12).drop 9) 1000).1 > 599 then none
  else if s.length = 12 then some (versS (s.take 8), (numS ((s.take 12).drop 9) 1000).1, [])
  else if s.getD 12 0 ≠ 32 ∨ rsnS (s.drop 13) = false then none
  else some (versS (s.take 8), (numS ((s.take 12).drop 9) 1000).1, s.drop 13)
theorem vers_len {c : Bs} (h : 0 ≤ versS c) : c.length = 8 ∧ ∀ x ∈ c, x ≠ 32 := by
  obtain ⟨v1, v2⟩ := vers_is h
  rw [v2]
  exact ⟨rfl, vers_sp v1⟩
theorem getD_mem {s : Bs} {j : Nat} (h : j < s.length) : s.getD j 0 ∈ s := by
  rw [List.getD_eq_getElem?_getD, List.getElem?_eq_getElem h]; exact List.getElem_mem _
theorem getD_take' {s : Bs} {j k : Nat} (h : j < k) : (s.take k).getD j 0 = s.getD j 0 := by
  simp only [List.getD_eq_getElem?_getD, List.getElem?_take, if_pos h]
theorem st_ref (s : Bs) : stP s = rst s := by
  have pl := pos_le 32 s
  unfold rst
  by_cases A : s.length < 12 ∨ versS (s.take 8) < 0 ∨ s.getD 8 0 ≠ 32
  · rw [if_pos A]
    unfold stP
    simp only
    rw [if_neg]
    rintro ⟨h1, h2, h3, h4, h5, h6⟩
    have f8 := (vers_len h1).1
    rw [List.length_take, Nat.min_eq_left pl] at f8
    rw [f8] at h1 h3
    have ql := pos_le 32 (s.drop (8 + 1))
    rw [List.length_take, Nat.min_eq_left ql] at h3
    rw [List.length_drop] at ql
    have := pos_getD (c := 32) (s := s) (by omega)
    rw [f8] at this
    rcases A with A | A | A
    · omega
    · omega
    · exact A this
  rw [if_neg A]
  have A1 : ¬ s.length < 12 := fun h => A (.inl h)
  have A2 : 0 ≤ versS (s.take 8) := Classical.byContradiction fun h => A (.inr (.inl (by omega)))
  have A3 : s.getD 8 0 = 32 := Classical.byContradiction fun h => A (.inr (.inr h))
  obtain ⟨v8, vn⟩ := vers_len A2
  have p8 : pos 32 s = 8 := pos_at (by omega) (fun j hj => by
    rw [← getD_take' (k := 8) hj]; exact vn _ (getD_mem (by omega))) A3
  have ed : (s.take 12).drop 9 = (s.drop 9).take 3 := by rw [List.drop_take]
  have er : s.drop 13 = (s.drop 9).drop 4 := by rw [List.drop_drop]
  have eg : s.getD 12 0 = (s.drop 9).getD 3 0 := by simp [List.getD_eq_getElem?_getD, List.getElem?_drop]
  have el : (s.drop 9).length = s.length - 9 := List.length_drop
  unfold stP
  simp only [p8]
  rw [ed, er, eg]
  generalize hr : s.drop 9 = rest at *
  have ql := pos_le 32 rest
  have l3 : (rest.take 3).length = 3 := by rw [List.length_take]; omega
  have n3 := num_three l3
  rw [← n3]
  have q3 : ¬ pos 32 rest = 3 → ¬ (rest.take (pos 32 rest)).length = 3 := fun h q => by
    rw [List.length_take, Nat.min_eq_left ql] at q; exact h q
  by_cases B : (numS (rest.take 3) 1024).2 = false ∨ (numS (rest.take 3) 1024).1 < 100 ∨ (numS (rest.take 3) 1024).1 > 599
  · rw [if_pos B, if_neg]
    rintro ⟨h1, h2, h3, h4, h5, h6⟩
    by_cases q : pos 32 rest = 3
    · rw [q] at h2 h4 h5
      rcases B with B | B | B
      · rw [B] at h2; cases h2
      · omega
      · omega
    · exact q3 q h3
  rw [if_neg B]
  have B1 : (numS (rest.take 3) 1024).2 = true := by cases h : (numS (rest.take 3) 1024).2; exact absurd (.inl h) B; rfl
  have B2 : 100 ≤ (numS (rest.take 3) 1024).1 := Classical.byContradiction fun h => B (.inr (.inl (by omega)))
  have B3 : (numS (rest.take 3) 1024).1 ≤ 599 := Classical.byContradiction fun h => B (.inr (.inr (by omega)))
  have dg : (rest.take 3).all digB = true := by
    unfold numS at B1
    split at B1
    · cases B1
    · rename_i q
      simp only [Bool.or_eq_true, Bool.not_eq_true', not_or, Bool.not_eq_false] at q
      exact q.2
  have ns : ∀ j, j < 3 → rest.getD j 0 ≠ 32 := fun j hj e => by
    have m := getD_mem (s := rest.take 3) (j := j) (by omega)
    rw [getD_take' hj, e] at m
    have := List.all_eq_true.1 dg _ m
    revert this; decide
  by_cases c : s.length = 12
  · rw [if_pos c]
    have q : pos 32 rest = 3 := by
      rw [pos_none (fun j hj => ns j (by omega))]; omega
    have r4 : rest.drop 4 = [] := List.drop_eq_nil_of_le (by omega)
    rw [q, r4, if_pos ⟨A2, B1, l3, B2, B3, rfl⟩]
  rw [if_neg c]
  by_cases d : rest.getD 3 0 = 32
  · have q : pos 32 rest = 3 := pos_at (by omega) (fun j hj => ns j hj) d
    rw [q]
    cases e : rsnS (rest.drop 4) with
    | false => rw [if_neg (fun h => by have := h.2.2.2.2.2; first | (cases this; done) | (rw [e] at this; cases this)), if_pos (.inr rfl)]
    | true => rw [if_pos ⟨A2, B1, l3, B2, B3, by first | rfl | exact e⟩, if_neg (fun h => h.elim (fun h => h d) (fun h => by cases h))]
  · rw [if_neg (fun h => by
      refine q3 (fun q => ?_) h.2.2.1
      have := pos_getD (c := 32) (s := rest) (by omega)
      rw [q] at this
      exact d this), if_pos (.inl d)]
theorem rStatus_ok {s : Bs} (hs : s.length ≤ 140737488351232) : Cf F L i_gatepostref03_Status [.str s] h (Pu h (stRV s)) := by
  refine run_gatepostref03_Status ?_
  simp only [p_gatepostref03_Status]
  
  unfold stRV
  by_cases c : s.length > 1024
  · have c' : (s.length : Int) > 1024 := by omega
    rw [if_pos c]
    simp (maxSteps := 4000000) only [vm, vl, Arg.get, cells, stor, boundO, resultsV, resV, partK, loadV, Vm.part, fillC, splice, reduceIte, reduceCtorEq, Nat.reduceEqDiff, Nat.reduceAdd, Nat.reduceSub, Nat.reduceMul, Nat.reduceLeDiff, ne_eq, not_false_eq_true, Int.reduceEq, Int.reduceLT, Int.reduceLE, Int.reduceNeg, Int.reduceToNat, Int.reduceGT, Int.reduceGE, Nat.reduceLT, Nat.lt_add_one, Nat.zero_lt_succ, Nat.succ_pos, Nat.zero_le, beq_self_eq_true, c', decide_true]
  have c' : ¬ (s.length : Int) > 1024 := by omega
  rw [if_neg c, st_ref]
  unfold rst
  by_cases a1 : s.length < 12
  · have a1' : (s.length : Int) < 12 := by omega
    rw [if_pos (.inl a1)]
    simp (maxSteps := 4000000) only [vm, vl, Arg.get, cells, stor, boundO, resultsV, resV, partK, loadV, Vm.part, fillC, splice, reduceIte, reduceCtorEq, Nat.reduceEqDiff, Nat.reduceAdd, Nat.reduceSub, Nat.reduceMul, Nat.reduceLeDiff, ne_eq, not_false_eq_true, Int.reduceEq, Int.reduceLT, Int.reduceLE, Int.reduceNeg, Int.reduceToNat, Int.reduceGT, Int.reduceGE, Nat.reduceLT, Nat.lt_add_one, Nat.zero_lt_succ, Nat.succ_pos, Nat.zero_le, beq_self_eq_true, c', a1', decide_true, decide_false, k_gatepostref03_Status_0, stO]
  have a1' : ¬ (s.length : Int) < 12 := by omega
  have o1 : 8 ≤ s.length := by omega
  have o2 : 8 < s.length := by omega
  have o3 : 12 ≤ s.length := by omega
  simp (maxSteps := 4000000) only [vm, vl, Arg.get, cells, stor, boundO, resultsV, resV, partK, loadV, Vm.part, fillC, splice, reduceIte, reduceCtorEq, Nat.reduceEqDiff, Nat.reduceAdd, Nat.reduceSub, Nat.reduceMul, Nat.reduceLeDiff, ne_eq, not_false_eq_true, Int.reduceEq, Int.reduceLT, Int.reduceLE, Int.reduceNeg, Int.reduceToNat, Int.reduceGT, Int.reduceGE, Nat.reduceLT, Nat.lt_add_one, Nat.zero_lt_succ, Nat.succ_pos, Nat.zero_le, beq_self_eq_true, c', a1', o1, decide_false, k_gatepostref03_Status_0]
  refine Cf.pu rversion_ok fun u1 => ?_
  by_cases a2 : versS (s.take 8) < 0
  · rw [if_pos (.inr (.inl a2))]
    simp (maxSteps := 4000000) only [vm, vl, Arg.get, cells, stor, boundO, resultsV, resV, partK, loadV, Vm.part, fillC, splice, reduceIte, reduceCtorEq, Nat.reduceEqDiff, Nat.reduceAdd, Nat.reduceSub, Nat.reduceMul, Nat.reduceLeDiff, ne_eq, not_false_eq_true, Int.reduceEq, Int.reduceLT, Int.reduceLE, Int.reduceNeg, Int.reduceToNat, Int.reduceGT, Int.reduceGE, Nat.reduceLT, Nat.lt_add_one, Nat.zero_lt_succ, Nat.succ_pos, Nat.zero_le, beq_self_eq_true, a2, decide_true, stO]
  by_cases a3 : s.getD 8 0 = 32
  case neg =>
    have a3' : ¬ ((s.getD 8 0).toNat : Int) = 32 := fun e => a3 (UInt8.toNat_inj.1 (by have : (32 : UInt8).toNat = 32 := rfl; omega))
    rw [if_pos (.inr (.inr a3))]
    simp (maxSteps := 4000000) only [vm, vl, Arg.get, cells, stor, boundO, resultsV, resV, partK, loadV, Vm.part, fillC, splice, reduceIte, reduceCtorEq, Nat.reduceEqDiff, Nat.reduceAdd, Nat.reduceSub, Nat.reduceMul, Nat.reduceLeDiff, ne_eq, not_false_eq_true, Int.reduceEq, Int.reduceLT, Int.reduceLE, Int.reduceNeg, Int.reduceToNat, Int.reduceGT, Int.reduceGE, Nat.reduceLT, Nat.lt_add_one, Nat.zero_lt_succ, Nat.succ_pos, Nat.zero_le, beq_self_eq_true, a2, a3', o2, decide_true, decide_false, Bool.not_false, stO]
  have a3' : ((s.getD 8 0).toNat : Int) = 32 := by rw [a3]; rfl
  rw [if_neg (fun h => h.elim a1 (fun h => h.elim a2 (fun h => h a3)))]
  have N1 := fun hh => rNumber_ok (L := L) (h := hh) (s := (s.take 12).drop 9) (most := 1000) (by rw [List.length_drop, List.length_take]; omega) (by omega) (by omega)
  have RS := fun hh => rreason_ok (L := L) (h := hh) (s := s.drop 13) (by rw [List.length_drop]; omega)
  generalize hD : (s.take 12).drop 9 = D at *
  generalize numS D 1000 = nd at *
  obtain ⟨n, ok⟩ := nd
  simp only at *
  simp (maxSteps := 4000000) only [vm, vl, Arg.get, cells, stor, boundO, resultsV, resV, partK, loadV, Vm.part, fillC, splice, reduceIte, reduceCtorEq, Nat.reduceEqDiff, Nat.reduceAdd, Nat.reduceSub, Nat.reduceMul, Nat.reduceLeDiff, ne_eq, not_false_eq_true, Int.reduceEq, Int.reduceLT, Int.reduceLE, Int.reduceNeg, Int.reduceToNat, Int.reduceGT, Int.reduceGE, Nat.reduceLT, Nat.lt_add_one, Nat.zero_lt_succ, Nat.succ_pos, Nat.zero_le, beq_self_eq_true, a2, a3', o2, o3, hD, decide_true, decide_false, Bool.not_true, k_gatepostref03_Status_1]
  refine Cf.pu (N1 _) fun u2 => ?_
  cases ok with
  | false =>
    rw [if_pos (.inl rfl)]
    simp (maxSteps := 4000000) only [vm, vl, Arg.get, cells, stor, boundO, resultsV, resV, partK, loadV, Vm.part, fillC, splice, reduceIte, reduceCtorEq, Nat.reduceEqDiff, Nat.reduceAdd, Nat.reduceSub, Nat.reduceMul, Nat.reduceLeDiff, ne_eq, not_false_eq_true, Int.reduceEq, Int.reduceLT, Int.reduceLE, Int.reduceNeg, Int.reduceToNat, Int.reduceGT, Int.reduceGE, Nat.reduceLT, Nat.lt_add_one, Nat.zero_lt_succ, Nat.succ_pos, Nat.zero_le, beq_self_eq_true, Bool.not_false, stO]
  | true =>
    by_cases b1 : n < 100
    · rw [if_pos (.inr (.inl b1))]
      simp (maxSteps := 4000000) only [vm, vl, Arg.get, cells, stor, boundO, resultsV, resV, partK, loadV, Vm.part, fillC, splice, reduceIte, reduceCtorEq, Nat.reduceEqDiff, Nat.reduceAdd, Nat.reduceSub, Nat.reduceMul, Nat.reduceLeDiff, ne_eq, not_false_eq_true, Int.reduceEq, Int.reduceLT, Int.reduceLE, Int.reduceNeg, Int.reduceToNat, Int.reduceGT, Int.reduceGE, Nat.reduceLT, Nat.lt_add_one, Nat.zero_lt_succ, Nat.succ_pos, Nat.zero_le, beq_self_eq_true, b1, decide_true, Bool.not_true, stO]
    by_cases b2 : n > 599
    · rw [if_pos (.inr (.inr b2))]
      simp (maxSteps := 4000000) only [vm, vl, Arg.get, cells, stor, boundO, resultsV, resV, partK, loadV, Vm.part, fillC, splice, reduceIte, reduceCtorEq, Nat.reduceEqDiff, Nat.reduceAdd, Nat.reduceSub, Nat.reduceMul, Nat.reduceLeDiff, ne_eq, not_false_eq_true, Int.reduceEq, Int.reduceLT, Int.reduceLE, Int.reduceNeg, Int.reduceToNat, Int.reduceGT, Int.reduceGE, Nat.reduceLT, Nat.lt_add_one, Nat.zero_lt_succ, Nat.succ_pos, Nat.zero_le, beq_self_eq_true, b1, b2, decide_true, decide_false, Bool.not_true, stO]
    rw [if_neg (fun h => h.elim (fun h => by cases h) (fun h => h.elim b1 b2))]
    by_cases b3 : s.length = 12
    · have b3' : (s.length : Int) = 12 := by omega
      rw [if_pos b3]
      simp (maxSteps := 4000000) only [vm, vl, Arg.get, cells, stor, boundO, resultsV, resV, partK, loadV, Vm.part, fillC, splice, reduceIte, reduceCtorEq, Nat.reduceEqDiff, Nat.reduceAdd, Nat.reduceSub, Nat.reduceMul, Nat.reduceLeDiff, ne_eq, not_false_eq_true, Int.reduceEq, Int.reduceLT, Int.reduceLE, Int.reduceNeg, Int.reduceToNat, Int.reduceGT, Int.reduceGE, Nat.reduceLT, Nat.lt_add_one, Nat.zero_lt_succ, Nat.succ_pos, Nat.zero_le, beq_self_eq_true, b1, b2, b3', o1, decide_true, decide_false, Bool.not_true, k_gatepostref03_Status_2]
      refine Cf.pu rversion_ok fun u3 => ?_
      simp (maxSteps := 4000000) only [vm, vl, Arg.get, cells, stor, boundO, resultsV, resV, partK, loadV, Vm.part, fillC, splice, reduceIte, reduceCtorEq, Nat.reduceEqDiff, Nat.reduceAdd, Nat.reduceSub, Nat.reduceMul, Nat.reduceLeDiff, ne_eq, not_false_eq_true, Int.reduceEq, Int.reduceLT, Int.reduceLE, Int.reduceNeg, Int.reduceToNat, Int.reduceGT, Int.reduceGE, Nat.reduceLT, Nat.lt_add_one, Nat.zero_lt_succ, Nat.succ_pos, Nat.zero_le, beq_self_eq_true, stO]
    have b3' : ¬ (s.length : Int) = 12 := by omega
    have o4 : 12 < s.length := by omega
    have o5 : 13 ≤ s.length := by omega
    rw [if_neg b3]
    by_cases b4 : s.getD 12 0 = 32
    case neg =>
      have b4' : ¬ ((s.getD 12 0).toNat : Int) = 32 := fun e => b4 (UInt8.toNat_inj.1 (by have : (32 : UInt8).toNat = 32 := rfl; omega))
      rw [if_pos (.inl b4)]
      simp (maxSteps := 4000000) only [vm, vl, Arg.get, cells, stor, boundO, resultsV, resV, partK, loadV, Vm.part, fillC, splice, reduceIte, reduceCtorEq, Nat.reduceEqDiff, Nat.reduceAdd, Nat.reduceSub, Nat.reduceMul, Nat.reduceLeDiff, ne_eq, not_false_eq_true, Int.reduceEq, Int.reduceLT, Int.reduceLE, Int.reduceNeg, Int.reduceToNat, Int.reduceGT, Int.reduceGE, Nat.reduceLT, Nat.lt_add_one, Nat.zero_lt_succ, Nat.succ_pos, Nat.zero_le, beq_self_eq_true, b1, b2, b3', b4', o4, decide_true, decide_false, Bool.not_true, Bool.not_false, k_gatepostref03_Status_2, k_gatepostref03_Status_3, stO]
    have b4' : ((s.getD 12 0).toNat : Int) = 32 := by rw [b4]; rfl
    simp (maxSteps := 4000000) only [vm, vl, Arg.get, cells, stor, boundO, resultsV, resV, partK, loadV, Vm.part, fillC, splice, reduceIte, reduceCtorEq, Nat.reduceEqDiff, Nat.reduceAdd, Nat.reduceSub, Nat.reduceMul, Nat.reduceLeDiff, ne_eq, not_false_eq_true, Int.reduceEq, Int.reduceLT, Int.reduceLE, Int.reduceNeg, Int.reduceToNat, Int.reduceGT, Int.reduceGE, Nat.reduceLT, Nat.lt_add_one, Nat.zero_lt_succ, Nat.succ_pos, Nat.zero_le, beq_self_eq_true, b1, b2, b3', b4', o4, o5, decide_true, decide_false, Bool.not_true, Bool.not_false, k_gatepostref03_Status_2, k_gatepostref03_Status_3, List.take_length]
    refine Cf.pu (RS _) fun u3 => ?_
    cases e : rsnS (s.drop 13) with
    | false =>
      rw [if_pos (.inr rfl)]
      simp (maxSteps := 4000000) only [vm, vl, Arg.get, cells, stor, boundO, resultsV, resV, partK, loadV, Vm.part, fillC, splice, reduceIte, reduceCtorEq, Nat.reduceEqDiff, Nat.reduceAdd, Nat.reduceSub, Nat.reduceMul, Nat.reduceLeDiff, ne_eq, not_false_eq_true, Int.reduceEq, Int.reduceLT, Int.reduceLE, Int.reduceNeg, Int.reduceToNat, Int.reduceGT, Int.reduceGE, Nat.reduceLT, Nat.lt_add_one, Nat.zero_lt_succ, Nat.succ_pos, Nat.zero_le, beq_self_eq_true, Bool.not_false, stO]
    | true =>
      rw [if_neg (fun h => h.elim (fun h => h b4) (fun h => by cases h))]
      simp (maxSteps := 4000000) only [vm, vl, Arg.get, cells, stor, boundO, resultsV, resV, partK, loadV, Vm.part, fillC, splice, reduceIte, reduceCtorEq, Nat.reduceEqDiff, Nat.reduceAdd, Nat.reduceSub, Nat.reduceMul, Nat.reduceLeDiff, ne_eq, not_false_eq_true, Int.reduceEq, Int.reduceLT, Int.reduceLE, Int.reduceNeg, Int.reduceToNat, Int.reduceGT, Int.reduceGE, Nat.reduceLT, Nat.lt_add_one, Nat.zero_lt_succ, Nat.succ_pos, Nat.zero_le, beq_self_eq_true, Bool.not_true, k_gatepostref03_Status_4, o1, o5, List.take_length]
      refine Cf.pu rversion_ok fun u4 => ?_
      simp (maxSteps := 4000000) only [vm, vl, Arg.get, cells, stor, boundO, resultsV, resV, partK, loadV, Vm.part, fillC, splice, reduceIte, reduceCtorEq, Nat.reduceEqDiff, Nat.reduceAdd, Nat.reduceSub, Nat.reduceMul, Nat.reduceLeDiff, ne_eq, not_false_eq_true, Int.reduceEq, Int.reduceLT, Int.reduceLE, Int.reduceNeg, Int.reduceToNat, Int.reduceGT, Int.reduceGE, Nat.reduceLT, Nat.lt_add_one, Nat.zero_lt_succ, Nat.succ_pos, Nat.zero_le, beq_self_eq_true, stO, o5, List.take_length]
theorem names_ok : Cf F L i_gatepostlaw03_names [] h (Pu h (.bool true)) := by
  refine run_gatepostlaw03_names ?_
  simp only [p_gatepostlaw03_names]
  simp (maxSteps := 4000000) only [vm, vl, Arg.get, cells, stor, boundO, resultsV, resV, partK, loadV, Vm.part, fillC, splice, reduceIte, reduceCtorEq, Nat.reduceEqDiff, Nat.reduceAdd, Nat.reduceSub, Nat.reduceMul, Nat.reduceLeDiff, ne_eq, not_false_eq_true, Int.reduceEq, Int.reduceLT, Int.reduceLE, Int.reduceNeg, Int.reduceToNat, Int.reduceGT, Int.reduceGE, Nat.reduceLT, Nat.lt_add_one, Nat.zero_lt_succ, Nat.succ_pos, Nat.zero_le, beq_self_eq_true]
theorem reqRV_tup (s : Bs) : ∃ (a b : Bs) (m e : Int), reqRV s = .tup [.str a, .str b, .int .i64 m, .int .i64 e] := by
  unfold reqRV
  split
  · exact ⟨_, _, _, _, rfl⟩
  · rcases reqW (splitB s) with _ | ⟨a, b, m⟩ <;> exact ⟨_, _, _, _, rfl⟩
theorem stRV_tup (s : Bs) : ∃ (m c : Int) (r : Bs) (e : Int), stRV s = .tup [.int .i64 m, .int .i64 c, .str r, .int .i64 e] := by
  unfold stRV
  split
  · exact ⟨_, _, _, _, rfl⟩
  · rcases stP s with _ | ⟨a, b, m⟩ <;> exact ⟨_, _, _, _, rfl⟩
theorem LineReads_ok (HI : IndexOk L) (HC : CountOk L) {s : Bs} (hs : s.length ≤ 140737488351232) : Cf F L i_gatepostlaw03_LineReads [.str s] h (fun v _ => v = .bool true) := by
  refine run_gatepostlaw03_LineReads ?_
  simp only [p_gatepostlaw03_LineReads]
  
  have R1 := fun hh => LRequest_ok (L := L) (h := hh) HI HC (s := s) hs
  have R2 := fun hh => rRequest_ok (L := L) (h := hh) (s := s) hs
  have S1 := fun hh => LStatus_ok (L := L) (h := hh) HI (s := s) hs
  have S2 := fun hh => rStatus_ok (L := L) (h := hh) (s := s) hs
  obtain ⟨a, b, m, e, er⟩ := reqRV_tup s
  obtain ⟨m2, c2, r2, e2, es⟩ := stRV_tup s
  rw [er] at R1 R2
  rw [es] at S1 S2
  simp (maxSteps := 4000000) only [vm, vl, Arg.get, cells, stor, boundO, resultsV, resV, partK, loadV, Vm.part, fillC, splice, reduceIte, reduceCtorEq, Nat.reduceEqDiff, Nat.reduceAdd, Nat.reduceSub, Nat.reduceMul, Nat.reduceLeDiff, ne_eq, not_false_eq_true, Int.reduceEq, Int.reduceLT, Int.reduceLE, Int.reduceNeg, Int.reduceToNat, Int.reduceGT, Int.reduceGE, Nat.reduceLT, Nat.lt_add_one, Nat.zero_lt_succ, Nat.succ_pos, Nat.zero_le, beq_self_eq_true]
  refine Cf.pu (R1 _) fun u1 => ?_
  simp (maxSteps := 4000000) only [vm, vl, Arg.get, cells, stor, boundO, resultsV, resV, partK, loadV, Vm.part, fillC, splice, reduceIte, reduceCtorEq, Nat.reduceEqDiff, Nat.reduceAdd, Nat.reduceSub, Nat.reduceMul, Nat.reduceLeDiff, ne_eq, not_false_eq_true, Int.reduceEq, Int.reduceLT, Int.reduceLE, Int.reduceNeg, Int.reduceToNat, Int.reduceGT, Int.reduceGE, Nat.reduceLT, Nat.lt_add_one, Nat.zero_lt_succ, Nat.succ_pos, Nat.zero_le, beq_self_eq_true]
  refine Cf.pu (R2 _) fun u2 => ?_
  simp (maxSteps := 4000000) only [vm, vl, Arg.get, cells, stor, boundO, resultsV, resV, partK, loadV, Vm.part, fillC, splice, reduceIte, reduceCtorEq, Nat.reduceEqDiff, Nat.reduceAdd, Nat.reduceSub, Nat.reduceMul, Nat.reduceLeDiff, ne_eq, not_false_eq_true, Int.reduceEq, Int.reduceLT, Int.reduceLE, Int.reduceNeg, Int.reduceToNat, Int.reduceGT, Int.reduceGE, Nat.reduceLT, Nat.lt_add_one, Nat.zero_lt_succ, Nat.succ_pos, Nat.zero_le, beq_self_eq_true]
  refine Cf.pu (S1 _) fun u3 => ?_
  simp (maxSteps := 4000000) only [vm, vl, Arg.get, cells, stor, boundO, resultsV, resV, partK, loadV, Vm.part, fillC, splice, reduceIte, reduceCtorEq, Nat.reduceEqDiff, Nat.reduceAdd, Nat.reduceSub, Nat.reduceMul, Nat.reduceLeDiff, ne_eq, not_false_eq_true, Int.reduceEq, Int.reduceLT, Int.reduceLE, Int.reduceNeg, Int.reduceToNat, Int.reduceGT, Int.reduceGE, Nat.reduceLT, Nat.lt_add_one, Nat.zero_lt_succ, Nat.succ_pos, Nat.zero_le, beq_self_eq_true]
  refine Cf.pu (S2 _) fun u4 => ?_
  simp (maxSteps := 4000000) only [vm, vl, Arg.get, cells, stor, boundO, resultsV, resV, partK, loadV, Vm.part, fillC, splice, reduceIte, reduceCtorEq, Nat.reduceEqDiff, Nat.reduceAdd, Nat.reduceSub, Nat.reduceMul, Nat.reduceLeDiff, ne_eq, not_false_eq_true, Int.reduceEq, Int.reduceLT, Int.reduceLE, Int.reduceNeg, Int.reduceToNat, Int.reduceGT, Int.reduceGE, Nat.reduceLT, Nat.lt_add_one, Nat.zero_lt_succ, Nat.succ_pos, Nat.zero_le, beq_self_eq_true, eq_self, decide_true, beq_self_eq_true]
  refine Cf.pu names_ok fun u5 => ?_
  simp (maxSteps := 4000000) only [vm, vl, Arg.get, cells, stor, boundO, resultsV, resV, partK, loadV, Vm.part, fillC, splice, reduceIte, reduceCtorEq, Nat.reduceEqDiff, Nat.reduceAdd, Nat.reduceSub, Nat.reduceMul, Nat.reduceLeDiff, ne_eq, not_false_eq_true, Int.reduceEq, Int.reduceLT, Int.reduceLE, Int.reduceNeg, Int.reduceToNat, Int.reduceGT, Int.reduceGE, Nat.reduceLT, Nat.lt_add_one, Nat.zero_lt_succ, Nat.succ_pos, Nat.zero_le, beq_self_eq_true]
theorem LineReads_row {x0 : V} (v0 : VPar [.l .s] x0) (w : World) (vs : List Value) (hv : Rvs w.heap.size G0 w [x0] vs) :
    Calls Tryd.prog i_gatepostlaw03_LineReads vs.toArray w fun e w' => e = .returned (.bool true) ∧ RowKit.Below w.heap.size w w' := by
  obtain ⟨s, rfl, hs⟩ := v0
  exact calls_at hm hF (lw_at w) (LineReads_ok (indexOk fun _ _ _ h => .inl h) (countOk fun _ _ _ h => .inr h) hs) hv
end Go.Proofs.YtbcnhkgiabobiaaDoor.Vh
