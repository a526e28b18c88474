/- Package line's Request and Status on the small machine. -/
import Derived.Test.YtbcnhkgiabobiaaDoorVSplitB
import Derived.Test.YtbcnhkgiabobiaaDoorVNum
import Derived.Test.YtbcnhkgiabobiaaDoorVLine
set_option linter.unusedVariables false
set_option linter.unusedSimpArgs false
namespace Go.Proofs.YtbcnhkgiabobiaaDoor.Vh
open Go.Vm Go.Vt
attribute [local congr] wi_congr wg_congr wgd_congr wb_congr wl_congr cf_congr
variable {L : FuncId → List V → V → Prop} {h : Heap}
def ver0 : Bs := [72, 84, 84, 80, 47, 49, 46, 48]
def ver1 : Bs := [72, 84, 84, 80, 47, 49, 46, 49]
def versS (s : Bs) : Int := if s = ver0 then 0 else if s = ver1 then 1 else -1
theorem vers_le (s : Bs) : -1 ≤ versS s ∧ versS s ≤ 1 := by unfold versS; split; omega; split <;> omega
theorem version_ok {s : Bs} : Cf F L i_line_version [.str s] h (Pu h (.int .i64 (versS s))) := by
  refine run_line_version ?_
  simp only [p_line_version]
  unfold versS ver0 ver1
  by_cases a : s = [72, 84, 84, 80, 47, 49, 46, 48]
  · have a' : (s == [72, 84, 84, 80, 47, 49, 46, 48]) = true := beq_iff_eq.2 a
    rw [if_pos a]
    simp (maxSteps := 4000000) only [vm, vl, Arg.get, cells, stor, boundO, resultsV, resV, partK, loadV, Vm.part, fillC, splice, reduceIte, reduceCtorEq, Nat.reduceEqDiff, Nat.reduceAdd, Nat.reduceSub, Nat.reduceMul, Nat.reduceLeDiff, ne_eq, not_false_eq_true, Int.reduceEq, Int.reduceLT, Int.reduceLE, Int.reduceNeg, Int.reduceToNat, Int.reduceGT, Int.reduceGE, Nat.reduceLT, Nat.lt_add_one, Nat.zero_lt_succ, Nat.succ_pos, Nat.zero_le, beq_self_eq_true, k_line_version_0, a']
  have a' : (s == [72, 84, 84, 80, 47, 49, 46, 48]) = false := beq_eq_false_iff_ne.2 a
  rw [if_neg a]
  by_cases b : s = [72, 84, 84, 80, 47, 49, 46, 49]
  · have b' : (s == [72, 84, 84, 80, 47, 49, 46, 49]) = true := beq_iff_eq.2 b
    rw [if_pos b]
    simp (maxSteps := 4000000) only [vm, vl, Arg.get, cells, stor, boundO, resultsV, resV, partK, loadV, Vm.part, fillC, splice, reduceIte, reduceCtorEq, Nat.reduceEqDiff, Nat.reduceAdd, Nat.reduceSub, Nat.reduceMul, Nat.reduceLeDiff, ne_eq, not_false_eq_true, Int.reduceEq, Int.reduceLT, Int.reduceLE, Int.reduceNeg, Int.reduceToNat, Int.reduceGT, Int.reduceGE, Nat.reduceLT, Nat.lt_add_one, Nat.zero_lt_succ, Nat.succ_pos, Nat.zero_le, beq_self_eq_true, k_line_version_0, a', b']
  have b' : (s == [72, 84, 84, 80, 47, 49, 46, 49]) = false := beq_eq_false_iff_ne.2 b
  rw [if_neg b]
  simp (maxSteps := 4000000) only [vm, vl, Arg.get, cells, stor, boundO, resultsV, resV, partK, loadV, Vm.part, fillC, splice, reduceIte, reduceCtorEq, Nat.reduceEqDiff, Nat.reduceAdd, Nat.reduceSub, Nat.reduceMul, Nat.reduceLeDiff, ne_eq, not_false_eq_true, Int.reduceEq, Int.reduceLT, Int.reduceLE, Int.reduceNeg, Int.reduceToNat, Int.reduceGT, Int.reduceGE, Nat.reduceLT, Nat.lt_add_one, Nat.zero_lt_succ, Nat.succ_pos, Nat.zero_le, beq_self_eq_true, k_line_version_0, a', b']
def req3 (a b c : Bs) : Option (Bs × Bs × Int) := if isTok a = true ∧ tgtS b = true ∧ 0 ≤ versS c then some (a, b, versS c) else none
def reqW : List Bs → Option (Bs × Bs × Int)
  | [a, b, c] => req3 a b c
  | _ => none
def reqO : Option (Bs × Bs × Int) → V
  | some (a, b, m) => .tup [.str a, .str b, .int .i64 m, .int .i64 0]
  | none => .tup [.str [], .str [], .int .i64 0, .int .i64 30]
def reqRV (s : Bs) : V := if s.length > 1024 then .tup [.str [], .str [], .int .i64 0, .int .i64 3] else reqO (reqW (splitB s))
theorem words_all : ∀ s : Bs, ∀ w ∈ splitB s, w.length ≤ s.length
  | [], w, h => by simp [splitB] at h; simp [h]
  | c :: r, w, h => by
    have ih := words_all r
    unfold splitB at h
    split at h
    · rcases List.mem_cons.1 h with rfl | h
      · simp
      · have := ih w h; simp only [List.length_cons]; omega
    · cases hs : splitB r with
      | nil => exact absurd hs (splitB_ne r)
      | cons x xs =>
        rw [hs] at h ih
        rcases List.mem_cons.1 h with rfl | h
        · have := ih x (by simp); simp only [List.length_cons]; omega
        · have := ih w (by simp [h]); simp only [List.length_cons]; omega
theorem LRequest_ok (HI : IndexOk L) (HC : CountOk L) {s : Bs} (hs : s.length ≤ 140737488351232) : Cf F L i_line_Request [.str s] h (Pu h (reqRV s)) := by
  refine run_line_Request ?_
  simp only [p_line_Request]
  
  unfold reqRV
  by_cases c : s.length > 1024
  · have c' : (s.length : Int) > 1024 := by omega
    rw [if_pos c]
    simp (maxSteps := 4000000) only [vm, vl, Arg.get, cells, stor, boundO, resultsV, resV, partK, loadV, Vm.part, fillC, splice, reduceIte, reduceCtorEq, Nat.reduceEqDiff, Nat.reduceAdd, Nat.reduceSub, Nat.reduceMul, Nat.reduceLeDiff, ne_eq, not_false_eq_true, Int.reduceEq, Int.reduceLT, Int.reduceLE, Int.reduceNeg, Int.reduceToNat, Int.reduceGT, Int.reduceGE, Nat.reduceLT, Nat.lt_add_one, Nat.zero_lt_succ, Nat.succ_pos, Nat.zero_le, beq_self_eq_true, c', decide_true]
  have c' : ¬ (s.length : Int) > 1024 := by omega
  rw [if_neg c]
  simp (maxSteps := 4000000) only [vm, vl, Arg.get, cells, stor, boundO, resultsV, resV, partK, loadV, Vm.part, fillC, splice, reduceIte, reduceCtorEq, Nat.reduceEqDiff, Nat.reduceAdd, Nat.reduceSub, Nat.reduceMul, Nat.reduceLeDiff, ne_eq, not_false_eq_true, Int.reduceEq, Int.reduceLT, Int.reduceLE, Int.reduceNeg, Int.reduceToNat, Int.reduceGT, Int.reduceGE, Nat.reduceLT, Nat.lt_add_one, Nat.zero_lt_succ, Nat.succ_pos, Nat.zero_le, beq_self_eq_true, c', decide_false, k_line_Request_0]
  refine (words_ok HI HC (by omega)).mono fun v h' hp => ?_
  obtain ⟨t, u, rfl, rfl⟩ := hp
  have wa := words_all s
  generalize splitB s = W at *
  by_cases n3 : W.length = 3
  case neg =>
    have n3' : ¬ (W.length : Int) = 3 := by omega
    have e : reqW W = none := by
      match W, n3 with
      | [], _ => rfl
      | [_], _ => rfl
      | [_, _], _ => rfl
      | [_, _, _], h => exact absurd rfl h
      | _ :: _ :: _ :: _ :: _, _ => rfl
    rw [e]
    simp (maxSteps := 4000000) only [vm, vl, Arg.get, cells, stor, boundO, resultsV, resV, partK, loadV, Vm.part, fillC, splice, reduceIte, reduceCtorEq, Nat.reduceEqDiff, Nat.reduceAdd, Nat.reduceSub, Nat.reduceMul, Nat.reduceLeDiff, ne_eq, not_false_eq_true, Int.reduceEq, Int.reduceLT, Int.reduceLE, Int.reduceNeg, Int.reduceToNat, Int.reduceGT, Int.reduceGE, Nat.reduceLT, Nat.lt_add_one, Nat.zero_lt_succ, Nat.succ_pos, Nat.zero_le, beq_self_eq_true, n3', decide_false, Bool.not_false, reqO]
  match W, n3 with
  | [x, y, z], _ =>
    have lx := wa x (by simp)
    have ly := wa y (by simp)
    have I1 := fun hh => Is_ok (L := L) (h := hh) (s := x) (by omega)
    have I2 := fun hh => isTarget_ok (L := L) (h := hh) (s := y) (by omega)
    have vz := vers_le z
    have n3' : ((([x, y, z] : List Bs).length : Nat) : Int) = 3 := rfl
    have n3n : ([x, y, z] : List Bs).length = 3 := rfl
    have m3 : ([x, y, z] : List Bs).map V.str = [.str x, .str y, .str z] := rfl
    have rw1 : reqW [x, y, z] = req3 x y z := rfl
    rw [rw1, n3n, m3]
    clear n3' n3n m3 rw1 wa
    have no : ¬ (isTok x = true ∧ tgtS y = true ∧ 0 ≤ versS z) → req3 x y z = none := fun h => if_neg h
    have z3 : ((3 : Nat) : Int) = 3 := rfl
    simp (maxSteps := 4000000) only [vm, vl, Arg.get, cells, stor, boundO, resultsV, resV, partK, loadV, Vm.part, fillC, splice, reduceIte, reduceCtorEq, Nat.reduceEqDiff, Nat.reduceAdd, Nat.reduceSub, Nat.reduceMul, Nat.reduceLeDiff, ne_eq, not_false_eq_true, Int.reduceEq, Int.reduceLT, Int.reduceLE, Int.reduceNeg, Int.reduceToNat, Int.reduceGT, Int.reduceGE, Nat.reduceLT, Nat.lt_add_one, Nat.zero_lt_succ, Nat.succ_pos, Nat.zero_le, beq_self_eq_true, z3, decide_true, Bool.not_true, List.length_cons, List.length_nil, List.getD_cons_zero, List.getD_cons_succ]
    refine Cf.pu (I1 _) fun u1 => ?_
    cases e1 : isTok x with
    | false =>
      rw [no (fun h => by rw [e1] at h; cases h.1)]
      simp (maxSteps := 4000000) only [vm, vl, Arg.get, cells, stor, boundO, resultsV, resV, partK, loadV, Vm.part, fillC, splice, reduceIte, reduceCtorEq, Nat.reduceEqDiff, Nat.reduceAdd, Nat.reduceSub, Nat.reduceMul, Nat.reduceLeDiff, ne_eq, not_false_eq_true, Int.reduceEq, Int.reduceLT, Int.reduceLE, Int.reduceNeg, Int.reduceToNat, Int.reduceGT, Int.reduceGE, Nat.reduceLT, Nat.lt_add_one, Nat.zero_lt_succ, Nat.succ_pos, Nat.zero_le, beq_self_eq_true, Bool.not_false, reqO]
    | true =>
      simp (maxSteps := 4000000) only [vm, vl, Arg.get, cells, stor, boundO, resultsV, resV, partK, loadV, Vm.part, fillC, splice, reduceIte, reduceCtorEq, Nat.reduceEqDiff, Nat.reduceAdd, Nat.reduceSub, Nat.reduceMul, Nat.reduceLeDiff, ne_eq, not_false_eq_true, Int.reduceEq, Int.reduceLT, Int.reduceLE, Int.reduceNeg, Int.reduceToNat, Int.reduceGT, Int.reduceGE, Nat.reduceLT, Nat.lt_add_one, Nat.zero_lt_succ, Nat.succ_pos, Nat.zero_le, beq_self_eq_true, Bool.not_true, List.length_cons, List.length_nil, List.getD_cons_zero, List.getD_cons_succ]
      refine Cf.pu (I2 _) fun u2 => ?_
      cases e2 : tgtS y with
      | false =>
        rw [no (fun h => by rw [e2] at h; cases h.2.1)]
        simp (maxSteps := 4000000) only [vm, vl, Arg.get, cells, stor, boundO, resultsV, resV, partK, loadV, Vm.part, fillC, splice, reduceIte, reduceCtorEq, Nat.reduceEqDiff, Nat.reduceAdd, Nat.reduceSub, Nat.reduceMul, Nat.reduceLeDiff, ne_eq, not_false_eq_true, Int.reduceEq, Int.reduceLT, Int.reduceLE, Int.reduceNeg, Int.reduceToNat, Int.reduceGT, Int.reduceGE, Nat.reduceLT, Nat.lt_add_one, Nat.zero_lt_succ, Nat.succ_pos, Nat.zero_le, beq_self_eq_true, Bool.not_false, reqO]
      | true =>
        simp (maxSteps := 4000000) only [vm, vl, Arg.get, cells, stor, boundO, resultsV, resV, partK, loadV, Vm.part, fillC, splice, reduceIte, reduceCtorEq, Nat.reduceEqDiff, Nat.reduceAdd, Nat.reduceSub, Nat.reduceMul, Nat.reduceLeDiff, ne_eq, not_false_eq_true, Int.reduceEq, Int.reduceLT, Int.reduceLE, Int.reduceNeg, Int.reduceToNat, Int.reduceGT, Int.reduceGE, Nat.reduceLT, Nat.lt_add_one, Nat.zero_lt_succ, Nat.succ_pos, Nat.zero_le, beq_self_eq_true, Bool.not_true, List.length_cons, List.length_nil, List.getD_cons_zero, List.getD_cons_succ]
        refine Cf.pu version_ok fun u3 => ?_
        by_cases e3 : versS z < 0
        · rw [no (fun h => by omega)]
          simp (maxSteps := 4000000) only [vm, vl, Arg.get, cells, stor, boundO, resultsV, resV, partK, loadV, Vm.part, fillC, splice, reduceIte, reduceCtorEq, Nat.reduceEqDiff, Nat.reduceAdd, Nat.reduceSub, Nat.reduceMul, Nat.reduceLeDiff, ne_eq, not_false_eq_true, Int.reduceEq, Int.reduceLT, Int.reduceLE, Int.reduceNeg, Int.reduceToNat, Int.reduceGT, Int.reduceGE, Nat.reduceLT, Nat.lt_add_one, Nat.zero_lt_succ, Nat.succ_pos, Nat.zero_le, beq_self_eq_true, e3, decide_true, reqO]
        · rw [show req3 x y z = some (x, y, versS z) from if_pos ⟨e1, e2, by omega⟩]
          simp (maxSteps := 4000000) only [vm, vl, Arg.get, cells, stor, boundO, resultsV, resV, partK, loadV, Vm.part, fillC, splice, reduceIte, reduceCtorEq, Nat.reduceEqDiff, Nat.reduceAdd, Nat.reduceSub, Nat.reduceMul, Nat.reduceLeDiff, ne_eq, not_false_eq_true, Int.reduceEq, Int.reduceLT, Int.reduceLE, Int.reduceNeg, Int.reduceToNat, Int.reduceGT, Int.reduceGE, Nat.reduceLT, Nat.lt_add_one, Nat.zero_lt_succ, Nat.succ_pos, Nat.zero_le, beq_self_eq_true, e3, decide_false, reqO, k_line_Request_1, List.length_cons, List.length_nil, List.getD_cons_zero, List.getD_cons_succ]
          refine Cf.pu version_ok fun u4 => ?_
          simp (maxSteps := 4000000) only [vm, vl, Arg.get, cells, stor, boundO, resultsV, resV, partK, loadV, Vm.part, fillC, splice, reduceIte, reduceCtorEq, Nat.reduceEqDiff, Nat.reduceAdd, Nat.reduceSub, Nat.reduceMul, Nat.reduceLeDiff, ne_eq, not_false_eq_true, Int.reduceEq, Int.reduceLT, Int.reduceLE, Int.reduceNeg, Int.reduceToNat, Int.reduceGT, Int.reduceGE, Nat.reduceLT, Nat.lt_add_one, Nat.zero_lt_succ, Nat.succ_pos, Nat.zero_le, beq_self_eq_true]
def stP (s : Bs) : Option (Int × Int × Bs) :=
  let f := s.take (pos 32 s); let rest := s.drop (pos 32 s + 1)
  let d := rest.take (pos 32 rest); let r := rest.drop (pos 32 rest + 1)
  if 0 ≤ versS f ∧ (numS d 1024).2 = true ∧ d.length = 3 ∧ 100 ≤ (numS d 1024).1 ∧ (numS d 1024).1 ≤ 599 ∧ rsnS r = true then some (versS f, (numS d 1024).1, r) else none
def stO : Option (Int × Int × Bs) → V
  | some (m, c, r) => .tup [.int .i64 m, .int .i64 c, .str r, .int .i64 0]
  | none => .tup [.int .i64 0, .int .i64 0, .str [], .int .i64 30]
def stRV (s : Bs) : V := if s.length > 1024 then .tup [.int .i64 0, .int .i64 0, .str [], .int .i64 3] else stO (stP s)
theorem wrong_ok {e : Int} : Cf F L i_line_Status_1 [.int .i64 e] h (Pu h (.tup [.int .i64 0, .int .i64 0, .str [], .int .i64 e])) := by
  refine run_line_Status_1 ?_
  simp only [p_line_Status_1]
  
  simp (maxSteps := 4000000) only [vm, vl, Arg.get, cells, stor, boundO, resultsV, resV, partK, loadV, Vm.part, fillC, splice, reduceIte, reduceCtorEq, Nat.reduceEqDiff, Nat.reduceAdd, Nat.reduceSub, Nat.reduceMul, Nat.reduceLeDiff, ne_eq, not_false_eq_true, Int.reduceEq, Int.reduceLT, Int.reduceLE, Int.reduceNeg, Int.reduceToNat, Int.reduceGT, Int.reduceGE, Nat.reduceLT, Nat.lt_add_one, Nat.zero_lt_succ, Nat.succ_pos, Nat.zero_le, beq_self_eq_true]
theorem LStatus_ok (HI : IndexOk L) {s : Bs} (hs : s.length ≤ 140737488351232) : Cf F L i_line_Status [.str s] h (Pu h (stRV s)) := by
  refine run_line_Status ?_
  simp only [p_line_Status]
  
  unfold stRV
  by_cases c : s.length > 1024
  · have c' : (s.length : Int) > 1024 := by omega
    rw [if_pos c]
    simp (maxSteps := 4000000) only [vm, vl, Arg.get, cells, stor, boundO, resultsV, resV, partK, loadV, Vm.part, fillC, splice, reduceIte, reduceCtorEq, Nat.reduceEqDiff, Nat.reduceAdd, Nat.reduceSub, Nat.reduceMul, Nat.reduceLeDiff, ne_eq, not_false_eq_true, Int.reduceEq, Int.reduceLT, Int.reduceLE, Int.reduceNeg, Int.reduceToNat, Int.reduceGT, Int.reduceGE, Nat.reduceLT, Nat.lt_add_one, Nat.zero_lt_succ, Nat.succ_pos, Nat.zero_le, beq_self_eq_true, c', decide_true]
    refine Cf.pu wrong_ok fun u => ?_
    simp (maxSteps := 4000000) only [vm, vl, Arg.get, cells, stor, boundO, resultsV, resV, partK, loadV, Vm.part, fillC, splice, reduceIte, reduceCtorEq, Nat.reduceEqDiff, Nat.reduceAdd, Nat.reduceSub, Nat.reduceMul, Nat.reduceLeDiff, ne_eq, not_false_eq_true, Int.reduceEq, Int.reduceLT, Int.reduceLE, Int.reduceNeg, Int.reduceToNat, Int.reduceGT, Int.reduceGE, Nat.reduceLT, Nat.lt_add_one, Nat.zero_lt_succ, Nat.succ_pos, Nat.zero_le, beq_self_eq_true]
  have c' : ¬ (s.length : Int) > 1024 := by omega
  rw [if_neg c]
  have C1 := fun hh => Cut_ok (L := L) (h := hh) (s := s) (c := 32) HI (by omega)
  have l2 : (s.drop (pos 32 s + 1)).length ≤ 1024 := by rw [List.length_drop]; omega
  have no : ¬ (0 ≤ versS (s.take (pos 32 s)) ∧ (numS ((s.drop (pos 32 s + 1)).take (pos 32 (s.drop (pos 32 s + 1)))) 1024).2 = true ∧ ((s.drop (pos 32 s + 1)).take (pos 32 (s.drop (pos 32 s + 1)))).length = 3 ∧ 100 ≤ (numS ((s.drop (pos 32 s + 1)).take (pos 32 (s.drop (pos 32 s + 1)))) 1024).1 ∧ (numS ((s.drop (pos 32 s + 1)).take (pos 32 (s.drop (pos 32 s + 1)))) 1024).1 ≤ 599 ∧ rsnS ((s.drop (pos 32 s + 1)).drop (pos 32 (s.drop (pos 32 s + 1)) + 1)) = true) → stP s = none := fun h => if_neg h
  have yes : (0 ≤ versS (s.take (pos 32 s)) ∧ (numS ((s.drop (pos 32 s + 1)).take (pos 32 (s.drop (pos 32 s + 1)))) 1024).2 = true ∧ ((s.drop (pos 32 s + 1)).take (pos 32 (s.drop (pos 32 s + 1)))).length = 3 ∧ 100 ≤ (numS ((s.drop (pos 32 s + 1)).take (pos 32 (s.drop (pos 32 s + 1)))) 1024).1 ∧ (numS ((s.drop (pos 32 s + 1)).take (pos 32 (s.drop (pos 32 s + 1)))) 1024).1 ≤ 599 ∧ rsnS ((s.drop (pos 32 s + 1)).drop (pos 32 (s.drop (pos 32 s + 1)) + 1)) = true) → stP s = some (versS (s.take (pos 32 s)), (numS ((s.drop (pos 32 s + 1)).take (pos 32 (s.drop (pos 32 s + 1)))) 1024).1, ((s.drop (pos 32 s + 1)).drop (pos 32 (s.drop (pos 32 s + 1)) + 1))) := fun h => if_pos h
  generalize stP s = R at *
  unfold cutS at C1
  generalize s.take (pos 32 s) = f at *
  generalize s.drop (pos 32 s + 1) = rest at *
  generalize decide (pos 32 s < s.length) = h1 at *
  have C2 := fun hh => Cut_ok (L := L) (h := hh) (s := rest) (c := 32) HI (by omega)
  unfold cutS at C2
  have l3 : (rest.take (pos 32 rest)).length ≤ 1024 := by rw [List.length_take]; omega
  have l4 : (rest.drop (pos 32 rest + 1)).length ≤ 1024 := by rw [List.length_drop]; omega
  generalize rest.take (pos 32 rest) = d at *
  generalize rest.drop (pos 32 rest + 1) = r at *
  generalize decide (pos 32 rest < rest.length) = h2 at *
  have N1 := fun hh => Number_ok (L := L) (h := hh) (s := d) (most := 1024) (by omega) (by omega) (by omega)
  have I2 := fun hh => isReason_ok (L := L) (h := hh) (s := r) (by omega)
  have nl := numS_le d (most := 1024) (by omega)
  generalize numS d 1024 = nd at *
  obtain ⟨n, ok⟩ := nd
  simp only at *
  simp (maxSteps := 4000000) only [vm, vl, Arg.get, cells, stor, boundO, resultsV, resV, partK, loadV, Vm.part, fillC, splice, reduceIte, reduceCtorEq, Nat.reduceEqDiff, Nat.reduceAdd, Nat.reduceSub, Nat.reduceMul, Nat.reduceLeDiff, ne_eq, not_false_eq_true, Int.reduceEq, Int.reduceLT, Int.reduceLE, Int.reduceNeg, Int.reduceToNat, Int.reduceGT, Int.reduceGE, Nat.reduceLT, Nat.lt_add_one, Nat.zero_lt_succ, Nat.succ_pos, Nat.zero_le, beq_self_eq_true, c', decide_false, k_line_Status_0]
  refine Cf.pu (C1 _) fun u1 => ?_
  simp (maxSteps := 4000000) only [vm, vl, Arg.get, cells, stor, boundO, resultsV, resV, partK, loadV, Vm.part, fillC, splice, reduceIte, reduceCtorEq, Nat.reduceEqDiff, Nat.reduceAdd, Nat.reduceSub, Nat.reduceMul, Nat.reduceLeDiff, ne_eq, not_false_eq_true, Int.reduceEq, Int.reduceLT, Int.reduceLE, Int.reduceNeg, Int.reduceToNat, Int.reduceGT, Int.reduceGE, Nat.reduceLT, Nat.lt_add_one, Nat.zero_lt_succ, Nat.succ_pos, Nat.zero_le, beq_self_eq_true]
  refine Cf.pu (C2 _) fun u2 => ?_
  simp (maxSteps := 4000000) only [vm, vl, Arg.get, cells, stor, boundO, resultsV, resV, partK, loadV, Vm.part, fillC, splice, reduceIte, reduceCtorEq, Nat.reduceEqDiff, Nat.reduceAdd, Nat.reduceSub, Nat.reduceMul, Nat.reduceLeDiff, ne_eq, not_false_eq_true, Int.reduceEq, Int.reduceLT, Int.reduceLE, Int.reduceNeg, Int.reduceToNat, Int.reduceGT, Int.reduceGE, Nat.reduceLT, Nat.lt_add_one, Nat.zero_lt_succ, Nat.succ_pos, Nat.zero_le, beq_self_eq_true]
  refine Cf.pu (N1 _) fun u3 => ?_
  simp (maxSteps := 4000000) only [vm, vl, Arg.get, cells, stor, boundO, resultsV, resV, partK, loadV, Vm.part, fillC, splice, reduceIte, reduceCtorEq, Nat.reduceEqDiff, Nat.reduceAdd, Nat.reduceSub, Nat.reduceMul, Nat.reduceLeDiff, ne_eq, not_false_eq_true, Int.reduceEq, Int.reduceLT, Int.reduceLE, Int.reduceNeg, Int.reduceToNat, Int.reduceGT, Int.reduceGE, Nat.reduceLT, Nat.lt_add_one, Nat.zero_lt_succ, Nat.succ_pos, Nat.zero_le, beq_self_eq_true]
  refine Cf.pu version_ok fun u4 => ?_
  by_cases a1 : versS f < 0
  · rw [no (fun h => by omega)]
    simp (maxSteps := 4000000) only [vm, vl, Arg.get, cells, stor, boundO, resultsV, resV, partK, loadV, Vm.part, fillC, splice, reduceIte, reduceCtorEq, Nat.reduceEqDiff, Nat.reduceAdd, Nat.reduceSub, Nat.reduceMul, Nat.reduceLeDiff, ne_eq, not_false_eq_true, Int.reduceEq, Int.reduceLT, Int.reduceLE, Int.reduceNeg, Int.reduceToNat, Int.reduceGT, Int.reduceGE, Nat.reduceLT, Nat.lt_add_one, Nat.zero_lt_succ, Nat.succ_pos, Nat.zero_le, beq_self_eq_true, a1, decide_true]
    refine Cf.pu wrong_ok fun u => ?_
    simp (maxSteps := 4000000) only [vm, vl, Arg.get, cells, stor, boundO, resultsV, resV, partK, loadV, Vm.part, fillC, splice, reduceIte, reduceCtorEq, Nat.reduceEqDiff, Nat.reduceAdd, Nat.reduceSub, Nat.reduceMul, Nat.reduceLeDiff, ne_eq, not_false_eq_true, Int.reduceEq, Int.reduceLT, Int.reduceLE, Int.reduceNeg, Int.reduceToNat, Int.reduceGT, Int.reduceGE, Nat.reduceLT, Nat.lt_add_one, Nat.zero_lt_succ, Nat.succ_pos, Nat.zero_le, beq_self_eq_true, stO]
  cases ok with
  | false =>
    rw [no (fun h => by cases h.2.1)]
    simp (maxSteps := 4000000) only [vm, vl, Arg.get, cells, stor, boundO, resultsV, resV, partK, loadV, Vm.part, fillC, splice, reduceIte, reduceCtorEq, Nat.reduceEqDiff, Nat.reduceAdd, Nat.reduceSub, Nat.reduceMul, Nat.reduceLeDiff, ne_eq, not_false_eq_true, Int.reduceEq, Int.reduceLT, Int.reduceLE, Int.reduceNeg, Int.reduceToNat, Int.reduceGT, Int.reduceGE, Nat.reduceLT, Nat.lt_add_one, Nat.zero_lt_succ, Nat.succ_pos, Nat.zero_le, beq_self_eq_true, a1, decide_false, Bool.not_false]
    refine Cf.pu wrong_ok fun u => ?_
    simp (maxSteps := 4000000) only [vm, vl, Arg.get, cells, stor, boundO, resultsV, resV, partK, loadV, Vm.part, fillC, splice, reduceIte, reduceCtorEq, Nat.reduceEqDiff, Nat.reduceAdd, Nat.reduceSub, Nat.reduceMul, Nat.reduceLeDiff, ne_eq, not_false_eq_true, Int.reduceEq, Int.reduceLT, Int.reduceLE, Int.reduceNeg, Int.reduceToNat, Int.reduceGT, Int.reduceGE, Nat.reduceLT, Nat.lt_add_one, Nat.zero_lt_succ, Nat.succ_pos, Nat.zero_le, beq_self_eq_true, stO]
  | true =>
    by_cases a3 : d.length = 3
    case neg =>
      have a3' : ¬ (d.length : Int) = 3 := by omega
      rw [no (fun h => a3 h.2.2.1)]
      simp (maxSteps := 4000000) only [vm, vl, Arg.get, cells, stor, boundO, resultsV, resV, partK, loadV, Vm.part, fillC, splice, reduceIte, reduceCtorEq, Nat.reduceEqDiff, Nat.reduceAdd, Nat.reduceSub, Nat.reduceMul, Nat.reduceLeDiff, ne_eq, not_false_eq_true, Int.reduceEq, Int.reduceLT, Int.reduceLE, Int.reduceNeg, Int.reduceToNat, Int.reduceGT, Int.reduceGE, Nat.reduceLT, Nat.lt_add_one, Nat.zero_lt_succ, Nat.succ_pos, Nat.zero_le, beq_self_eq_true, a1, a3', decide_false, Bool.not_false, Bool.not_true]
      refine Cf.pu wrong_ok fun u => ?_
      simp (maxSteps := 4000000) only [vm, vl, Arg.get, cells, stor, boundO, resultsV, resV, partK, loadV, Vm.part, fillC, splice, reduceIte, reduceCtorEq, Nat.reduceEqDiff, Nat.reduceAdd, Nat.reduceSub, Nat.reduceMul, Nat.reduceLeDiff, ne_eq, not_false_eq_true, Int.reduceEq, Int.reduceLT, Int.reduceLE, Int.reduceNeg, Int.reduceToNat, Int.reduceGT, Int.reduceGE, Nat.reduceLT, Nat.lt_add_one, Nat.zero_lt_succ, Nat.succ_pos, Nat.zero_le, beq_self_eq_true, stO]
    have a3' : (d.length : Int) = 3 := by omega
    by_cases a4 : n < 100
    · rw [no (fun h => by omega)]
      simp (maxSteps := 4000000) only [vm, vl, Arg.get, cells, stor, boundO, resultsV, resV, partK, loadV, Vm.part, fillC, splice, reduceIte, reduceCtorEq, Nat.reduceEqDiff, Nat.reduceAdd, Nat.reduceSub, Nat.reduceMul, Nat.reduceLeDiff, ne_eq, not_false_eq_true, Int.reduceEq, Int.reduceLT, Int.reduceLE, Int.reduceNeg, Int.reduceToNat, Int.reduceGT, Int.reduceGE, Nat.reduceLT, Nat.lt_add_one, Nat.zero_lt_succ, Nat.succ_pos, Nat.zero_le, beq_self_eq_true, a1, a3', a4, decide_true, decide_false, Bool.not_false, Bool.not_true]
      refine Cf.pu wrong_ok fun u => ?_
      simp (maxSteps := 4000000) only [vm, vl, Arg.get, cells, stor, boundO, resultsV, resV, partK, loadV, Vm.part, fillC, splice, reduceIte, reduceCtorEq, Nat.reduceEqDiff, Nat.reduceAdd, Nat.reduceSub, Nat.reduceMul, Nat.reduceLeDiff, ne_eq, not_false_eq_true, Int.reduceEq, Int.reduceLT, Int.reduceLE, Int.reduceNeg, Int.reduceToNat, Int.reduceGT, Int.reduceGE, Nat.reduceLT, Nat.lt_add_one, Nat.zero_lt_succ, Nat.succ_pos, Nat.zero_le, beq_self_eq_true, stO]
    by_cases a5 : n > 599
    · rw [no (fun h => by omega)]
      simp (maxSteps := 4000000) only [vm, vl, Arg.get, cells, stor, boundO, resultsV, resV, partK, loadV, Vm.part, fillC, splice, reduceIte, reduceCtorEq, Nat.reduceEqDiff, Nat.reduceAdd, Nat.reduceSub, Nat.reduceMul, Nat.reduceLeDiff, ne_eq, not_false_eq_true, Int.reduceEq, Int.reduceLT, Int.reduceLE, Int.reduceNeg, Int.reduceToNat, Int.reduceGT, Int.reduceGE, Nat.reduceLT, Nat.lt_add_one, Nat.zero_lt_succ, Nat.succ_pos, Nat.zero_le, beq_self_eq_true, a1, a3', a4, a5, decide_true, decide_false, Bool.not_false, Bool.not_true]
      refine Cf.pu wrong_ok fun u => ?_
      simp (maxSteps := 4000000) only [vm, vl, Arg.get, cells, stor, boundO, resultsV, resV, partK, loadV, Vm.part, fillC, splice, reduceIte, reduceCtorEq, Nat.reduceEqDiff, Nat.reduceAdd, Nat.reduceSub, Nat.reduceMul, Nat.reduceLeDiff, ne_eq, not_false_eq_true, Int.reduceEq, Int.reduceLT, Int.reduceLE, Int.reduceNeg, Int.reduceToNat, Int.reduceGT, Int.reduceGE, Nat.reduceLT, Nat.lt_add_one, Nat.zero_lt_succ, Nat.succ_pos, Nat.zero_le, beq_self_eq_true, stO]
    simp (maxSteps := 4000000) only [vm, vl, Arg.get, cells, stor, boundO, resultsV, resV, partK, loadV, Vm.part, fillC, splice, reduceIte, reduceCtorEq, Nat.reduceEqDiff, Nat.reduceAdd, Nat.reduceSub, Nat.reduceMul, Nat.reduceLeDiff, ne_eq, not_false_eq_true, Int.reduceEq, Int.reduceLT, Int.reduceLE, Int.reduceNeg, Int.reduceToNat, Int.reduceGT, Int.reduceGE, Nat.reduceLT, Nat.lt_add_one, Nat.zero_lt_succ, Nat.succ_pos, Nat.zero_le, beq_self_eq_true, a1, a3', a4, a5, decide_true, decide_false, Bool.not_false, Bool.not_true]
    refine Cf.pu (I2 _) fun u5 => ?_
    cases a6 : rsnS r with
    | false =>
      rw [no (fun h => by rw [a6] at h; cases h.2.2.2.2.2)]
      simp (maxSteps := 4000000) only [vm, vl, Arg.get, cells, stor, boundO, resultsV, resV, partK, loadV, Vm.part, fillC, splice, reduceIte, reduceCtorEq, Nat.reduceEqDiff, Nat.reduceAdd, Nat.reduceSub, Nat.reduceMul, Nat.reduceLeDiff, ne_eq, not_false_eq_true, Int.reduceEq, Int.reduceLT, Int.reduceLE, Int.reduceNeg, Int.reduceToNat, Int.reduceGT, Int.reduceGE, Nat.reduceLT, Nat.lt_add_one, Nat.zero_lt_succ, Nat.succ_pos, Nat.zero_le, beq_self_eq_true, Bool.not_false]
      refine Cf.pu wrong_ok fun u => ?_
      simp (maxSteps := 4000000) only [vm, vl, Arg.get, cells, stor, boundO, resultsV, resV, partK, loadV, Vm.part, fillC, splice, reduceIte, reduceCtorEq, Nat.reduceEqDiff, Nat.reduceAdd, Nat.reduceSub, Nat.reduceMul, Nat.reduceLeDiff, ne_eq, not_false_eq_true, Int.reduceEq, Int.reduceLT, Int.reduceLE, Int.reduceNeg, Int.reduceToNat, Int.reduceGT, Int.reduceGE, Nat.reduceLT, Nat.lt_add_one, Nat.zero_lt_succ, Nat.succ_pos, Nat.zero_le, beq_self_eq_true, stO]
    | true =>
      rw [yes ⟨by omega, rfl, a3, by omega, by omega, a6⟩]
      simp (maxSteps := 4000000) only [vm, vl, Arg.get, cells, stor, boundO, resultsV, resV, partK, loadV, Vm.part, fillC, splice, reduceIte, reduceCtorEq, Nat.reduceEqDiff, Nat.reduceAdd, Nat.reduceSub, Nat.reduceMul, Nat.reduceLeDiff, ne_eq, not_false_eq_true, Int.reduceEq, Int.reduceLT, Int.reduceLE, Int.reduceNeg, Int.reduceToNat, Int.reduceGT, Int.reduceGE, Nat.reduceLT, Nat.lt_add_one, Nat.zero_lt_succ, Nat.succ_pos, Nat.zero_le, beq_self_eq_true, Bool.not_true, k_line_Status_1, stO]
end Go.Proofs.YtbcnhkgiabobiaaDoor.Vh
