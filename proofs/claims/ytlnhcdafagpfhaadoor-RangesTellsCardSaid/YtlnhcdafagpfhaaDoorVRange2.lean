/- Package ranges on the small machine: Read, Content. -/
import Derived.Test.YtlnhcdafagpfhaaDoorVRange1
import Derived.Test.YtlnhcdafagpfhaaDoorVCut
import Derived.Test.YtlnhcdafagpfhaaDoorVItoa
import Derived.Test.YtlnhcdafagpfhaaDoorVDigits
set_option linter.unusedVariables false
set_option linter.unusedSimpArgs false
namespace Go.Proofs.YtlnhcdafagpfhaaDoor.Vh
open Go.Vm Go.Vt
attribute [local congr] wi_congr wg_congr wgd_congr wb_congr wl_congr cf_congr
variable {L : FuncId → List V → V → Prop} {h : Heap}
theorem Read1_ok {s : Bs} {ok : Bool} {id : Nat} {K : V → Heap → Prop} (hs : s.length ≤ 9223372036854775806) (hb : h[id]? = some (.box [.bool ok])) (k : ∀ t, K (.int .i64 (numS s 1048577).1) (h.set id (.box [.bool (ok && (numS s 1048577).2)]) ++ t)) :
    Cf F L i_ranges_Read_1 [.str s, .ptr id 0] h K := by
  refine run_ranges_Read_1 ?_
  simp only [p_ranges_Read_1]
  have hi := (List.getElem?_eq_some_iff.1 hb).1
  refine Cf.pu (Number_ok hs (by omega) (by omega)) fun t => ?_
  have hb' : (h ++ t)[id]? = some (.box [.bool ok]) := by rw [List.getElem?_append_left hi, hb]
  have k' := k t
  rw [← List.set_append_left _ _ hi] at k'
  cases ok with
  | true =>
    simp (maxSteps := 4000000) only [vm, vl, Arg.get, cells, stor, boundO, resultsV, resV, partK, loadV, Vm.part, fillC, splice, reduceIte, reduceCtorEq, Nat.reduceEqDiff, Nat.reduceAdd, Nat.reduceSub, Nat.reduceMul, Nat.reduceLeDiff, ne_eq, not_false_eq_true, Int.reduceEq, Int.reduceLT, Int.reduceLE, Int.reduceNeg, Int.reduceToNat, Int.reduceGT, Int.reduceGE, Nat.reduceLT, Nat.lt_add_one, Nat.zero_lt_succ, Nat.succ_pos, Nat.zero_le, beq_self_eq_true, hb']
    simpa using k'
  | false =>
    simp (maxSteps := 4000000) only [vm, vl, Arg.get, cells, stor, boundO, resultsV, resV, partK, loadV, Vm.part, fillC, splice, reduceIte, reduceCtorEq, Nat.reduceEqDiff, Nat.reduceAdd, Nat.reduceSub, Nat.reduceMul, Nat.reduceLeDiff, ne_eq, not_false_eq_true, Int.reduceEq, Int.reduceLT, Int.reduceLE, Int.reduceNeg, Int.reduceToNat, Int.reduceGT, Int.reduceGE, Nat.reduceLT, Nat.lt_add_one, Nat.zero_lt_succ, Nat.succ_pos, Nat.zero_le, beq_self_eq_true, hb']
    simpa using k'
def partS (part : Bs) (ok : Bool) : Int × Int × Bool :=
  if part = [42] then (0, 0, ok) else ((numS (part.take (pos 45 part)) 1048577).1, (numS (part.drop (pos 45 part + 1)) 1048577).1 + 1, ok && (numS (part.take (pos 45 part)) 1048577).2 && (numS (part.drop (pos 45 part + 1)) 1048577).2 && decide (pos 45 part < part.length) && decide ((numS (part.take (pos 45 part)) 1048577).1 < (numS (part.drop (pos 45 part + 1)) 1048577).1 + 1))
def endS (x : Int × Int × Bool) (long : Int) : Option (Int × Int × Int) := if x.2.2 = true ∧ mayB x.1 x.2.1 long = true then some (x.1, x.2.1, long) else none
def longS (all : Bs) (ok : Bool) : Int × Bool := if all = [42] then (-1, ok) else ((numS all 1048577).1, ok && (numS all 1048577).2)
def readS (s : Bs) : Option (Int × Int × Int) :=
  endS (partS ((cutPre [98, 121, 116, 101, 115, 32] s).1.take (pos 47 (cutPre [98, 121, 116, 101, 115, 32] s).1)) (longS ((cutPre [98, 121, 116, 101, 115, 32] s).1.drop (pos 47 (cutPre [98, 121, 116, 101, 115, 32] s).1 + 1)) ((cutPre [98, 121, 116, 101, 115, 32] s).2 && decide (pos 47 (cutPre [98, 121, 116, 101, 115, 32] s).1 < (cutPre [98, 121, 116, 101, 115, 32] s).1.length))).2)
    (longS ((cutPre [98, 121, 116, 101, 115, 32] s).1.drop (pos 47 (cutPre [98, 121, 116, 101, 115, 32] s).1 + 1)) ((cutPre [98, 121, 116, 101, 115, 32] s).2 && decide (pos 47 (cutPre [98, 121, 116, 101, 115, 32] s).1 < (cutPre [98, 121, 116, 101, 115, 32] s).1.length))).1
def readV : Option (Int × Int × Int) → V
  | some (a, b, c) => .tup [.agg [.int .i64 a, .int .i64 b], .int .i64 c, .bool true]
  | none => .tup [.agg [.int .i64 0, .int .i64 0], .int .i64 0, .bool false]
theorem end1_ok {ok : Bool} {a b long : Int} {t1 t2 t3 : Heap} : k_ranges_Read_1 L (Pu h (readV (endS (a, b, ok) long))) (.ptr h.length 0) (.ptr (h.length + (t1.length + 1)) 0) (.int .i64 long) (.ptr (h.length + (t1.length + (t2.length + 2))) 0)
    (h ++ (O.box [.int .i64 0, .int .i64 0] :: (t1 ++ (O.box [.bool ok] :: (t2 ++ (O.box [.int .i64 a, .int .i64 b] :: t3)))))) := by
  
  unfold k_ranges_Read_1
  cases ok with
  | false => 
    rw [show endS (a, b, false) long = none from if_neg (fun h => by cases h.1)]
    simp (maxSteps := 4000000) only [vm, vl, Arg.get, cells, stor, boundO, resultsV, resV, partK, loadV, Vm.part, fillC, splice, reduceIte, reduceCtorEq, Nat.reduceEqDiff, Nat.reduceAdd, Nat.reduceSub, Nat.reduceMul, Nat.reduceLeDiff, ne_eq, not_false_eq_true, Int.reduceEq, Int.reduceLT, Int.reduceLE, Int.reduceNeg, Int.reduceToNat, Int.reduceGT, Int.reduceGE, Nat.reduceLT, Nat.lt_add_one, Nat.zero_lt_succ, Nat.succ_pos, Nat.zero_le, beq_self_eq_true, readV]
  | true =>
    have P := fun hh => may_ok (L := L) (h := hh) (f := a) (t := b) (long := long)
    simp (maxSteps := 4000000) only [vm, vl, Arg.get, cells, stor, boundO, resultsV, resV, partK, loadV, Vm.part, fillC, splice, reduceIte, reduceCtorEq, Nat.reduceEqDiff, Nat.reduceAdd, Nat.reduceSub, Nat.reduceMul, Nat.reduceLeDiff, ne_eq, not_false_eq_true, Int.reduceEq, Int.reduceLT, Int.reduceLE, Int.reduceNeg, Int.reduceToNat, Int.reduceGT, Int.reduceGE, Nat.reduceLT, Nat.lt_add_one, Nat.zero_lt_succ, Nat.succ_pos, Nat.zero_le, beq_self_eq_true, readV, Bool.not_true]
    refine Cf.pu (P _) fun u => ?_
    cases hm : mayB a b long with
    | false =>
      rw [show endS (a, b, true) long = none from if_neg (fun h => by rw [hm] at h; cases h.2)]
      simp (maxSteps := 4000000) only [vm, vl, Arg.get, cells, stor, boundO, resultsV, resV, partK, loadV, Vm.part, fillC, splice, reduceIte, reduceCtorEq, Nat.reduceEqDiff, Nat.reduceAdd, Nat.reduceSub, Nat.reduceMul, Nat.reduceLeDiff, ne_eq, not_false_eq_true, Int.reduceEq, Int.reduceLT, Int.reduceLE, Int.reduceNeg, Int.reduceToNat, Int.reduceGT, Int.reduceGE, Nat.reduceLT, Nat.lt_add_one, Nat.zero_lt_succ, Nat.succ_pos, Nat.zero_le, beq_self_eq_true, hm, readV, Bool.not_false]
    | true =>
      rw [show endS (a, b, true) long = some (a, b, long) from if_pos ⟨rfl, hm⟩]
      simp (maxSteps := 4000000) only [vm, vl, Arg.get, cells, stor, boundO, resultsV, resV, partK, loadV, Vm.part, fillC, splice, reduceIte, reduceCtorEq, Nat.reduceEqDiff, Nat.reduceAdd, Nat.reduceSub, Nat.reduceMul, Nat.reduceLeDiff, ne_eq, not_false_eq_true, Int.reduceEq, Int.reduceLT, Int.reduceLE, Int.reduceNeg, Int.reduceToNat, Int.reduceGT, Int.reduceGE, Nat.reduceLT, Nat.lt_add_one, Nat.zero_lt_succ, Nat.succ_pos, Nat.zero_le, beq_self_eq_true, hm, readV, Bool.not_true, k_ranges_Read_2]
theorem read0_ok (HI : IndexOk L) {part : Bs} {ok : Bool} {long : Int} {t1 t2 : Heap} (hl : part.length ≤ 9223372036854775800) : k_ranges_Read_0 L (Pu h (readV (endS (partS part ok) long))) (.ptr h.length 0) (.str part) (.ptr (h.length + (t1.length + 1)) 0) (.fn i_ranges_Read_1 [.ptr (h.length + (t1.length + 1)) 0]) (.int .i64 long)
    (h ++ (O.box [.int .i64 0, .int .i64 0] :: (t1 ++ (O.box [.bool ok] :: t2)))) := by
  
  unfold k_ranges_Read_0
  have E1 := fun ok a b t3 => end1_ok (L := L) (h := h) (ok := ok) (a := a) (b := b) (long := long) (t1 := t1) (t2 := t2) (t3 := t3)
  by_cases c : part = [42]
  · have c' : (part == [42]) = true := beq_iff_eq.2 c
    rw [show partS part ok = (0, 0, ok) from if_pos c]
    simp (maxSteps := 4000000) only [vm, vl, Arg.get, cells, stor, boundO, resultsV, resV, partK, loadV, Vm.part, fillC, splice, reduceIte, reduceCtorEq, Nat.reduceEqDiff, Nat.reduceAdd, Nat.reduceSub, Nat.reduceMul, Nat.reduceLeDiff, ne_eq, not_false_eq_true, Int.reduceEq, Int.reduceLT, Int.reduceLE, Int.reduceNeg, Int.reduceToNat, Int.reduceGT, Int.reduceGE, Nat.reduceLT, Nat.lt_add_one, Nat.zero_lt_succ, Nat.succ_pos, Nat.zero_le, beq_self_eq_true, c', Bool.not_true]
    exact E1 _ _ _ _
  · have c' : (part == [42]) = false := beq_eq_false_iff_ne.2 c
    have e : partS part ok = ((numS (part.take (pos 45 part)) 1048577).1, (numS (part.drop (pos 45 part + 1)) 1048577).1 + 1, ok && (numS (part.take (pos 45 part)) 1048577).2 && (numS (part.drop (pos 45 part + 1)) 1048577).2 && decide (pos 45 part < part.length) && decide ((numS (part.take (pos 45 part)) 1048577).1 < (numS (part.drop (pos 45 part + 1)) 1048577).1 + 1)) := if_neg c
    rw [e]
    have CU := fun hh => Cut_ok (L := L) (h := hh) (s := part) (c := 45) HI (by omega)
    unfold cutS at CU
    have la : (part.take (pos 45 part)).length ≤ 9223372036854775806 := by rw [List.length_take]; omega
    have lb : (part.drop (pos 45 part + 1)).length ≤ 9223372036854775806 := by rw [List.length_drop]; omega
    have na := numS_le (part.take (pos 45 part)) (most := 1048577) (by omega)
    have nb := numS_le (part.drop (pos 45 part + 1)) (most := 1048577) (by omega)
    generalize part.take (pos 45 part) = A at *
    generalize part.drop (pos 45 part + 1) = B at *
    generalize decide (pos 45 part < part.length) = two at *
    have w1 : IntKind.i64.wrap ((numS B 1048577).1 + 1) = (numS B 1048577).1 + 1 := wrap64 (by omega) (by omega)
    generalize hna : numS A 1048577 = NA at *
    generalize hnb : numS B 1048577 = NB at *
    simp (maxSteps := 4000000) only [vm, vl, Arg.get, cells, stor, boundO, resultsV, resV, partK, loadV, Vm.part, fillC, splice, reduceIte, reduceCtorEq, Nat.reduceEqDiff, Nat.reduceAdd, Nat.reduceSub, Nat.reduceMul, Nat.reduceLeDiff, ne_eq, not_false_eq_true, Int.reduceEq, Int.reduceLT, Int.reduceLE, Int.reduceNeg, Int.reduceToNat, Int.reduceGT, Int.reduceGE, Nat.reduceLT, Nat.lt_add_one, Nat.zero_lt_succ, Nat.succ_pos, Nat.zero_le, beq_self_eq_true, c', Bool.not_false]
    refine Cf.pu (CU _) fun u1 => ?_
    simp (maxSteps := 4000000) only [vm, vl, Arg.get, cells, stor, boundO, resultsV, resV, partK, loadV, Vm.part, fillC, splice, reduceIte, reduceCtorEq, Nat.reduceEqDiff, Nat.reduceAdd, Nat.reduceSub, Nat.reduceMul, Nat.reduceLeDiff, ne_eq, not_false_eq_true, Int.reduceEq, Int.reduceLT, Int.reduceLE, Int.reduceNeg, Int.reduceToNat, Int.reduceGT, Int.reduceGE, Nat.reduceLT, Nat.lt_add_one, Nat.zero_lt_succ, Nat.succ_pos, Nat.zero_le, beq_self_eq_true]
    refine Read1_ok (ok := ok) la (by simp [List.getElem?_append]) fun u2 => ?_
    rw [hna]
    simp (maxSteps := 4000000) only [vm, vl, Arg.get, cells, stor, boundO, resultsV, resV, partK, loadV, Vm.part, fillC, splice, reduceIte, reduceCtorEq, Nat.reduceEqDiff, Nat.reduceAdd, Nat.reduceSub, Nat.reduceMul, Nat.reduceLeDiff, ne_eq, not_false_eq_true, Int.reduceEq, Int.reduceLT, Int.reduceLE, Int.reduceNeg, Int.reduceToNat, Int.reduceGT, Int.reduceGE, Nat.reduceLT, Nat.lt_add_one, Nat.zero_lt_succ, Nat.succ_pos, Nat.zero_le, beq_self_eq_true]
    refine Read1_ok (ok := ok && NA.2) lb (by simp [List.getElem?_append]) fun u3 => ?_
    rw [hnb]
    have E2 := E1 (ok && NA.2 && NB.2 && two && decide (NA.1 < NB.1 + 1)) NA.1 (NB.1 + 1)
    generalize (ok && NA.2 && NB.2) = o3 at *
    generalize NA.1 = a at *
    generalize NB.1 = b at *
    cases o3 with
    | false =>
      rw [Bool.false_and, Bool.false_and] at *
      simp (maxSteps := 4000000) only [vm, vl, Arg.get, cells, stor, boundO, resultsV, resV, partK, loadV, Vm.part, fillC, splice, reduceIte, reduceCtorEq, Nat.reduceEqDiff, Nat.reduceAdd, Nat.reduceSub, Nat.reduceMul, Nat.reduceLeDiff, ne_eq, not_false_eq_true, Int.reduceEq, Int.reduceLT, Int.reduceLE, Int.reduceNeg, Int.reduceToNat, Int.reduceGT, Int.reduceGE, Nat.reduceLT, Nat.lt_add_one, Nat.zero_lt_succ, Nat.succ_pos, Nat.zero_le, beq_self_eq_true, w1]
      exact E2 _
    | true =>
      cases two with
      | false =>
        rw [Bool.true_and, Bool.false_and] at *
        simp (maxSteps := 4000000) only [vm, vl, Arg.get, cells, stor, boundO, resultsV, resV, partK, loadV, Vm.part, fillC, splice, reduceIte, reduceCtorEq, Nat.reduceEqDiff, Nat.reduceAdd, Nat.reduceSub, Nat.reduceMul, Nat.reduceLeDiff, ne_eq, not_false_eq_true, Int.reduceEq, Int.reduceLT, Int.reduceLE, Int.reduceNeg, Int.reduceToNat, Int.reduceGT, Int.reduceGE, Nat.reduceLT, Nat.lt_add_one, Nat.zero_lt_succ, Nat.succ_pos, Nat.zero_le, beq_self_eq_true, w1]
        exact E2 _
      | true =>
        by_cases q : a < b + 1
        · rw [decide_eq_true q, Bool.true_and, Bool.true_and] at *
          simp (maxSteps := 4000000) only [vm, vl, Arg.get, cells, stor, boundO, resultsV, resV, partK, loadV, Vm.part, fillC, splice, reduceIte, reduceCtorEq, Nat.reduceEqDiff, Nat.reduceAdd, Nat.reduceSub, Nat.reduceMul, Nat.reduceLeDiff, ne_eq, not_false_eq_true, Int.reduceEq, Int.reduceLT, Int.reduceLE, Int.reduceNeg, Int.reduceToNat, Int.reduceGT, Int.reduceGE, Nat.reduceLT, Nat.lt_add_one, Nat.zero_lt_succ, Nat.succ_pos, Nat.zero_le, beq_self_eq_true, w1, q, decide_true]
          exact E2 _
        · rw [decide_eq_false q, Bool.true_and, Bool.true_and] at *
          simp (maxSteps := 4000000) only [vm, vl, Arg.get, cells, stor, boundO, resultsV, resV, partK, loadV, Vm.part, fillC, splice, reduceIte, reduceCtorEq, Nat.reduceEqDiff, Nat.reduceAdd, Nat.reduceSub, Nat.reduceMul, Nat.reduceLeDiff, ne_eq, not_false_eq_true, Int.reduceEq, Int.reduceLT, Int.reduceLE, Int.reduceNeg, Int.reduceToNat, Int.reduceGT, Int.reduceGE, Nat.reduceLT, Nat.lt_add_one, Nat.zero_lt_succ, Nat.succ_pos, Nat.zero_le, beq_self_eq_true, w1, q, decide_false]
          exact E2 _
theorem Read_ok (HI : IndexOk L) {s : Bs} (hl : s.length ≤ 9223372036854775000) : Cf F L i_ranges_Read [.str s] h (Pu h (readV (readS s))) := by
  refine run_ranges_Read ?_
  simp only [p_ranges_Read]
  
  unfold readS longS
  have lr : (cutPre [98, 121, 116, 101, 115, 32] s).1.length ≤ s.length := by unfold cutPre; split <;> simp
  have CP := fun hh => CutPrefix_ok (L := L) (h := hh) (s := s) (p := [98, 121, 116, 101, 115, 32])
  generalize cutPre [98, 121, 116, 101, 115, 32] s = c at *
  obtain ⟨rest, is⟩ := c
  simp only at *
  have CU := fun hh => Cut_ok (L := L) (h := hh) (s := rest) (c := 47) HI (by omega)
  unfold cutS at CU
  have la : (rest.take (pos 47 rest)).length ≤ 9223372036854775800 := by rw [List.length_take]; omega
  have lb : (rest.drop (pos 47 rest + 1)).length ≤ 9223372036854775806 := by rw [List.length_drop]; omega
  generalize rest.take (pos 47 rest) = A at *
  generalize rest.drop (pos 47 rest + 1) = B at *
  generalize decide (pos 47 rest < rest.length) = has at *
  have R0 := fun ok long t1 t2 => read0_ok (L := L) (h := h) HI (part := A) (ok := ok) (long := long) (t1 := t1) (t2 := t2) la
  simp (maxSteps := 4000000) only [vm, vl, Arg.get, cells, stor, boundO, resultsV, resV, partK, loadV, Vm.part, fillC, splice, reduceIte, reduceCtorEq, Nat.reduceEqDiff, Nat.reduceAdd, Nat.reduceSub, Nat.reduceMul, Nat.reduceLeDiff, ne_eq, not_false_eq_true, Int.reduceEq, Int.reduceLT, Int.reduceLE, Int.reduceNeg, Int.reduceToNat, Int.reduceGT, Int.reduceGE, Nat.reduceLT, Nat.lt_add_one, Nat.zero_lt_succ, Nat.succ_pos, Nat.zero_le, beq_self_eq_true]
  refine Cf.pu (CP _) fun u1 => ?_
  simp (maxSteps := 4000000) only [vm, vl, Arg.get, cells, stor, boundO, resultsV, resV, partK, loadV, Vm.part, fillC, splice, reduceIte, reduceCtorEq, Nat.reduceEqDiff, Nat.reduceAdd, Nat.reduceSub, Nat.reduceMul, Nat.reduceLeDiff, ne_eq, not_false_eq_true, Int.reduceEq, Int.reduceLT, Int.reduceLE, Int.reduceNeg, Int.reduceToNat, Int.reduceGT, Int.reduceGE, Nat.reduceLT, Nat.lt_add_one, Nat.zero_lt_succ, Nat.succ_pos, Nat.zero_le, beq_self_eq_true]
  refine Cf.pu (CU _) fun u2 => ?_
  by_cases c : B = [42]
  · have c' : (B == [42]) = true := beq_iff_eq.2 c
    rw [if_pos c]
    cases is with
    | false =>
      simp (maxSteps := 4000000) only [vm, vl, Arg.get, cells, stor, boundO, resultsV, resV, partK, loadV, Vm.part, fillC, splice, reduceIte, reduceCtorEq, Nat.reduceEqDiff, Nat.reduceAdd, Nat.reduceSub, Nat.reduceMul, Nat.reduceLeDiff, ne_eq, not_false_eq_true, Int.reduceEq, Int.reduceLT, Int.reduceLE, Int.reduceNeg, Int.reduceToNat, Int.reduceGT, Int.reduceGE, Nat.reduceLT, Nat.lt_add_one, Nat.zero_lt_succ, Nat.succ_pos, Nat.zero_le, beq_self_eq_true, c', Bool.not_true]
      have := R0 (false && has) (-1) (u1 ++ u2) []
      simp only [Bool.false_and, List.append_assoc, List.length_append] at this
      exact this
    | true =>
      simp (maxSteps := 4000000) only [vm, vl, Arg.get, cells, stor, boundO, resultsV, resV, partK, loadV, Vm.part, fillC, splice, reduceIte, reduceCtorEq, Nat.reduceEqDiff, Nat.reduceAdd, Nat.reduceSub, Nat.reduceMul, Nat.reduceLeDiff, ne_eq, not_false_eq_true, Int.reduceEq, Int.reduceLT, Int.reduceLE, Int.reduceNeg, Int.reduceToNat, Int.reduceGT, Int.reduceGE, Nat.reduceLT, Nat.lt_add_one, Nat.zero_lt_succ, Nat.succ_pos, Nat.zero_le, beq_self_eq_true, c', Bool.not_true]
      have := R0 (true && has) (-1) (u1 ++ u2) []
      simp only [Bool.true_and, List.append_assoc, List.length_append] at this
      exact this
  · have c' : (B == [42]) = false := beq_eq_false_iff_ne.2 c
    rw [if_neg c]
    cases is with
    | false =>
      simp (maxSteps := 4000000) only [vm, vl, Arg.get, cells, stor, boundO, resultsV, resV, partK, loadV, Vm.part, fillC, splice, reduceIte, reduceCtorEq, Nat.reduceEqDiff, Nat.reduceAdd, Nat.reduceSub, Nat.reduceMul, Nat.reduceLeDiff, ne_eq, not_false_eq_true, Int.reduceEq, Int.reduceLT, Int.reduceLE, Int.reduceNeg, Int.reduceToNat, Int.reduceGT, Int.reduceGE, Nat.reduceLT, Nat.lt_add_one, Nat.zero_lt_succ, Nat.succ_pos, Nat.zero_le, beq_self_eq_true, c', Bool.not_false]
      refine Read1_ok (ok := false) lb (by simp (maxSteps := 4000000) only [vm, vl, Arg.get, cells, stor, boundO, resultsV, resV, partK, loadV, Vm.part, fillC, splice, reduceIte, reduceCtorEq, Nat.reduceEqDiff, Nat.reduceAdd, Nat.reduceSub, Nat.reduceMul, Nat.reduceLeDiff, ne_eq, not_false_eq_true, Int.reduceEq, Int.reduceLT, Int.reduceLE, Int.reduceNeg, Int.reduceToNat, Int.reduceGT, Int.reduceGE, Nat.reduceLT, Nat.lt_add_one, Nat.zero_lt_succ, Nat.succ_pos, Nat.zero_le, beq_self_eq_true]) fun u3 => ?_
      have := R0 (false && has && (numS B 1048577).2) (numS B 1048577).1 (u1 ++ u2) u3
      simp only [Bool.false_and, List.append_assoc, List.length_append] at this
      simp (maxSteps := 4000000) only [vm, vl, Arg.get, cells, stor, boundO, resultsV, resV, partK, loadV, Vm.part, fillC, splice, reduceIte, reduceCtorEq, Nat.reduceEqDiff, Nat.reduceAdd, Nat.reduceSub, Nat.reduceMul, Nat.reduceLeDiff, ne_eq, not_false_eq_true, Int.reduceEq, Int.reduceLT, Int.reduceLE, Int.reduceNeg, Int.reduceToNat, Int.reduceGT, Int.reduceGE, Nat.reduceLT, Nat.lt_add_one, Nat.zero_lt_succ, Nat.succ_pos, Nat.zero_le, beq_self_eq_true]
      exact this
    | true =>
      simp (maxSteps := 4000000) only [vm, vl, Arg.get, cells, stor, boundO, resultsV, resV, partK, loadV, Vm.part, fillC, splice, reduceIte, reduceCtorEq, Nat.reduceEqDiff, Nat.reduceAdd, Nat.reduceSub, Nat.reduceMul, Nat.reduceLeDiff, ne_eq, not_false_eq_true, Int.reduceEq, Int.reduceLT, Int.reduceLE, Int.reduceNeg, Int.reduceToNat, Int.reduceGT, Int.reduceGE, Nat.reduceLT, Nat.lt_add_one, Nat.zero_lt_succ, Nat.succ_pos, Nat.zero_le, beq_self_eq_true, c', Bool.not_false]
      refine Read1_ok (ok := has) lb (by simp (maxSteps := 4000000) only [vm, vl, Arg.get, cells, stor, boundO, resultsV, resV, partK, loadV, Vm.part, fillC, splice, reduceIte, reduceCtorEq, Nat.reduceEqDiff, Nat.reduceAdd, Nat.reduceSub, Nat.reduceMul, Nat.reduceLeDiff, ne_eq, not_false_eq_true, Int.reduceEq, Int.reduceLT, Int.reduceLE, Int.reduceNeg, Int.reduceToNat, Int.reduceGT, Int.reduceGE, Nat.reduceLT, Nat.lt_add_one, Nat.zero_lt_succ, Nat.succ_pos, Nat.zero_le, beq_self_eq_true]) fun u3 => ?_
      have := R0 (true && has && (numS B 1048577).2) (numS B 1048577).1 (u1 ++ u2) u3
      simp only [Bool.true_and, List.append_assoc, List.length_append] at this
      simp (maxSteps := 4000000) only [vm, vl, Arg.get, cells, stor, boundO, resultsV, resV, partK, loadV, Vm.part, fillC, splice, reduceIte, reduceCtorEq, Nat.reduceEqDiff, Nat.reduceAdd, Nat.reduceSub, Nat.reduceMul, Nat.reduceLeDiff, ne_eq, not_false_eq_true, Int.reduceEq, Int.reduceLT, Int.reduceLE, Int.reduceNeg, Int.reduceToNat, Int.reduceGT, Int.reduceGE, Nat.reduceLT, Nat.lt_add_one, Nat.zero_lt_succ, Nat.succ_pos, Nat.zero_le, beq_self_eq_true]
      exact this
def contT (f t long : Int) : Bs := [98, 121, 116, 101, 115, 32] ++ ((if f < t then Go.Lib.itoa f ++ [45] ++ Go.Lib.itoa (t - 1) else [42]) ++ ([47] ++ (if long ≠ -1 then Go.Lib.itoa long else [42])))
def contV (f t long : Int) : V := if mayB f t long = true then .tup [.str (contT f t long), .int .i64 0] else .tup [.str [], .int .i64 2]
theorem cont2_ok {part all : Bs} {t : Heap} (h1 : part.length ≤ 100) (h2 : all.length ≤ 100) : k_ranges_Content_2 L (Pu h (.tup [.str ([98, 121, 116, 101, 115, 32] ++ (part ++ ([47] ++ all))), .int .i64 0])) (.str part) (.str all) (h ++ t) := by
  
  unfold k_ranges_Content_2
  obtain ⟨A, hA⟩ : ∃ A : Bs, A = [98, 121, 116, 101, 115, 32] ++ part := ⟨_, rfl⟩
  obtain ⟨B, hB⟩ : ∃ B : Bs, B = A ++ [47] := ⟨_, rfl⟩
  obtain ⟨C, hC⟩ : ∃ C : Bs, C = B ++ all := ⟨_, rfl⟩
  have lA : A.length ≤ 106 := by rw [hA, List.length_append]; simp only [List.length_cons, List.length_nil]; omega
  have lB : B.length ≤ 107 := by rw [hB, List.length_append]; simp only [List.length_cons, List.length_nil]; omega
  have e : [98, 121, 116, 101, 115, 32] ++ (part ++ ([47] ++ all)) = C := by rw [hC, hB, hA]; simp only [List.append_assoc]
  rw [e]
  have a1 : binV .add (.str [98, 121, 116, 101, 115, 32]) (.str part) = some (.str A) := by rw [hA]; exact bin_sadd (by simp only [List.length_cons, List.length_nil]; omega)
  have a2 : binV .add (.str A) (.str [47]) = some (.str B) := by rw [hB]; exact bin_sadd (by simp only [List.length_cons, List.length_nil]; omega)
  have a3 : binV .add (.str B) (.str all) = some (.str C) := by rw [hC]; exact bin_sadd (by omega)
  simp (maxSteps := 4000000) only [vm, vl, Arg.get, cells, stor, boundO, resultsV, resV, partK, loadV, Vm.part, fillC, splice, reduceIte, reduceCtorEq, Nat.reduceEqDiff, Nat.reduceAdd, Nat.reduceSub, Nat.reduceMul, Nat.reduceLeDiff, ne_eq, not_false_eq_true, Int.reduceEq, Int.reduceLT, Int.reduceLE, Int.reduceNeg, Int.reduceToNat, Int.reduceGT, Int.reduceGE, Nat.reduceLT, Nat.lt_add_one, Nat.zero_lt_succ, Nat.succ_pos, Nat.zero_le, beq_self_eq_true, a1, a2, a3]
theorem cont1_ok (HT : ItoaOk L) {part : Bs} {long : Int} {t : Heap} (h1 : part.length ≤ 100) (h2 : -1 ≤ long) (h3 : long ≤ 1048576) : k_ranges_Content_1 L (Pu h (.tup [.str ([98, 121, 116, 101, 115, 32] ++ (part ++ ([47] ++ (if long ≠ -1 then Go.Lib.itoa long else [42])))), .int .i64 0])) (.int .i64 long) (.str part) (.str [42]) (h ++ t) := by
  
  unfold k_ranges_Content_1
  by_cases c : long = -1
  · rw [if_neg (fun h => h c)]
    simp (maxSteps := 4000000) only [vm, vl, Arg.get, cells, stor, boundO, resultsV, resV, partK, loadV, Vm.part, fillC, splice, reduceIte, reduceCtorEq, Nat.reduceEqDiff, Nat.reduceAdd, Nat.reduceSub, Nat.reduceMul, Nat.reduceLeDiff, ne_eq, not_false_eq_true, Int.reduceEq, Int.reduceLT, Int.reduceLE, Int.reduceNeg, Int.reduceToNat, Int.reduceGT, Int.reduceGE, Nat.reduceLT, Nat.lt_add_one, Nat.zero_lt_succ, Nat.succ_pos, Nat.zero_le, beq_self_eq_true, c, Bool.not_true, decide_true]
    exact cont2_ok h1 (by simp)
  · rw [if_pos c]
    simp (maxSteps := 4000000) only [vm, vl, Arg.get, cells, stor, boundO, resultsV, resV, partK, loadV, Vm.part, fillC, splice, reduceIte, reduceCtorEq, Nat.reduceEqDiff, Nat.reduceAdd, Nat.reduceSub, Nat.reduceMul, Nat.reduceLeDiff, ne_eq, not_false_eq_true, Int.reduceEq, Int.reduceLT, Int.reduceLE, Int.reduceNeg, Int.reduceToNat, Int.reduceGT, Int.reduceGE, Nat.reduceLT, Nat.lt_add_one, Nat.zero_lt_succ, Nat.succ_pos, Nat.zero_le, beq_self_eq_true, c, Bool.not_false, decide_false]
    refine Cf.pu (HT (by omega) (by omega)) fun u => ?_
    simp (maxSteps := 4000000) only [vm, vl, Arg.get, cells, stor, boundO, resultsV, resV, partK, loadV, Vm.part, fillC, splice, reduceIte, reduceCtorEq, Nat.reduceEqDiff, Nat.reduceAdd, Nat.reduceSub, Nat.reduceMul, Nat.reduceLeDiff, ne_eq, not_false_eq_true, Int.reduceEq, Int.reduceLT, Int.reduceLE, Int.reduceNeg, Int.reduceToNat, Int.reduceGT, Int.reduceGE, Nat.reduceLT, Nat.lt_add_one, Nat.zero_lt_succ, Nat.succ_pos, Nat.zero_le, beq_self_eq_true]
    exact cont2_ok (all := Go.Lib.itoa long) h1 (by have := itoa_len (n := long) (by omega) (by omega); omega)
theorem cont0_ok (HT : ItoaOk L) {f t long : Int} {u : Heap} (hm : mayB f t long = true) : k_ranges_Content_0 L (Pu h (.tup [.str (contT f t long), .int .i64 0])) (.int .i64 long) (.ptr h.length 0) (h ++ (O.box [.int .i64 f, .int .i64 t] :: u)) := by
  
  unfold k_ranges_Content_0 contT
  have hb := of_decide_eq_true hm
  have C1 := fun part h1 u => cont1_ok (L := L) (h := h) HT (part := part) (long := long) (t := u) h1 (by omega) (by omega)
  by_cases c : f < t
  · rw [if_pos c]
    have lf := itoa_len (n := f) (by omega) (by omega)
    have lt := itoa_len (n := t - 1) (by omega) (by omega)
    have w1 : IntKind.i64.wrap (t - 1) = t - 1 := wrap64 (by omega) (by omega)
    obtain ⟨A, hA⟩ : ∃ A : Bs, A = Go.Lib.itoa f ++ [45] := ⟨_, rfl⟩
    obtain ⟨B, hB⟩ : ∃ B : Bs, B = A ++ Go.Lib.itoa (t - 1) := ⟨_, rfl⟩
    have lA : A.length ≤ 8 := by rw [hA, List.length_append]; simp only [List.length_cons, List.length_nil]; omega
    have lB : B.length ≤ 15 := by rw [hB, List.length_append]; omega
    have a1 : binV .add (.str (Go.Lib.itoa f)) (.str [45]) = some (.str A) := by rw [hA]; exact bin_sadd (by simp only [List.length_cons, List.length_nil]; omega)
    have a2 : binV .add (.str A) (.str (Go.Lib.itoa (t - 1))) = some (.str B) := by rw [hB]; exact bin_sadd (by omega)
    rw [← hA, ← hB]
    have I1 : ∀ hh, Cf F L i_strconv_Itoa [.int .i64 f] hh (Pu hh (.str (Go.Lib.itoa f))) := fun hh => HT (by omega) (by omega)
    have I2 : ∀ hh, Cf F L i_strconv_Itoa [.int .i64 (t - 1)] hh (Pu hh (.str (Go.Lib.itoa (t - 1)))) := fun hh => HT (by omega) (by omega)
    generalize Go.Lib.itoa f = X at *
    generalize Go.Lib.itoa (t - 1) = Y at *
    simp (maxSteps := 4000000) only [vm, vl, Arg.get, cells, stor, boundO, resultsV, resV, partK, loadV, Vm.part, fillC, splice, reduceIte, reduceCtorEq, Nat.reduceEqDiff, Nat.reduceAdd, Nat.reduceSub, Nat.reduceMul, Nat.reduceLeDiff, ne_eq, not_false_eq_true, Int.reduceEq, Int.reduceLT, Int.reduceLE, Int.reduceNeg, Int.reduceToNat, Int.reduceGT, Int.reduceGE, Nat.reduceLT, Nat.lt_add_one, Nat.zero_lt_succ, Nat.succ_pos, Nat.zero_le, beq_self_eq_true, c, decide_true, w1]
    refine Cf.pu (I1 _) fun u1 => ?_
    simp (maxSteps := 4000000) only [vm, vl, Arg.get, cells, stor, boundO, resultsV, resV, partK, loadV, Vm.part, fillC, splice, reduceIte, reduceCtorEq, Nat.reduceEqDiff, Nat.reduceAdd, Nat.reduceSub, Nat.reduceMul, Nat.reduceLeDiff, ne_eq, not_false_eq_true, Int.reduceEq, Int.reduceLT, Int.reduceLE, Int.reduceNeg, Int.reduceToNat, Int.reduceGT, Int.reduceGE, Nat.reduceLT, Nat.lt_add_one, Nat.zero_lt_succ, Nat.succ_pos, Nat.zero_le, beq_self_eq_true, c, decide_true, w1, a1, a2]
    refine Cf.pu (I2 _) fun u2 => ?_
    simp (maxSteps := 4000000) only [vm, vl, Arg.get, cells, stor, boundO, resultsV, resV, partK, loadV, Vm.part, fillC, splice, reduceIte, reduceCtorEq, Nat.reduceEqDiff, Nat.reduceAdd, Nat.reduceSub, Nat.reduceMul, Nat.reduceLeDiff, ne_eq, not_false_eq_true, Int.reduceEq, Int.reduceLT, Int.reduceLE, Int.reduceNeg, Int.reduceToNat, Int.reduceGT, Int.reduceGE, Nat.reduceLT, Nat.lt_add_one, Nat.zero_lt_succ, Nat.succ_pos, Nat.zero_le, beq_self_eq_true, c, decide_true, w1, a1, a2]
    exact C1 _ (by omega) _
  · rw [if_neg c]
    simp (maxSteps := 4000000) only [vm, vl, Arg.get, cells, stor, boundO, resultsV, resV, partK, loadV, Vm.part, fillC, splice, reduceIte, reduceCtorEq, Nat.reduceEqDiff, Nat.reduceAdd, Nat.reduceSub, Nat.reduceMul, Nat.reduceLeDiff, ne_eq, not_false_eq_true, Int.reduceEq, Int.reduceLT, Int.reduceLE, Int.reduceNeg, Int.reduceToNat, Int.reduceGT, Int.reduceGE, Nat.reduceLT, Nat.lt_add_one, Nat.zero_lt_succ, Nat.succ_pos, Nat.zero_le, beq_self_eq_true, c, decide_false]
    exact C1 _ (by simp) _
theorem Content_ok (HT : ItoaOk L) {f t long : Int} : Cf F L i_ranges_Content [.agg [.int .i64 f, .int .i64 t], .int .i64 long] h (Pu h (contV f t long)) := by
  refine run_ranges_Content ?_
  simp only [p_ranges_Content]
  
  unfold contV
  simp (maxSteps := 4000000) only [vm, vl, Arg.get, cells, stor, boundO, resultsV, resV, partK, loadV, Vm.part, fillC, splice, reduceIte, reduceCtorEq, Nat.reduceEqDiff, Nat.reduceAdd, Nat.reduceSub, Nat.reduceMul, Nat.reduceLeDiff, ne_eq, not_false_eq_true, Int.reduceEq, Int.reduceLT, Int.reduceLE, Int.reduceNeg, Int.reduceToNat, Int.reduceGT, Int.reduceGE, Nat.reduceLT, Nat.lt_add_one, Nat.zero_lt_succ, Nat.succ_pos, Nat.zero_le, beq_self_eq_true]
  refine Cf.pu may_ok fun u => ?_
  cases hm : mayB f t long with
  | false => simp (maxSteps := 4000000) only [vm, vl, Arg.get, cells, stor, boundO, resultsV, resV, partK, loadV, Vm.part, fillC, splice, reduceIte, reduceCtorEq, Nat.reduceEqDiff, Nat.reduceAdd, Nat.reduceSub, Nat.reduceMul, Nat.reduceLeDiff, ne_eq, not_false_eq_true, Int.reduceEq, Int.reduceLT, Int.reduceLE, Int.reduceNeg, Int.reduceToNat, Int.reduceGT, Int.reduceGE, Nat.reduceLT, Nat.lt_add_one, Nat.zero_lt_succ, Nat.succ_pos, Nat.zero_le, beq_self_eq_true, hm, Bool.not_false]
  | true =>
    simp (maxSteps := 4000000) only [vm, vl, Arg.get, cells, stor, boundO, resultsV, resV, partK, loadV, Vm.part, fillC, splice, reduceIte, reduceCtorEq, Nat.reduceEqDiff, Nat.reduceAdd, Nat.reduceSub, Nat.reduceMul, Nat.reduceLeDiff, ne_eq, not_false_eq_true, Int.reduceEq, Int.reduceLT, Int.reduceLE, Int.reduceNeg, Int.reduceToNat, Int.reduceGT, Int.reduceGE, Nat.reduceLT, Nat.lt_add_one, Nat.zero_lt_succ, Nat.succ_pos, Nat.zero_le, beq_self_eq_true, hm, Bool.not_true]
    exact cont0_ok HT hm
theorem pos_app {c : UInt8} {a b : Bs} (ha : ∀ x ∈ a, x ≠ c) : pos c (a ++ ([c] ++ b)) = a.length := by
  unfold pos
  induction a with
  | nil => simp
  | cons x r ih =>
    rw [List.cons_append, List.takeWhile_cons, if_pos (by simpa using ha x (by simp)), List.length_cons, ih (fun y hy => ha y (by simp [hy]))]; rfl
theorem drop_one {c : UInt8} {b : Bs} : List.drop 1 ([c] ++ b) = b := rfl
theorem cut_pre {p s : Bs} : cutPre p (p ++ s) = (s, true) := by
  unfold cutPre; rw [List.take_left' rfl, if_pos rfl, List.drop_left' rfl]
theorem read_cont {f t long : Int} (hm : mayB f t long = true) : readS (contT f t long) = some (if f = t then (0, 0, long) else (f, t, long)) := by
  have hb := of_decide_eq_true hm
  have hlong : ∀ ok, longS (if long ≠ -1 then Go.Lib.itoa long else [42]) ok = (long, ok) := by
    intro ok
    by_cases c : long = -1
    · rw [show (if long ≠ -1 then Go.Lib.itoa long else [42]) = [42] from if_neg (fun h => h c)]
      unfold longS
      rw [if_pos rfl, c]
    · rw [show (if long ≠ -1 then Go.Lib.itoa long else [42]) = Go.Lib.itoa long from if_pos c]
      have e : ¬ Go.Lib.itoa long = [42] := by
        intro e
        have := itoa_dig (n := long) (by omega)
        rw [e] at this; revert this; decide
      unfold longS
      rw [if_neg e, num_itoa (by omega) (by omega)]
      simp
  have key : ∀ part : Bs, (∀ x ∈ part, x ≠ 47) → contT f t long = [98, 121, 116, 101, 115, 32] ++ (part ++ ([47] ++ (if long ≠ -1 then Go.Lib.itoa long else [42]))) → readS (contT f t long) = endS (partS part true) long := by
    intro part hp e
    unfold readS
    rw [e, cut_pre]
    simp only [pos_app hp]
    rw [List.take_left' rfl, List.drop_append, show part.length + 1 - part.length = 1 by omega, show part.drop (part.length + 1) = [] from List.drop_eq_nil_of_le (by omega), List.nil_append, drop_one, hlong]
    have : decide (part.length < (part ++ ([47] ++ (if long ≠ -1 then Go.Lib.itoa long else [42]))).length) = true := by
      rw [decide_eq_true_eq, List.length_append, List.length_append, List.length_singleton]; omega
    rw [this]; rfl
  by_cases c : f < t
  · have d1 := itoa_dig (n := f) (by omega)
    have d2 := itoa_dig (n := t - 1) (by omega)
    rw [key (Go.Lib.itoa f ++ [45] ++ Go.Lib.itoa (t - 1)) ?_ (by unfold contT; rw [if_pos c]), if_neg (by omega)]
    · have e1 : ¬ (Go.Lib.itoa f ++ [45] ++ Go.Lib.itoa (t - 1)) = [42] := by
        intro e
        have := congrArg List.length e
        have p1 := itoa_pos (n := f) (by omega)
        simp only [List.length_append, List.length_cons, List.length_nil] at this; omega
      unfold partS
      rw [if_neg e1, List.append_assoc, pos_app (not_dig d1 (by decide)), List.take_left' rfl, List.drop_append, show (Go.Lib.itoa f).length + 1 - (Go.Lib.itoa f).length = 1 by omega, show (Go.Lib.itoa f).drop ((Go.Lib.itoa f).length + 1) = [] from List.drop_eq_nil_of_le (by omega), List.nil_append, drop_one, num_itoa (by omega) (by omega), num_itoa (by omega) (by omega)]
      have e2 : decide ((Go.Lib.itoa f).length < (Go.Lib.itoa f ++ ([45] ++ Go.Lib.itoa (t - 1))).length) = true := by
        rw [decide_eq_true_eq, List.length_append, List.length_append, List.length_singleton]; omega
      rw [e2, decide_eq_true (by omega : f < t - 1 + 1), show t - 1 + 1 = t by omega]
      unfold endS
      rw [if_pos ⟨rfl, hm⟩]
    · intro x hx
      simp only [List.mem_append, List.mem_singleton] at hx
      rcases hx with (hx | rfl) | hx
      · exact not_dig d1 (by decide) x hx
      · decide
      · exact not_dig d2 (by decide) x hx
  · rw [key [42] (by simp) (by unfold contT; rw [if_neg c]), if_pos (by omega)]
    unfold partS
    rw [if_pos rfl]
    unfold endS
    have m0 : mayB 0 0 long = true := decide_eq_true (by omega)
    rw [if_pos ⟨rfl, m0⟩]
end Go.Proofs.YtlnhcdafagpfhaaDoor.Vh
