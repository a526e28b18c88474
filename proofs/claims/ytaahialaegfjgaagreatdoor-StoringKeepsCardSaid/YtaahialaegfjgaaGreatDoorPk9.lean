/- Several texts in one: VSplit3, VNum, VCtl1, VSplitN, VCtl2, VPairR, VCtl3, VCtl4, VField, VFew, VRGet, VCtlOf, VNamesE, VNamesF, VDateA, VFormatA, VReaders. -/
import Derived.Test.YtaahialaegfjgaaGreatDoorPk7
import Derived.Test.YtaahialaegfjgaaGreatDoorPk8
import Derived.Test.YtaahialaegfjgaaGreatDoorPk5
import Derived.Test.YtaahialaegfjgaaGreatDoorPk4
import Derived.Test.YtaahialaegfjgaaGreatDoorPk1
import Derived.Test.YtaahialaegfjgaaGreatDoorPk3
import Derived.Test.YtaahialaegfjgaaGreatDoorPk6
import Derived.Lib.ItoaNum
import Derived.Lib.AppendIntMem
section
set_option linter.unusedVariables false
set_option linter.unusedSimpArgs false
namespace Go.Proofs.YtaahialaegfjgaaGreatDoor.Vh
open Go.Vm Go.Vt
attribute [local congr] wi_congr wg_congr wgd_congr wb_congr wl_congr cf_congr
variable {L : FuncId → List V → V → Prop} {h : Heap}
theorem full_list (out : List Bs) : ListV 1 (fullV out) (strs out) := by
  unfold fullV ListV
  by_cases h : out = []
  · simp [h, strs]
  · simp [h, strs]
theorem splitG_none {s own : Bs} {q : Bool} {out : List Bs} (h : s = []) : splitG s own q out = if q then none else some (flush out own) := by subst h; rfl
/-- What Split comes to: a list, or none. -/
def SplitP (h : Heap) (o : Option (List Bs)) (v : V) (h' : Heap) : Prop := (∃ t, h' = h ++ t) ∧ ((o = none ∧ v = .tup [.nsl, .bool false]) ∨ ∃ out x, o = some out ∧ v = .tup [x, .bool true] ∧ ListV 1 x (strs out))
theorem SplitP.no {h h' : Heap} (hh : ∃ t, h' = h ++ t) : SplitP h none (.tup [.nsl, .bool false]) h' := ⟨hh, .inl ⟨rfl, rfl⟩⟩
end Go.Proofs.YtaahialaegfjgaaGreatDoor.Vh
end
section
set_option linter.unusedVariables false
set_option linter.unusedSimpArgs false
namespace Go.Proofs.YtaahialaegfjgaaGreatDoor.Vh
open Go.Vm Go.Vt
attribute [local congr] wi_congr wg_congr wgd_congr wb_congr wl_congr cf_congr
variable {L : FuncId → List V → V → Prop} {h : Heap}
theorem wquo {x c : Int} (h0 : 0 ≤ x) (hc : 0 < c) (h1 : x ≤ 9223372036854775807) : IntKind.i64.wrap (Int.tdiv x c) = x / c := by
  rw [Int.tdiv_eq_ediv_of_nonneg h0]
  have : 0 ≤ x / c := Int.ediv_nonneg h0 (by omega)
  have := Int.ediv_le_self c h0
  exact wrap64 (by omega) (by omega)
theorem bin_quo' {x y : Int} : binV .quo (.int .i64 x) (.int .i64 y) = if y = 0 then none else some (.int .i64 (IntKind.i64.wrap (x.tdiv y))) := by
  by_cases h : y = 0 <;> simp [binV, binI, h]
theorem dig_eq (c : UInt8) : digB c = (decide ((c.toNat : Int) ≥ 48) && decide ((c.toNat : Int) ≤ 57)) := byte_all (p := fun c => digB c = (decide ((c.toNat : Int) ≥ 48) && decide ((c.toNat : Int) ≤ 57))) (by decide +kernel) c
theorem dig_in {c : UInt8} (h : digB c = true) : 48 ≤ (c.toNat : Int) ∧ (c.toNat : Int) ≤ 57 := by
  rw [dig_eq, Bool.and_eq_true, decide_eq_true_eq, decide_eq_true_eq] at h; exact h
theorem dig_wrap (c : UInt8) : (decide (48 ≤ (c.toNat : Int)) && decide ((c.toNat : Int) ≤ 57)) = true → IntKind.u8.wrap ((c.toNat : Int) - 48) = (c.toNat : Int) - 48 :=
  byte_all (p := fun c => (decide (48 ≤ (c.toNat : Int)) && decide ((c.toNat : Int) ≤ 57)) = true → IntKind.u8.wrap ((c.toNat : Int) - 48) = (c.toNat : Int) - 48) (by decide +kernel) c
theorem Number1_ok {c : UInt8} : Cf F L i_token_Number_1 [byV c] h (Pu h (.bool (digB c))) := by
  refine run_token_Number_1 ?_
  simp only [p_token_Number_1]
  rw [dig_eq]
  by_cases a : (c.toNat : Int) ≥ 48
  · simp (maxSteps := 4000000) only [vm, vl, Arg.get, cells, stor, boundO, resultsV, resV, partK, loadV, Vm.part, fillC, splice, reduceIte, reduceCtorEq, Nat.reduceEqDiff, Nat.reduceAdd, Nat.reduceSub, Nat.reduceMul, Nat.reduceLeDiff, ne_eq, not_false_eq_true, Int.reduceEq, Int.reduceLT, Int.reduceLE, Int.reduceNeg, Int.reduceToNat, Int.reduceGT, Int.reduceGE, Nat.reduceLT, Nat.lt_add_one, Nat.zero_lt_succ, Nat.succ_pos, Nat.zero_le, beq_self_eq_true, a, decide_true, Bool.true_and]
  · simp (maxSteps := 4000000) only [vm, vl, Arg.get, cells, stor, boundO, resultsV, resV, partK, loadV, Vm.part, fillC, splice, reduceIte, reduceCtorEq, Nat.reduceEqDiff, Nat.reduceAdd, Nat.reduceSub, Nat.reduceMul, Nat.reduceLeDiff, ne_eq, not_false_eq_true, Int.reduceEq, Int.reduceLT, Int.reduceLE, Int.reduceNeg, Int.reduceToNat, Int.reduceGT, Int.reduceGE, Nat.reduceLT, Nat.lt_add_one, Nat.zero_lt_succ, Nat.succ_pos, Nat.zero_le, beq_self_eq_true, a, decide_false, Bool.false_and]
theorem num_pair {n : Int} {b : Bool} {x : Int × Bool} (h : x = (n, b)) : V.tup [.int .i64 x.1, .bool x.2] = .tup [.int .i64 n, .bool b] := by subst h; rfl
theorem Number_ok {s : Bs} {most : Int} (hs : s.length ≤ 9223372036854775806) (h0 : -4000000000000000000 ≤ most) (h1 : most ≤ 4000000000000000000) : Cf F L i_token_Number [.str s, .int .i64 most] h (Pu h (.tup [.int .i64 (numS s most).1, .bool (numS s most).2])) := by
  refine run_token_Number ?_
  simp only [p_token_Number]
  by_cases a : s = []
  · subst a
    rw [num_pair (show numS [] most = (0, false) from rfl)]
    have e1 : (([] : Bs) == []) = true := rfl
    simp (maxSteps := 4000000) only [vm, vl, Arg.get, cells, stor, boundO, resultsV, resV, partK, loadV, Vm.part, fillC, splice, reduceIte, reduceCtorEq, Nat.reduceEqDiff, Nat.reduceAdd, Nat.reduceSub, Nat.reduceMul, Nat.reduceLeDiff, ne_eq, not_false_eq_true, Int.reduceEq, Int.reduceLT, Int.reduceLE, Int.reduceNeg, Int.reduceToNat, Int.reduceGT, Int.reduceGE, Nat.reduceLT, Nat.lt_add_one, Nat.zero_lt_succ, Nat.succ_pos, Nat.zero_le, beq_self_eq_true, k_token_Number_1, k_token_Number_3, k_token_Number_4, k_token_Number_2, k_token_Number_0, e1]
  have a' : (s == []) = false := beq_eq_false_iff_ne.2 a
  have ae : s.isEmpty = false := by cases s; exact absurd rfl a; rfl
  by_cases b : most < 0
  · rw [num_pair (show numS s most = (0, false) by unfold numS; simp [b])]
    simp (maxSteps := 4000000) only [vm, vl, Arg.get, cells, stor, boundO, resultsV, resV, partK, loadV, Vm.part, fillC, splice, reduceIte, reduceCtorEq, Nat.reduceEqDiff, Nat.reduceAdd, Nat.reduceSub, Nat.reduceMul, Nat.reduceLeDiff, ne_eq, not_false_eq_true, Int.reduceEq, Int.reduceLT, Int.reduceLE, Int.reduceNeg, Int.reduceToNat, Int.reduceGT, Int.reduceGE, Nat.reduceLT, Nat.lt_add_one, Nat.zero_lt_succ, Nat.succ_pos, Nat.zero_le, beq_self_eq_true, k_token_Number_1, k_token_Number_3, k_token_Number_4, k_token_Number_2, k_token_Number_0, a', b, decide_true]
  cases hd : s.all digB with
  | false =>
    rw [num_pair (show numS s most = (0, false) by unfold numS; simp [hd])]
    simp (maxSteps := 4000000) only [vm, vl, Arg.get, cells, stor, boundO, resultsV, resV, partK, loadV, Vm.part, fillC, splice, reduceIte, reduceCtorEq, Nat.reduceEqDiff, Nat.reduceAdd, Nat.reduceSub, Nat.reduceMul, Nat.reduceLeDiff, ne_eq, not_false_eq_true, Int.reduceEq, Int.reduceLT, Int.reduceLE, Int.reduceNeg, Int.reduceToNat, Int.reduceGT, Int.reduceGE, Nat.reduceLT, Nat.lt_add_one, Nat.zero_lt_succ, Nat.succ_pos, Nat.zero_le, beq_self_eq_true, k_token_Number_1, k_token_Number_3, k_token_Number_4, k_token_Number_2, k_token_Number_0, a', b, decide_false]
    refine Cf.pu (all_ok (caps := []) (by omega) fun c h => Number1_ok) fun u => ?_
    simp (maxSteps := 4000000) only [vm, vl, Arg.get, cells, stor, boundO, resultsV, resV, partK, loadV, Vm.part, fillC, splice, reduceIte, reduceCtorEq, Nat.reduceEqDiff, Nat.reduceAdd, Nat.reduceSub, Nat.reduceMul, Nat.reduceLeDiff, ne_eq, not_false_eq_true, Int.reduceEq, Int.reduceLT, Int.reduceLE, Int.reduceNeg, Int.reduceToNat, Int.reduceGT, Int.reduceGE, Nat.reduceLT, Nat.lt_add_one, Nat.zero_lt_succ, Nat.succ_pos, Nat.zero_le, beq_self_eq_true, k_token_Number_1, k_token_Number_3, k_token_Number_4, k_token_Number_2, k_token_Number_0, hd, Bool.not_false]
  | true =>
    rw [num_pair (show numS s most = (numG s 0 most, true) by unfold numS; simp [hd, b, ae])]
    simp (maxSteps := 4000000) only [vm, vl, Arg.get, cells, stor, boundO, resultsV, resV, partK, loadV, Vm.part, fillC, splice, reduceIte, reduceCtorEq, Nat.reduceEqDiff, Nat.reduceAdd, Nat.reduceSub, Nat.reduceMul, Nat.reduceLeDiff, ne_eq, not_false_eq_true, Int.reduceEq, Int.reduceLT, Int.reduceLE, Int.reduceNeg, Int.reduceToNat, Int.reduceGT, Int.reduceGE, Nat.reduceLT, Nat.lt_add_one, Nat.zero_lt_succ, Nat.succ_pos, Nat.zero_le, beq_self_eq_true, k_token_Number_1, k_token_Number_3, k_token_Number_4, k_token_Number_2, k_token_Number_0, a', b, decide_false]
    refine Cf.pu (all_ok (caps := []) (by omega) fun c h => Number1_ok) fun u => ?_
    simp (maxSteps := 4000000) only [vm, vl, Arg.get, cells, stor, boundO, resultsV, resV, partK, loadV, Vm.part, fillC, splice, reduceIte, reduceCtorEq, Nat.reduceEqDiff, Nat.reduceAdd, Nat.reduceSub, Nat.reduceMul, Nat.reduceLeDiff, ne_eq, not_false_eq_true, Int.reduceEq, Int.reduceLT, Int.reduceLE, Int.reduceNeg, Int.reduceToNat, Int.reduceGT, Int.reduceGE, Nat.reduceLT, Nat.lt_add_one, Nat.zero_lt_succ, Nat.succ_pos, Nat.zero_le, beq_self_eq_true, k_token_Number_1, k_token_Number_3, k_token_Number_4, k_token_Number_2, k_token_Number_0, hd, Bool.not_true]
    refine l_token_Number_0 (fun n e h' => ∃ (i : Nat) (v : Int), n = s.length - i ∧ i ≤ s.length ∧ e 0 = .str s ∧ e 1 = .int .i64 most ∧ e 6 = .int .i64 v ∧ e 21 = .int .i64 s.length ∧ e 22 = .int .i64 i ∧ 0 ≤ v ∧ v ≤ most ∧ numG s 0 most = numG (s.drop i) v most ∧ ∃ t, h' = h ++ t) ?_ (n := s.length) ⟨0, 0, by simp, by simp, rfl, rfl, rfl, rfl, rfl, by omega, by omega, rfl, u, rfl⟩
    rintro n e h' ⟨i, v, rfl, hi, e0, e1, e6, e21, e22, v0, v1, hg, t, rfl⟩
    simp only [b_token_Number_0]
    rw [hg]
    rcases str_at hi with ⟨hn, rfl, hdr⟩ | ⟨c, hl, hl', hc, hdr⟩
    · rw [hdr]
      simp (maxSteps := 4000000) only [vm, vl, Arg.get, cells, stor, boundO, resultsV, resV, partK, loadV, Vm.part, fillC, splice, reduceIte, reduceCtorEq, Nat.reduceEqDiff, Nat.reduceAdd, Nat.reduceSub, Nat.reduceMul, Nat.reduceLeDiff, ne_eq, not_false_eq_true, Int.reduceEq, Int.reduceLT, Int.reduceLE, Int.reduceNeg, Int.reduceToNat, Int.reduceGT, Int.reduceGE, Nat.reduceLT, Nat.lt_add_one, Nat.zero_lt_succ, Nat.succ_pos, Nat.zero_le, beq_self_eq_true, k_token_Number_1, k_token_Number_3, k_token_Number_4, k_token_Number_2, k_token_Number_0, e0, e1, e6, e21, e22, hn, decide_false]
      rfl
    · have w := wrap64 (x := (i : Int) + 1) (by omega) (by omega)
      have dc : digB c = true := by
        rw [← hc]
        refine (List.all_eq_true.1 hd) _ ?_
        rw [List.getD_eq_getElem?_getD, List.getElem?_eq_getElem hl', Option.getD_some]; exact List.getElem_mem _
      have di := dig_in dc
      have dw := dig_wrap c (by simp [di])
      have d64 : IntKind.i64.wrap ((c.toNat : Int) - 48) = (c.toNat : Int) - 48 := wrap64 (by omega) (by omega)
      have eg : numG (c :: s.drop (i + 1)) v most = if (c.toNat : Int) - 48 > most ∨ v > (most - ((c.toNat : Int) - 48)) / 10 then most else numG (s.drop (i + 1)) (10 * v + ((c.toNat : Int) - 48)) most := rfl
      rw [hdr, eg]
      generalize hD : (c.toNat : Int) - 48 = D at *
      by_cases p : D > most
      · rw [if_pos (.inl p)]
        simp (maxSteps := 4000000) only [vm, vl, Arg.get, cells, stor, boundO, resultsV, resV, partK, loadV, Vm.part, fillC, splice, reduceIte, reduceCtorEq, Nat.reduceEqDiff, Nat.reduceAdd, Nat.reduceSub, Nat.reduceMul, Nat.reduceLeDiff, ne_eq, not_false_eq_true, Int.reduceEq, Int.reduceLT, Int.reduceLE, Int.reduceNeg, Int.reduceToNat, Int.reduceGT, Int.reduceGE, Nat.reduceLT, Nat.lt_add_one, Nat.zero_lt_succ, Nat.succ_pos, Nat.zero_le, beq_self_eq_true, k_token_Number_1, k_token_Number_3, k_token_Number_4, k_token_Number_2, k_token_Number_0, e0, e1, e6, e21, e22, hl, hl', hc, hD, dw, d64, p, decide_true]
      have w1 : IntKind.i64.wrap (most - D) = most - D := wrap64 (by omega) (by omega)
      have w2 : IntKind.i64.wrap ((most - D).tdiv 10) = (most - D) / 10 := wquo (by omega) (by omega) (by omega)
      by_cases q : v > (most - D) / 10
      · rw [if_pos (.inr q)]
        simp (maxSteps := 4000000) only [vm, vl, Arg.get, cells, stor, boundO, resultsV, resV, partK, loadV, Vm.part, fillC, splice, reduceIte, reduceCtorEq, Nat.reduceEqDiff, Nat.reduceAdd, Nat.reduceSub, Nat.reduceMul, Nat.reduceLeDiff, ne_eq, not_false_eq_true, Int.reduceEq, Int.reduceLT, Int.reduceLE, Int.reduceNeg, Int.reduceToNat, Int.reduceGT, Int.reduceGE, Nat.reduceLT, Nat.lt_add_one, Nat.zero_lt_succ, Nat.succ_pos, Nat.zero_le, beq_self_eq_true, k_token_Number_1, k_token_Number_3, k_token_Number_4, k_token_Number_2, k_token_Number_0, e0, e1, e6, e21, e22, hl, hl', hc, hD, dw, d64, p, q, w1, w2, bin_quo', decide_true, decide_false]
      · rw [if_neg (fun h => h.elim p q)]
        have w3 : IntKind.i64.wrap (10 * v) = 10 * v := wrap64 (by omega) (by omega)
        have w4 : IntKind.i64.wrap (10 * v + D) = 10 * v + D := wrap64 (by omega) (by omega)
        simp (maxSteps := 4000000) only [vm, vl, Arg.get, cells, stor, boundO, resultsV, resV, partK, loadV, Vm.part, fillC, splice, reduceIte, reduceCtorEq, Nat.reduceEqDiff, Nat.reduceAdd, Nat.reduceSub, Nat.reduceMul, Nat.reduceLeDiff, ne_eq, not_false_eq_true, Int.reduceEq, Int.reduceLT, Int.reduceLE, Int.reduceNeg, Int.reduceToNat, Int.reduceGT, Int.reduceGE, Nat.reduceLT, Nat.lt_add_one, Nat.zero_lt_succ, Nat.succ_pos, Nat.zero_le, beq_self_eq_true, k_token_Number_1, k_token_Number_3, k_token_Number_4, k_token_Number_2, k_token_Number_0, e0, e1, e6, e21, e22, hl, hl', hc, hD, dw, d64, p, q, w, w1, w2, w3, w4, bin_quo', decide_true, decide_false]
        exact ⟨s.length - (i + 1), by omega, i + 1, 10 * v + D, rfl, hl', rfl, rfl, by omega, by omega, rfl, _, rfl⟩
end Go.Proofs.YtaahialaegfjgaaGreatDoor.Vh
end
section
set_option linter.unusedVariables false
set_option linter.unusedSimpArgs false
namespace Go.Proofs.YtaahialaegfjgaaGreatDoor.Vh
open Go.Vm Go.Vt
attribute [local congr] wi_congr wg_congr wgd_congr wb_congr wl_congr cf_congr
variable {L : FuncId → List V → V → Prop} {h : Heap}
/-- Flags and numbers. -/
structure Ct where
  f : Nat → Bool
  n : Nat → Int
def ctV (c : Ct) : List V := [.bool (c.f 0), .bool (c.f 1), .bool (c.f 2), .bool (c.f 3), .bool (c.f 4), .bool (c.f 5), .bool (c.f 6), .int .i64 (c.n 0), .int .i64 (c.n 1), .int .i64 (c.n 2), .int .i64 (c.n 3), .int .i64 (c.n 4), .int .i64 (c.n 5)]
def ct0 : Ct := ⟨fun _ => false, fun _ => -1⟩
def setF (c : Ct) (i : Nat) : Ct := ⟨fun k => if k = i then true else c.f k, c.n⟩
def setN (c : Ct) (j : Nat) (v : Int) : Ct := ⟨c.f, fun k => if k = j then v else c.n k⟩
/-- What a name stands for. -/
inductive Rl where
  | no
  | flag (i : Nat)
  | num (j : Nat) (m b : Int)
def ruleT : List (Bs × Rl) := [([110, 111, 45, 115, 116, 111, 114, 101], .flag 0), ([110, 111, 45, 99, 97, 99, 104, 101], .flag 1), ([112, 114, 105, 118, 97, 116, 101], .flag 2), ([112, 117, 98, 108, 105, 99], .flag 3), ([109, 117, 115, 116, 45, 114, 101, 118, 97, 108, 105, 100, 97, 116, 101], .flag 4), ([112, 114, 111, 120, 121, 45, 114, 101, 118, 97, 108, 105, 100, 97, 116, 101], .flag 5), ([111, 110, 108, 121, 45, 105, 102, 45, 99, 97, 99, 104, 101, 100], .flag 6), ([109, 97, 120, 45, 97, 103, 101], .num 0 0 0), ([115, 45, 109, 97, 120, 97, 103, 101], .num 1 0 0), ([115, 116, 97, 108, 101, 45, 119, 104, 105, 108, 101, 45, 114, 101, 118, 97, 108, 105, 100, 97, 116, 101], .num 2 (-1) (-1)), ([115, 116, 97, 108, 101, 45, 105, 102, 45, 101, 114, 114, 111, 114], .num 3 (-1) (-1)), ([109, 105, 110, 45, 102, 114, 101, 115, 104], .num 4 (-1) (-1)), ([109, 97, 120, 45, 115, 116, 97, 108, 101], .num 5 2147483648 (-1))]
def ruleOf (nm : Bs) : Rl := (ruleT.lookup nm).getD .no
def valueS (text : Bs) (has : Bool) (m b : Int) : Int := if has then (if (numS text 2147483648).2 then (numS text 2147483648).1 else b) else m
/-- What an element does. -/
inductive Ac where
  | nop
  | flag (i : Nat)
  | num (j : Nat) (v : Int)
def actS (x : Bs) : Ac := match ruleOf (low (pairS x).1) with
  | .no => .nop
  | .flag i => .flag i
  | .num j m b => if valueS (pairS x).2.1 (pairS x).2.2.1 m b = -1 then .nop else .num j (valueS (pairS x).2.1 (pairS x).2.2.1 m b)
def lst (a v : Int) : Int := if a = -1 ∨ v < a then v else a
def applyA (c : Ct) : Ac → Ct
  | .nop => c
  | .flag i => setF c i
  | .num j v => setN c j (lst (c.n j) v)
def stepC (c : Ct) (x : Bs) : Ct := applyA c (actS x)
def parseC (s : Bs) : Ct × Bool := match split s with
  | none => (setF (setF ct0 0) 1, false)
  | some l => (l.foldl stepC ct0, true)
def parseCV (p : Ct × Bool) : V := .tup [.agg (ctV p.1), .bool p.2]
def flagF : List FuncId := [i_control_rules_3, i_control_rules_4, i_control_rules_5, i_control_rules_6, i_control_rules_7, i_control_rules_8, i_control_rules_9]
def numF : List FuncId := [i_control_rules_10, i_control_rules_11, i_control_rules_12, i_control_rules_13, i_control_rules_14, i_control_rules_15]
def ruleV : Rl → V
  | .no => .agg [.nfn, .nfn, .int .i64 0, .int .i64 0]
  | .flag i => .agg [.fn (flagF.getD i 0) [], .nfn, .int .i64 0, .int .i64 0]
  | .num j m b => .agg [.nfn, .fn (numF.getD j 0) [], .int .i64 m, .int .i64 b]
def ruleE : List (V × V) := ruleT.map fun p => (.str p.1, ruleV p.2)
theorem find_rule (nm : Bs) : ∀ (l : List (Bs × Rl)) (k : Nat), ∃ r, findE .s (.str nm) (l.map fun p => (V.str p.1, ruleV p.2)) k = some r ∧ (match l.lookup nm with | none => r = none | some a => ∃ i, r = some (i, ruleV a))
  | [], k => ⟨none, rfl, rfl⟩
  | (n, a) :: l, k => by
    by_cases hn : nm = n
    · subst hn
      refine ⟨some (k, ruleV a), ?_, ?_⟩
      · simp [findE, eqLeaf]
      · rw [List.lookup_cons, show (nm == nm) = true from beq_self_eq_true nm]; exact ⟨k, rfl⟩
    · obtain ⟨r, h1, h2⟩ := find_rule nm l (k + 1)
      have hb : (nm == n) = false := beq_eq_false_iff_ne.2 hn
      refine ⟨r, ?_, ?_⟩
      · rw [List.map_cons, findE]
        simp only [eqLeaf, hb, Option.bind_some, Bool.false_eq_true, if_false]
        exact h1
      · rw [List.lookup_cons, hb]; exact h2
theorem nothing_ok : Cf F L i_control_nothing [] h (fun v h' => v = .agg (ctV ct0) ∧ h' = h ++ [.box (ctV ct0)]) := by
  refine run_control_nothing ?_
  simp only [p_control_nothing]
  simp (maxSteps := 4000000) only [vm, vl, Arg.get, cells, stor, boundO, resultsV, resV, partK, loadV, Vm.part, fillC, splice, reduceIte, reduceCtorEq, Nat.reduceEqDiff, Nat.reduceAdd, Nat.reduceSub, Nat.reduceMul, Nat.reduceLeDiff, ne_eq, not_false_eq_true, Int.reduceEq, Int.reduceLT, Int.reduceLE, Int.reduceNeg, Int.reduceToNat, Int.reduceGT, Int.reduceGE, Nat.reduceLT, Nat.lt_add_one, Nat.zero_lt_succ, Nat.succ_pos, Nat.zero_le, beq_self_eq_true]
  exact ⟨rfl, rfl⟩
theorem value_ok {f g : V} {m b : Int} {text : Bs} {has : Bool} (hs : text.length ≤ 9223372036854775806) : Cf F L i__gatepost_control_rule__value [.agg [f, g, .int .i64 m, .int .i64 b], .str text, .bool has] h (Pu h (.int .i64 (valueS text has m b))) := by
  refine run__gatepost_control_rule__value ?_
  simp only [p__gatepost_control_rule__value]
  unfold valueS
  cases has with
  | false => simp (maxSteps := 4000000) only [vm, vl, Arg.get, cells, stor, boundO, resultsV, resV, partK, loadV, Vm.part, fillC, splice, reduceIte, reduceCtorEq, Nat.reduceEqDiff, Nat.reduceAdd, Nat.reduceSub, Nat.reduceMul, Nat.reduceLeDiff, ne_eq, not_false_eq_true, Int.reduceEq, Int.reduceLT, Int.reduceLE, Int.reduceNeg, Int.reduceToNat, Int.reduceGT, Int.reduceGE, Nat.reduceLT, Nat.lt_add_one, Nat.zero_lt_succ, Nat.succ_pos, Nat.zero_le, beq_self_eq_true, k__gatepost_control_rule__value_1, k__gatepost_control_rule__value_0, Bool.not_false]
  | true =>
    simp (maxSteps := 4000000) only [vm, vl, Arg.get, cells, stor, boundO, resultsV, resV, partK, loadV, Vm.part, fillC, splice, reduceIte, reduceCtorEq, Nat.reduceEqDiff, Nat.reduceAdd, Nat.reduceSub, Nat.reduceMul, Nat.reduceLeDiff, ne_eq, not_false_eq_true, Int.reduceEq, Int.reduceLT, Int.reduceLE, Int.reduceNeg, Int.reduceToNat, Int.reduceGT, Int.reduceGE, Nat.reduceLT, Nat.lt_add_one, Nat.zero_lt_succ, Nat.succ_pos, Nat.zero_le, beq_self_eq_true, k__gatepost_control_rule__value_1, k__gatepost_control_rule__value_0, Bool.not_true]
    refine Cf.pu (Number_ok hs (by decide) (by decide)) fun u => ?_
    cases hn : (numS text 2147483648).2 with
    | true => simp (maxSteps := 4000000) only [vm, vl, Arg.get, cells, stor, boundO, resultsV, resV, partK, loadV, Vm.part, fillC, splice, reduceIte, reduceCtorEq, Nat.reduceEqDiff, Nat.reduceAdd, Nat.reduceSub, Nat.reduceMul, Nat.reduceLeDiff, ne_eq, not_false_eq_true, Int.reduceEq, Int.reduceLT, Int.reduceLE, Int.reduceNeg, Int.reduceToNat, Int.reduceGT, Int.reduceGE, Nat.reduceLT, Nat.lt_add_one, Nat.zero_lt_succ, Nat.succ_pos, Nat.zero_le, beq_self_eq_true, k__gatepost_control_rule__value_1, k__gatepost_control_rule__value_0, hn]
    | false => simp (maxSteps := 4000000) only [vm, vl, Arg.get, cells, stor, boundO, resultsV, resV, partK, loadV, Vm.part, fillC, splice, reduceIte, reduceCtorEq, Nat.reduceEqDiff, Nat.reduceAdd, Nat.reduceSub, Nat.reduceMul, Nat.reduceLeDiff, ne_eq, not_false_eq_true, Int.reduceEq, Int.reduceLT, Int.reduceLE, Int.reduceNeg, Int.reduceToNat, Int.reduceGT, Int.reduceGE, Nat.reduceLT, Nat.lt_add_one, Nat.zero_lt_succ, Nat.succ_pos, Nat.zero_le, beq_self_eq_true, k__gatepost_control_rule__value_1, k__gatepost_control_rule__value_0, hn]
theorem flag0_ok {c : Ct} {p : Nat} {K : V → Heap → Prop} (hb : h[p]? = some (.box (ctV c))) (hk : K (.tup []) (h.set p (.box (ctV (setF c 0))))) : Cf F L i_control_rules_3 [.ptr p 0] h K := by
  have hb' := hb
  unfold ctV at hb'
  refine run_control_rules_3 ?_
  simp only [p_control_rules_3]
  simp (maxSteps := 4000000) only [vm, vl, Arg.get, cells, stor, boundO, resultsV, resV, partK, loadV, Vm.part, fillC, splice, reduceIte, reduceCtorEq, Nat.reduceEqDiff, Nat.reduceAdd, Nat.reduceSub, Nat.reduceMul, Nat.reduceLeDiff, ne_eq, not_false_eq_true, Int.reduceEq, Int.reduceLT, Int.reduceLE, Int.reduceNeg, Int.reduceToNat, Int.reduceGT, Int.reduceGE, Nat.reduceLT, Nat.lt_add_one, Nat.zero_lt_succ, Nat.succ_pos, Nat.zero_le, beq_self_eq_true, hb']
  exact hk
theorem flag1_ok {c : Ct} {p : Nat} {K : V → Heap → Prop} (hb : h[p]? = some (.box (ctV c))) (hk : K (.tup []) (h.set p (.box (ctV (setF c 1))))) : Cf F L i_control_rules_4 [.ptr p 0] h K := by
  have hb' := hb
  unfold ctV at hb'
  refine run_control_rules_4 ?_
  simp only [p_control_rules_4]
  simp (maxSteps := 4000000) only [vm, vl, Arg.get, cells, stor, boundO, resultsV, resV, partK, loadV, Vm.part, fillC, splice, reduceIte, reduceCtorEq, Nat.reduceEqDiff, Nat.reduceAdd, Nat.reduceSub, Nat.reduceMul, Nat.reduceLeDiff, ne_eq, not_false_eq_true, Int.reduceEq, Int.reduceLT, Int.reduceLE, Int.reduceNeg, Int.reduceToNat, Int.reduceGT, Int.reduceGE, Nat.reduceLT, Nat.lt_add_one, Nat.zero_lt_succ, Nat.succ_pos, Nat.zero_le, beq_self_eq_true, hb']
  exact hk
theorem flag2_ok {c : Ct} {p : Nat} {K : V → Heap → Prop} (hb : h[p]? = some (.box (ctV c))) (hk : K (.tup []) (h.set p (.box (ctV (setF c 2))))) : Cf F L i_control_rules_5 [.ptr p 0] h K := by
  have hb' := hb
  unfold ctV at hb'
  refine run_control_rules_5 ?_
  simp only [p_control_rules_5]
  simp (maxSteps := 4000000) only [vm, vl, Arg.get, cells, stor, boundO, resultsV, resV, partK, loadV, Vm.part, fillC, splice, reduceIte, reduceCtorEq, Nat.reduceEqDiff, Nat.reduceAdd, Nat.reduceSub, Nat.reduceMul, Nat.reduceLeDiff, ne_eq, not_false_eq_true, Int.reduceEq, Int.reduceLT, Int.reduceLE, Int.reduceNeg, Int.reduceToNat, Int.reduceGT, Int.reduceGE, Nat.reduceLT, Nat.lt_add_one, Nat.zero_lt_succ, Nat.succ_pos, Nat.zero_le, beq_self_eq_true, hb']
  exact hk
theorem flag3_ok {c : Ct} {p : Nat} {K : V → Heap → Prop} (hb : h[p]? = some (.box (ctV c))) (hk : K (.tup []) (h.set p (.box (ctV (setF c 3))))) : Cf F L i_control_rules_6 [.ptr p 0] h K := by
  have hb' := hb
  unfold ctV at hb'
  refine run_control_rules_6 ?_
  simp only [p_control_rules_6]
  simp (maxSteps := 4000000) only [vm, vl, Arg.get, cells, stor, boundO, resultsV, resV, partK, loadV, Vm.part, fillC, splice, reduceIte, reduceCtorEq, Nat.reduceEqDiff, Nat.reduceAdd, Nat.reduceSub, Nat.reduceMul, Nat.reduceLeDiff, ne_eq, not_false_eq_true, Int.reduceEq, Int.reduceLT, Int.reduceLE, Int.reduceNeg, Int.reduceToNat, Int.reduceGT, Int.reduceGE, Nat.reduceLT, Nat.lt_add_one, Nat.zero_lt_succ, Nat.succ_pos, Nat.zero_le, beq_self_eq_true, hb']
  exact hk
theorem flag4_ok {c : Ct} {p : Nat} {K : V → Heap → Prop} (hb : h[p]? = some (.box (ctV c))) (hk : K (.tup []) (h.set p (.box (ctV (setF c 4))))) : Cf F L i_control_rules_7 [.ptr p 0] h K := by
  have hb' := hb
  unfold ctV at hb'
  refine run_control_rules_7 ?_
  simp only [p_control_rules_7]
  simp (maxSteps := 4000000) only [vm, vl, Arg.get, cells, stor, boundO, resultsV, resV, partK, loadV, Vm.part, fillC, splice, reduceIte, reduceCtorEq, Nat.reduceEqDiff, Nat.reduceAdd, Nat.reduceSub, Nat.reduceMul, Nat.reduceLeDiff, ne_eq, not_false_eq_true, Int.reduceEq, Int.reduceLT, Int.reduceLE, Int.reduceNeg, Int.reduceToNat, Int.reduceGT, Int.reduceGE, Nat.reduceLT, Nat.lt_add_one, Nat.zero_lt_succ, Nat.succ_pos, Nat.zero_le, beq_self_eq_true, hb']
  exact hk
theorem flag5_ok {c : Ct} {p : Nat} {K : V → Heap → Prop} (hb : h[p]? = some (.box (ctV c))) (hk : K (.tup []) (h.set p (.box (ctV (setF c 5))))) : Cf F L i_control_rules_8 [.ptr p 0] h K := by
  have hb' := hb
  unfold ctV at hb'
  refine run_control_rules_8 ?_
  simp only [p_control_rules_8]
  simp (maxSteps := 4000000) only [vm, vl, Arg.get, cells, stor, boundO, resultsV, resV, partK, loadV, Vm.part, fillC, splice, reduceIte, reduceCtorEq, Nat.reduceEqDiff, Nat.reduceAdd, Nat.reduceSub, Nat.reduceMul, Nat.reduceLeDiff, ne_eq, not_false_eq_true, Int.reduceEq, Int.reduceLT, Int.reduceLE, Int.reduceNeg, Int.reduceToNat, Int.reduceGT, Int.reduceGE, Nat.reduceLT, Nat.lt_add_one, Nat.zero_lt_succ, Nat.succ_pos, Nat.zero_le, beq_self_eq_true, hb']
  exact hk
theorem flag6_ok {c : Ct} {p : Nat} {K : V → Heap → Prop} (hb : h[p]? = some (.box (ctV c))) (hk : K (.tup []) (h.set p (.box (ctV (setF c 6))))) : Cf F L i_control_rules_9 [.ptr p 0] h K := by
  have hb' := hb
  unfold ctV at hb'
  refine run_control_rules_9 ?_
  simp only [p_control_rules_9]
  simp (maxSteps := 4000000) only [vm, vl, Arg.get, cells, stor, boundO, resultsV, resV, partK, loadV, Vm.part, fillC, splice, reduceIte, reduceCtorEq, Nat.reduceEqDiff, Nat.reduceAdd, Nat.reduceSub, Nat.reduceMul, Nat.reduceLeDiff, ne_eq, not_false_eq_true, Int.reduceEq, Int.reduceLT, Int.reduceLE, Int.reduceNeg, Int.reduceToNat, Int.reduceGT, Int.reduceGE, Nat.reduceLT, Nat.lt_add_one, Nat.zero_lt_succ, Nat.succ_pos, Nat.zero_le, beq_self_eq_true, hb']
  exact hk
theorem num0_ok {p : Nat} : Cf F L i_control_rules_10 [.ptr p 0] h (fun v h' => v = .ptr p 7 ∧ h' = h) := by
  refine run_control_rules_10 ?_
  simp only [p_control_rules_10]
  simp (maxSteps := 4000000) only [vm, vl, Arg.get, cells, stor, boundO, resultsV, resV, partK, loadV, Vm.part, fillC, splice, reduceIte, reduceCtorEq, Nat.reduceEqDiff, Nat.reduceAdd, Nat.reduceSub, Nat.reduceMul, Nat.reduceLeDiff, ne_eq, not_false_eq_true, Int.reduceEq, Int.reduceLT, Int.reduceLE, Int.reduceNeg, Int.reduceToNat, Int.reduceGT, Int.reduceGE, Nat.reduceLT, Nat.lt_add_one, Nat.zero_lt_succ, Nat.succ_pos, Nat.zero_le, beq_self_eq_true]
theorem num1_ok {p : Nat} : Cf F L i_control_rules_11 [.ptr p 0] h (fun v h' => v = .ptr p 8 ∧ h' = h) := by
  refine run_control_rules_11 ?_
  simp only [p_control_rules_11]
  simp (maxSteps := 4000000) only [vm, vl, Arg.get, cells, stor, boundO, resultsV, resV, partK, loadV, Vm.part, fillC, splice, reduceIte, reduceCtorEq, Nat.reduceEqDiff, Nat.reduceAdd, Nat.reduceSub, Nat.reduceMul, Nat.reduceLeDiff, ne_eq, not_false_eq_true, Int.reduceEq, Int.reduceLT, Int.reduceLE, Int.reduceNeg, Int.reduceToNat, Int.reduceGT, Int.reduceGE, Nat.reduceLT, Nat.lt_add_one, Nat.zero_lt_succ, Nat.succ_pos, Nat.zero_le, beq_self_eq_true]
theorem num2_ok {p : Nat} : Cf F L i_control_rules_12 [.ptr p 0] h (fun v h' => v = .ptr p 9 ∧ h' = h) := by
  refine run_control_rules_12 ?_
  simp only [p_control_rules_12]
  simp (maxSteps := 4000000) only [vm, vl, Arg.get, cells, stor, boundO, resultsV, resV, partK, loadV, Vm.part, fillC, splice, reduceIte, reduceCtorEq, Nat.reduceEqDiff, Nat.reduceAdd, Nat.reduceSub, Nat.reduceMul, Nat.reduceLeDiff, ne_eq, not_false_eq_true, Int.reduceEq, Int.reduceLT, Int.reduceLE, Int.reduceNeg, Int.reduceToNat, Int.reduceGT, Int.reduceGE, Nat.reduceLT, Nat.lt_add_one, Nat.zero_lt_succ, Nat.succ_pos, Nat.zero_le, beq_self_eq_true]
theorem num3_ok {p : Nat} : Cf F L i_control_rules_13 [.ptr p 0] h (fun v h' => v = .ptr p 10 ∧ h' = h) := by
  refine run_control_rules_13 ?_
  simp only [p_control_rules_13]
  simp (maxSteps := 4000000) only [vm, vl, Arg.get, cells, stor, boundO, resultsV, resV, partK, loadV, Vm.part, fillC, splice, reduceIte, reduceCtorEq, Nat.reduceEqDiff, Nat.reduceAdd, Nat.reduceSub, Nat.reduceMul, Nat.reduceLeDiff, ne_eq, not_false_eq_true, Int.reduceEq, Int.reduceLT, Int.reduceLE, Int.reduceNeg, Int.reduceToNat, Int.reduceGT, Int.reduceGE, Nat.reduceLT, Nat.lt_add_one, Nat.zero_lt_succ, Nat.succ_pos, Nat.zero_le, beq_self_eq_true]
theorem num4_ok {p : Nat} : Cf F L i_control_rules_14 [.ptr p 0] h (fun v h' => v = .ptr p 11 ∧ h' = h) := by
  refine run_control_rules_14 ?_
  simp only [p_control_rules_14]
  simp (maxSteps := 4000000) only [vm, vl, Arg.get, cells, stor, boundO, resultsV, resV, partK, loadV, Vm.part, fillC, splice, reduceIte, reduceCtorEq, Nat.reduceEqDiff, Nat.reduceAdd, Nat.reduceSub, Nat.reduceMul, Nat.reduceLeDiff, ne_eq, not_false_eq_true, Int.reduceEq, Int.reduceLT, Int.reduceLE, Int.reduceNeg, Int.reduceToNat, Int.reduceGT, Int.reduceGE, Nat.reduceLT, Nat.lt_add_one, Nat.zero_lt_succ, Nat.succ_pos, Nat.zero_le, beq_self_eq_true]
theorem num5_ok {p : Nat} : Cf F L i_control_rules_15 [.ptr p 0] h (fun v h' => v = .ptr p 12 ∧ h' = h) := by
  refine run_control_rules_15 ?_
  simp only [p_control_rules_15]
  simp (maxSteps := 4000000) only [vm, vl, Arg.get, cells, stor, boundO, resultsV, resV, partK, loadV, Vm.part, fillC, splice, reduceIte, reduceCtorEq, Nat.reduceEqDiff, Nat.reduceAdd, Nat.reduceSub, Nat.reduceMul, Nat.reduceLeDiff, ne_eq, not_false_eq_true, Int.reduceEq, Int.reduceLT, Int.reduceLE, Int.reduceNeg, Int.reduceToNat, Int.reduceGT, Int.reduceGE, Nat.reduceLT, Nat.lt_add_one, Nat.zero_lt_succ, Nat.succ_pos, Nat.zero_le, beq_self_eq_true]
theorem flag_ok {c : Ct} {p i : Nat} {K : V → Heap → Prop} (hi : i < 7) (hb : h[p]? = some (.box (ctV c))) (hk : K (.tup []) (h.set p (.box (ctV (setF c i))))) : Cf F L (flagF.getD i 0) [.ptr p 0] h K := by
  match i, hi with
  | 0, _ => exact flag0_ok hb hk
  | 1, _ => exact flag1_ok hb hk
  | 2, _ => exact flag2_ok hb hk
  | 3, _ => exact flag3_ok hb hk
  | 4, _ => exact flag4_ok hb hk
  | 5, _ => exact flag5_ok hb hk
  | 6, _ => exact flag6_ok hb hk
theorem num_ok {p j : Nat} (hj : j < 6) : Cf F L (numF.getD j 0) [.ptr p 0] h (fun v h' => v = .ptr p (7 + j) ∧ h' = h) := by
  match j, hj with
  | 0, _ => exact num0_ok
  | 1, _ => exact num1_ok
  | 2, _ => exact num2_ok
  | 3, _ => exact num3_ok
  | 4, _ => exact num4_ok
  | 5, _ => exact num5_ok
theorem put_rule1 {es es' : List (V × V)} {name : Bs} {f : FuncId} {K : V → Heap → Prop} (he : mapsetE .s (.str name) (.agg [.fn f [], .nfn, .int .i64 0, .int .i64 0]) es = some es')
    (hk : K (.tup []) (h ++ [.map es', .box [.map h.length]])) : Cf F L i_control_rules_1 [.str name, .fn f [], .ptr (h.length + 1) 0] (h ++ [.map es, .box [.map h.length]]) K := by
  refine run_control_rules_1 ?_
  simp only [p_control_rules_1]
  simp (maxSteps := 4000000) only [vm, vl, Arg.get, cells, stor, boundO, resultsV, resV, partK, loadV, Vm.part, fillC, splice, reduceIte, reduceCtorEq, Nat.reduceEqDiff, Nat.reduceAdd, Nat.reduceSub, Nat.reduceMul, Nat.reduceLeDiff, ne_eq, not_false_eq_true, Int.reduceEq, Int.reduceLT, Int.reduceLE, Int.reduceNeg, Int.reduceToNat, Int.reduceGT, Int.reduceGE, Nat.reduceLT, Nat.lt_add_one, Nat.zero_lt_succ, Nat.succ_pos, Nat.zero_le, beq_self_eq_true, he]
  exact hk
theorem put_rule2 {es es' : List (V × V)} {name : Bs} {f : FuncId} {m b : Int} {K : V → Heap → Prop} (he : mapsetE .s (.str name) (.agg [.nfn, .fn f [], .int .i64 m, .int .i64 b]) es = some es')
    (hk : K (.tup []) (h ++ [.map es', .box [.map h.length]])) : Cf F L i_control_rules_2 [.str name, .int .i64 m, .int .i64 b, .fn f [], .ptr (h.length + 1) 0] (h ++ [.map es, .box [.map h.length]]) K := by
  refine run_control_rules_2 ?_
  simp only [p_control_rules_2]
  simp (maxSteps := 4000000) only [vm, vl, Arg.get, cells, stor, boundO, resultsV, resV, partK, loadV, Vm.part, fillC, splice, reduceIte, reduceCtorEq, Nat.reduceEqDiff, Nat.reduceAdd, Nat.reduceSub, Nat.reduceMul, Nat.reduceLeDiff, ne_eq, not_false_eq_true, Int.reduceEq, Int.reduceLT, Int.reduceLE, Int.reduceNeg, Int.reduceToNat, Int.reduceGT, Int.reduceGE, Nat.reduceLT, Nat.lt_add_one, Nat.zero_lt_succ, Nat.succ_pos, Nat.zero_le, beq_self_eq_true, he]
  exact hk
theorem rules_ok : Cf F L i_control_rules [] h (fun v h' => v = .map h.length ∧ h' = h ++ [.map ruleE, .box [.map h.length]]) := by
  refine run_control_rules ?_
  simp only [p_control_rules]
  simp (maxSteps := 4000000) only [vm, vl, Arg.get, cells, stor, boundO, resultsV, resV, partK, loadV, Vm.part, fillC, splice, reduceIte, reduceCtorEq, Nat.reduceEqDiff, Nat.reduceAdd, Nat.reduceSub, Nat.reduceMul, Nat.reduceLeDiff, ne_eq, not_false_eq_true, Int.reduceEq, Int.reduceLT, Int.reduceLE, Int.reduceNeg, Int.reduceToNat, Int.reduceGT, Int.reduceGE, Nat.reduceLT, Nat.lt_add_one, Nat.zero_lt_succ, Nat.succ_pos, Nat.zero_le, beq_self_eq_true]
  refine put_rule1 (es' := ruleE.take 1) rfl ?_
  try simp (maxSteps := 4000000) only [vm, vl, Arg.get, cells, stor, boundO, resultsV, resV, partK, loadV, Vm.part, fillC, splice, reduceIte, reduceCtorEq, Nat.reduceEqDiff, Nat.reduceAdd, Nat.reduceSub, Nat.reduceMul, Nat.reduceLeDiff, ne_eq, not_false_eq_true, Int.reduceEq, Int.reduceLT, Int.reduceLE, Int.reduceNeg, Int.reduceToNat, Int.reduceGT, Int.reduceGE, Nat.reduceLT, Nat.lt_add_one, Nat.zero_lt_succ, Nat.succ_pos, Nat.zero_le, beq_self_eq_true]
  refine put_rule1 (es' := ruleE.take 2) rfl ?_
  try simp (maxSteps := 4000000) only [vm, vl, Arg.get, cells, stor, boundO, resultsV, resV, partK, loadV, Vm.part, fillC, splice, reduceIte, reduceCtorEq, Nat.reduceEqDiff, Nat.reduceAdd, Nat.reduceSub, Nat.reduceMul, Nat.reduceLeDiff, ne_eq, not_false_eq_true, Int.reduceEq, Int.reduceLT, Int.reduceLE, Int.reduceNeg, Int.reduceToNat, Int.reduceGT, Int.reduceGE, Nat.reduceLT, Nat.lt_add_one, Nat.zero_lt_succ, Nat.succ_pos, Nat.zero_le, beq_self_eq_true]
  refine put_rule1 (es' := ruleE.take 3) rfl ?_
  try simp (maxSteps := 4000000) only [vm, vl, Arg.get, cells, stor, boundO, resultsV, resV, partK, loadV, Vm.part, fillC, splice, reduceIte, reduceCtorEq, Nat.reduceEqDiff, Nat.reduceAdd, Nat.reduceSub, Nat.reduceMul, Nat.reduceLeDiff, ne_eq, not_false_eq_true, Int.reduceEq, Int.reduceLT, Int.reduceLE, Int.reduceNeg, Int.reduceToNat, Int.reduceGT, Int.reduceGE, Nat.reduceLT, Nat.lt_add_one, Nat.zero_lt_succ, Nat.succ_pos, Nat.zero_le, beq_self_eq_true]
  refine put_rule1 (es' := ruleE.take 4) rfl ?_
  try simp (maxSteps := 4000000) only [vm, vl, Arg.get, cells, stor, boundO, resultsV, resV, partK, loadV, Vm.part, fillC, splice, reduceIte, reduceCtorEq, Nat.reduceEqDiff, Nat.reduceAdd, Nat.reduceSub, Nat.reduceMul, Nat.reduceLeDiff, ne_eq, not_false_eq_true, Int.reduceEq, Int.reduceLT, Int.reduceLE, Int.reduceNeg, Int.reduceToNat, Int.reduceGT, Int.reduceGE, Nat.reduceLT, Nat.lt_add_one, Nat.zero_lt_succ, Nat.succ_pos, Nat.zero_le, beq_self_eq_true]
  refine put_rule1 (es' := ruleE.take 5) rfl ?_
  try simp (maxSteps := 4000000) only [vm, vl, Arg.get, cells, stor, boundO, resultsV, resV, partK, loadV, Vm.part, fillC, splice, reduceIte, reduceCtorEq, Nat.reduceEqDiff, Nat.reduceAdd, Nat.reduceSub, Nat.reduceMul, Nat.reduceLeDiff, ne_eq, not_false_eq_true, Int.reduceEq, Int.reduceLT, Int.reduceLE, Int.reduceNeg, Int.reduceToNat, Int.reduceGT, Int.reduceGE, Nat.reduceLT, Nat.lt_add_one, Nat.zero_lt_succ, Nat.succ_pos, Nat.zero_le, beq_self_eq_true]
  refine put_rule1 (es' := ruleE.take 6) rfl ?_
  try simp (maxSteps := 4000000) only [vm, vl, Arg.get, cells, stor, boundO, resultsV, resV, partK, loadV, Vm.part, fillC, splice, reduceIte, reduceCtorEq, Nat.reduceEqDiff, Nat.reduceAdd, Nat.reduceSub, Nat.reduceMul, Nat.reduceLeDiff, ne_eq, not_false_eq_true, Int.reduceEq, Int.reduceLT, Int.reduceLE, Int.reduceNeg, Int.reduceToNat, Int.reduceGT, Int.reduceGE, Nat.reduceLT, Nat.lt_add_one, Nat.zero_lt_succ, Nat.succ_pos, Nat.zero_le, beq_self_eq_true]
  refine put_rule1 (es' := ruleE.take 7) rfl ?_
  try simp (maxSteps := 4000000) only [vm, vl, Arg.get, cells, stor, boundO, resultsV, resV, partK, loadV, Vm.part, fillC, splice, reduceIte, reduceCtorEq, Nat.reduceEqDiff, Nat.reduceAdd, Nat.reduceSub, Nat.reduceMul, Nat.reduceLeDiff, ne_eq, not_false_eq_true, Int.reduceEq, Int.reduceLT, Int.reduceLE, Int.reduceNeg, Int.reduceToNat, Int.reduceGT, Int.reduceGE, Nat.reduceLT, Nat.lt_add_one, Nat.zero_lt_succ, Nat.succ_pos, Nat.zero_le, beq_self_eq_true]
  refine put_rule2 (es' := ruleE.take 8) rfl ?_
  try simp (maxSteps := 4000000) only [vm, vl, Arg.get, cells, stor, boundO, resultsV, resV, partK, loadV, Vm.part, fillC, splice, reduceIte, reduceCtorEq, Nat.reduceEqDiff, Nat.reduceAdd, Nat.reduceSub, Nat.reduceMul, Nat.reduceLeDiff, ne_eq, not_false_eq_true, Int.reduceEq, Int.reduceLT, Int.reduceLE, Int.reduceNeg, Int.reduceToNat, Int.reduceGT, Int.reduceGE, Nat.reduceLT, Nat.lt_add_one, Nat.zero_lt_succ, Nat.succ_pos, Nat.zero_le, beq_self_eq_true]
  refine put_rule2 (es' := ruleE.take 9) rfl ?_
  try simp (maxSteps := 4000000) only [vm, vl, Arg.get, cells, stor, boundO, resultsV, resV, partK, loadV, Vm.part, fillC, splice, reduceIte, reduceCtorEq, Nat.reduceEqDiff, Nat.reduceAdd, Nat.reduceSub, Nat.reduceMul, Nat.reduceLeDiff, ne_eq, not_false_eq_true, Int.reduceEq, Int.reduceLT, Int.reduceLE, Int.reduceNeg, Int.reduceToNat, Int.reduceGT, Int.reduceGE, Nat.reduceLT, Nat.lt_add_one, Nat.zero_lt_succ, Nat.succ_pos, Nat.zero_le, beq_self_eq_true]
  refine put_rule2 (es' := ruleE.take 10) rfl ?_
  try simp (maxSteps := 4000000) only [vm, vl, Arg.get, cells, stor, boundO, resultsV, resV, partK, loadV, Vm.part, fillC, splice, reduceIte, reduceCtorEq, Nat.reduceEqDiff, Nat.reduceAdd, Nat.reduceSub, Nat.reduceMul, Nat.reduceLeDiff, ne_eq, not_false_eq_true, Int.reduceEq, Int.reduceLT, Int.reduceLE, Int.reduceNeg, Int.reduceToNat, Int.reduceGT, Int.reduceGE, Nat.reduceLT, Nat.lt_add_one, Nat.zero_lt_succ, Nat.succ_pos, Nat.zero_le, beq_self_eq_true]
  refine put_rule2 (es' := ruleE.take 11) rfl ?_
  try simp (maxSteps := 4000000) only [vm, vl, Arg.get, cells, stor, boundO, resultsV, resV, partK, loadV, Vm.part, fillC, splice, reduceIte, reduceCtorEq, Nat.reduceEqDiff, Nat.reduceAdd, Nat.reduceSub, Nat.reduceMul, Nat.reduceLeDiff, ne_eq, not_false_eq_true, Int.reduceEq, Int.reduceLT, Int.reduceLE, Int.reduceNeg, Int.reduceToNat, Int.reduceGT, Int.reduceGE, Nat.reduceLT, Nat.lt_add_one, Nat.zero_lt_succ, Nat.succ_pos, Nat.zero_le, beq_self_eq_true]
  refine put_rule2 (es' := ruleE.take 12) rfl ?_
  try simp (maxSteps := 4000000) only [vm, vl, Arg.get, cells, stor, boundO, resultsV, resV, partK, loadV, Vm.part, fillC, splice, reduceIte, reduceCtorEq, Nat.reduceEqDiff, Nat.reduceAdd, Nat.reduceSub, Nat.reduceMul, Nat.reduceLeDiff, ne_eq, not_false_eq_true, Int.reduceEq, Int.reduceLT, Int.reduceLE, Int.reduceNeg, Int.reduceToNat, Int.reduceGT, Int.reduceGE, Nat.reduceLT, Nat.lt_add_one, Nat.zero_lt_succ, Nat.succ_pos, Nat.zero_le, beq_self_eq_true]
  refine put_rule2 (es' := ruleE.take 13) rfl ?_
  try simp (maxSteps := 4000000) only [vm, vl, Arg.get, cells, stor, boundO, resultsV, resV, partK, loadV, Vm.part, fillC, splice, reduceIte, reduceCtorEq, Nat.reduceEqDiff, Nat.reduceAdd, Nat.reduceSub, Nat.reduceMul, Nat.reduceLeDiff, ne_eq, not_false_eq_true, Int.reduceEq, Int.reduceLT, Int.reduceLE, Int.reduceNeg, Int.reduceToNat, Int.reduceGT, Int.reduceGE, Nat.reduceLT, Nat.lt_add_one, Nat.zero_lt_succ, Nat.succ_pos, Nat.zero_le, beq_self_eq_true]
  rfl
end Go.Proofs.YtaahialaegfjgaaGreatDoor.Vh
end
section
set_option linter.unusedVariables false
set_option linter.unusedSimpArgs false
namespace Go.Proofs.YtaahialaegfjgaaGreatDoor.Vh
open Go.Vm Go.Vt
theorem trimL_len (s : Bs) : (trimL s).length ≤ s.length := (List.dropWhile_sublist _).length_le
theorem trimR_len : ∀ s : Bs, (trimR s).length ≤ s.length
  | [] => by simp [trimR]
  | c :: r => by
    have := trimR_len r
    unfold trimR
    split
    · split
      · simp
      · simp
    · rename_i h
      simp only [List.length_cons]; omega
theorem trim_len (s : Bs) : (trim s).length ≤ s.length := Nat.le_trans (trimL_len _) (trimR_len _)
theorem flush_mem {out : List Bs} {own x : Bs} (h : x ∈ flush out own) : x ∈ out ∨ x.length ≤ own.length := by
  unfold flush at h
  split at h
  · exact .inl h
  · rcases List.mem_append.1 h with h | h
    · exact .inl h
    · right; rw [List.mem_singleton.1 h]; exact trim_len _
theorem splitG_mem : ∀ {n : Nat} {s own : Bs} {q : Bool} {out l : List Bs}, s.length ≤ n → splitG s own q out = some l → ∀ x ∈ l, x ∈ out ∨ x.length ≤ own.length + s.length
  | n, [], own, q, out, l, hn, h, x, hx => by
    have e : splitG [] own q out = if q then none else some (flush out own) := rfl
    rw [e] at h
    split at h
    · cases h
    · injection h with h; subst h
      exact (flush_mem hx).imp_right fun h => by simpa using h
  | 0, c :: r, own, q, out, l, hn, h, x, hx => by simp at hn
  | n + 1, c :: r, own, q, out, l, hn, h, x, hx => by
    simp at hn
    rw [splitG_step] at h
    split at h
    · refine (splitG_mem hn h x hx).imp_right fun this => ?_; simp only [List.length_append, List.length_cons, List.length_nil] at this ⊢; omega
    split at h
    · cases r with
      | nil => cases h
      | cons d r =>
        refine (splitG_mem (n := n) (by simp at hn; omega) h x hx).imp_right fun this => ?_; simp only [List.length_append, List.length_cons, List.length_nil] at this ⊢; omega
    split at h
    · rcases splitG_mem hn h x hx with h1 | h1
      · refine (flush_mem h1).imp_right fun this => ?_; simp only [List.length_cons]; omega
      · right; simp only [List.length_cons, List.length_nil] at h1 ⊢; omega
    · refine (splitG_mem hn h x hx).imp_right fun this => ?_; simp only [List.length_append, List.length_cons, List.length_nil] at this ⊢; omega
theorem split_mem {s : Bs} {l : List Bs} (h : split s = some l) : ∀ x ∈ l, x.length ≤ s.length := by
  intro x hx
  have := splitG_mem (Nat.le_refl _) h x hx
  simpa using this
theorem list_at' {α : Type} {l : List α} {i : Nat} (d : α) (hi : i ≤ l.length) : (¬ (i : Int) < l.length ∧ i = l.length ∧ l.drop i = []) ∨ ((i : Int) < l.length ∧ i < l.length ∧ l.drop i = l.getD i d :: l.drop (i + 1) ∧ l.take (i + 1) = l.take i ++ [l.getD i d]) := by
  rcases Nat.lt_or_eq_of_le hi with h | h
  · right
    have e : l.getD i d = l[i] := by rw [List.getD_eq_getElem?_getD, List.getElem?_eq_getElem h]; rfl
    exact ⟨by omega, h, by rw [e]; exact List.drop_eq_getElem_cons h, by rw [e, List.take_add_one, List.getElem?_eq_getElem h]; rfl⟩
  · exact .inl ⟨by omega, h, by rw [h]; simp⟩
theorem splitG_len : ∀ {n : Nat} {s own : Bs} {q : Bool} {out l : List Bs}, s.length ≤ n → splitG s own q out = some l → l.length ≤ out.length + s.length + 1
  | 0, s, own, q, out, l, hn, h => by
    obtain rfl : s = [] := List.eq_nil_of_length_eq_zero (by omega)
    rw [splitG_none rfl] at h
    split at h
    · cases h
    · injection h with h; subst h
      have := flush_len out own; simp; omega
  | n + 1, [], own, q, out, l, hn, h => splitG_len (n := n) (by simp) h
  | n + 1, c :: r, own, q, out, l, hn, h => by
    simp at hn
    rw [splitG_step] at h
    split at h
    · have := splitG_len hn h; simp; omega
    split at h
    · cases r with
      | nil => cases h
      | cons d r =>
        have := splitG_len (n := n) (by simp at hn; omega) h; simp; omega
    split at h
    · have := splitG_len hn h
      have := flush_len out own; simp; omega
    · have := splitG_len hn h; simp; omega
end Go.Proofs.YtaahialaegfjgaaGreatDoor.Vh
end
section
set_option linter.unusedVariables false
set_option linter.unusedSimpArgs false
namespace Go.Proofs.YtaahialaegfjgaaGreatDoor.Vh
open Go.Vm Go.Vt
attribute [local congr] wi_congr wg_congr wgd_congr wb_congr wl_congr cf_congr
variable {L : FuncId → List V → V → Prop} {h : Heap}
theorem ruleT_spec (nm : Bs) : ruleOf nm = .no ∨ (∃ i, i < 7 ∧ ruleOf nm = .flag i) ∨ ∃ j m b, j < 6 ∧ ruleOf nm = .num j m b := by
  unfold ruleOf ruleT
  simp only [List.lookup]
  repeat' split
  all_goals simp
theorem ctV_len (c : Ct) : (ctV c).length = 13 := rfl
theorem ctV_num {c : Ct} {j : Nat} (hj : j < 6) : (ctV c).getD (7 + j) (.tup []) = .int .i64 (c.n j) := by
  match j, hj with
  | 0, _ => rfl
  | 1, _ => rfl
  | 2, _ => rfl
  | 3, _ => rfl
  | 4, _ => rfl
  | 5, _ => rfl
theorem ctV_put {c : Ct} {j : Nat} {v : Int} (hj : j < 6) : List.take (7 + j) (ctV c) ++ V.int .i64 v :: List.drop (7 + (j + 1)) (ctV c) = ctV (setN c j v) := by
  match j, hj with
  | 0, _ => rfl
  | 1, _ => rfl
  | 2, _ => rfl
  | 3, _ => rfl
  | 4, _ => rfl
  | 5, _ => rfl
theorem unqT_len : ∀ (n : Nat) (s bs : Bs), s.length ≤ n → (unqT s bs).1.length ≤ bs.length + s.length
  | _, [], bs, _ => by rw [unqT_end]; simp
  | 0, c :: r, bs, hn => by simp at hn
  | n + 1, c :: t, bs, hn => by
    simp at hn
    by_cases c34 : c = 34
    · subst c34
      rw [unqT_stop]; simp
    · by_cases c92 : c = 92
      · subst c92
        cases t with
        | nil => rw [unqT_esc0]; simp
        | cons d t =>
          rw [unqT_esc]
          simp at hn
          split
          · have := unqT_len n t (bs ++ [d]) (by omega)
            simp at this ⊢; omega
          · simp
      · rw [unqT_one c34 c92]
        split
        · have := unqT_len n t (bs ++ [c]) hn
          simp at this ⊢; omega
        · simp
theorem unqP_len (s : Bs) : (unqP s).1.length ≤ s.length := by
  unfold unqP
  split
  · have := unqT_len _ (s.drop 1) [] (Nat.le_refl _)
    rw [List.length_drop, List.length_nil] at this
    omega
  · simp
theorem pairS_len1 (s : Bs) : (pairS s).1.length ≤ s.length := by
  unfold pairS
  simp only
  split
  · split
    · split
      · rw [List.length_take]; omega
      · split
        · rw [List.length_take]; omega
        · simp
    · rw [List.length_take]; omega
  · simp
theorem pairS_len2 (s : Bs) : (pairS s).2.1.length ≤ s.length := by
  have h1 : (s.drop (pos 61 s + 1)).length ≤ s.length := by rw [List.length_drop]; omega
  have h2 := unqP_len (s.drop (pos 61 s + 1))
  unfold pairS
  simp only
  split
  · split
    · split
      · exact h1
      · split
        · exact Nat.le_trans h2 h1
        · simp
    · exact h1
  · simp
theorem find_case (nm : Bs) : ∃ r, findE .s (.str nm) ruleE 0 = some r ∧ ((r = none ∧ ruleOf nm = .no) ∨ ∃ i, r = some (i, ruleV (ruleOf nm))) := by
  obtain ⟨r, h1, h2⟩ := find_rule nm ruleT 0
  refine ⟨r, h1, ?_⟩
  unfold ruleOf
  cases hl : ruleT.lookup nm with
  | none => rw [hl] at h2; exact .inl ⟨h2, rfl⟩
  | some a => rw [hl] at h2; exact .inr h2
def ParI (h : Heap) (l : List Bs) (x : V) (n : Nat) (e : Env) (h' : Heap) : Prop :=
  ∃ (i : Nat) (c : Ct) (km : Nat) (R A : O) (t : Heap), n = l.length - i ∧ i ≤ l.length ∧ e 2 = .ptr h.length 0 ∧ e 4 = .ptr (h.length + 2) 0 ∧ e 7 = .map (h.length + (km + 3)) ∧ e 29 = x ∧ e 30 = .int .i64 l.length ∧ e 31 = .int .i64 i ∧
    (∃ cs, R = .box cs ∧ cs.length = 13) ∧ h' = h ++ (R :: A :: .box (ctV c) :: t) ∧ t[km]? = some (.map ruleE) ∧ l.foldl stepC ct0 = (l.drop i).foldl stepC c
theorem Parse_round {l : List Bs} {x : V} (HI : IndexOk L) (HU : UnqOk L) (hx : ListV 1 x (strs l)) (hl : l.length < 100000000) (hb : ∀ s ∈ l, s.length < 100000000) {n : Nat} {e : Env} {h' : Heap} (hI : ParI h l x n e h') :
    b_control_Parse_0 L (Pu h (parseCV (l.foldl stepC ct0, true))) (fun e' h' => ∃ m, m < n ∧ ParI h l x m e' h') e h' := by
  obtain ⟨i, c, km, R, A, t, rfl, hi, e2, e4, e7, e29, e30, e31, ⟨cs, rfl, hcs⟩, rfl, hk, hf⟩ := hI
  simp only [b_control_Parse_0]
  
  rcases list_at' [] hi with ⟨hn, rfl, hd⟩ | ⟨hl1, hl2, hd, _⟩
  · rw [hd] at hf
    have hcs1 : List.drop 13 cs = [] := List.drop_eq_nil_of_le (by omega)
    have hc13 := ctV_len c
    have ht13 : List.take 13 (ctV c) = ctV c := rfl
    simp (maxSteps := 4000000) only [vm, vl, Arg.get, cells, stor, boundO, resultsV, resV, partK, loadV, Vm.part, fillC, splice, reduceIte, reduceCtorEq, Nat.reduceEqDiff, Nat.reduceAdd, Nat.reduceSub, Nat.reduceMul, Nat.reduceLeDiff, ne_eq, not_false_eq_true, Int.reduceEq, Int.reduceLT, Int.reduceLE, Int.reduceNeg, Int.reduceToNat, Int.reduceGT, Int.reduceGE, Nat.reduceLT, Nat.lt_add_one, Nat.zero_lt_succ, Nat.succ_pos, Nat.zero_le, beq_self_eq_true, e2, e4, e30, e31, hn]
    unfold k_control_Parse_1
    simp (maxSteps := 4000000) only [vm, vl, Arg.get, cells, stor, boundO, resultsV, resV, partK, loadV, Vm.part, fillC, splice, reduceIte, reduceCtorEq, Nat.reduceEqDiff, Nat.reduceAdd, Nat.reduceSub, Nat.reduceMul, Nat.reduceLeDiff, ne_eq, not_false_eq_true, Int.reduceEq, Int.reduceLT, Int.reduceLE, Int.reduceNeg, Int.reduceToNat, Int.reduceGT, Int.reduceGE, Nat.reduceLT, Nat.lt_add_one, Nat.zero_lt_succ, Nat.succ_pos, Nat.zero_le, beq_self_eq_true, hcs, hc13, ht13, hcs1, List.append_nil]
    rw [hf]; rfl
  · obtain ⟨o, rfl⟩ : ∃ o, x = .sl 1 o (strs l) := by
      rcases hx with ⟨he, _⟩ | h
      · have := strs_len l
        rw [he] at this
        simp at this
        omega
      · exact h
    have hsl : i < (strs l).length := by rw [strs_len]; exact hl2
    have hi0 : (0 : Int) ≤ (i : Int) := by omega
    have g : (strs l).getD i (.tup []) = .str (l.getD i []) := by
      unfold strs
      rw [List.getD_eq_getElem?_getD, List.getD_eq_getElem?_getD, List.getElem?_map, List.getElem?_eq_getElem hl2]; rfl
    have hyb : (l.getD i []).length < 100000000 := by
      rw [List.getD_eq_getElem?_getD, List.getElem?_eq_getElem hl2]; exact hb _ (List.getElem_mem hl2)
    rw [hd, List.foldl_cons] at hf
    generalize l.getD i [] = y at *
    have w := wrap64 (x := (i : Int) + 1) (by omega) (by omega)
    have hplen : (pairS y).1.length ≤ y.length := pairS_len1 y
    have hplen2 : (pairS y).2.1.length ≤ y.length := pairS_len2 y
    simp (maxSteps := 4000000) only [vm, vl, Arg.get, cells, stor, boundO, resultsV, resV, partK, loadV, Vm.part, fillC, splice, reduceIte, reduceCtorEq, Nat.reduceEqDiff, Nat.reduceAdd, Nat.reduceSub, Nat.reduceMul, Nat.reduceLeDiff, ne_eq, not_false_eq_true, Int.reduceEq, Int.reduceLT, Int.reduceLE, Int.reduceNeg, Int.reduceToNat, Int.reduceGT, Int.reduceGE, Nat.reduceLT, Nat.lt_add_one, Nat.zero_lt_succ, Nat.succ_pos, Nat.zero_le, beq_self_eq_true, e2, e4, e7, e29, e30, e31, hl1]
    unfold k_control_Parse_2
    simp (maxSteps := 4000000) only [vm, vl, Arg.get, cells, stor, boundO, resultsV, resV, partK, loadV, Vm.part, fillC, splice, reduceIte, reduceCtorEq, Nat.reduceEqDiff, Nat.reduceAdd, Nat.reduceSub, Nat.reduceMul, Nat.reduceLeDiff, ne_eq, not_false_eq_true, Int.reduceEq, Int.reduceLT, Int.reduceLE, Int.reduceNeg, Int.reduceToNat, Int.reduceGT, Int.reduceGE, Nat.reduceLT, Nat.lt_add_one, Nat.zero_lt_succ, Nat.succ_pos, Nat.zero_le, beq_self_eq_true, hsl, hi0, g]
    refine Cf.pu (Pair_ok HI HU (by omega)) fun u1 => ?_
    unfold k_control_Parse_6
    simp (maxSteps := 4000000) only [vm, vl, Arg.get, cells, stor, boundO, resultsV, resV, partK, loadV, Vm.part, fillC, splice, reduceIte, reduceCtorEq, Nat.reduceEqDiff, Nat.reduceAdd, Nat.reduceSub, Nat.reduceMul, Nat.reduceLeDiff, ne_eq, not_false_eq_true, Int.reduceEq, Int.reduceLT, Int.reduceLE, Int.reduceNeg, Int.reduceToNat, Int.reduceGT, Int.reduceGE, Nat.reduceLT, Nat.lt_add_one, Nat.zero_lt_succ, Nat.succ_pos, Nat.zero_le, beq_self_eq_true, pairV]
    refine Cf.pu (Lower_ok (by omega)) fun u2 => ?_
    have hmap : (h ++ (O.box cs :: A :: O.box (ctV c) :: (t ++ u1)) ++ u2)[h.length + (km + 3)]? = some (.map ruleE) := by
      refine get_old ?_
      rw [get_new]; exact get_old hk
    obtain ⟨r, hr1, hr2⟩ := find_case (low (pairS y).1)
    simp only [hmap, hr1]
    have main : k_control_Parse_5 L (Pu h (parseCV (List.foldl stepC ct0 l, true)))
        (fun e' h' => ∃ m, m < l.length - i ∧ ParI h l (V.sl 1 o (strs l)) m e' h') (upd e 32 (V.bool true))
        (V.ptr (List.length h + 2) 0) (V.map (List.length h + (km + 3))) (V.int IntKind.i64 ↑i) (V.iptr [V.str y])
        (V.str y)
        (V.tup
          [V.str (pairS y).fst, V.str (pairS y).snd.fst, V.bool (pairS y).snd.snd.fst, V.bool (pairS y).snd.snd.snd])
        (V.str (pairS y).fst) (V.str (pairS y).snd.fst) (V.bool (pairS y).snd.snd.fst) (V.bool (pairS y).snd.snd.snd)
        (V.str (low (pairS y).fst)) (ruleV (ruleOf (low (pairS y).1)))
        (h ++ O.box cs :: A :: O.box (ctV c) :: (t ++ u1) ++ u2) := by
      have hfin : ∀ (c' : Ct) (e' : Env) (t' : Heap), (∃ u, t' = t ++ u) → stepC c y = c' → e' 2 = .ptr h.length 0 → e' 4 = .ptr (h.length + 2) 0 → e' 7 = .map (h.length + (km + 3)) → e' 29 = V.sl 1 o (strs l) → e' 30 = .int .i64 l.length → e' 31 = .int .i64 ((i : Int) + 1) →
          ∃ m, m < l.length - i ∧ ParI h l (V.sl 1 o (strs l)) m e' (h ++ (O.box cs :: A :: O.box (ctV c') :: t')) := by
        rintro c' e' t' ⟨u, rfl⟩ hs f2 f4 f7 f29 f30 f31
        rw [hs] at hf
        exact ⟨l.length - (i + 1), by omega, i + 1, c', km, _, A, t ++ u, rfl, hl2, f2, f4, f7, f29, f30, f31, ⟨cs, rfl, hcs⟩, rfl, get_old hk, hf⟩
      have ha : actS y = match ruleOf (low (pairS y).1) with
        | .no => .nop
        | .flag i => .flag i
        | .num j m b => if valueS (pairS y).2.1 (pairS y).2.2.1 m b = -1 then .nop else .num j (valueS (pairS y).2.1 (pairS y).2.2.1 m b) := rfl
      clear hmap hr1 hr2 hf
      generalize low (pairS y).1 = nm at *
      generalize (pairS y).1 = pn at *
      generalize (pairS y).2.1 = text at *
      generalize (pairS y).2.2.1 = has at *
      generalize (pairS y).2.2.2 = ok at *
      unfold k_control_Parse_5
      rcases ruleT_spec nm with hr | ⟨k, hk7, hr⟩ | ⟨j, m, b, hj, hr⟩
      · rw [hr] at ha ⊢
        have hs : stepC c y = c := by unfold stepC; rw [ha]; rfl
        unfold ruleV
        simp (maxSteps := 4000000) only [vm, vl, Arg.get, cells, stor, boundO, resultsV, resV, partK, loadV, Vm.part, fillC, splice, reduceIte, reduceCtorEq, Nat.reduceEqDiff, Nat.reduceAdd, Nat.reduceSub, Nat.reduceMul, Nat.reduceLeDiff, ne_eq, not_false_eq_true, Int.reduceEq, Int.reduceLT, Int.reduceLE, Int.reduceNeg, Int.reduceToNat, Int.reduceGT, Int.reduceGE, Nat.reduceLT, Nat.lt_add_one, Nat.zero_lt_succ, Nat.succ_pos, Nat.zero_le, beq_self_eq_true, k_control_Parse_3, w]
        exact hfin c _ _ ⟨_, rfl⟩ hs e2 e4 e7 e29 e30 rfl
      · rw [hr] at ha ⊢
        have hs : stepC c y = setF c k := by unfold stepC; rw [ha]; rfl
        unfold ruleV
        simp (maxSteps := 4000000) only [vm, vl, Arg.get, cells, stor, boundO, resultsV, resV, partK, loadV, Vm.part, fillC, splice, reduceIte, reduceCtorEq, Nat.reduceEqDiff, Nat.reduceAdd, Nat.reduceSub, Nat.reduceMul, Nat.reduceLeDiff, ne_eq, not_false_eq_true, Int.reduceEq, Int.reduceLT, Int.reduceLE, Int.reduceNeg, Int.reduceToNat, Int.reduceGT, Int.reduceGE, Nat.reduceLT, Nat.lt_add_one, Nat.zero_lt_succ, Nat.succ_pos, Nat.zero_le, beq_self_eq_true, k_control_Parse_3, w]
        refine flag_ok hk7 (c := c) (by rw [get_new]; rfl) ?_
        simp (maxSteps := 4000000) only [vm, vl, Arg.get, cells, stor, boundO, resultsV, resV, partK, loadV, Vm.part, fillC, splice, reduceIte, reduceCtorEq, Nat.reduceEqDiff, Nat.reduceAdd, Nat.reduceSub, Nat.reduceMul, Nat.reduceLeDiff, ne_eq, not_false_eq_true, Int.reduceEq, Int.reduceLT, Int.reduceLE, Int.reduceNeg, Int.reduceToNat, Int.reduceGT, Int.reduceGE, Nat.reduceLT, Nat.lt_add_one, Nat.zero_lt_succ, Nat.succ_pos, Nat.zero_le, beq_self_eq_true, k_control_Parse_3, w]
        exact hfin (setF c k) _ _ ⟨_, rfl⟩ hs e2 e4 e7 e29 e30 rfl
      · rw [hr] at ha ⊢
        have hc13 := ctV_len c
        have h13 : 7 + (j + 1) ≤ 13 := by omega
        have hnj := ctV_num (c := c) hj
        unfold ruleV
        simp (maxSteps := 4000000) only [vm, vl, Arg.get, cells, stor, boundO, resultsV, resV, partK, loadV, Vm.part, fillC, splice, reduceIte, reduceCtorEq, Nat.reduceEqDiff, Nat.reduceAdd, Nat.reduceSub, Nat.reduceMul, Nat.reduceLeDiff, ne_eq, not_false_eq_true, Int.reduceEq, Int.reduceLT, Int.reduceLE, Int.reduceNeg, Int.reduceToNat, Int.reduceGT, Int.reduceGE, Nat.reduceLT, Nat.lt_add_one, Nat.zero_lt_succ, Nat.succ_pos, Nat.zero_le, beq_self_eq_true, k_control_Parse_3, w]
        refine (num_ok hj).mono fun v h' hv => ?_
        obtain ⟨rfl, rfl⟩ := hv
        simp (maxSteps := 4000000) only [vm, vl, Arg.get, cells, stor, boundO, resultsV, resV, partK, loadV, Vm.part, fillC, splice, reduceIte, reduceCtorEq, Nat.reduceEqDiff, Nat.reduceAdd, Nat.reduceSub, Nat.reduceMul, Nat.reduceLeDiff, ne_eq, not_false_eq_true, Int.reduceEq, Int.reduceLT, Int.reduceLE, Int.reduceNeg, Int.reduceToNat, Int.reduceGT, Int.reduceGE, Nat.reduceLT, Nat.lt_add_one, Nat.zero_lt_succ, Nat.succ_pos, Nat.zero_le, beq_self_eq_true]
        refine Cf.pu (value_ok (by omega)) fun u3 => ?_
        unfold k_control_Parse_4
        have ha' : actS y = if valueS text has m b = -1 then .nop else .num j (valueS text has m b) := ha
        clear ha
        generalize hval : valueS text has m b = vv at *
        by_cases hv : vv = -1
        · have hs : stepC c y = c := by unfold stepC; rw [ha', if_pos hv]; rfl
          simp (maxSteps := 4000000) only [vm, vl, Arg.get, cells, stor, boundO, resultsV, resV, partK, loadV, Vm.part, fillC, splice, reduceIte, reduceCtorEq, Nat.reduceEqDiff, Nat.reduceAdd, Nat.reduceSub, Nat.reduceMul, Nat.reduceLeDiff, ne_eq, not_false_eq_true, Int.reduceEq, Int.reduceLT, Int.reduceLE, Int.reduceNeg, Int.reduceToNat, Int.reduceGT, Int.reduceGE, Nat.reduceLT, Nat.lt_add_one, Nat.zero_lt_succ, Nat.succ_pos, Nat.zero_le, beq_self_eq_true, hv, decide_true, Bool.not_true, k_control_Parse_3, w]
          exact hfin c _ _ ⟨_, rfl⟩ hs e2 e4 e7 e29 e30 rfl
        · rw [if_neg hv] at ha'
          have hs : stepC c y = setN c j (lst (c.n j) vv) := by unfold stepC; rw [ha']; rfl
          have hput := ctV_put (c := c) (j := j) (v := vv) hj
          by_cases h1 : c.n j = -1
          · have hl : lst (c.n j) vv = vv := if_pos (.inl h1)
            rw [hl] at hs
            simp (maxSteps := 4000000) only [vm, vl, Arg.get, cells, stor, boundO, resultsV, resV, partK, loadV, Vm.part, fillC, splice, reduceIte, reduceCtorEq, Nat.reduceEqDiff, Nat.reduceAdd, Nat.reduceSub, Nat.reduceMul, Nat.reduceLeDiff, ne_eq, not_false_eq_true, Int.reduceEq, Int.reduceLT, Int.reduceLE, Int.reduceNeg, Int.reduceToNat, Int.reduceGT, Int.reduceGE, Nat.reduceLT, Nat.lt_add_one, Nat.zero_lt_succ, Nat.succ_pos, Nat.zero_le, beq_self_eq_true, hv, decide_false, Bool.not_false, hc13, h13, hnj, h1, decide_true, hput, k_control_Parse_3, w]
            exact hfin (setN c j vv) _ _ ⟨_, rfl⟩ hs e2 e4 e7 e29 e30 rfl
          · by_cases h2 : vv < c.n j
            · have hl : lst (c.n j) vv = vv := if_pos (.inr h2)
              rw [hl] at hs
              simp (maxSteps := 4000000) only [vm, vl, Arg.get, cells, stor, boundO, resultsV, resV, partK, loadV, Vm.part, fillC, splice, reduceIte, reduceCtorEq, Nat.reduceEqDiff, Nat.reduceAdd, Nat.reduceSub, Nat.reduceMul, Nat.reduceLeDiff, ne_eq, not_false_eq_true, Int.reduceEq, Int.reduceLT, Int.reduceLE, Int.reduceNeg, Int.reduceToNat, Int.reduceGT, Int.reduceGE, Nat.reduceLT, Nat.lt_add_one, Nat.zero_lt_succ, Nat.succ_pos, Nat.zero_le, beq_self_eq_true, hv, decide_false, Bool.not_false, hc13, h13, hnj, h1, h2, decide_true, hput, k_control_Parse_3, w]
              exact hfin (setN c j vv) _ _ ⟨_, rfl⟩ hs e2 e4 e7 e29 e30 rfl
            · have hl : lst (c.n j) vv = c.n j := if_neg (by omega)
              have hss : setN c j (c.n j) = c := by
                unfold setN
                have : (fun k => if k = j then c.n j else c.n k) = c.n := funext fun k => by split <;> simp_all
                rw [this]
              rw [hl, hss] at hs
              simp (maxSteps := 4000000) only [vm, vl, Arg.get, cells, stor, boundO, resultsV, resV, partK, loadV, Vm.part, fillC, splice, reduceIte, reduceCtorEq, Nat.reduceEqDiff, Nat.reduceAdd, Nat.reduceSub, Nat.reduceMul, Nat.reduceLeDiff, ne_eq, not_false_eq_true, Int.reduceEq, Int.reduceLT, Int.reduceLE, Int.reduceNeg, Int.reduceToNat, Int.reduceGT, Int.reduceGE, Nat.reduceLT, Nat.lt_add_one, Nat.zero_lt_succ, Nat.succ_pos, Nat.zero_le, beq_self_eq_true, hv, decide_false, Bool.not_false, hc13, h13, hnj, h1, h2, k_control_Parse_3, w]
              exact hfin c _ _ ⟨_, rfl⟩ hs e2 e4 e7 e29 e30 rfl
    rcases hr2 with ⟨rfl, hr⟩ | ⟨k, rfl⟩
    · rw [hr] at main; exact main
    · exact main
theorem Parse_ok (HI : IndexOk L) (HU : UnqOk L) {s : Bs} (hs : s.length < 1000000) : Cf F L i_control_Parse [.str s] h (Pu h (parseCV (parseC s))) := by
  refine run_control_Parse ?_
  simp only [p_control_Parse]
  
  simp (maxSteps := 4000000) only [vm, vl, Arg.get, cells, stor, boundO, resultsV, resV, partK, loadV, Vm.part, fillC, splice, reduceIte, reduceCtorEq, Nat.reduceEqDiff, Nat.reduceAdd, Nat.reduceSub, Nat.reduceMul, Nat.reduceLeDiff, ne_eq, not_false_eq_true, Int.reduceEq, Int.reduceLT, Int.reduceLE, Int.reduceNeg, Int.reduceToNat, Int.reduceGT, Int.reduceGE, Nat.reduceLT, Nat.lt_add_one, Nat.zero_lt_succ, Nat.succ_pos, Nat.zero_le, beq_self_eq_true]
  refine (nothing_ok).mono fun v h' hv => ?_
  obtain ⟨rfl, rfl⟩ := hv
  have hc13 := ctV_len ct0
  have hd13 : List.drop 13 (ctV ct0) = [] := rfl
  simp (maxSteps := 4000000) only [vm, vl, Arg.get, cells, stor, boundO, resultsV, resV, partK, loadV, Vm.part, fillC, splice, reduceIte, reduceCtorEq, Nat.reduceEqDiff, Nat.reduceAdd, Nat.reduceSub, Nat.reduceMul, Nat.reduceLeDiff, ne_eq, not_false_eq_true, Int.reduceEq, Int.reduceLT, Int.reduceLE, Int.reduceNeg, Int.reduceToNat, Int.reduceGT, Int.reduceGE, Nat.reduceLT, Nat.lt_add_one, Nat.zero_lt_succ, Nat.succ_pos, Nat.zero_le, beq_self_eq_true, hc13]
  refine Cf.pu (Split_ok (by omega)) fun u1 => ?_
  unfold k_control_Parse_7 parseC
  cases hsp : split s with
  | none =>
    simp only [splitV]
    simp (maxSteps := 4000000) only [vm, vl, Arg.get, cells, stor, boundO, resultsV, resV, partK, loadV, Vm.part, fillC, splice, reduceIte, reduceCtorEq, Nat.reduceEqDiff, Nat.reduceAdd, Nat.reduceSub, Nat.reduceMul, Nat.reduceLeDiff, ne_eq, not_false_eq_true, Int.reduceEq, Int.reduceLT, Int.reduceLE, Int.reduceNeg, Int.reduceToNat, Int.reduceGT, Int.reduceGE, Nat.reduceLT, Nat.lt_add_one, Nat.zero_lt_succ, Nat.succ_pos, Nat.zero_le, beq_self_eq_true, ctV, Bool.not_false]
    rfl
  | some l =>
    simp only [splitV]
    simp (maxSteps := 4000000) only [vm, vl, Arg.get, cells, stor, boundO, resultsV, resV, partK, loadV, Vm.part, fillC, splice, reduceIte, reduceCtorEq, Nat.reduceEqDiff, Nat.reduceAdd, Nat.reduceSub, Nat.reduceMul, Nat.reduceLeDiff, ne_eq, not_false_eq_true, Int.reduceEq, Int.reduceLT, Int.reduceLE, Int.reduceNeg, Int.reduceToNat, Int.reduceGT, Int.reduceGE, Nat.reduceLT, Nat.lt_add_one, Nat.zero_lt_succ, Nat.succ_pos, Nat.zero_le, beq_self_eq_true, Bool.not_true]
    unfold k_control_Parse_0
    simp (maxSteps := 4000000) only [vm, vl, Arg.get, cells, stor, boundO, resultsV, resV, partK, loadV, Vm.part, fillC, splice, reduceIte, reduceCtorEq, Nat.reduceEqDiff, Nat.reduceAdd, Nat.reduceSub, Nat.reduceMul, Nat.reduceLeDiff, ne_eq, not_false_eq_true, Int.reduceEq, Int.reduceLT, Int.reduceLE, Int.reduceNeg, Int.reduceToNat, Int.reduceGT, Int.reduceGE, Nat.reduceLT, Nat.lt_add_one, Nat.zero_lt_succ, Nat.succ_pos, Nat.zero_le, beq_self_eq_true]
    refine (rules_ok).mono fun v h' hv => ?_
    obtain ⟨rfl, rfl⟩ := hv
    have hlen : l.length < 100000000 := by
      have := splitG_len (Nat.le_refl _) (show splitG s [] false [] = some l from hsp)
      simp at this; omega
    have hmem := split_mem hsp
    have hx := full_list l
    have hbs : ∀ x ∈ l, x.length < 100000000 := fun x hx => by have := hmem x hx; omega
    have fin : ∀ (e : Env), e 2 = .ptr h.length 0 → e 4 = .ptr (h.length + 2) 0 → e 7 = .map (h.length + (u1.length + 3)) → e 29 = fullV l → e 30 = .int .i64 l.length → e 31 = .int .i64 ((0 : Nat) : Int) →
        Wl F L lc_control_Parse_0 (q_control_Parse_0 L (Pu h (parseCV (List.foldl stepC ct0 l, true)))) e (h ++
        O.box
            [V.bool false, V.bool false, V.bool false, V.bool false, V.bool false, V.bool false, V.bool false,
              V.int IntKind.i64 0, V.int IntKind.i64 0, V.int IntKind.i64 0, V.int IntKind.i64 0, V.int IntKind.i64 0,
              V.int IntKind.i64 0] ::
          O.box (ctV ct0) ::
            O.box (ctV ct0 ++ []) :: (u1 ++ [O.map ruleE, O.box [V.map (List.length h + (List.length u1 + 3))]])) := by
      intro e f2 f4 f7 f29 f30 f31
      rw [List.append_nil]
      exact l_control_Parse_0 (ParI h l (fullV l)) (fun n e h' hI => Parse_round HI HU hx hlen hbs hI) (n := l.length) ⟨0, ct0, u1.length, _, _, _, by simp, by simp, f2, f4, f7, f29, f30, f31, ⟨_, rfl, rfl⟩, rfl, by rw [List.getElem?_append_right (Nat.le_refl _)]; simp, by simp⟩
    rcases hx with ⟨he, e⟩ | ⟨o, e⟩
    · have hl0 : l.length = 0 := by rw [← strs_len, he]; rfl
      rw [hl0] at fin
      rw [e] at fin ⊢
      simp (maxSteps := 4000000) only [vm, vl, Arg.get, cells, stor, boundO, resultsV, resV, partK, loadV, Vm.part, fillC, splice, reduceIte, reduceCtorEq, Nat.reduceEqDiff, Nat.reduceAdd, Nat.reduceSub, Nat.reduceMul, Nat.reduceLeDiff, ne_eq, not_false_eq_true, Int.reduceEq, Int.reduceLT, Int.reduceLE, Int.reduceNeg, Int.reduceToNat, Int.reduceGT, Int.reduceGE, Nat.reduceLT, Nat.lt_add_one, Nat.zero_lt_succ, Nat.succ_pos, Nat.zero_le, beq_self_eq_true]
      exact fin _ rfl rfl rfl rfl rfl rfl
    · rw [e] at fin ⊢
      have hsl := strs_len l
      simp (maxSteps := 4000000) only [vm, vl, Arg.get, cells, stor, boundO, resultsV, resV, partK, loadV, Vm.part, fillC, splice, reduceIte, reduceCtorEq, Nat.reduceEqDiff, Nat.reduceAdd, Nat.reduceSub, Nat.reduceMul, Nat.reduceLeDiff, ne_eq, not_false_eq_true, Int.reduceEq, Int.reduceLT, Int.reduceLE, Int.reduceNeg, Int.reduceToNat, Int.reduceGT, Int.reduceGE, Nat.reduceLT, Nat.lt_add_one, Nat.zero_lt_succ, Nat.succ_pos, Nat.zero_le, beq_self_eq_true, hsl]
      exact fin _ rfl rfl rfl rfl rfl rfl
end Go.Proofs.YtaahialaegfjgaaGreatDoor.Vh
end
section
set_option linter.unusedVariables false
set_option linter.unusedSimpArgs false
namespace Go.Proofs.YtaahialaegfjgaaGreatDoor.Vh
open Go.Vm Go.Vt
attribute [local congr] wi_congr wg_congr wgd_congr wb_congr wl_congr cf_congr
variable {L : FuncId → List V → V → Prop} {h : Heap}
end Go.Proofs.YtaahialaegfjgaaGreatDoor.Vh
end
section
set_option linter.unusedVariables false
set_option linter.unusedSimpArgs false
namespace Go.Proofs.YtaahialaegfjgaaGreatDoor.Vh
open Go.Vm Go.Vt
attribute [local congr] wi_congr wg_congr wgd_congr wb_congr wl_congr cf_congr
variable {L : FuncId → List V → V → Prop} {h : Heap}
end Go.Proofs.YtaahialaegfjgaaGreatDoor.Vh
end
section
set_option linter.unusedVariables false
set_option linter.unusedSimpArgs false
namespace Go.Proofs.YtaahialaegfjgaaGreatDoor.Vh
open Go.Vm Go.Vt
attribute [local congr] wi_congr wg_congr wgd_congr wb_congr wl_congr cf_congr
variable {L : FuncId → List V → V → Prop} {h : Heap}
end Go.Proofs.YtaahialaegfjgaaGreatDoor.Vh
end
section
set_option linter.unusedVariables false
set_option linter.unusedSimpArgs false
namespace Go.Proofs.YtaahialaegfjgaaGreatDoor.Vh
open Go.Vm Go.Vt
attribute [local congr] wi_congr wg_congr wgd_congr wb_congr wl_congr cf_congr
variable {L : FuncId → List V → V → Prop} {h : Heap}
abbrev Fld := Bs × Bs
def fldV (f : Fld) : V := .agg [.str f.1, .str f.2]
def flds (l : List Fld) : List V := l.map fldV
theorem flds_len (l : List Fld) : (flds l).length = l.length := by simp [flds]
theorem flds_app (l : List Fld) (f : Fld) : flds l ++ [fldV f] = flds (l ++ [f]) := by simp [flds]
theorem flds_at {l : List Fld} {i : Nat} (hi : i < l.length) : (flds l).getD i (.tup []) = fldV (l.getD i ([], [])) := by
  unfold flds
  rw [List.getD_eq_getElem?_getD, List.getD_eq_getElem?_getD, List.getElem?_map, List.getElem?_eq_getElem hi]; rfl
theorem list_at {α : Type} {l : List α} {i : Nat} (d : α) (hi : i ≤ l.length) : (¬ (i : Int) < l.length ∧ i = l.length ∧ l.drop i = []) ∨ ((i : Int) < l.length ∧ i < l.length ∧ l.drop i = l.getD i d :: l.drop (i + 1) ∧ l.take (i + 1) = l.take i ++ [l.getD i d]) := by
  rcases Nat.lt_or_eq_of_le hi with h | h
  · have e : l.getD i d = l[i] := by rw [List.getD_eq_getElem?_getD, List.getElem?_eq_getElem h, Option.getD_some]
    exact .inr ⟨by omega, h, by rw [e]; exact List.drop_eq_getElem_cons h, by rw [e, List.take_add_one, List.getElem?_eq_getElem h]; rfl⟩
  · exact .inl ⟨by omega, h, by rw [h]; simp⟩
theorem keep_ok {x : V} {l : List Fld} {g : FuncId} {caps : List V} {p : Fld → Bool} (hx : ListV 2 x (flds l)) (hl : l.length < 1000000000) (hg : ∀ f ∈ l, ∀ t, Cf F L g ([fldV f] ++ caps) (h ++ t) (Pu (h ++ t) (.bool (p f)))) :
    Cf F L i_field_keep [x, .fn g caps] h (fun v h' => Grow 2 h h' v (flds (l.filter p))) := by
  refine run_field_keep ?_
  simp only [p_field_keep]
  have l1 := fun {K : V → Heap → Prop} {h : Heap} => hx.len (F := F) (L := L) (e := E0) (K := K) (h := h)
  simp only [flds_len] at l1
  simp (maxSteps := 4000000) only [vm, vl, Arg.get, cells, stor, boundO, resultsV, resV, partK, loadV, Vm.part, fillC, splice, reduceIte, reduceCtorEq, Nat.reduceEqDiff, Nat.reduceAdd, Nat.reduceSub, Nat.reduceMul, Nat.reduceLeDiff, ne_eq, not_false_eq_true, Int.reduceEq, Int.reduceLT, Int.reduceLE, Int.reduceNeg, Int.reduceToNat, Int.reduceGT, Int.reduceGE, Nat.reduceLT, Nat.lt_add_one, Nat.zero_lt_succ, Nat.succ_pos, Nat.zero_le, beq_self_eq_true, k_field_keep_0, k_field_keep_2, k_field_keep_1, l1]
  refine l_field_keep_0 (fun n e h' => ∃ i, n = l.length - i ∧ i ≤ l.length ∧ e 1 = .fn g caps ∧ e 8 = x ∧ e 9 = .int .i64 l.length ∧ e 10 = .int .i64 i ∧ Grow 2 h h' (e 5) (flds ((l.take i).filter p))) ?_ (n := l.length) ⟨0, by simp, by simp, rfl, rfl, rfl, rfl, .nil0⟩
  rintro n e h' ⟨i, rfl, hi, e1, e8, e9, e10, G⟩
  simp only [b_field_keep_0]
  generalize e5 : e 5 = x5 at *
  rcases list_at ([], []) hi with ⟨hn, rfl, hd⟩ | ⟨hl1, hl2, hd, htk⟩
  · simp (maxSteps := 4000000) only [vm, vl, Arg.get, cells, stor, boundO, resultsV, resV, partK, loadV, Vm.part, fillC, splice, reduceIte, reduceCtorEq, Nat.reduceEqDiff, Nat.reduceAdd, Nat.reduceSub, Nat.reduceMul, Nat.reduceLeDiff, ne_eq, not_false_eq_true, Int.reduceEq, Int.reduceLT, Int.reduceLE, Int.reduceNeg, Int.reduceToNat, Int.reduceGT, Int.reduceGE, Nat.reduceLT, Nat.lt_add_one, Nat.zero_lt_succ, Nat.succ_pos, Nat.zero_le, beq_self_eq_true, k_field_keep_0, k_field_keep_2, k_field_keep_1, e1, e5, e8, e9, e10, hn]
    simpa using G
  · have w := wrap64 (x := (i : Int) + 1) (by omega) (by omega)
    have i1 := fun {K : V → Heap → Prop} {h : Heap} => hx.at (F := F) (L := L) (e := E0) (K := K) (h := h) (i := i) (by rw [flds_len]; exact hl2)
    have a1 := flds_at hl2
    have hmem : l.getD i ([], []) ∈ l := by
      rw [List.getD_eq_getElem?_getD, List.getElem?_eq_getElem hl2]; exact List.getElem_mem _
    obtain ⟨⟨t0, rfl⟩, _⟩ := id G
    generalize hf : l.getD i ([], []) = f at *
    simp (maxSteps := 4000000) only [vm, vl, Arg.get, cells, stor, boundO, resultsV, resV, partK, loadV, Vm.part, fillC, splice, reduceIte, reduceCtorEq, Nat.reduceEqDiff, Nat.reduceAdd, Nat.reduceSub, Nat.reduceMul, Nat.reduceLeDiff, ne_eq, not_false_eq_true, Int.reduceEq, Int.reduceLT, Int.reduceLE, Int.reduceNeg, Int.reduceToNat, Int.reduceGT, Int.reduceGE, Nat.reduceLT, Nat.lt_add_one, Nat.zero_lt_succ, Nat.succ_pos, Nat.zero_le, beq_self_eq_true, k_field_keep_0, k_field_keep_2, k_field_keep_1, e1, e5, e8, e9, e10, hl1, i1, a1, fldV]
    have hc := hg f hmem (t0 ++ [O.box [.str f.1, .str f.2]])
    simp only [fldV, List.singleton_append] at hc
    refine Cf.pu hc fun t1 => ?_
    have G2 := G.more (t := [O.box [.str f.1, .str f.2]] ++ t1)
    have hb : (h ++ (t0 ++ O.box [.str f.1, .str f.2] :: t1))[h.length + t0.length]? = some (.box [.str f.1, .str f.2]) := by
      rw [← List.append_assoc, List.getElem?_append_right (by simp)]; simp
    cases hp : p f with
    | false =>
      simp (maxSteps := 4000000) only [vm, vl, Arg.get, cells, stor, boundO, resultsV, resV, partK, loadV, Vm.part, fillC, splice, reduceIte, reduceCtorEq, Nat.reduceEqDiff, Nat.reduceAdd, Nat.reduceSub, Nat.reduceMul, Nat.reduceLeDiff, ne_eq, not_false_eq_true, Int.reduceEq, Int.reduceLT, Int.reduceLE, Int.reduceNeg, Int.reduceToNat, Int.reduceGT, Int.reduceGE, Nat.reduceLT, Nat.lt_add_one, Nat.zero_lt_succ, Nat.succ_pos, Nat.zero_le, beq_self_eq_true, k_field_keep_0, k_field_keep_2, k_field_keep_1, hp, w]
      refine ⟨l.length - (i + 1), by omega, i + 1, rfl, hl2, rfl, ?_⟩
      rw [htk, List.filter_append]
      simpa [hp] using G2
    | true =>
      obtain ⟨x', h'', ha, G3⟩ := G2.app (bytes := 32) (y := fldV f) (by rw [flds_len]; have := List.length_filter_le p (l.take i); simp at this; omega)
      rw [flds_app] at G3
      simp only [fldV] at ha
      simp only [List.append_assoc, List.cons_append, List.nil_append] at ha
      simp (maxSteps := 4000000) only [vm, vl, Arg.get, cells, stor, boundO, resultsV, resV, partK, loadV, Vm.part, fillC, splice, reduceIte, reduceCtorEq, Nat.reduceEqDiff, Nat.reduceAdd, Nat.reduceSub, Nat.reduceMul, Nat.reduceLeDiff, ne_eq, not_false_eq_true, Int.reduceEq, Int.reduceLT, Int.reduceLE, Int.reduceNeg, Int.reduceToNat, Int.reduceGT, Int.reduceGE, Nat.reduceLT, Nat.lt_add_one, Nat.zero_lt_succ, Nat.succ_pos, Nat.zero_le, beq_self_eq_true, k_field_keep_0, k_field_keep_2, k_field_keep_1, hp, w, hb, ha]
      refine ⟨l.length - (i + 1), by omega, i + 1, rfl, hl2, rfl, ?_⟩
      rw [htk, List.filter_append]
      simpa [hp] using G3
/-- A set of texts, as a map's entries. -/
def mapK (ks : List Bs) : List (V × V) := ks.map fun k => (.str k, .bool true)
def insK (ks : List Bs) (k : Bs) : List Bs := if k ∈ ks then ks else ks ++ [k]
theorem find_mapK {k : Bs} : ∀ {ks : List Bs} {n : Nat}, ∃ r, findE .s (.str k) (mapK ks) n = some r ∧ ((k ∈ ks ∧ ∃ i, r = some (n + i, .bool true) ∧ ks[i]? = some k) ∨ (k ∉ ks ∧ r = none))
  | [], n => ⟨none, rfl, .inr ⟨by simp, rfl⟩⟩
  | a :: ks, n => by
    by_cases h : k = a
    · subst h
      exact ⟨some (n, .bool true), by simp [mapK, findE, eqLeaf], .inl ⟨by simp, 0, by simp, rfl⟩⟩
    · obtain ⟨r, h1, h2⟩ := find_mapK (k := k) (ks := ks) (n := n + 1)
      refine ⟨r, ?_, ?_⟩
      · have : (k == a) = false := by simpa using h
        simp only [mapK, List.map_cons, findE, eqLeaf, this, Option.bind_some]
        exact h1
      · rcases h2 with ⟨h3, i, h4, h5⟩ | ⟨h3, h4⟩
        · exact .inl ⟨by simp [h3], i + 1, by rw [h4]; congr 2; omega, by simpa using h5⟩
        · exact .inr ⟨by simp [h, h3], h4⟩
theorem set_mapK {k : Bs} {ks : List Bs} : mapsetE .s (.str k) (.bool true) (mapK ks) = some (mapK (insK ks k)) := by
  obtain ⟨r, h1, h2⟩ := find_mapK (k := k) (ks := ks) (n := 0)
  rcases h2 with ⟨h3, i, rfl, h5⟩ | ⟨h3, rfl⟩
  · simp only [mapsetE, h1, Option.map_some, insK, if_pos h3]
    congr 1
    have hi := (List.getElem?_eq_some_iff.1 h5).1
    apply List.ext_getElem?
    intro j
    rw [List.getElem?_set]
    by_cases hj : 0 + i = j
    · subst hj
      simp [mapK, hi]
      exact (List.getElem?_eq_some_iff.1 h5).2.symm
    · rw [if_neg hj]
  · simp only [mapsetE, h1, Option.map_some, insK, if_neg h3]
    simp [mapK]
def goneK (names : List Bs) : List Bs := names.foldl (fun ks n => insK ks (low n)) []
theorem mem_ins {ks : List Bs} {k x : Bs} : x ∈ insK ks k ↔ x ∈ ks ∨ x = k := by
  unfold insK; split
  · rename_i h
    refine ⟨.inl, fun hh => hh.elim id fun e => e ▸ h⟩
  · simp
theorem mem_gone_aux {names : List Bs} {x : Bs} : ∀ {ks : List Bs}, x ∈ names.foldl (fun ks n => insK ks (low n)) ks ↔ x ∈ ks ∨ ∃ n ∈ names, x = low n := by
  induction names with
  | nil => simp
  | cons a r ih =>
    intro ks
    rw [List.foldl_cons, ih, mem_ins]
    simp [or_assoc]
theorem mem_gone {names : List Bs} {x : Bs} : x ∈ goneK names ↔ ∃ n ∈ names, x = low n := by
  unfold goneK; rw [mem_gone_aux]; simp
/-- Fields without those of some names. -/
def stays (names : List Bs) (f : Fld) : Bool := !(names.any fun n => low n == low f.1)
theorem stays_eq (names : List Bs) (f : Fld) : stays names f = !decide (low f.1 ∈ goneK names) := by
  unfold stays
  congr 1
  rw [Bool.eq_iff_iff]
  simp only [List.any_eq_true, beq_iff_eq, decide_eq_true_eq, mem_gone]
  exact ⟨fun ⟨n, h1, h2⟩ => ⟨n, h1, h2.symm⟩, fun ⟨n, h1, h2⟩ => ⟨n, h1, h2.symm⟩⟩
theorem without1_ok {f : Fld} {ks : List Bs} {ib im : Nat} {h : Heap} (hf : f.1.length ≤ 140737488355328) (hb : h[ib]? = some (.box [.map im])) (hm : h[im]? = some (.map (mapK ks))) :
    Cf F L i_field_without_1 [fldV f, .ptr ib 0] h (Pu h (.bool (!decide (low f.1 ∈ ks)))) := by
  have hb' := fun t => get_old (t := t) hb
  have hm' := fun t => get_old (t := t) hm
  obtain ⟨r, h1, h2⟩ := find_mapK (k := low f.1) (ks := ks) (n := 0)
  refine run_field_without_1 ?_
  simp only [p_field_without_1]
  simp (maxSteps := 4000000) only [vm, vl, Arg.get, cells, stor, boundO, resultsV, resV, partK, loadV, Vm.part, fillC, splice, reduceIte, reduceCtorEq, Nat.reduceEqDiff, Nat.reduceAdd, Nat.reduceSub, Nat.reduceMul, Nat.reduceLeDiff, ne_eq, not_false_eq_true, Int.reduceEq, Int.reduceLT, Int.reduceLE, Int.reduceNeg, Int.reduceToNat, Int.reduceGT, Int.reduceGE, Nat.reduceLT, Nat.lt_add_one, Nat.zero_lt_succ, Nat.succ_pos, Nat.zero_le, beq_self_eq_true, fldV, hb']
  refine Cf.pu (Lower_ok hf) fun t => ?_
  rcases h2 with ⟨h3, i, rfl, h5⟩ | ⟨h3, rfl⟩
  · have d : decide (low f.1 ∈ ks) = true := by simpa using h3
    simp (maxSteps := 4000000) only [vm, vl, Arg.get, cells, stor, boundO, resultsV, resV, partK, loadV, Vm.part, fillC, splice, reduceIte, reduceCtorEq, Nat.reduceEqDiff, Nat.reduceAdd, Nat.reduceSub, Nat.reduceMul, Nat.reduceLeDiff, ne_eq, not_false_eq_true, Int.reduceEq, Int.reduceLT, Int.reduceLE, Int.reduceNeg, Int.reduceToNat, Int.reduceGT, Int.reduceGE, Nat.reduceLT, Nat.lt_add_one, Nat.zero_lt_succ, Nat.succ_pos, Nat.zero_le, beq_self_eq_true, hm', h1, d]
  · have d : decide (low f.1 ∈ ks) = false := by simpa using h3
    simp (maxSteps := 4000000) only [vm, vl, Arg.get, cells, stor, boundO, resultsV, resV, partK, loadV, Vm.part, fillC, splice, reduceIte, reduceCtorEq, Nat.reduceEqDiff, Nat.reduceAdd, Nat.reduceSub, Nat.reduceMul, Nat.reduceLeDiff, ne_eq, not_false_eq_true, Int.reduceEq, Int.reduceLT, Int.reduceLE, Int.reduceNeg, Int.reduceToNat, Int.reduceGT, Int.reduceGE, Nat.reduceLT, Nat.lt_add_one, Nat.zero_lt_succ, Nat.succ_pos, Nat.zero_le, beq_self_eq_true, hm', h1, d]
theorem without_ok {x y : V} {l : List Fld} {names : List Bs} (hx : ListV 2 x (flds l)) (hy : ListV 1 y (names.map .str)) (hl : l.length < 1000000000) (hn : names.length < 1000000000)
    (hln : ∀ f ∈ l, f.1.length ≤ 140737488355328) (hnn : ∀ n ∈ names, n.length ≤ 140737488355328) :
    Cf F L i_field_without [x, y] h (fun v h' => Grow 2 h h' v (flds (l.filter (stays names)))) := by
  refine run_field_without ?_
  simp only [p_field_without]
  have l1 := fun {K : V → Heap → Prop} {h : Heap} => hy.len (F := F) (L := L) (e := E0) (K := K) (h := h)
  simp only [List.length_map] at l1
  simp (maxSteps := 4000000) only [vm, vl, Arg.get, cells, stor, boundO, resultsV, resV, partK, loadV, Vm.part, fillC, splice, reduceIte, reduceCtorEq, Nat.reduceEqDiff, Nat.reduceAdd, Nat.reduceSub, Nat.reduceMul, Nat.reduceLeDiff, ne_eq, not_false_eq_true, Int.reduceEq, Int.reduceLT, Int.reduceLE, Int.reduceNeg, Int.reduceToNat, Int.reduceGT, Int.reduceGE, Nat.reduceLT, Nat.lt_add_one, Nat.zero_lt_succ, Nat.succ_pos, Nat.zero_le, beq_self_eq_true, k_field_without_0, k_field_without_2, k_field_without_1, l1]
  refine l_field_without_0 (fun n e h' => ∃ i, n = names.length - i ∧ i ≤ names.length ∧ e 0 = x ∧ e 5 = .ptr (h.length + 1) 0 ∧ e 9 = y ∧ e 10 = .int .i64 names.length ∧ e 11 = .int .i64 i ∧ ∃ t, h' = h ++ (O.map (mapK (goneK (names.take i))) :: .box [.map h.length] :: t)) ?_ (n := names.length) ⟨0, by simp, by simp, rfl, rfl, rfl, rfl, rfl, [], by rfl⟩
  rintro n e h' ⟨i, rfl, hi, e0, e5, e9, e10, e11, t, rfl⟩
  simp only [b_field_without_0]
  rcases list_at [] hi with ⟨hn, rfl, hd⟩ | ⟨hl1, hl2, hd, htk⟩
  · have htt : names.take names.length = names := List.take_of_length_le (Nat.le_refl _)
    rw [htt]
    simp (maxSteps := 4000000) only [vm, vl, Arg.get, cells, stor, boundO, resultsV, resV, partK, loadV, Vm.part, fillC, splice, reduceIte, reduceCtorEq, Nat.reduceEqDiff, Nat.reduceAdd, Nat.reduceSub, Nat.reduceMul, Nat.reduceLeDiff, ne_eq, not_false_eq_true, Int.reduceEq, Int.reduceLT, Int.reduceLE, Int.reduceNeg, Int.reduceToNat, Int.reduceGT, Int.reduceGE, Nat.reduceLT, Nat.lt_add_one, Nat.zero_lt_succ, Nat.succ_pos, Nat.zero_le, beq_self_eq_true, k_field_without_0, k_field_without_2, k_field_without_1, e0, e5, e9, e10, e11, hn]
    refine (keep_ok (p := stays names) hx hl fun f hf t' => ?_).mono fun v h' G => ?_
    · have := without1_ok (L := L) (h := h ++ (O.map (mapK (goneK names)) :: .box [.map h.length] :: t) ++ t') (f := f) (ks := goneK names) (ib := h.length + 1) (im := h.length) (hln f hf)
        (get_old (by rw [get_new]; rfl)) (get_old (by rw [get_new0]; rfl))
      rw [← stays_eq] at this
      exact this
    · exact G.less
  · have w := wrap64 (x := (i : Int) + 1) (by omega) (by omega)
    have i1 := fun {K : V → Heap → Prop} {h : Heap} => hy.at (F := F) (L := L) (e := E0) (K := K) (h := h) (i := i) (by rw [List.length_map]; exact hl2)
    have a1 : (names.map V.str).getD i (.tup []) = .str (names.getD i []) := by
      rw [List.getD_eq_getElem?_getD, List.getD_eq_getElem?_getD, List.getElem?_map, List.getElem?_eq_getElem hl2]; rfl
    have hmem : names.getD i [] ∈ names := by
      rw [List.getD_eq_getElem?_getD, List.getElem?_eq_getElem hl2]; exact List.getElem_mem _
    generalize hf : names.getD i [] = f at *
    simp (maxSteps := 4000000) only [vm, vl, Arg.get, cells, stor, boundO, resultsV, resV, partK, loadV, Vm.part, fillC, splice, reduceIte, reduceCtorEq, Nat.reduceEqDiff, Nat.reduceAdd, Nat.reduceSub, Nat.reduceMul, Nat.reduceLeDiff, ne_eq, not_false_eq_true, Int.reduceEq, Int.reduceLT, Int.reduceLE, Int.reduceNeg, Int.reduceToNat, Int.reduceGT, Int.reduceGE, Nat.reduceLT, Nat.lt_add_one, Nat.zero_lt_succ, Nat.succ_pos, Nat.zero_le, beq_self_eq_true, k_field_without_0, k_field_without_2, k_field_without_1, e0, e5, e9, e10, e11, hl1, i1, a1]
    refine Cf.pu (Lower_ok (hnn f hmem)) fun t1 => ?_
    have sm := set_mapK (k := low f) (ks := goneK (names.take i))
    simp (maxSteps := 4000000) only [vm, vl, Arg.get, cells, stor, boundO, resultsV, resV, partK, loadV, Vm.part, fillC, splice, reduceIte, reduceCtorEq, Nat.reduceEqDiff, Nat.reduceAdd, Nat.reduceSub, Nat.reduceMul, Nat.reduceLeDiff, ne_eq, not_false_eq_true, Int.reduceEq, Int.reduceLT, Int.reduceLE, Int.reduceNeg, Int.reduceToNat, Int.reduceGT, Int.reduceGE, Nat.reduceLT, Nat.lt_add_one, Nat.zero_lt_succ, Nat.succ_pos, Nat.zero_le, beq_self_eq_true, k_field_without_0, k_field_without_2, k_field_without_1, sm, w]
    refine ⟨names.length - (i + 1), by omega, i + 1, rfl, hl2, rfl, t ++ t1, ?_⟩
    rw [htk]
    simp [goneK]
theorem Del_ok {x : V} {l : List Fld} {name : Bs} (hx : ListV 2 x (flds l)) (hl : l.length < 1000000000) (hln : ∀ f ∈ l, f.1.length ≤ 140737488355328) (hn : name.length ≤ 140737488355328) :
    Cf F L i_field_Del [x, .str name] h (fun v h' => Grow 2 h h' v (flds (l.filter (stays [name])))) := by
  refine run_field_Del ?_
  simp only [p_field_Del]
  simp (maxSteps := 4000000) only [vm, vl, Arg.get, cells, stor, boundO, resultsV, resV, partK, loadV, Vm.part, fillC, splice, reduceIte, reduceCtorEq, Nat.reduceEqDiff, Nat.reduceAdd, Nat.reduceSub, Nat.reduceMul, Nat.reduceLeDiff, ne_eq, not_false_eq_true, Int.reduceEq, Int.reduceLT, Int.reduceLE, Int.reduceNeg, Int.reduceToNat, Int.reduceGT, Int.reduceGE, Nat.reduceLT, Nat.lt_add_one, Nat.zero_lt_succ, Nat.succ_pos, Nat.zero_le, beq_self_eq_true]
  refine (without_ok (names := [name]) hx (.inr ⟨_, rfl⟩) hl (by simp) hln (by simpa using hn)).mono fun v h' G => ?_
  exact G
/-- Texts with commas between. -/
def joinS (l : List Bs) : Bs := [44, 32].intercalate l
def JoinOk (L : FuncId → List V → V → Prop) : Prop := ∀ {x : V} {l : List Bs} {h : Heap}, ListV 1 x (strs l) → l.length ≤ 1000000000 → (joinS l).length ≤ 140737488355328 → Cf F L i_strings_Join [x, .str [44, 32]] h (Pu h (.str (joinS l)))
def valsOf (l : List Fld) (name : Bs) : List Bs := (l.filter fun f => low f.1 == low name).map (·.2)
def getV (l : List Fld) (name : Bs) : V := .tup [.str (joinS (valsOf l name)), .int .i64 (valsOf l name).length]
theorem vals_len (l : List Fld) (name : Bs) : (valsOf l name).length ≤ l.length := by
  unfold valsOf; rw [List.length_map]; exact List.length_filter_le _ _
theorem Get_ok {x : V} {l : List Fld} {name : Bs} (HJ : JoinOk L) (hx : ListV 2 x (flds l)) (hl : l.length < 1000000000) (hln : ∀ f ∈ l, f.1.length ≤ 140737488355328) (hn : name.length ≤ 140737488355328) (hj : (joinS (valsOf l name)).length ≤ 140737488355328) :
    Cf F L i_field_Get [x, .str name] h (Pu h (getV l name)) := by
  refine run_field_Get ?_
  simp only [p_field_Get]
  have l1 := fun {K : V → Heap → Prop} {h : Heap} => hx.len (F := F) (L := L) (e := E0) (K := K) (h := h)
  simp only [flds_len] at l1
  simp (maxSteps := 4000000) only [vm, vl, Arg.get, cells, stor, boundO, resultsV, resV, partK, loadV, Vm.part, fillC, splice, reduceIte, reduceCtorEq, Nat.reduceEqDiff, Nat.reduceAdd, Nat.reduceSub, Nat.reduceMul, Nat.reduceLeDiff, ne_eq, not_false_eq_true, Int.reduceEq, Int.reduceLT, Int.reduceLE, Int.reduceNeg, Int.reduceToNat, Int.reduceGT, Int.reduceGE, Nat.reduceLT, Nat.lt_add_one, Nat.zero_lt_succ, Nat.succ_pos, Nat.zero_le, beq_self_eq_true, k_field_Get_0, k_field_Get_2, k_field_Get_1, l1]
  refine l_field_Get_0 (fun n e h' => ∃ i, n = l.length - i ∧ i ≤ l.length ∧ e 1 = .str name ∧ e 9 = x ∧ e 10 = .int .i64 l.length ∧ e 11 = .int .i64 i ∧ Grow 1 h h' (e 6) (strs (valsOf (l.take i) name))) ?_ (n := l.length) ⟨0, by simp, by simp, rfl, rfl, rfl, rfl, .nil0⟩
  rintro n e h' ⟨i, rfl, hi, e1, e9, e10, e11, G⟩
  simp only [b_field_Get_0]
  generalize e6 : e 6 = x6 at *
  have vln := vals_len (l.take i) name
  rw [List.length_take] at vln
  rcases list_at ([], []) hi with ⟨hn, rfl, hd⟩ | ⟨hl1, hl2, hd, htk⟩
  · rw [List.take_of_length_le (Nat.le_refl _)] at G
    have vln := vals_len l name
    have g1 := fun {K : V → Heap → Prop} {h : Heap} => G.list.len (F := F) (L := L) (e := E0) (K := K) (h := h)
    simp only [strs_len] at g1
    simp (maxSteps := 4000000) only [vm, vl, Arg.get, cells, stor, boundO, resultsV, resV, partK, loadV, Vm.part, fillC, splice, reduceIte, reduceCtorEq, Nat.reduceEqDiff, Nat.reduceAdd, Nat.reduceSub, Nat.reduceMul, Nat.reduceLeDiff, ne_eq, not_false_eq_true, Int.reduceEq, Int.reduceLT, Int.reduceLE, Int.reduceNeg, Int.reduceToNat, Int.reduceGT, Int.reduceGE, Nat.reduceLT, Nat.lt_add_one, Nat.zero_lt_succ, Nat.succ_pos, Nat.zero_le, beq_self_eq_true, k_field_Get_0, k_field_Get_2, k_field_Get_1, e1, e6, e9, e10, e11, hn]
    refine Cf.pu (HJ G.list (by omega) hj) fun t => ?_
    obtain ⟨t0, rfl⟩ := G.1
    rcases G.list with ⟨he, rfl⟩ | ⟨o, rfl⟩
    · have he' : valsOf l name = [] := by simpa [strs] using he
      simp (maxSteps := 4000000) only [vm, vl, Arg.get, cells, stor, boundO, resultsV, resV, partK, loadV, Vm.part, fillC, splice, reduceIte, reduceCtorEq, Nat.reduceEqDiff, Nat.reduceAdd, Nat.reduceSub, Nat.reduceMul, Nat.reduceLeDiff, ne_eq, not_false_eq_true, Int.reduceEq, Int.reduceLT, Int.reduceLE, Int.reduceNeg, Int.reduceToNat, Int.reduceGT, Int.reduceGE, Nat.reduceLT, Nat.lt_add_one, Nat.zero_lt_succ, Nat.succ_pos, Nat.zero_le, beq_self_eq_true, k_field_Get_0, k_field_Get_2, k_field_Get_1]
      simp [getV, he']
    · simp (maxSteps := 4000000) only [vm, vl, Arg.get, cells, stor, boundO, resultsV, resV, partK, loadV, Vm.part, fillC, splice, reduceIte, reduceCtorEq, Nat.reduceEqDiff, Nat.reduceAdd, Nat.reduceSub, Nat.reduceMul, Nat.reduceLeDiff, ne_eq, not_false_eq_true, Int.reduceEq, Int.reduceLT, Int.reduceLE, Int.reduceNeg, Int.reduceToNat, Int.reduceGT, Int.reduceGE, Nat.reduceLT, Nat.lt_add_one, Nat.zero_lt_succ, Nat.succ_pos, Nat.zero_le, beq_self_eq_true, k_field_Get_0, k_field_Get_2, k_field_Get_1, strs_len]
      simp [getV]
  · have w := wrap64 (x := (i : Int) + 1) (by omega) (by omega)
    have i1 := fun {K : V → Heap → Prop} {h : Heap} => hx.at (F := F) (L := L) (e := E0) (K := K) (h := h) (i := i) (by rw [flds_len]; exact hl2)
    have a1 := flds_at hl2
    have hmem : l.getD i ([], []) ∈ l := by
      rw [List.getD_eq_getElem?_getD, List.getElem?_eq_getElem hl2]; exact List.getElem_mem _
    generalize hf : l.getD i ([], []) = f at *
    obtain ⟨t0, rfl⟩ := G.1
    simp (maxSteps := 4000000) only [vm, vl, Arg.get, cells, stor, boundO, resultsV, resV, partK, loadV, Vm.part, fillC, splice, reduceIte, reduceCtorEq, Nat.reduceEqDiff, Nat.reduceAdd, Nat.reduceSub, Nat.reduceMul, Nat.reduceLeDiff, ne_eq, not_false_eq_true, Int.reduceEq, Int.reduceLT, Int.reduceLE, Int.reduceNeg, Int.reduceToNat, Int.reduceGT, Int.reduceGE, Nat.reduceLT, Nat.lt_add_one, Nat.zero_lt_succ, Nat.succ_pos, Nat.zero_le, beq_self_eq_true, k_field_Get_0, k_field_Get_2, k_field_Get_1, e1, e6, e9, e10, e11, hl1, i1, a1, fldV]
    refine Cf.pu (Same_ok (hln f hmem) hn) fun t1 => ?_
    have hb : (h ++ (t0 ++ O.box [.str f.1, .str f.2] :: t1))[h.length + t0.length]? = some (.box [.str f.1, .str f.2]) := by
      rw [← List.append_assoc, List.getElem?_append_right (by simp)]; simp
    have G2 := G.more (t := [O.box [.str f.1, .str f.2]] ++ t1)
    cases hp : (low f.1 == low name) with
    | false =>
      simp (maxSteps := 4000000) only [vm, vl, Arg.get, cells, stor, boundO, resultsV, resV, partK, loadV, Vm.part, fillC, splice, reduceIte, reduceCtorEq, Nat.reduceEqDiff, Nat.reduceAdd, Nat.reduceSub, Nat.reduceMul, Nat.reduceLeDiff, ne_eq, not_false_eq_true, Int.reduceEq, Int.reduceLT, Int.reduceLE, Int.reduceNeg, Int.reduceToNat, Int.reduceGT, Int.reduceGE, Nat.reduceLT, Nat.lt_add_one, Nat.zero_lt_succ, Nat.succ_pos, Nat.zero_le, beq_self_eq_true, k_field_Get_0, k_field_Get_2, k_field_Get_1, w]
      refine ⟨l.length - (i + 1), by omega, i + 1, rfl, hl2, rfl, ?_⟩
      have : valsOf (l.take (i + 1)) name = valsOf (l.take i) name := by simp [valsOf, htk, hp]
      rw [this]
      simpa using G2
    | true =>
      obtain ⟨x', h'', ha, G3⟩ := G2.app (bytes := 16) (y := .str f.2) (by rw [strs_len]; omega)
      rw [strs_app] at G3
      simp only [List.append_assoc, List.cons_append, List.nil_append] at ha
      simp (maxSteps := 4000000) only [vm, vl, Arg.get, cells, stor, boundO, resultsV, resV, partK, loadV, Vm.part, fillC, splice, reduceIte, reduceCtorEq, Nat.reduceEqDiff, Nat.reduceAdd, Nat.reduceSub, Nat.reduceMul, Nat.reduceLeDiff, ne_eq, not_false_eq_true, Int.reduceEq, Int.reduceLT, Int.reduceLE, Int.reduceNeg, Int.reduceToNat, Int.reduceGT, Int.reduceGE, Nat.reduceLT, Nat.lt_add_one, Nat.zero_lt_succ, Nat.succ_pos, Nat.zero_le, beq_self_eq_true, k_field_Get_0, k_field_Get_2, k_field_Get_1, w, hb, ha]
      refine ⟨l.length - (i + 1), by omega, i + 1, rfl, hl2, rfl, ?_⟩
      have : valsOf (l.take (i + 1)) name = valsOf (l.take i) name ++ [f.2] := by simp [valsOf, htk, hp]
      rw [this]
      exact G3
end Go.Proofs.YtaahialaegfjgaaGreatDoor.Vh
end
section
set_option linter.unusedVariables false
set_option linter.unusedSimpArgs false
namespace Go.Proofs.YtaahialaegfjgaaGreatDoor.Vh
open Go.Vm Go.Vt
attribute [local congr] wi_congr wg_congr wgd_congr wb_congr wl_congr cf_congr
variable {L : FuncId → List V → V → Prop} {h : Heap}
def sumF (l : List Fld) : Nat := (l.map fun f => f.1.length + f.2.length).sum
theorem sumF_take {l : List Fld} {i : Nat} (hi : i < l.length) : sumF (l.take (i + 1)) = sumF (l.take i) + ((l.getD i ([], [])).1.length + (l.getD i ([], [])).2.length) := by
  have e : l.getD i ([], []) = l[i] := by rw [List.getD_eq_getElem?_getD, List.getElem?_eq_getElem hi, Option.getD_some]
  unfold sumF
  rw [List.take_add_one, List.getElem?_eq_getElem hi, e]
  simp only [List.map_append, List.sum_append, Option.toList_some, List.map_cons, List.map_nil, List.sum_cons, List.sum_nil, Nat.add_zero]
theorem sumF_le (l : List Fld) (i : Nat) : sumF (l.take i) ≤ sumF l := by
  conv => rhs; rw [← List.take_append_drop i l]
  unfold sumF
  rw [List.map_append, List.sum_append]
  omega
theorem sumF_mem {l : List Fld} {f : Fld} (hf : f ∈ l) : f.1.length + f.2.length ≤ sumF l := by
  unfold sumF
  induction l with
  | nil => cases hf
  | cons a r ih =>
    rw [List.map_cons, List.sum_cons]
    rcases List.mem_cons.1 hf with rfl | hf
    · omega
    · have := ih hf; omega
/-- A list of fields as a parameter. -/
theorem fields_par {x : V} (v : VPar [.sl [.s, .s]] x) : ∃ l, ListV 2 x (flds l) ∧ l.length ≤ 140737488351232 ∧ ∀ f ∈ l, f.1.length ≤ 140737488351232 ∧ f.2.length ≤ 140737488351232 := by
  rcases v with rfl | ⟨es, rfl, hl, he⟩
  · exact ⟨[], .inl ⟨rfl, rfl⟩, by simp, by simp⟩
  · have : ∃ l, flds l = es ∧ ∀ f ∈ l, f.1.length ≤ 140737488351232 ∧ f.2.length ≤ 140737488351232 := by
      clear hl
      induction es with
      | nil => exact ⟨[], rfl, by simp⟩
      | cons e r ih =>
        obtain ⟨l, h1, h2⟩ := ih fun x hx => he x (by simp [hx])
        obtain ⟨a1, _, a3⟩ := he e (by simp)
        have a3 := a3 (by simp)
        generalize cells e = cs at a1 a3
        subst a3
        match cs, a1 with
        | [x, y], ⟨⟨s, e1, b1⟩, ⟨t, e2, b2⟩, _⟩ =>
          subst e1; subst e2
          refine ⟨(s, t) :: l, by rw [← h1]; rfl, ?_⟩
          intro f hf
          rcases List.mem_cons.1 hf with rfl | hf
          · exact ⟨b1, b2⟩
          · exact h2 f hf
    obtain ⟨l, rfl, h2⟩ := this
    exact ⟨l, .inr ⟨_, rfl⟩, by rwa [flds_len] at hl, h2⟩
def without (l : List Fld) (name : Bs) : List Fld := l.filter (stays [name])
theorem vals_app (l m : List Fld) (name : Bs) : valsOf (l ++ m) name = valsOf l name ++ valsOf m name := by simp [valsOf]
theorem join_len : ∀ l : List Bs, (joinS l).length ≤ (l.map List.length).sum + 2 * l.length
  | [] => by simp [joinS]
  | [a] => by simp [joinS]
  | a :: b :: r => by
    have := join_len (b :: r)
    have e : joinS (a :: b :: r) = a ++ ([44, 32] ++ joinS (b :: r)) := by simp [joinS, List.intercalate]
    rw [e]
    simp only [List.length_append, List.length_cons, List.length_nil, List.map_cons, List.sum_cons] at this ⊢
    omega
theorem vals_sum (l : List Fld) (name : Bs) : ((valsOf l name).map List.length).sum ≤ sumF l := by
  induction l with
  | nil => simp [valsOf, sumF]
  | cons f r ih =>
    unfold valsOf sumF at *
    rw [List.filter_cons]
    split <;> simp only [List.map_cons, List.sum_cons] at * <;> omega
theorem vals_join (l : List Fld) (name : Bs) : (joinS (valsOf l name)).length ≤ sumF l + 2 * l.length := by
  have h1 := join_len (valsOf l name)
  have h2 := vals_sum l name
  have h3 := vals_len l name
  omega
end Go.Proofs.YtaahialaegfjgaaGreatDoor.Vh
end
section
set_option linter.unusedVariables false
set_option linter.unusedSimpArgs false
namespace Go.Proofs.YtaahialaegfjgaaGreatDoor.Vh
open Go.Vm Go.Vt
attribute [local congr] wi_congr wg_congr wgd_congr wb_congr wl_congr cf_congr
variable {L : FuncId → List V → V → Prop} {h : Heap}
theorem getD_mem {α : Type} {l : List α} {i : Nat} {d : α} (hi : i < l.length) : l.getD i d ∈ l := by
  rw [List.getD_eq_getElem?_getD, List.getElem?_eq_getElem hi]; exact List.getElem_mem _
end Go.Proofs.YtaahialaegfjgaaGreatDoor.Vh
end
section
set_option linter.unusedVariables false
set_option linter.unusedSimpArgs false
namespace Go.Proofs.YtaahialaegfjgaaGreatDoor.Vh
open Go.Vm Go.Vt
attribute [local congr] wi_congr wg_congr wgd_congr wb_congr wl_congr cf_congr
variable {L : FuncId → List V → V → Prop} {h : Heap}
def nCC : Bs := [67, 97, 99, 104, 101, 45, 67, 111, 110, 116, 114, 111, 108]
def nPr : Bs := [80, 114, 97, 103, 109, 97]
def nNC : Bs := [110, 111, 45, 99, 97, 99, 104, 101]
def setB (c : Ct) (i : Nat) (b : Bool) : Ct := ⟨fun k => if k = i then b else c.f k, c.n⟩
def pragB (s : Bs) : Bool := match split (low s) with
  | none => false
  | some l => l.contains nNC
def ofC (l : List Fld) : Ct := if 0 < (valsOf l nCC).length then (parseC (joinS (valsOf l nCC))).1 else setB ct0 1 (pragB (joinS (valsOf l nPr)))
theorem sIndex_ok {x : V} {l : List Bs} {y : Bs} (hx : ListV 1 x (strs l)) (hl : l.length < 9223372036854775807) :
    Cf F L i_slices_Index___string_string_ [x, .str y] h (fun v h' => (∃ t, h' = h ++ t) ∧ ∃ n : Int, v = .int .i64 n ∧ (decide (n ≥ 0) = l.contains y)) := by
  refine run_slices_Index___string_string_ ?_
  simp only [p_slices_Index___string_string_]
  have l1 := fun {K : V → Heap → Prop} {h : Heap} => hx.len (F := F) (L := L) (e := E0) (K := K) (h := h)
  simp only [strs_len] at l1
  simp (maxSteps := 4000000) only [vm, vl, Arg.get, cells, stor, boundO, resultsV, resV, partK, loadV, Vm.part, fillC, splice, reduceIte, reduceCtorEq, Nat.reduceEqDiff, Nat.reduceAdd, Nat.reduceSub, Nat.reduceMul, Nat.reduceLeDiff, ne_eq, not_false_eq_true, Int.reduceEq, Int.reduceLT, Int.reduceLE, Int.reduceNeg, Int.reduceToNat, Int.reduceGT, Int.reduceGE, Nat.reduceLT, Nat.lt_add_one, Nat.zero_lt_succ, Nat.succ_pos, Nat.zero_le, beq_self_eq_true, k_slices_Index___string_string__0, k_slices_Index___string_string__2, k_slices_Index___string_string__1, l1]
  refine l_slices_Index___string_string__0 (fun n e h' => ∃ i : Nat, n = l.length - i ∧ i ≤ l.length ∧ e 0 = x ∧ e 1 = .str y ∧ e 7 = .int .i64 l.length ∧ e 8 = .int .i64 i ∧ h' = h ∧ l.contains y = (l.drop i).contains y) ?_ (n := l.length) ⟨0, by simp, by simp, rfl, rfl, rfl, rfl, rfl, rfl⟩
  rintro n e h' ⟨i, rfl, hi, e0, e1, e7, e8, rfl, hc⟩
  simp only [b_slices_Index___string_string__0]
  rcases list_at' [] hi with ⟨hn, rfl, hd⟩ | ⟨hl1, hl2, hd, _⟩
  · rw [hd] at hc
    simp (maxSteps := 4000000) only [vm, vl, Arg.get, cells, stor, boundO, resultsV, resV, partK, loadV, Vm.part, fillC, splice, reduceIte, reduceCtorEq, Nat.reduceEqDiff, Nat.reduceAdd, Nat.reduceSub, Nat.reduceMul, Nat.reduceLeDiff, ne_eq, not_false_eq_true, Int.reduceEq, Int.reduceLT, Int.reduceLE, Int.reduceNeg, Int.reduceToNat, Int.reduceGT, Int.reduceGE, Nat.reduceLT, Nat.lt_add_one, Nat.zero_lt_succ, Nat.succ_pos, Nat.zero_le, beq_self_eq_true, k_slices_Index___string_string__0, k_slices_Index___string_string__2, k_slices_Index___string_string__1, e7, e8, hn]
    exact ⟨⟨[], by simp⟩, -1, rfl, by rw [hc]; rfl⟩
  · obtain ⟨o, rfl⟩ : ∃ o, x = .sl 1 o (strs l) := by
      rcases hx with ⟨he, _⟩ | h
      · have := strs_len l
        rw [he] at this
        simp at this
        omega
      · exact h
    have hsl : i < (strs l).length := by rw [strs_len]; exact hl2
    have hi0 : (0 : Int) ≤ (i : Int) := by omega
    have g : (strs l).getD i (.tup []) = .str (l.getD i []) := by
      unfold strs
      rw [List.getD_eq_getElem?_getD, List.getD_eq_getElem?_getD, List.getElem?_map, List.getElem?_eq_getElem hl2]; rfl
    have w := wrap64 (x := (i : Int) + 1) (by omega) (by omega)
    rw [hd, List.contains_cons] at hc
    generalize l.getD i [] = z at *
    cases hz : (y == z) with
    | true =>
      rw [hz, Bool.true_or] at hc
      simp (maxSteps := 4000000) only [vm, vl, Arg.get, cells, stor, boundO, resultsV, resV, partK, loadV, Vm.part, fillC, splice, reduceIte, reduceCtorEq, Nat.reduceEqDiff, Nat.reduceAdd, Nat.reduceSub, Nat.reduceMul, Nat.reduceLeDiff, ne_eq, not_false_eq_true, Int.reduceEq, Int.reduceLT, Int.reduceLE, Int.reduceNeg, Int.reduceToNat, Int.reduceGT, Int.reduceGE, Nat.reduceLT, Nat.lt_add_one, Nat.zero_lt_succ, Nat.succ_pos, Nat.zero_le, beq_self_eq_true, k_slices_Index___string_string__0, k_slices_Index___string_string__2, k_slices_Index___string_string__1, e0, e1, e7, e8, hl1, hsl, hi0, g, hz]
      exact ⟨⟨[], by simp⟩, i, rfl, by rw [hc]; simp⟩
    | false =>
      rw [hz, Bool.false_or] at hc
      simp (maxSteps := 4000000) only [vm, vl, Arg.get, cells, stor, boundO, resultsV, resV, partK, loadV, Vm.part, fillC, splice, reduceIte, reduceCtorEq, Nat.reduceEqDiff, Nat.reduceAdd, Nat.reduceSub, Nat.reduceMul, Nat.reduceLeDiff, ne_eq, not_false_eq_true, Int.reduceEq, Int.reduceLT, Int.reduceLE, Int.reduceNeg, Int.reduceToNat, Int.reduceGT, Int.reduceGE, Nat.reduceLT, Nat.lt_add_one, Nat.zero_lt_succ, Nat.succ_pos, Nat.zero_le, beq_self_eq_true, k_slices_Index___string_string__0, k_slices_Index___string_string__2, k_slices_Index___string_string__1, e0, e1, e7, e8, hl1, hsl, hi0, g, hz, w]
      exact ⟨l.length - (i + 1), by omega, i + 1, rfl, hl2, rfl, hc⟩
theorem sContains_ok {x : V} {l : List Bs} {y : Bs} (hx : ListV 1 x (strs l)) (hl : l.length < 9223372036854775807) : Cf F L i_slices_Contains___string_string_ [x, .str y] h (Pu h (.bool (l.contains y))) := by
  refine run_slices_Contains___string_string_ ?_
  simp only [p_slices_Contains___string_string_]
  simp (maxSteps := 4000000) only [vm, vl, Arg.get, cells, stor, boundO, resultsV, resV, partK, loadV, Vm.part, fillC, splice, reduceIte, reduceCtorEq, Nat.reduceEqDiff, Nat.reduceAdd, Nat.reduceSub, Nat.reduceMul, Nat.reduceLeDiff, ne_eq, not_false_eq_true, Int.reduceEq, Int.reduceLT, Int.reduceLE, Int.reduceNeg, Int.reduceToNat, Int.reduceGT, Int.reduceGE, Nat.reduceLT, Nat.lt_add_one, Nat.zero_lt_succ, Nat.succ_pos, Nat.zero_le, beq_self_eq_true]
  refine (sIndex_ok hx hl).mono fun v h' hv => ?_
  obtain ⟨⟨t, rfl⟩, n, rfl, hn⟩ := hv
  simp (maxSteps := 4000000) only [vm, vl, Arg.get, cells, stor, boundO, resultsV, resV, partK, loadV, Vm.part, fillC, splice, reduceIte, reduceCtorEq, Nat.reduceEqDiff, Nat.reduceAdd, Nat.reduceSub, Nat.reduceMul, Nat.reduceLeDiff, ne_eq, not_false_eq_true, Int.reduceEq, Int.reduceLT, Int.reduceLE, Int.reduceNeg, Int.reduceToNat, Int.reduceGT, Int.reduceGE, Nat.reduceLT, Nat.lt_add_one, Nat.zero_lt_succ, Nat.succ_pos, Nat.zero_le, beq_self_eq_true]
  exact hn
theorem split_small {s : Bs} {l : List Bs} (h : split s = some l) : l.length ≤ s.length + 1 := by
  have := splitG_len (Nat.le_refl _) (show splitG s [] false [] = some l from h)
  simpa using this
theorem Of_ok (HJ : JoinOk L) (HI : IndexOk L) (HU : UnqOk L) {x : V} {l : List Fld} (hx : ListV 2 x (flds l)) (hl : l.length < 100000) (hln : ∀ f ∈ l, f.1.length ≤ 140737488355328) (hsm : sumF l < 100000) :
    Cf F L i_control_Of [x] h (Pu h (.agg (ctV (ofC l)))) := by
  refine run_control_Of ?_
  simp only [p_control_Of]
  
  simp (maxSteps := 4000000) only [vm, vl, Arg.get, cells, stor, boundO, resultsV, resV, partK, loadV, Vm.part, fillC, splice, reduceIte, reduceCtorEq, Nat.reduceEqDiff, Nat.reduceAdd, Nat.reduceSub, Nat.reduceMul, Nat.reduceLeDiff, ne_eq, not_false_eq_true, Int.reduceEq, Int.reduceLT, Int.reduceLE, Int.reduceNeg, Int.reduceToNat, Int.reduceGT, Int.reduceGE, Nat.reduceLT, Nat.lt_add_one, Nat.zero_lt_succ, Nat.succ_pos, Nat.zero_le, beq_self_eq_true]
  have j1 := vals_join l nCC
  have j2 := vals_join l nPr
  refine Cf.pu (Get_ok HJ (name := nCC) hx (by omega) hln (by decide) (by omega)) fun u1 => ?_
  have c1 := vals_len l nCC
  unfold ofC
  by_cases h0 : 0 < (valsOf l nCC).length
  · have h0' : ((valsOf l nCC).length : Int) > 0 := by omega
    rw [if_pos h0]
    simp (maxSteps := 4000000) only [vm, vl, Arg.get, cells, stor, boundO, resultsV, resV, partK, loadV, Vm.part, fillC, splice, reduceIte, reduceCtorEq, Nat.reduceEqDiff, Nat.reduceAdd, Nat.reduceSub, Nat.reduceMul, Nat.reduceLeDiff, ne_eq, not_false_eq_true, Int.reduceEq, Int.reduceLT, Int.reduceLE, Int.reduceNeg, Int.reduceToNat, Int.reduceGT, Int.reduceGE, Nat.reduceLT, Nat.lt_add_one, Nat.zero_lt_succ, Nat.succ_pos, Nat.zero_le, beq_self_eq_true, getV, h0', decide_true]
    refine Cf.pu (Parse_ok HI HU (by omega)) fun u2 => ?_
    have hc13 := ctV_len (parseC (joinS (valsOf l nCC))).1
    have ht13 : List.take 13 (ctV (parseC (joinS (valsOf l nCC))).1) = ctV (parseC (joinS (valsOf l nCC))).1 := rfl
    unfold k_control_Of_3
    simp (maxSteps := 4000000) only [vm, vl, Arg.get, cells, stor, boundO, resultsV, resV, partK, loadV, Vm.part, fillC, splice, reduceIte, reduceCtorEq, Nat.reduceEqDiff, Nat.reduceAdd, Nat.reduceSub, Nat.reduceMul, Nat.reduceLeDiff, ne_eq, not_false_eq_true, Int.reduceEq, Int.reduceLT, Int.reduceLE, Int.reduceNeg, Int.reduceToNat, Int.reduceGT, Int.reduceGE, Nat.reduceLT, Nat.lt_add_one, Nat.zero_lt_succ, Nat.succ_pos, Nat.zero_le, beq_self_eq_true, parseCV, hc13, ht13, List.append_nil]
  · have h0' : ¬ ((valsOf l nCC).length : Int) > 0 := by omega
    rw [if_neg h0]
    simp (maxSteps := 4000000) only [vm, vl, Arg.get, cells, stor, boundO, resultsV, resV, partK, loadV, Vm.part, fillC, splice, reduceIte, reduceCtorEq, Nat.reduceEqDiff, Nat.reduceAdd, Nat.reduceSub, Nat.reduceMul, Nat.reduceLeDiff, ne_eq, not_false_eq_true, Int.reduceEq, Int.reduceLT, Int.reduceLE, Int.reduceNeg, Int.reduceToNat, Int.reduceGT, Int.reduceGE, Nat.reduceLT, Nat.lt_add_one, Nat.zero_lt_succ, Nat.succ_pos, Nat.zero_le, beq_self_eq_true, getV, h0', decide_false]
    unfold k_control_Of_0
    simp (maxSteps := 4000000) only [vm, vl, Arg.get, cells, stor, boundO, resultsV, resV, partK, loadV, Vm.part, fillC, splice, reduceIte, reduceCtorEq, Nat.reduceEqDiff, Nat.reduceAdd, Nat.reduceSub, Nat.reduceMul, Nat.reduceLeDiff, ne_eq, not_false_eq_true, Int.reduceEq, Int.reduceLT, Int.reduceLE, Int.reduceNeg, Int.reduceToNat, Int.reduceGT, Int.reduceGE, Nat.reduceLT, Nat.lt_add_one, Nat.zero_lt_succ, Nat.succ_pos, Nat.zero_le, beq_self_eq_true]
    refine (nothing_ok).mono fun v h' hv => ?_
    obtain ⟨rfl, rfl⟩ := hv
    unfold k_control_Of_2
    have hc13 := ctV_len ct0
    have hd13 : List.drop 13 (ctV ct0) = [] := rfl
    simp (maxSteps := 4000000) only [vm, vl, Arg.get, cells, stor, boundO, resultsV, resV, partK, loadV, Vm.part, fillC, splice, reduceIte, reduceCtorEq, Nat.reduceEqDiff, Nat.reduceAdd, Nat.reduceSub, Nat.reduceMul, Nat.reduceLeDiff, ne_eq, not_false_eq_true, Int.reduceEq, Int.reduceLT, Int.reduceLE, Int.reduceNeg, Int.reduceToNat, Int.reduceGT, Int.reduceGE, Nat.reduceLT, Nat.lt_add_one, Nat.zero_lt_succ, Nat.succ_pos, Nat.zero_le, beq_self_eq_true, hc13]
    refine Cf.pu (Get_ok HJ (name := nPr) hx (by omega) hln (by decide) (by omega)) fun u3 => ?_
    simp (maxSteps := 4000000) only [vm, vl, Arg.get, cells, stor, boundO, resultsV, resV, partK, loadV, Vm.part, fillC, splice, reduceIte, reduceCtorEq, Nat.reduceEqDiff, Nat.reduceAdd, Nat.reduceSub, Nat.reduceMul, Nat.reduceLeDiff, ne_eq, not_false_eq_true, Int.reduceEq, Int.reduceLT, Int.reduceLE, Int.reduceNeg, Int.reduceToNat, Int.reduceGT, Int.reduceGE, Nat.reduceLT, Nat.lt_add_one, Nat.zero_lt_succ, Nat.succ_pos, Nat.zero_le, beq_self_eq_true, getV]
    refine Cf.pu (Lower_ok (by omega)) fun u4 => ?_
    have hll : (low (joinS (valsOf l nPr))).length < 8000000000 := by rw [low_length]; omega
    have hpr : pragB (joinS (valsOf l nPr)) = match split (low (joinS (valsOf l nPr))) with
      | none => false
      | some l => l.contains nNC := rfl
    rw [hpr]
    simp (maxSteps := 4000000) only [vm, vl, Arg.get, cells, stor, boundO, resultsV, resV, partK, loadV, Vm.part, fillC, splice, reduceIte, reduceCtorEq, Nat.reduceEqDiff, Nat.reduceAdd, Nat.reduceSub, Nat.reduceMul, Nat.reduceLeDiff, ne_eq, not_false_eq_true, Int.reduceEq, Int.reduceLT, Int.reduceLE, Int.reduceNeg, Int.reduceToNat, Int.reduceGT, Int.reduceGE, Nat.reduceLT, Nat.lt_add_one, Nat.zero_lt_succ, Nat.succ_pos, Nat.zero_le, beq_self_eq_true]
    refine Cf.pu (Split_ok hll) fun u5 => ?_
    unfold k_control_Of_1
    cases hsp : split (low (joinS (valsOf l nPr))) with
    | none =>
      simp only [splitV]
      simp (maxSteps := 4000000) only [vm, vl, Arg.get, cells, stor, boundO, resultsV, resV, partK, loadV, Vm.part, fillC, splice, reduceIte, reduceCtorEq, Nat.reduceEqDiff, Nat.reduceAdd, Nat.reduceSub, Nat.reduceMul, Nat.reduceLeDiff, ne_eq, not_false_eq_true, Int.reduceEq, Int.reduceLT, Int.reduceLE, Int.reduceNeg, Int.reduceToNat, Int.reduceGT, Int.reduceGE, Nat.reduceLT, Nat.lt_add_one, Nat.zero_lt_succ, Nat.succ_pos, Nat.zero_le, beq_self_eq_true, ctV]
      rfl
    | some ws =>
      simp only [splitV]
      have := split_small hsp
      simp (maxSteps := 4000000) only [vm, vl, Arg.get, cells, stor, boundO, resultsV, resV, partK, loadV, Vm.part, fillC, splice, reduceIte, reduceCtorEq, Nat.reduceEqDiff, Nat.reduceAdd, Nat.reduceSub, Nat.reduceMul, Nat.reduceLeDiff, ne_eq, not_false_eq_true, Int.reduceEq, Int.reduceLT, Int.reduceLE, Int.reduceNeg, Int.reduceToNat, Int.reduceGT, Int.reduceGE, Nat.reduceLT, Nat.lt_add_one, Nat.zero_lt_succ, Nat.succ_pos, Nat.zero_le, beq_self_eq_true]
      refine Cf.pu (sContains_ok (full_list ws) (by omega)) fun u6 => ?_
      rw [show nNC = ([110, 111, 45, 99, 97, 99, 104, 101] : Bs) from rfl]
      generalize ws.contains [110, 111, 45, 99, 97, 99, 104, 101] = bb
      simp (maxSteps := 4000000) only [vm, vl, Arg.get, cells, stor, boundO, resultsV, resV, partK, loadV, Vm.part, fillC, splice, reduceIte, reduceCtorEq, Nat.reduceEqDiff, Nat.reduceAdd, Nat.reduceSub, Nat.reduceMul, Nat.reduceLeDiff, ne_eq, not_false_eq_true, Int.reduceEq, Int.reduceLT, Int.reduceLE, Int.reduceNeg, Int.reduceToNat, Int.reduceGT, Int.reduceGE, Nat.reduceLT, Nat.lt_add_one, Nat.zero_lt_succ, Nat.succ_pos, Nat.zero_le, beq_self_eq_true, ctV]
      rfl
end Go.Proofs.YtaahialaegfjgaaGreatDoor.Vh
end
section
set_option linter.unusedVariables false
set_option linter.unusedSimpArgs false
namespace Go.Proofs.YtaahialaegfjgaaGreatDoor.Vh
open Go.Vm Go.Vt
attribute [local congr] wi_congr wg_congr wgd_congr wb_congr wl_congr cf_congr
variable {L : FuncId → List V → V → Prop} {h : Heap}
theorem strs_at {l : List Bs} {i : Nat} (hi : i < l.length) : (strs l).getD i (.tup []) = .str (l.getD i []) := by
  unfold strs
  rw [List.getD_eq_getElem?_getD, List.getD_eq_getElem?_getD, List.getElem?_map, List.getElem?_eq_getElem hi]; rfl
/-- What Names come to. -/
def namesO (s : Bs) : Option (List Bs) := match split s with
  | some a => if a.all isTok then some (a.map low) else none
  | none => none
def NamesP (h : Heap) (o : Option (List Bs)) (v : V) (h' : Heap) : Prop := (o = none ∧ v = .tup [.nsl, .bool false] ∧ ∃ t, h' = h ++ t) ∨ ∃ out x, o = some out ∧ v = .tup [x, .bool true] ∧ Grow 1 h h' x (strs out)
theorem mem_split_len {s : Bs} {a : List Bs} (hs : split s = some a) : a.length ≤ s.length + 1 := by
  have := splitG_len (Nat.le_refl _) hs
  simp at this; omega
theorem Names_ok (HJ : JoinOk L) {x : V} {l : List Fld} {name : Bs} (hx : ListV 2 x (flds l)) (hl : l.length < 100000) (hln : ∀ f ∈ l, f.1.length ≤ 140737488355328) (hn : name.length ≤ 140737488355328) (hj : (joinS (valsOf l name)).length ≤ 100000) :
    Cf F L i_field_Names [x, .str name] h (NamesP h (namesO (joinS (valsOf l name)))) := by
  refine run_field_Names ?_
  simp only [p_field_Names]
  simp (maxSteps := 4000000) only [vm, vl, Arg.get, cells, stor, boundO, resultsV, resV, partK, loadV, Vm.part, fillC, splice, reduceIte, reduceCtorEq, Nat.reduceEqDiff, Nat.reduceAdd, Nat.reduceSub, Nat.reduceMul, Nat.reduceLeDiff, ne_eq, not_false_eq_true, Int.reduceEq, Int.reduceLT, Int.reduceLE, Int.reduceNeg, Int.reduceToNat, Int.reduceGT, Int.reduceGE, Nat.reduceLT, Nat.lt_add_one, Nat.zero_lt_succ, Nat.succ_pos, Nat.zero_le, beq_self_eq_true, k_field_Names_1, k_field_Names_0, k_field_Names_3, k_field_Names_2]
  refine Cf.pu (Get_ok HJ hx (by omega) hln hn (by omega)) fun t => ?_
  simp only [getV]
  simp (maxSteps := 4000000) only [vm, vl, Arg.get, cells, stor, boundO, resultsV, resV, partK, loadV, Vm.part, fillC, splice, reduceIte, reduceCtorEq, Nat.reduceEqDiff, Nat.reduceAdd, Nat.reduceSub, Nat.reduceMul, Nat.reduceLeDiff, ne_eq, not_false_eq_true, Int.reduceEq, Int.reduceLT, Int.reduceLE, Int.reduceNeg, Int.reduceToNat, Int.reduceGT, Int.reduceGE, Nat.reduceLT, Nat.lt_add_one, Nat.zero_lt_succ, Nat.succ_pos, Nat.zero_le, beq_self_eq_true, k_field_Names_1, k_field_Names_0, k_field_Names_3, k_field_Names_2]
  refine Cf.pu (Split_ok (by omega)) fun t1 => ?_
  generalize joinS (valsOf l name) = s at *
  cases q : split s with
  | none =>
    simp only [splitV]
    simp (maxSteps := 4000000) only [vm, vl, Arg.get, cells, stor, boundO, resultsV, resV, partK, loadV, Vm.part, fillC, splice, reduceIte, reduceCtorEq, Nat.reduceEqDiff, Nat.reduceAdd, Nat.reduceSub, Nat.reduceMul, Nat.reduceLeDiff, ne_eq, not_false_eq_true, Int.reduceEq, Int.reduceLT, Int.reduceLE, Int.reduceNeg, Int.reduceToNat, Int.reduceGT, Int.reduceGE, Nat.reduceLT, Nat.lt_add_one, Nat.zero_lt_succ, Nat.succ_pos, Nat.zero_le, beq_self_eq_true, k_field_Names_1, k_field_Names_0, k_field_Names_3, k_field_Names_2]
    refine l_field_Names_0 (fun n e h' => e 9 = .bool false ∧ e 10 = .nsl ∧ e 25 = .int .i64 0 ∧ e 26 = .int .i64 0 ∧ ∃ t, h' = h ++ t) ?_ (n := 0) ⟨rfl, rfl, rfl, rfl, _, rfl⟩
    rintro n e h' ⟨e9, e10, e25, e26, t, rfl⟩
    simp only [b_field_Names_0]
    simp (maxSteps := 4000000) only [vm, vl, Arg.get, cells, stor, boundO, resultsV, resV, partK, loadV, Vm.part, fillC, splice, reduceIte, reduceCtorEq, Nat.reduceEqDiff, Nat.reduceAdd, Nat.reduceSub, Nat.reduceMul, Nat.reduceLeDiff, ne_eq, not_false_eq_true, Int.reduceEq, Int.reduceLT, Int.reduceLE, Int.reduceNeg, Int.reduceToNat, Int.reduceGT, Int.reduceGE, Nat.reduceLT, Nat.lt_add_one, Nat.zero_lt_succ, Nat.succ_pos, Nat.zero_le, beq_self_eq_true, k_field_Names_1, k_field_Names_0, k_field_Names_3, k_field_Names_2, e9, e10, e25, e26, decide_false, Bool.not_false]
    exact .inl ⟨by simp [namesO, q], rfl, _, rfl⟩
  | some a =>
    simp only [splitV]
    have hal := mem_split_len q
    have hfl := full_list a
    generalize fullV a = fa at *
    have l1 := fun {K : V → Heap → Prop} {h : Heap} => hfl.len (F := F) (L := L) (e := E0) (K := K) (h := h)
    simp only [strs_len] at l1
    have main : ∀ (e : Env) (h' : Heap), e 9 = .bool true → e 10 = .nsl → e 24 = fa → e 25 = .int .i64 a.length → e 26 = .int .i64 0 → (∃ t, h' = h ++ t) → Wl F L lc_field_Names_0 (q_field_Names_0 L (NamesP h (namesO s))) e h' := by
      rintro e h' e9 e10 e24 e25 e26 ⟨t, rfl⟩
      refine l_field_Names_0 (fun n e h' => ∃ i, n = a.length - i ∧ i ≤ a.length ∧ e 9 = .bool ((a.take i).all isTok) ∧ Grow 1 h h' (e 10) (strs ((a.take i).map low)) ∧ e 24 = fa ∧ e 25 = .int .i64 a.length ∧ e 26 = .int .i64 i) ?_ (n := a.length) ⟨0, by simp, by simp, e9, by rw [e10]; exact Grow.nil, e24, e25, e26⟩
      clear e9 e10 e24 e25 e26
      rintro n e h' ⟨i, rfl, hi, e9, G, e24, e25, e26⟩
      simp only [b_field_Names_0]
      generalize e10 : e 10 = x10 at *
      rcases list_at [] hi with ⟨hn', rfl, hd⟩ | ⟨hl1, hl2, hd, htk⟩
      · rw [List.take_of_length_le (Nat.le_refl _)] at G e9
        cases qa : a.all isTok with
        | true =>
          rw [qa] at e9
          simp (maxSteps := 4000000) only [vm, vl, Arg.get, cells, stor, boundO, resultsV, resV, partK, loadV, Vm.part, fillC, splice, reduceIte, reduceCtorEq, Nat.reduceEqDiff, Nat.reduceAdd, Nat.reduceSub, Nat.reduceMul, Nat.reduceLeDiff, ne_eq, not_false_eq_true, Int.reduceEq, Int.reduceLT, Int.reduceLE, Int.reduceNeg, Int.reduceToNat, Int.reduceGT, Int.reduceGE, Nat.reduceLT, Nat.lt_add_one, Nat.zero_lt_succ, Nat.succ_pos, Nat.zero_le, beq_self_eq_true, k_field_Names_1, k_field_Names_0, k_field_Names_3, k_field_Names_2, e9, e10, e24, e25, e26, hn', Bool.not_true]
          exact .inr ⟨a.map low, x10, by simp only [namesO, q, qa, if_true], rfl, G⟩
        | false =>
          rw [qa] at e9
          simp (maxSteps := 4000000) only [vm, vl, Arg.get, cells, stor, boundO, resultsV, resV, partK, loadV, Vm.part, fillC, splice, reduceIte, reduceCtorEq, Nat.reduceEqDiff, Nat.reduceAdd, Nat.reduceSub, Nat.reduceMul, Nat.reduceLeDiff, ne_eq, not_false_eq_true, Int.reduceEq, Int.reduceLT, Int.reduceLE, Int.reduceNeg, Int.reduceToNat, Int.reduceGT, Int.reduceGE, Nat.reduceLT, Nat.lt_add_one, Nat.zero_lt_succ, Nat.succ_pos, Nat.zero_le, beq_self_eq_true, k_field_Names_1, k_field_Names_0, k_field_Names_3, k_field_Names_2, e9, e10, e24, e25, e26, hn', Bool.not_false]
          exact .inl ⟨by simp [namesO, q, qa], rfl, G.1⟩
      · have w := wrap64 (x := (i : Int) + 1) (by omega) (by omega)
        have i1 := fun {K : V → Heap → Prop} {h : Heap} => hfl.at (F := F) (L := L) (e := E0) (K := K) (h := h) (i := i) (by rw [strs_len]; exact hl2)
        have a1 := strs_at hl2
        have hmem : a.getD i [] ∈ a := getD_mem hl2
        have hml := split_mem q _ hmem
        generalize hf : a.getD i [] = f at *
        obtain ⟨⟨t0, rfl⟩, _⟩ := id G
        have fin : ∀ t2, ∃ x' h'', appV (h ++ (t0 ++ t2)) 1 16 false x10 (.sl 1 .full [.str (low f)]) = some (x', h'') ∧ Grow 1 h h'' x' (strs ((a.take (i + 1)).map low)) := by
          intro t2
          obtain ⟨x', h'', ha, G3⟩ := (G.more (t := t2)).app (bytes := 16) (y := .str (low f)) (by rw [strs_len, List.length_map, List.length_take]; omega)
          rw [strs_app] at G3
          rw [List.append_assoc] at ha
          exact ⟨x', h'', ha, by rw [htk, List.map_append]; exact G3⟩
        cases qi : (a.take i).all isTok with
        | true =>
          rw [qi] at e9
          simp (maxSteps := 4000000) only [vm, vl, Arg.get, cells, stor, boundO, resultsV, resV, partK, loadV, Vm.part, fillC, splice, reduceIte, reduceCtorEq, Nat.reduceEqDiff, Nat.reduceAdd, Nat.reduceSub, Nat.reduceMul, Nat.reduceLeDiff, ne_eq, not_false_eq_true, Int.reduceEq, Int.reduceLT, Int.reduceLE, Int.reduceNeg, Int.reduceToNat, Int.reduceGT, Int.reduceGE, Nat.reduceLT, Nat.lt_add_one, Nat.zero_lt_succ, Nat.succ_pos, Nat.zero_le, beq_self_eq_true, k_field_Names_1, k_field_Names_0, k_field_Names_3, k_field_Names_2, e9, e10, e24, e25, e26, hl1, i1, a1, cells, w]
          refine Cf.pu (Is_ok (by omega)) fun t2 => ?_
          simp (maxSteps := 4000000) only [vm, vl, Arg.get, cells, stor, boundO, resultsV, resV, partK, loadV, Vm.part, fillC, splice, reduceIte, reduceCtorEq, Nat.reduceEqDiff, Nat.reduceAdd, Nat.reduceSub, Nat.reduceMul, Nat.reduceLeDiff, ne_eq, not_false_eq_true, Int.reduceEq, Int.reduceLT, Int.reduceLE, Int.reduceNeg, Int.reduceToNat, Int.reduceGT, Int.reduceGE, Nat.reduceLT, Nat.lt_add_one, Nat.zero_lt_succ, Nat.succ_pos, Nat.zero_le, beq_self_eq_true, k_field_Names_1, k_field_Names_0, k_field_Names_3, k_field_Names_2]
          refine Cf.pu (Lower_ok (by omega)) fun t3 => ?_
          obtain ⟨x', h'', ha, G3⟩ := fin (t2 ++ t3)
          simp only [List.append_assoc] at ha ⊢
          simp (maxSteps := 4000000) only [vm, vl, Arg.get, cells, stor, boundO, resultsV, resV, partK, loadV, Vm.part, fillC, splice, reduceIte, reduceCtorEq, Nat.reduceEqDiff, Nat.reduceAdd, Nat.reduceSub, Nat.reduceMul, Nat.reduceLeDiff, ne_eq, not_false_eq_true, Int.reduceEq, Int.reduceLT, Int.reduceLE, Int.reduceNeg, Int.reduceToNat, Int.reduceGT, Int.reduceGE, Nat.reduceLT, Nat.lt_add_one, Nat.zero_lt_succ, Nat.succ_pos, Nat.zero_le, beq_self_eq_true, k_field_Names_1, k_field_Names_0, k_field_Names_3, k_field_Names_2, ha, w]
          refine ⟨a.length - (i + 1), by omega, i + 1, rfl, hl2, ?_, G3, rfl⟩
          rw [htk, List.all_append, qi]; simp
        | false =>
          rw [qi] at e9
          simp (maxSteps := 4000000) only [vm, vl, Arg.get, cells, stor, boundO, resultsV, resV, partK, loadV, Vm.part, fillC, splice, reduceIte, reduceCtorEq, Nat.reduceEqDiff, Nat.reduceAdd, Nat.reduceSub, Nat.reduceMul, Nat.reduceLeDiff, ne_eq, not_false_eq_true, Int.reduceEq, Int.reduceLT, Int.reduceLE, Int.reduceNeg, Int.reduceToNat, Int.reduceGT, Int.reduceGE, Nat.reduceLT, Nat.lt_add_one, Nat.zero_lt_succ, Nat.succ_pos, Nat.zero_le, beq_self_eq_true, k_field_Names_1, k_field_Names_0, k_field_Names_3, k_field_Names_2, e9, e10, e24, e25, e26, hl1, i1, a1, cells, w]
          refine Cf.pu (Lower_ok (by omega)) fun t3 => ?_
          obtain ⟨x', h'', ha, G3⟩ := fin t3
          simp only [List.append_assoc] at ha ⊢
          simp (maxSteps := 4000000) only [vm, vl, Arg.get, cells, stor, boundO, resultsV, resV, partK, loadV, Vm.part, fillC, splice, reduceIte, reduceCtorEq, Nat.reduceEqDiff, Nat.reduceAdd, Nat.reduceSub, Nat.reduceMul, Nat.reduceLeDiff, ne_eq, not_false_eq_true, Int.reduceEq, Int.reduceLT, Int.reduceLE, Int.reduceNeg, Int.reduceToNat, Int.reduceGT, Int.reduceGE, Nat.reduceLT, Nat.lt_add_one, Nat.zero_lt_succ, Nat.succ_pos, Nat.zero_le, beq_self_eq_true, k_field_Names_1, k_field_Names_0, k_field_Names_3, k_field_Names_2, ha, w]
          refine ⟨a.length - (i + 1), by omega, i + 1, rfl, hl2, ?_, G3, rfl⟩
          rw [htk, List.all_append, qi]; simp
    rcases id hfl with ⟨he, rfl⟩ | ⟨o, rfl⟩
    · have ha : a = [] := by simpa [strs] using he
      subst ha
      
      simp (maxSteps := 4000000) only [vm, vl, Arg.get, cells, stor, boundO, resultsV, resV, partK, loadV, Vm.part, fillC, splice, reduceIte, reduceCtorEq, Nat.reduceEqDiff, Nat.reduceAdd, Nat.reduceSub, Nat.reduceMul, Nat.reduceLeDiff, ne_eq, not_false_eq_true, Int.reduceEq, Int.reduceLT, Int.reduceLE, Int.reduceNeg, Int.reduceToNat, Int.reduceGT, Int.reduceGE, Nat.reduceLT, Nat.lt_add_one, Nat.zero_lt_succ, Nat.succ_pos, Nat.zero_le, beq_self_eq_true]
      exact main _ _ rfl rfl rfl rfl rfl ⟨_, rfl⟩
    · simp (maxSteps := 4000000) only [vm, vl, Arg.get, cells, stor, boundO, resultsV, resV, partK, loadV, Vm.part, fillC, splice, reduceIte, reduceCtorEq, Nat.reduceEqDiff, Nat.reduceAdd, Nat.reduceSub, Nat.reduceMul, Nat.reduceLeDiff, ne_eq, not_false_eq_true, Int.reduceEq, Int.reduceLT, Int.reduceLE, Int.reduceNeg, Int.reduceToNat, Int.reduceGT, Int.reduceGE, Nat.reduceLT, Nat.lt_add_one, Nat.zero_lt_succ, Nat.succ_pos, Nat.zero_le, beq_self_eq_true, strs_len]
      exact main _ _ rfl rfl rfl rfl rfl ⟨_, rfl⟩
end Go.Proofs.YtaahialaegfjgaaGreatDoor.Vh
end
section
set_option linter.unusedVariables false
set_option linter.unusedSimpArgs false
namespace Go.Proofs.YtaahialaegfjgaaGreatDoor.Vh
open Go.Vm Go.Vt
attribute [local congr] wi_congr wg_congr wgd_congr wb_congr wl_congr cf_congr
variable {L : FuncId → List V → V → Prop} {h : Heap}
def seven : List Bs := [[67, 111, 110, 110, 101, 99, 116, 105, 111, 110], [75, 101, 101, 112, 45, 65, 108, 105, 118, 101], [80, 114, 111, 120, 121, 45, 67, 111, 110, 110, 101, 99, 116, 105, 111, 110], [84, 69], [84, 114, 97, 105, 108, 101, 114], [84, 114, 97, 110, 115, 102, 101, 114, 45, 69, 110, 99, 111, 100, 105, 110, 103], [85, 112, 103, 114, 97, 100, 101]]
def connS : Bs := [67, 111, 110, 110, 101, 99, 116, 105, 111, 110]
def namesL (l : List Fld) (name : Bs) : List Bs := (namesO (joinS (valsOf l name))).getD []
def stripL (l : List Fld) : List Fld := l.filter (stays (namesL l connS ++ seven))
theorem low_len (s : Bs) : (low s).length = s.length := by unfold low; exact List.length_map ..
theorem names_bound {s : Bs} {out : List Bs} (h : namesO s = some out) : out.length ≤ s.length + 1 ∧ ∀ n ∈ out, n.length ≤ s.length := by
  unfold namesO at h
  split at h
  · rename_i a q
    split at h
    · simp only [Option.some.injEq] at h
      subst h
      refine ⟨by rw [List.length_map]; exact mem_split_len q, fun n hn => ?_⟩
      obtain ⟨m, hm, rfl⟩ := List.mem_map.1 hn
      rw [low_len]; exact split_mem q _ hm
    · cases h
  · cases h
theorem Strip_ok (HJ : JoinOk L) {x : V} {l : List Fld} (hx : ListV 2 x (flds l)) (hl : l.length < 100000) (hln : ∀ f ∈ l, f.1.length ≤ 140737488355328) (hj : (joinS (valsOf l connS)).length ≤ 100000) :
    Cf F L i_field_Strip [x] h (fun v h' => Grow 2 h h' v (flds (stripL l))) := by
  refine run_field_Strip ?_
  simp only [p_field_Strip]
  simp (maxSteps := 4000000) only [vm, vl, Arg.get, cells, stor, boundO, resultsV, resV, partK, loadV, Vm.part, fillC, splice, reduceIte, reduceCtorEq, Nat.reduceEqDiff, Nat.reduceAdd, Nat.reduceSub, Nat.reduceMul, Nat.reduceLeDiff, ne_eq, not_false_eq_true, Int.reduceEq, Int.reduceLT, Int.reduceLE, Int.reduceNeg, Int.reduceToNat, Int.reduceGT, Int.reduceGE, Nat.reduceLT, Nat.lt_add_one, Nat.zero_lt_succ, Nat.succ_pos, Nat.zero_le, beq_self_eq_true]
  refine (Names_ok (name := connS) HJ hx hl hln (Nat.le_trans (show connS.length ≤ 100 by decide) (by omega)) hj).mono fun v h' hp => ?_
  have main : ∀ (y : V) (nm : List Bs) (h1 : Heap), namesL l connS = nm → nm.length ≤ 100001 → (∀ n ∈ nm, n.length ≤ 100000) → Ow 1 h h1 y (strs nm) → ∃ x' h'', appV h1 1 16 false y (.sl 1 .full (strs seven)) = some (x', h'') ∧ Cf F L i_field_without [x, x'] h'' (fun v h' => Grow 2 h h' v (flds (stripL l))) := by
    intro y nm h1 hnm hlen hmem O
    obtain ⟨x', h'', ha, O2⟩ := O.app (bytes := 16) (y := .sl 1 .full (strs seven)) (ys := strs seven) (.inr ⟨_, rfl⟩) (by rw [strs_len, strs_len]; have : seven.length = 7 := rfl; omega)
    refine ⟨x', h'', ha, ?_⟩
    obtain ⟨⟨t2, rfl⟩, _⟩ := id O2
    have hlist := O2.list
    have e : strs nm ++ strs seven = (nm ++ seven).map V.str := by simp [strs]
    rw [e] at hlist
    refine (without_ok (names := nm ++ seven) hx hlist (by omega) (by rw [List.length_append]; have : seven.length = 7 := rfl; omega) hln ?_).mono fun v h' G => ?_
    · intro n hn
      rcases List.mem_append.1 hn with hn | hn
      · have := hmem n hn; omega
      · have : ∀ n ∈ seven, n.length ≤ 100 := by decide
        exact Nat.le_trans (this n hn) (by omega)
    · have := G.less
      unfold stripL
      rw [hnm]; exact this
  rcases hp with ⟨q, rfl, t, rfl⟩ | ⟨out, y, q, rfl, G⟩
  · obtain ⟨x', h'', ha, hc⟩ := main .nsl [] (h ++ t) (by unfold namesL; rw [show namesO (joinS (valsOf l connS)) = none from q]; rfl) (by simp) (by simp) Ow.nil
    simp only [strs, seven, List.map_cons, List.map_nil] at ha
    simp (maxSteps := 4000000) only [vm, vl, Arg.get, cells, stor, boundO, resultsV, resV, partK, loadV, Vm.part, fillC, splice, reduceIte, reduceCtorEq, Nat.reduceEqDiff, Nat.reduceAdd, Nat.reduceSub, Nat.reduceMul, Nat.reduceLeDiff, ne_eq, not_false_eq_true, Int.reduceEq, Int.reduceLT, Int.reduceLE, Int.reduceNeg, Int.reduceToNat, Int.reduceGT, Int.reduceGE, Nat.reduceLT, Nat.lt_add_one, Nat.zero_lt_succ, Nat.succ_pos, Nat.zero_le, beq_self_eq_true, ha]
    exact hc
  · obtain ⟨b1, b2⟩ := names_bound q
    obtain ⟨x', h'', ha, hc⟩ := main y out h' (by unfold namesL; rw [show namesO (joinS (valsOf l connS)) = some out from q]; rfl) (by have : (joinS (valsOf l connS)).length ≤ 100000 := hj; exact Nat.le_trans b1 (by unfold connS at this; omega)) (fun n hn => Nat.le_trans (b2 n hn) hj) G.ow
    simp only [strs, seven, List.map_cons, List.map_nil] at ha
    simp (maxSteps := 4000000) only [vm, vl, Arg.get, cells, stor, boundO, resultsV, resV, partK, loadV, Vm.part, fillC, splice, reduceIte, reduceCtorEq, Nat.reduceEqDiff, Nat.reduceAdd, Nat.reduceSub, Nat.reduceMul, Nat.reduceLeDiff, ne_eq, not_false_eq_true, Int.reduceEq, Int.reduceLT, Int.reduceLE, Int.reduceNeg, Int.reduceToNat, Int.reduceGT, Int.reduceGE, Nat.reduceLT, Nat.lt_add_one, Nat.zero_lt_succ, Nat.succ_pos, Nat.zero_le, beq_self_eq_true, ha]
    exact hc
theorem stays_cons (n : Bs) (r : List Bs) (f : Fld) : stays (n :: r) f = (stays [n] f && stays r f) := by simp [stays]
theorem foldl_without : ∀ (ns : List Bs) (l : List Fld), ns.foldl without l = l.filter (stays ns)
  | [], l => by
    rw [List.foldl_nil]
    exact (List.filter_eq_self.2 fun f _ => by simp [stays]).symm
  | n :: r, l => by
    rw [List.foldl_cons, foldl_without r, without, List.filter_filter]
    apply List.filter_congr
    intro f _
    rw [stays_cons n r, Bool.and_comm]
theorem fold_len (ns : List Bs) (l : List Fld) : (ns.foldl without l).length ≤ l.length := by
  rw [foldl_without]; exact List.length_filter_le _ _
end Go.Proofs.YtaahialaegfjgaaGreatDoor.Vh
end
section
set_option linter.unusedVariables false
set_option linter.unusedSimpArgs false
namespace Go.Proofs.YtaahialaegfjgaaGreatDoor.Vh
/-- Years that begin with March: the day n of 400 years is the day s of the year 100B + 4Q + R. -/
theorem years_ok (n y : Int) (h0 : 0 ≤ n) (h1 : n < 146097) (hy : y = (n - n / 1460 + n / 36524 - n / 146096) / 365) :
    ∃ B Q R s : Int, 0 ≤ B ∧ B ≤ 3 ∧ 0 ≤ Q ∧ Q ≤ 24 ∧ 0 ≤ R ∧ R ≤ 3 ∧ 0 ≤ s ∧ s ≤ 365 ∧ (s = 365 → R = 3 ∧ (Q ≤ 23 ∨ B = 3)) ∧ n = 36524 * B + 1461 * Q + 365 * R + s ∧ y = 100 * B + 4 * Q + R := by
  obtain ⟨B, hB0, hB3, r, hr0, hr1, hn⟩ : ∃ B : Int, 0 ≤ B ∧ B ≤ 3 ∧ ∃ r : Int, 0 ≤ r ∧ (r ≤ 36523 ∨ B = 3 ∧ r ≤ 36524) ∧ n = 36524 * B + r := by
    by_cases h : n = 146096
    · exact ⟨3, by omega, by omega, 36524, by omega, by omega, by omega⟩
    · exact ⟨n / 36524, by omega, by omega, n - 36524 * (n / 36524), by omega, by omega, by omega⟩
  obtain ⟨Q, hQ0, hQ4, s0, hs0, hs1, hr⟩ : ∃ Q : Int, 0 ≤ Q ∧ Q ≤ 24 ∧ ∃ s : Int, 0 ≤ s ∧ s ≤ 1460 ∧ r = 1461 * Q + s :=
    ⟨r / 1461, by omega, by omega, r - 1461 * (r / 1461), by omega, by omega, by omega⟩
  obtain ⟨R, hR0, hR3, s, hs2, hs3, hs⟩ : ∃ R : Int, 0 ≤ R ∧ R ≤ 3 ∧ ∃ s : Int, 0 ≤ s ∧ (s ≤ 364 ∨ R = 3 ∧ s ≤ 365) ∧ s0 = 365 * R + s := by
    by_cases h : s0 = 1460
    · exact ⟨3, by omega, by omega, 365, by omega, by omega, by omega⟩
    · exact ⟨s0 / 365, by omega, by omega, s0 - 365 * (s0 / 365), by omega, by omega, by omega⟩
  refine ⟨B, Q, R, s, hB0, hB3, hQ0, hQ4, hR0, hR3, hs2, by omega, by omega, by omega, ?_⟩
  subst hs hr hn
  obtain ⟨t, ht, ht01⟩ : ∃ t, (36524 * B + (1461 * Q + (365 * R + s))) / 1460 = 25 * B + Q + t ∧ (t = 0 ∧ 24 * B + Q + 365 * R + s < 1460 ∨ t = 1 ∧ 1460 ≤ 24 * B + Q + 365 * R + s) := by
    by_cases h : 24 * B + Q + 365 * R + s < 1460
    · exact ⟨0, by omega, by omega⟩
    · exact ⟨1, by omega, by omega⟩
  have hu : (36524 * B + (1461 * Q + (365 * R + s))) / 36524 - (36524 * B + (1461 * Q + (365 * R + s))) / 146096 = B := by omega
  rw [hy]
  omega
def mlen (k : Int) : Int := if k = 1 ∨ k = 3 ∨ k = 6 ∨ k = 8 then 30 else if k = 11 then 29 else 31
theorem month_ok (s k : Int) (h0 : 0 ≤ s) (h1 : s ≤ 365) (hk : k = (5 * s + 2) / 153) : 0 ≤ k ∧ k ≤ 11 ∧ 1 ≤ s - (153 * k + 2) / 5 + 1 ∧ s - (153 * k + 2) / 5 + 1 ≤ mlen k := by
  have hk12 : k = 0 ∨ k = 1 ∨ k = 2 ∨ k = 3 ∨ k = 4 ∨ k = 5 ∨ k = 6 ∨ k = 7 ∨ k = 8 ∨ k = 9 ∨ k = 10 ∨ k = 11 := by omega
  unfold mlen
  rcases hk12 with rfl | rfl | rfl | rfl | rfl | rfl | rfl | rfl | rfl | rfl | rfl | rfl <;> simp <;> omega
theorem month_of (k d : Int) (h0 : 0 ≤ k) (h1 : k ≤ 11) (hd1 : 1 ≤ d) (hd2 : d ≤ mlen k) : 0 ≤ (153 * k + 2) / 5 + d - 1 ∧ (153 * k + 2) / 5 + d - 1 ≤ 365 ∧ (5 * ((153 * k + 2) / 5 + d - 1) + 2) / 153 = k := by
  have hk12 : k = 0 ∨ k = 1 ∨ k = 2 ∨ k = 3 ∨ k = 4 ∨ k = 5 ∨ k = 6 ∨ k = 7 ∨ k = 8 ∨ k = 9 ∨ k = 10 ∨ k = 11 := by omega
  unfold mlen at hd2
  rcases hk12 with rfl | rfl | rfl | rfl | rfl | rfl | rfl | rfl | rfl | rfl | rfl | rfl <;> simp at hd2 <;> omega
theorem years_uniq (B Q R s B' Q' R' s' : Int) (h : 36524 * B + 1461 * Q + 365 * R + s = 36524 * B' + 1461 * Q' + 365 * R' + s')
    (a1 : 0 ≤ B) (a2 : B ≤ 3) (a3 : 0 ≤ Q) (a4 : Q ≤ 24) (a5 : 0 ≤ R) (a6 : R ≤ 3) (a7 : 0 ≤ s) (a8 : s ≤ 365) (a9 : s = 365 → R = 3 ∧ (Q ≤ 23 ∨ B = 3))
    (b1 : 0 ≤ B') (b2 : B' ≤ 3) (b3 : 0 ≤ Q') (b4 : Q' ≤ 24) (b5 : 0 ≤ R') (b6 : R' ≤ 3) (b7 : 0 ≤ s') (b8 : s' ≤ 365) (b9 : s' = 365 → R' = 3 ∧ (Q' ≤ 23 ∨ B' = 3)) :
    B = B' ∧ Q = Q' ∧ R = R' ∧ s = s' := by
  have e1 : B = B' := by omega
  have e2 : Q = Q' := by omega
  have e3 : R = R' := by omega
  exact ⟨e1, e2, e3, by omega⟩
def leapP (y : Int) : Prop := y % 4 = 0 ∧ (y % 100 ≠ 0 ∨ y % 400 = 0)
instance (y : Int) : Decidable (leapP y) := by unfold leapP; infer_instance
def dim (y m : Int) : Int := if m = 2 then (if leapP y then 29 else 28) else if m = 4 ∨ m = 6 ∨ m = 9 ∨ m = 11 then 30 else 31
def numY (Y M d : Int) : Int := (Y / 400) * 146097 + (Y % 400) * 365 + (Y % 400) / 4 - (Y % 400) / 100 + (153 * M + 2) / 5 + d - 1 - 719468
def numD (y m d : Int) : Int := if m ≤ 2 then numY (y - 1) (m + 9) d else numY y (m - 3) d
def yearsS (n : Int) : Int := (n - n / 1460 + n / 36524 - n / 146096) / 365
def restS (n : Int) : Int := n - (365 * yearsS n + yearsS n / 4 - yearsS n / 100)
def monS (n : Int) : Int := (5 * restS n + 2) / 153
def civilS (day : Int) : Int × Int × Int :=
  if monS ((day + 719468) % 146097) + 3 > 12 then (yearsS ((day + 719468) % 146097) + 400 * ((day + 719468) / 146097) + 1, monS ((day + 719468) % 146097) + 3 - 12, restS ((day + 719468) % 146097) - (153 * monS ((day + 719468) % 146097) + 2) / 5 + 1)
  else (yearsS ((day + 719468) % 146097) + 400 * ((day + 719468) / 146097), monS ((day + 719468) % 146097) + 3, restS ((day + 719468) % 146097) - (153 * monS ((day + 719468) % 146097) + 2) / 5 + 1)
theorem years_parts (B Q R : Int) (a1 : 0 ≤ B) (a2 : B ≤ 3) (a3 : 0 ≤ Q) (a4 : Q ≤ 24) (a5 : 0 ≤ R) (a6 : R ≤ 3) :
    (100 * B + 4 * Q + R) / 4 = 25 * B + Q ∧ (100 * B + 4 * Q + R) / 100 = B := by omega
theorem leap_next (e B Q R : Int) (a1 : 0 ≤ B) (a2 : B ≤ 3) (a3 : 0 ≤ Q) (a4 : Q ≤ 24) (a5 : 0 ≤ R) (a6 : R ≤ 3) : leapP (100 * B + 4 * Q + R + 400 * e + 1) ↔ R = 3 ∧ (Q ≤ 23 ∨ B = 3) := by
  unfold leapP
  omega
theorem year_lo (e y s : Int) (h : 719468 ≤ 146097 * e + (365 * y + y / 4 - y / 100 + s)) (hy0 : 0 ≤ y) (hy1 : y ≤ 399) (hs : s ≤ 305) : 1970 ≤ y + 400 * e := by
  rcases Int.lt_or_le (y + 400 * e) 1970 with h1 | h1
  · exfalso
    obtain ⟨a, ha⟩ : ∃ a, a = y / 4 := ⟨_, rfl⟩
    obtain ⟨b, hb⟩ : ∃ b, b = y / 100 := ⟨_, rfl⟩
    have ha1 : a ≤ 99 := by omega
    have hb1 : 0 ≤ b := by omega
    rw [← ha, ← hb] at h
    have he : 4 ≤ e := by omega
    have he : e = 4 := by omega
    subst he
    have : y ≤ 369 := by omega
    have : a ≤ 92 := by omega
    have : b = 3 ∨ y ≤ 299 := by omega
    omega
  · exact h1
theorem year_hi (e y s : Int) (h : 146097 * e + (365 * y + y / 4 - y / 100 + s) ≤ 3652364) (hy0 : 0 ≤ y) (hy1 : y ≤ 399) (hs : 0 ≤ s) : y + 400 * e ≤ 9999 := by
  rcases Int.lt_or_le 9999 (y + 400 * e) with h1 | h1
  · exfalso
    obtain ⟨a, ha⟩ : ∃ a, a = y / 4 := ⟨_, rfl⟩
    obtain ⟨b, hb⟩ : ∃ b, b = y / 100 := ⟨_, rfl⟩
    have ha1 : 0 ≤ a := by omega
    have hb1 : b ≤ 3 := by omega
    rw [← ha, ← hb] at h
    have : 25 ≤ e := by omega
    omega
  · exact h1
theorem day_hi (e y s : Int) (h : y + 400 * e ≤ 9999) (hy0 : 0 ≤ y) (hy1 : y ≤ 399) (hs : s ≤ 305) : 146097 * e + (365 * y + y / 4 - y / 100 + s) ≤ 3652364 := by
  obtain ⟨a, ha⟩ : ∃ a, a = y / 4 := ⟨_, rfl⟩
  obtain ⟨b, hb⟩ : ∃ b, b = y / 100 := ⟨_, rfl⟩
  have ha1 : a ≤ 99 := by omega
  have hb1 : b = 3 ∨ y ≤ 299 := by omega
  have hb0 : 0 ≤ b := by omega
  rw [← ha, ← hb]
  have : e ≤ 24 := by omega
  omega
theorem civil_ok (day : Int) (h0 : 0 ≤ day) (h1 : day ≤ 2932896) :
    ∃ y m d, civilS day = (y, m, d) ∧ 1970 ≤ y ∧ y ≤ 9999 ∧ 1 ≤ m ∧ m ≤ 12 ∧ 1 ≤ d ∧ d ≤ dim y m ∧ numD y m d = day := by
  obtain ⟨e, he⟩ : ∃ e, e = (day + 719468) / 146097 := ⟨_, rfl⟩
  obtain ⟨n, hn⟩ : ∃ n, n = (day + 719468) % 146097 := ⟨_, rfl⟩
  obtain ⟨y, hy⟩ : ∃ y, y = yearsS n := ⟨_, rfl⟩
  obtain ⟨B, Q, R, s, a1, a2, a3, a4, a5, a6, a7, a8, a9, hn2, hy2⟩ := years_ok n y (by omega) (by omega) hy
  obtain ⟨p4, p100⟩ := years_parts B Q R a1 a2 a3 a4 a5 a6
  have hs : restS n = s := by unfold restS; rw [← hy, hy2, p4, p100]; omega
  obtain ⟨k, hk⟩ : ∃ k, k = monS n := ⟨_, rfl⟩
  have hk2 : k = (5 * s + 2) / 153 := by rw [hk]; unfold monS; rw [hs]
  obtain ⟨k0, k1, d0, d1⟩ := month_ok s k a7 a8 hk2
  obtain ⟨d, hd⟩ : ∃ d, d = s - (153 * k + 2) / 5 + 1 := ⟨_, rfl⟩
  rw [← hd] at d0 d1
  have hl := leap_next e B Q R a1 a2 a3 a4 a5 a6
  unfold civilS
  rw [← hn, ← he, ← hk, ← hy, hs, ← hd]
  by_cases h12 : k + 3 > 12
  · rw [if_pos h12]
    refine ⟨_, _, _, rfl, by omega, by omega, by omega, by omega, d0, ?_, ?_⟩
    · unfold dim
      unfold mlen at d1
      have hk : k = 10 ∨ k = 11 := by omega
      rcases hk with rfl | rfl
      · simp at d1 ⊢; omega
      · simp only [show (11 + 3 - 12 : Int) = 2 from rfl, if_true]
        by_cases hlp : leapP (y + 400 * e + 1)
        · rw [if_pos hlp]; simp at d1; omega
        · rw [if_neg hlp]
          have : s ≠ 365 := fun h => hlp (by rw [hy2]; exact hl.2 (a9 h))
          omega
    · unfold numD numY
      rw [if_pos (by omega)]
      have e1 : (y + 400 * e + 1 - 1) / 400 = e := by omega
      have e2 : (y + 400 * e + 1 - 1) % 400 = y := by omega
      rw [e1, e2, hy2, p4, p100]
      have : k + 3 - 12 + 9 = k := by omega
      rw [this]
      omega
  · rw [if_neg h12]
    have hs305 : s ≤ 305 := by omega
    have hn3 : n = 365 * y + y / 4 - y / 100 + s := by rw [hy2, p4, p100]; omega
    have hlo : 1970 ≤ y + 400 * e := year_lo e y s (by rw [← hn3]; omega) (by omega) (by omega) hs305
    have hhi : y + 400 * e ≤ 9999 := year_hi e y s (by rw [← hn3]; omega) (by omega) (by omega) a7
    refine ⟨_, _, _, rfl, hlo, hhi, by omega, by omega, d0, ?_, ?_⟩
    · unfold dim
      unfold mlen at d1
      rw [if_neg (by omega)]
      split at d1 <;> split <;> omega
    · unfold numD numY
      rw [if_neg (by omega)]
      have e1 : (y + 400 * e) / 400 = e := by omega
      have e2 : (y + 400 * e) % 400 = y := by omega
      rw [e1, e2, hy2, p4, p100]
      have : k + 3 - 3 = k := by omega
      rw [this]
      omega
theorem numY_parts (Y M d : Int) (hY : 0 ≤ Y) : ∃ e B Q R, 0 ≤ e ∧ 0 ≤ B ∧ B ≤ 3 ∧ 0 ≤ Q ∧ Q ≤ 24 ∧ 0 ≤ R ∧ R ≤ 3 ∧ Y = 100 * B + 4 * Q + R + 400 * e ∧ numY Y M d = 146097 * e + 36524 * B + 1461 * Q + 365 * R + (153 * M + 2) / 5 + d - 1 - 719468 := by
  refine ⟨Y / 400, (Y % 400) / 100, (Y % 100) / 4, Y % 4, by omega, by omega, by omega, by omega, by omega, by omega, by omega, by omega, ?_⟩
  unfold numY
  omega
theorem civil_num (y m d : Int) (hy0 : 1970 ≤ y) (hy1 : y ≤ 9999) (hm0 : 1 ≤ m) (hm1 : m ≤ 12) (hd0 : 1 ≤ d) (hd1 : d ≤ dim y m) :
    0 ≤ numD y m d ∧ numD y m d ≤ 2932896 ∧ civilS (numD y m d) = (y, m, d) := by
  obtain ⟨Y, M, hY, hM0, hM1, hnum, hback, hdm⟩ : ∃ Y M, 1969 ≤ Y ∧ 0 ≤ M ∧ M ≤ 11 ∧ numD y m d = numY Y M d ∧ (if M + 3 > 12 then (Y + 1, M + 3 - 12, d) else (Y, M + 3, d)) = (y, m, d) ∧ (d ≤ mlen M ∧ (M = 11 → d = 29 → leapP (Y + 1)) ∧ (M + 3 > 12 → Y ≤ 9998) ∧ Y ≤ 9999 ∧ (M + 3 ≤ 12 → 1970 ≤ Y)) := by
    unfold dim at hd1
    by_cases h2 : m ≤ 2
    · refine ⟨y - 1, m + 9, by omega, by omega, by omega, by unfold numD; rw [if_pos h2], ?_, ?_⟩
      · rw [if_pos (by omega)]
        congr 1
        · omega
        · congr 1; omega
      · unfold mlen
        have hm12 : m = 1 ∨ m = 2 := by omega
        rcases hm12 with rfl | rfl
        · simp at hd1 ⊢; omega
        · simp only [if_true] at hd1
          split at hd1
          · rename_i hl
            refine ⟨by simp; omega, fun _ _ => by rw [show y - 1 + 1 = y from by omega]; exact hl, by omega, by omega, by omega⟩
          · refine ⟨by simp; omega, fun _ h => by omega, by omega, by omega, by omega⟩
    · refine ⟨y, m - 3, by omega, by omega, by omega, by unfold numD; rw [if_neg h2], ?_, ?_⟩
      · rw [if_neg (by omega)]
        congr 2; omega
      · unfold mlen
        rw [if_neg (by omega)] at hd1
        refine ⟨?_, by omega, by omega, by omega, by omega⟩
        split at hd1 <;> split <;> omega
  obtain ⟨hdl, hlp, hYu, hYv, hYw⟩ := hdm
  obtain ⟨e, B, Q, R, he, a1, a2, a3, a4, a5, a6, hYp, hn⟩ := numY_parts Y M d (by omega)
  obtain ⟨s0, s1, hk⟩ := month_of M d hM0 hM1 hd0 hdl
  obtain ⟨s, hs⟩ : ∃ s, s = (153 * M + 2) / 5 + d - 1 := ⟨_, rfl⟩
  rw [← hs] at s0 s1 hk
  have hl := leap_next e B Q R a1 a2 a3 a4 a5 a6
  have a9 : s = 365 → R = 3 ∧ (Q ≤ 23 ∨ B = 3) := by
    intro h
    have h11 : M = 11 ∧ d = 29 := by
      unfold mlen at hdl
      split at hdl
      · omega
      · split at hdl <;> omega
    exact hl.1 (by rw [← hYp]; exact hlp h11.1 h11.2)
  have hz : numD y m d + 719468 = 146097 * e + (36524 * B + 1461 * Q + 365 * R + s) := by rw [hnum, hn, hs]; omega
  have hn1 : 36524 * B + 1461 * Q + 365 * R + s ≤ 146096 := by omega
  have hz1 : (numD y m d + 719468) / 146097 = e := by rw [hz]; omega
  have hz2 : (numD y m d + 719468) % 146097 = 36524 * B + 1461 * Q + 365 * R + s := by rw [hz]; omega
  obtain ⟨B', Q', R', s', b1, b2, b3, b4, b5, b6, b7, b8, b9, hn2, hy2⟩ := years_ok (36524 * B + 1461 * Q + 365 * R + s) (yearsS (36524 * B + 1461 * Q + 365 * R + s)) (by omega) (by omega) rfl
  obtain ⟨rfl, rfl, rfl, rfl⟩ := years_uniq B Q R s B' Q' R' s' hn2 a1 a2 a3 a4 a5 a6 s0 s1 a9 b1 b2 b3 b4 b5 b6 b7 b8 b9
  obtain ⟨p4, p100⟩ := years_parts B Q R a1 a2 a3 a4 a5 a6
  have hr : restS (36524 * B + 1461 * Q + 365 * R + s) = s := by unfold restS; rw [hy2, p4, p100]; omega
  have hmn : monS (36524 * B + 1461 * Q + 365 * R + s) = M := by unfold monS; rw [hr]; exact hk
  refine ⟨?_, ?_, ?_⟩
  · have : 0 ≤ M := hM0
    by_cases h12 : M + 3 > 12
    · have := hYu h12
      have hM10 : 10 ≤ M := by omega
      have : 306 ≤ (153 * M + 2) / 5 := by omega
      omega
    · have := hYw (by omega)
      omega
  · by_cases h12 : M + 3 > 12
    · have := hYu h12
      omega
    · have h9 : M ≤ 9 := by omega
      have : s ≤ 305 := by
        have hM : M = 0 ∨ M = 1 ∨ M = 2 ∨ M = 3 ∨ M = 4 ∨ M = 5 ∨ M = 6 ∨ M = 7 ∨ M = 8 ∨ M = 9 := by omega
        unfold mlen at hdl
        rcases hM with rfl | rfl | rfl | rfl | rfl | rfl | rfl | rfl | rfl | rfl <;> simp at hdl hs <;> omega
      obtain ⟨yy, hyy⟩ : ∃ yy, yy = 100 * B + 4 * Q + R := ⟨_, rfl⟩
      have hq : 36524 * B + 1461 * Q + 365 * R = 365 * yy + yy / 4 - yy / 100 := by rw [hyy, p4, p100]; omega
      have hYY : Y = yy + 400 * e := by rw [hyy]; exact hYp
      have hyy1 : yy ≤ 399 := by omega
      have hd9 := day_hi e yy s (by rw [← hYY]; exact hYv) (by omega) hyy1 this
      rw [← hq] at hd9
      omega
  · unfold civilS
    rw [hz1, hz2, hmn, hr, hy2, ← hYp]
    have : s - (153 * M + 2) / 5 + 1 = d := by omega
    rw [this]
    exact hback
open Go.Vm
attribute [local congr] wi_congr wg_congr wgd_congr wb_congr wl_congr cf_congr
variable {L : FuncId → List V → V → Prop} {h : Heap}
theorem wdiv {x c : Int} (h0 : 0 ≤ x) (hc : 0 < c) (h1 : x ≤ 9223372036854775807) : IntKind.i64.wrap (Int.tdiv x c) = x / c := by
  rw [Int.tdiv_eq_ediv_of_nonneg h0]
  have h2 : x / c ≤ x := Int.ediv_le_self _ h0
  have h3 : 0 ≤ x / c := Int.ediv_nonneg h0 (Int.le_of_lt hc)
  exact wrap64 (by omega) (by omega)
theorem tmod_nn {x c : Int} (h0 : 0 ≤ x) : Int.tmod x c = x % c := Int.tmod_eq_emod_of_nonneg h0
theorem w_years (n : Int) (n0 : 0 ≤ n) (n1 : n < 146097) : IntKind.i64.wrap (Int.tdiv (IntKind.i64.wrap ((IntKind.i64.wrap ((IntKind.i64.wrap (n - (IntKind.i64.wrap (Int.tdiv n 1460)))) + (IntKind.i64.wrap (Int.tdiv n 36524)))) - (IntKind.i64.wrap (Int.tdiv n 146096)))) 365) = yearsS n := by
  rw [wdiv (x := n) (c := 1460) n0 (by omega) (by omega), wdiv (x := n) (c := 36524) n0 (by omega) (by omega), wdiv (x := n) (c := 146096) n0 (by omega) (by omega),
    wrap64 (x := n - n / 1460) (by omega) (by omega), wrap64 (x := n - n / 1460 + n / 36524) (by omega) (by omega), wrap64 (x := n - n / 1460 + n / 36524 - n / 146096) (by omega) (by omega),
    wdiv (x := n - n / 1460 + n / 36524 - n / 146096) (c := 365) (by omega) (by omega) (by omega)]
  rfl
theorem years_rest (n : Int) (n0 : 0 ≤ n) (n1 : n < 146097) : 0 ≤ yearsS n ∧ yearsS n ≤ 399 ∧ 0 ≤ restS n ∧ restS n ≤ 365 := by
  obtain ⟨B, Q, R, s, a1, a2, a3, a4, a5, a6, a7, a8, a9, hn2, hy2⟩ := years_ok n (yearsS n) n0 n1 rfl
  obtain ⟨p4, p100⟩ := years_parts B Q R a1 a2 a3 a4 a5 a6
  have hs : restS n = s := by unfold restS; rw [hy2, p4, p100]; omega
  rw [hs, hy2]
  omega
theorem w_rest (n : Int) (n0 : 0 ≤ n) (n1 : n < 146097) : IntKind.i64.wrap (n - (IntKind.i64.wrap ((IntKind.i64.wrap ((IntKind.i64.wrap (365 * yearsS n)) + (IntKind.i64.wrap (Int.tdiv (yearsS n) 4)))) - (IntKind.i64.wrap (Int.tdiv (yearsS n) 100))))) = restS n := by
  obtain ⟨y0, y1, _, _⟩ := years_rest n n0 n1
  unfold restS
  generalize yearsS n = y at *
  rw [wrap64 (x := 365 * y) (by omega) (by omega), wdiv (x := y) (c := 4) y0 (by omega) (by omega), wdiv (x := y) (c := 100) y0 (by omega) (by omega),
    wrap64 (x := 365 * y + y / 4) (by omega) (by omega), wrap64 (x := 365 * y + y / 4 - y / 100) (by omega) (by omega)]
  exact wrap64 (by omega) (by omega)
theorem w_mon (n : Int) (n0 : 0 ≤ n) (n1 : n < 146097) : IntKind.i64.wrap (Int.tdiv (IntKind.i64.wrap ((IntKind.i64.wrap (5 * restS n)) + 2)) 153) = monS n := by
  obtain ⟨_, _, s0, s1⟩ := years_rest n n0 n1
  unfold monS
  generalize restS n = s at *
  rw [wrap64 (x := 5 * s) (by omega) (by omega), wrap64 (x := 5 * s + 2) (by omega) (by omega)]
  exact wdiv (by omega) (by omega) (by omega)
theorem mon_range (n : Int) (n0 : 0 ≤ n) (n1 : n < 146097) : 0 ≤ monS n ∧ monS n ≤ 11 := by
  obtain ⟨_, _, s0, s1⟩ := years_rest n n0 n1
  obtain ⟨m0, m1, _, _⟩ := month_ok (restS n) (monS n) s0 s1 rfl
  exact ⟨m0, m1⟩
theorem w_day (n : Int) (n0 : 0 ≤ n) (n1 : n < 146097) : IntKind.i64.wrap ((IntKind.i64.wrap (restS n - (IntKind.i64.wrap (Int.tdiv (IntKind.i64.wrap ((IntKind.i64.wrap (153 * monS n)) + 2)) 5)))) + 1) = restS n - (153 * monS n + 2) / 5 + 1 := by
  obtain ⟨_, _, s0, s1⟩ := years_rest n n0 n1
  obtain ⟨m0, m1⟩ := mon_range n n0 n1
  generalize restS n = s at *
  generalize monS n = m at *
  rw [wrap64 (x := 153 * m) (by omega) (by omega), wrap64 (x := 153 * m + 2) (by omega) (by omega), wdiv (x := 153 * m + 2) (c := 5) (by omega) (by omega) (by omega),
    wrap64 (x := s - (153 * m + 2) / 5) (by omega) (by omega)]
  exact wrap64 (by omega) (by omega)
def daysS (y m d : Int) : Int := if 1970 ≤ y ∧ y ≤ 9999 ∧ 1 ≤ m ∧ m ≤ 12 ∧ 1 ≤ d ∧ d ≤ dim y m then numD y m d else -1
theorem dim_le (y m : Int) : dim y m ≤ 31 := by
  unfold dim
  split
  · split <;> omega
  · split <;> omega
theorem w_num (Y M d : Int) (h0 : 1969 ≤ Y) (h1 : Y ≤ 9999) (m0 : 0 ≤ M) (m1 : M ≤ 11) (d0 : 1 ≤ d) (d1 : d ≤ 31) :
    IntKind.i64.wrap ((IntKind.i64.wrap ((IntKind.i64.wrap ((IntKind.i64.wrap ((IntKind.i64.wrap ((IntKind.i64.wrap ((IntKind.i64.wrap ((IntKind.i64.wrap ((IntKind.i64.wrap (Int.tdiv Y 400)) * 146097)) + (IntKind.i64.wrap ((Int.tmod Y 400) * 365)))) + (IntKind.i64.wrap (Int.tdiv (Int.tmod Y 400) 4)))) - (IntKind.i64.wrap (Int.tdiv (Int.tmod Y 400) 100)))) + (IntKind.i64.wrap (Int.tdiv (IntKind.i64.wrap ((IntKind.i64.wrap (153 * M)) + 2)) 5)))) + d)) - 1)) - 719468) = numY Y M d := by
  rw [tmod_nn (x := Y) (by omega), wdiv (x := Y) (by omega) (by omega) (by omega)]
  unfold numY
  have e0 : 0 ≤ Y / 400 := by omega
  have e1 : Y / 400 ≤ 25 := by omega
  have r0 : 0 ≤ Y % 400 := by omega
  have r1 : Y % 400 ≤ 399 := by omega
  generalize Y / 400 = e at *
  generalize Y % 400 = r at *
  have q0 : 0 ≤ r / 4 := by omega
  have q1 : r / 4 ≤ 99 := by omega
  have c0 : 0 ≤ r / 100 := by omega
  have c1 : r / 100 ≤ 3 := by omega
  rw [wdiv (x := r) (c := 4) r0 (by omega) (by omega), wdiv (x := r) (c := 100) r0 (by omega) (by omega), wrap64 (x := 153 * M) (by omega) (by omega), wrap64 (x := 153 * M + 2) (by omega) (by omega), wdiv (x := 153 * M + 2) (c := 5) (by omega) (by omega) (by omega)]
  have v0 : 0 ≤ (153 * M + 2) / 5 := by omega
  have v1 : (153 * M + 2) / 5 ≤ 337 := by omega
  generalize r / 4 = q at *
  generalize r / 100 = c at *
  generalize (153 * M + 2) / 5 = v at *
  rw [wrap64 (x := e * 146097) (by omega) (by omega), wrap64 (x := r * 365) (by omega) (by omega), wrap64 (x := e * 146097 + r * 365) (by omega) (by omega), wrap64 (x := e * 146097 + r * 365 + q) (by omega) (by omega),
    wrap64 (x := e * 146097 + r * 365 + q - c) (by omega) (by omega), wrap64 (x := e * 146097 + r * 365 + q - c + v) (by omega) (by omega), wrap64 (x := e * 146097 + r * 365 + q - c + v + d) (by omega) (by omega), wrap64 (x := e * 146097 + r * 365 + q - c + v + d - 1) (by omega) (by omega)]
  exact wrap64 (by omega) (by omega)
theorem days_core (y m d n : Int) (hn : n = numD y m d) (hy0 : 1970 ≤ y) (hy1 : y ≤ 9999) (hm0 : 1 ≤ m) (hm1 : m ≤ 12) (hd0 : 1 ≤ d) (t : Int × Int × Int) (ht : t = if 0 ≤ n ∧ n ≤ 2932896 then civilS n else (0, 0, 0)) :
    (if t.1 = y then (if t.2.1 = m then (if t.2.2 = d then some n else some (-1)) else some (-1)) else some (-1)) = some (daysS y m d) := by
  unfold daysS
  by_cases hd : d ≤ dim y m
  · obtain ⟨c0, c1, c2⟩ := civil_num y m d hy0 hy1 hm0 hm1 hd0 hd
    rw [← hn] at c0 c1 c2
    rw [if_pos ⟨c0, c1⟩, c2] at ht
    subst ht
    rw [if_pos rfl, if_pos rfl, if_pos rfl, if_pos ⟨hy0, hy1, hm0, hm1, hd0, hd⟩, hn]
  · rw [if_neg (show ¬ (1970 ≤ y ∧ y ≤ 9999 ∧ 1 ≤ m ∧ m ≤ 12 ∧ 1 ≤ d ∧ d ≤ dim y m) from fun h => hd h.2.2.2.2.2)]
    by_cases hr : 0 ≤ n ∧ n ≤ 2932896
    · rw [if_pos hr] at ht
      obtain ⟨y', m', d', hc, _, _, _, _, _, hd', _⟩ := civil_ok n hr.1 hr.2
      rw [hc] at ht
      subst ht
      simp only
      by_cases e1 : y' = y
      · rw [if_pos e1]
        by_cases e2 : m' = m
        · rw [if_pos e2]
          subst e1 e2
          rw [if_neg (fun e3 => hd (by rw [← e3]; exact hd'))]
        · rw [if_neg e2]
      · rw [if_neg e1]
    · rw [if_neg hr] at ht
      subst ht
      simp only
      rw [if_neg (by omega)]
theorem bin_quo {x y : Int} : binV .quo (.int .i64 x) (.int .i64 y) = if y = 0 then none else some (.int .i64 (IntKind.i64.wrap (x.tdiv y))) := by
  by_cases h : y = 0 <;> simp [binV, binI, h]
theorem bin_rem {x y : Int} : binV .rem (.int .i64 x) (.int .i64 y) = if y = 0 then none else some (.int .i64 (x.tmod y)) := by
  by_cases h : y = 0 <;> simp [binV, binI, h]
def civV (t : Int × Int × Int) : V := .tup [.int .i64 t.1, .int .i64 t.2.1, .int .i64 t.2.2]
def civA (day : Int) : Int × Int × Int := if 0 ≤ day ∧ day ≤ 2932896 then civilS day else (0, 0, 0)
theorem Civil_ok {day : Int} : Cf F L i_date_Civil [.int .i64 day] h (Pu h (civV (civA day))) := by
  refine run_date_Civil ?_
  simp only [p_date_Civil]
  by_cases h0 : day < 0
  · have e : civA day = (0, 0, 0) := if_neg (by omega)
    rw [e]
    simp (maxSteps := 4000000) only [vm, vl, Arg.get, cells, stor, boundO, resultsV, resV, partK, loadV, Vm.part, fillC, splice, reduceIte, reduceCtorEq, Nat.reduceEqDiff, Nat.reduceAdd, Nat.reduceSub, Nat.reduceMul, Nat.reduceLeDiff, ne_eq, not_false_eq_true, Int.reduceEq, Int.reduceLT, Int.reduceLE, Int.reduceNeg, Int.reduceToNat, Int.reduceGT, Int.reduceGE, Nat.reduceLT, Nat.lt_add_one, Nat.zero_lt_succ, Nat.succ_pos, Nat.zero_le, beq_self_eq_true, k_date_Civil_1, k_date_Civil_0, h0, decide_true, civV]
  by_cases h1 : day > 2932896
  · have e : civA day = (0, 0, 0) := if_neg (by omega)
    rw [e]
    simp (maxSteps := 4000000) only [vm, vl, Arg.get, cells, stor, boundO, resultsV, resV, partK, loadV, Vm.part, fillC, splice, reduceIte, reduceCtorEq, Nat.reduceEqDiff, Nat.reduceAdd, Nat.reduceSub, Nat.reduceMul, Nat.reduceLeDiff, ne_eq, not_false_eq_true, Int.reduceEq, Int.reduceLT, Int.reduceLE, Int.reduceNeg, Int.reduceToNat, Int.reduceGT, Int.reduceGE, Nat.reduceLT, Nat.lt_add_one, Nat.zero_lt_succ, Nat.succ_pos, Nat.zero_le, beq_self_eq_true, k_date_Civil_1, k_date_Civil_0, h0, h1, decide_true, decide_false, civV]
  have e : civA day = civilS day := if_pos (by omega)
  rw [e]
  have f1 : IntKind.i64.wrap (day + 719468) = day + 719468 := wrap64 (by omega) (by omega)
  have f2 : IntKind.i64.wrap ((day + 719468).tdiv 146097) = (day + 719468) / 146097 := wdiv (by omega) (by omega) (by omega)
  have f3 : (day + 719468).tmod 146097 = (day + 719468) % 146097 := tmod_nn (by omega)
  unfold civilS
  have n0 : 0 ≤ (day + 719468) % 146097 := by omega
  have n1 : (day + 719468) % 146097 < 146097 := by omega
  have e0 : 0 ≤ (day + 719468) / 146097 := by omega
  have e1 : (day + 719468) / 146097 ≤ 100 := by omega
  have g1 := w_years _ n0 n1
  have g2 := w_rest _ n0 n1
  have g3 := w_mon _ n0 n1
  have g4 := w_day _ n0 n1
  obtain ⟨y0, y1, s0, s1⟩ := years_rest _ n0 n1
  obtain ⟨m0, m1⟩ := mon_range _ n0 n1
  have k1 : IntKind.i64.wrap (monS ((day + 719468) % 146097) + 3) = monS ((day + 719468) % 146097) + 3 := wrap64 (by omega) (by omega)
  have k2 : IntKind.i64.wrap (400 * ((day + 719468) / 146097)) = 400 * ((day + 719468) / 146097) := wrap64 (by omega) (by omega)
  have k3 : IntKind.i64.wrap (yearsS ((day + 719468) % 146097) + 400 * ((day + 719468) / 146097)) = yearsS ((day + 719468) % 146097) + 400 * ((day + 719468) / 146097) := wrap64 (by omega) (by omega)
  have k4 : IntKind.i64.wrap (yearsS ((day + 719468) % 146097) + 400 * ((day + 719468) / 146097) + 1) = yearsS ((day + 719468) % 146097) + 400 * ((day + 719468) / 146097) + 1 := wrap64 (by omega) (by omega)
  have k5 : IntKind.i64.wrap (monS ((day + 719468) % 146097) + 3 - 12) = monS ((day + 719468) % 146097) + 3 - 12 := wrap64 (by omega) (by omega)
  by_cases hm : monS ((day + 719468) % 146097) + 3 > 12
  · rw [if_pos hm]
    simp (maxSteps := 4000000) only [vm, vl, Arg.get, cells, stor, boundO, resultsV, resV, partK, loadV, Vm.part, fillC, splice, reduceIte, reduceCtorEq, Nat.reduceEqDiff, Nat.reduceAdd, Nat.reduceSub, Nat.reduceMul, Nat.reduceLeDiff, ne_eq, not_false_eq_true, Int.reduceEq, Int.reduceLT, Int.reduceLE, Int.reduceNeg, Int.reduceToNat, Int.reduceGT, Int.reduceGE, Nat.reduceLT, Nat.lt_add_one, Nat.zero_lt_succ, Nat.succ_pos, Nat.zero_le, beq_self_eq_true, k_date_Civil_1, k_date_Civil_0, h0, h1, decide_true, decide_false, bin_quo, bin_rem, f1, f2, f3, g1, g2, g3, g4, k1, k2, k3, k4, k5, hm, civV]
  · rw [if_neg hm]
    simp (maxSteps := 4000000) only [vm, vl, Arg.get, cells, stor, boundO, resultsV, resV, partK, loadV, Vm.part, fillC, splice, reduceIte, reduceCtorEq, Nat.reduceEqDiff, Nat.reduceAdd, Nat.reduceSub, Nat.reduceMul, Nat.reduceLeDiff, ne_eq, not_false_eq_true, Int.reduceEq, Int.reduceLT, Int.reduceLE, Int.reduceNeg, Int.reduceToNat, Int.reduceGT, Int.reduceGE, Nat.reduceLT, Nat.lt_add_one, Nat.zero_lt_succ, Nat.succ_pos, Nat.zero_le, beq_self_eq_true, k_date_Civil_1, k_date_Civil_0, h0, h1, decide_true, decide_false, bin_quo, bin_rem, f1, f2, f3, g1, g2, g3, g4, k1, k2, k3, k4, k5, hm, civV]
open Go.Vm
attribute [local congr] wi_congr wg_congr wgd_congr wb_congr wl_congr cf_congr
theorem days1_ok {y m d Y M n : Int} (hy0 : 1970 ≤ y) (hy1 : y ≤ 9999) (hm0 : 1 ≤ m) (hm1 : m ≤ 12) (hd0 : 1 ≤ d) (hd1 : d ≤ 31) (h0 : 1969 ≤ Y) (h1 : Y ≤ 9999) (m0 : 0 ≤ M) (m1 : M ≤ 11) (hn : numY Y M d = n) (hnd : n = numD y m d) :
    k_date_Days_1 L (Pu h (.int .i64 (daysS y m d))) (.int .i64 y) (.int .i64 m) (.int .i64 d) (.int .i64 Y) (.int .i64 M) h := by
  
  have hw := w_num Y M d h0 h1 m0 m1 hd0 hd1
  rw [hn] at hw
  have hc := days_core y m d n hnd hy0 hy1 hm0 hm1 hd0 (civA n) rfl
  simp (maxSteps := 4000000) only [vm, vl, Arg.get, cells, stor, boundO, resultsV, resV, partK, loadV, Vm.part, fillC, splice, reduceIte, reduceCtorEq, Nat.reduceEqDiff, Nat.reduceAdd, Nat.reduceSub, Nat.reduceMul, Nat.reduceLeDiff, ne_eq, not_false_eq_true, Int.reduceEq, Int.reduceLT, Int.reduceLE, Int.reduceNeg, Int.reduceToNat, Int.reduceGT, Int.reduceGE, Nat.reduceLT, Nat.lt_add_one, Nat.zero_lt_succ, Nat.succ_pos, Nat.zero_le, beq_self_eq_true, k_date_Days_2, k_date_Days_1, k_date_Days_0, bin_quo, bin_rem, hw]
  refine Cf.pu Civil_ok fun t => ?_
  generalize civA n = t at *
  simp only [civV]
  by_cases e1 : t.1 = y
  · by_cases e2 : t.2.1 = m
    · by_cases e3 : t.2.2 = d
      · rw [if_pos e1, if_pos e2, if_pos e3] at hc
        injection hc with hc
        simp (maxSteps := 4000000) only [vm, vl, Arg.get, cells, stor, boundO, resultsV, resV, partK, loadV, Vm.part, fillC, splice, reduceIte, reduceCtorEq, Nat.reduceEqDiff, Nat.reduceAdd, Nat.reduceSub, Nat.reduceMul, Nat.reduceLeDiff, ne_eq, not_false_eq_true, Int.reduceEq, Int.reduceLT, Int.reduceLE, Int.reduceNeg, Int.reduceToNat, Int.reduceGT, Int.reduceGE, Nat.reduceLT, Nat.lt_add_one, Nat.zero_lt_succ, Nat.succ_pos, Nat.zero_le, beq_self_eq_true, k_date_Days_2, k_date_Days_1, k_date_Days_0, e1, e2, e3, hc, decide_true, decide_false, Bool.not_true]
      · rw [if_pos e1, if_pos e2, if_neg e3] at hc
        injection hc with hc
        rw [← hc]
        simp (maxSteps := 4000000) only [vm, vl, Arg.get, cells, stor, boundO, resultsV, resV, partK, loadV, Vm.part, fillC, splice, reduceIte, reduceCtorEq, Nat.reduceEqDiff, Nat.reduceAdd, Nat.reduceSub, Nat.reduceMul, Nat.reduceLeDiff, ne_eq, not_false_eq_true, Int.reduceEq, Int.reduceLT, Int.reduceLE, Int.reduceNeg, Int.reduceToNat, Int.reduceGT, Int.reduceGE, Nat.reduceLT, Nat.lt_add_one, Nat.zero_lt_succ, Nat.succ_pos, Nat.zero_le, beq_self_eq_true, k_date_Days_2, k_date_Days_1, k_date_Days_0, e1, e2, e3, decide_true, decide_false, Bool.not_true, Bool.not_false]
    · rw [if_pos e1, if_neg e2] at hc
      injection hc with hc
      rw [← hc]
      simp (maxSteps := 4000000) only [vm, vl, Arg.get, cells, stor, boundO, resultsV, resV, partK, loadV, Vm.part, fillC, splice, reduceIte, reduceCtorEq, Nat.reduceEqDiff, Nat.reduceAdd, Nat.reduceSub, Nat.reduceMul, Nat.reduceLeDiff, ne_eq, not_false_eq_true, Int.reduceEq, Int.reduceLT, Int.reduceLE, Int.reduceNeg, Int.reduceToNat, Int.reduceGT, Int.reduceGE, Nat.reduceLT, Nat.lt_add_one, Nat.zero_lt_succ, Nat.succ_pos, Nat.zero_le, beq_self_eq_true, k_date_Days_2, k_date_Days_1, k_date_Days_0, e1, e2, decide_true, decide_false, Bool.not_true, Bool.not_false]
  · rw [if_neg e1] at hc
    injection hc with hc
    rw [← hc]
    simp (maxSteps := 4000000) only [vm, vl, Arg.get, cells, stor, boundO, resultsV, resV, partK, loadV, Vm.part, fillC, splice, reduceIte, reduceCtorEq, Nat.reduceEqDiff, Nat.reduceAdd, Nat.reduceSub, Nat.reduceMul, Nat.reduceLeDiff, ne_eq, not_false_eq_true, Int.reduceEq, Int.reduceLT, Int.reduceLE, Int.reduceNeg, Int.reduceToNat, Int.reduceGT, Int.reduceGE, Nat.reduceLT, Nat.lt_add_one, Nat.zero_lt_succ, Nat.succ_pos, Nat.zero_le, beq_self_eq_true, k_date_Days_2, k_date_Days_1, k_date_Days_0, e1, decide_true, decide_false, Bool.not_true, Bool.not_false]
theorem Days_ok {y m d : Int} : Cf F L i_date_Days [.int .i64 y, .int .i64 m, .int .i64 d] h (Pu h (.int .i64 (daysS y m d))) := by
  refine run_date_Days ?_
  simp only [p_date_Days]
  
  by_cases a1 : y < 1970
  · rw [show daysS y m d = -1 from if_neg (by omega)]
    simp (maxSteps := 4000000) only [vm, vl, Arg.get, cells, stor, boundO, resultsV, resV, partK, loadV, Vm.part, fillC, splice, reduceIte, reduceCtorEq, Nat.reduceEqDiff, Nat.reduceAdd, Nat.reduceSub, Nat.reduceMul, Nat.reduceLeDiff, ne_eq, not_false_eq_true, Int.reduceEq, Int.reduceLT, Int.reduceLE, Int.reduceNeg, Int.reduceToNat, Int.reduceGT, Int.reduceGE, Nat.reduceLT, Nat.lt_add_one, Nat.zero_lt_succ, Nat.succ_pos, Nat.zero_le, beq_self_eq_true, a1, decide_true]
  by_cases a2 : y > 9999
  · rw [show daysS y m d = -1 from if_neg (by omega)]
    simp (maxSteps := 4000000) only [vm, vl, Arg.get, cells, stor, boundO, resultsV, resV, partK, loadV, Vm.part, fillC, splice, reduceIte, reduceCtorEq, Nat.reduceEqDiff, Nat.reduceAdd, Nat.reduceSub, Nat.reduceMul, Nat.reduceLeDiff, ne_eq, not_false_eq_true, Int.reduceEq, Int.reduceLT, Int.reduceLE, Int.reduceNeg, Int.reduceToNat, Int.reduceGT, Int.reduceGE, Nat.reduceLT, Nat.lt_add_one, Nat.zero_lt_succ, Nat.succ_pos, Nat.zero_le, beq_self_eq_true, a1, a2, decide_true, decide_false]
  by_cases a3 : m < 1
  · rw [show daysS y m d = -1 from if_neg (by omega)]
    simp (maxSteps := 4000000) only [vm, vl, Arg.get, cells, stor, boundO, resultsV, resV, partK, loadV, Vm.part, fillC, splice, reduceIte, reduceCtorEq, Nat.reduceEqDiff, Nat.reduceAdd, Nat.reduceSub, Nat.reduceMul, Nat.reduceLeDiff, ne_eq, not_false_eq_true, Int.reduceEq, Int.reduceLT, Int.reduceLE, Int.reduceNeg, Int.reduceToNat, Int.reduceGT, Int.reduceGE, Nat.reduceLT, Nat.lt_add_one, Nat.zero_lt_succ, Nat.succ_pos, Nat.zero_le, beq_self_eq_true, a1, a2, a3, decide_true, decide_false]
  by_cases a4 : m > 12
  · rw [show daysS y m d = -1 from if_neg (by omega)]
    simp (maxSteps := 4000000) only [vm, vl, Arg.get, cells, stor, boundO, resultsV, resV, partK, loadV, Vm.part, fillC, splice, reduceIte, reduceCtorEq, Nat.reduceEqDiff, Nat.reduceAdd, Nat.reduceSub, Nat.reduceMul, Nat.reduceLeDiff, ne_eq, not_false_eq_true, Int.reduceEq, Int.reduceLT, Int.reduceLE, Int.reduceNeg, Int.reduceToNat, Int.reduceGT, Int.reduceGE, Nat.reduceLT, Nat.lt_add_one, Nat.zero_lt_succ, Nat.succ_pos, Nat.zero_le, beq_self_eq_true, a1, a2, a3, a4, decide_true, decide_false]
  by_cases a5 : d < 1
  · rw [show daysS y m d = -1 from if_neg (by omega)]
    simp (maxSteps := 4000000) only [vm, vl, Arg.get, cells, stor, boundO, resultsV, resV, partK, loadV, Vm.part, fillC, splice, reduceIte, reduceCtorEq, Nat.reduceEqDiff, Nat.reduceAdd, Nat.reduceSub, Nat.reduceMul, Nat.reduceLeDiff, ne_eq, not_false_eq_true, Int.reduceEq, Int.reduceLT, Int.reduceLE, Int.reduceNeg, Int.reduceToNat, Int.reduceGT, Int.reduceGE, Nat.reduceLT, Nat.lt_add_one, Nat.zero_lt_succ, Nat.succ_pos, Nat.zero_le, beq_self_eq_true, a1, a2, a3, a4, a5, decide_true, decide_false]
  by_cases a6 : d > 31
  · rw [show daysS y m d = -1 from if_neg (by have := dim_le y m; omega)]
    simp (maxSteps := 4000000) only [vm, vl, Arg.get, cells, stor, boundO, resultsV, resV, partK, loadV, Vm.part, fillC, splice, reduceIte, reduceCtorEq, Nat.reduceEqDiff, Nat.reduceAdd, Nat.reduceSub, Nat.reduceMul, Nat.reduceLeDiff, ne_eq, not_false_eq_true, Int.reduceEq, Int.reduceLT, Int.reduceLE, Int.reduceNeg, Int.reduceToNat, Int.reduceGT, Int.reduceGE, Nat.reduceLT, Nat.lt_add_one, Nat.zero_lt_succ, Nat.succ_pos, Nat.zero_le, beq_self_eq_true, a1, a2, a3, a4, a5, a6, decide_true, decide_false]
  have w1 : IntKind.i64.wrap (m - 3) = m - 3 := wrap64 (by omega) (by omega)
  have w2 : IntKind.i64.wrap (y - 1) = y - 1 := wrap64 (by omega) (by omega)
  have w3 : IntKind.i64.wrap (m + 9) = m + 9 := wrap64 (by omega) (by omega)
  by_cases a7 : m ≤ 2
  · simp (maxSteps := 4000000) only [vm, vl, Arg.get, cells, stor, boundO, resultsV, resV, partK, loadV, Vm.part, fillC, splice, reduceIte, reduceCtorEq, Nat.reduceEqDiff, Nat.reduceAdd, Nat.reduceSub, Nat.reduceMul, Nat.reduceLeDiff, ne_eq, not_false_eq_true, Int.reduceEq, Int.reduceLT, Int.reduceLE, Int.reduceNeg, Int.reduceToNat, Int.reduceGT, Int.reduceGE, Nat.reduceLT, Nat.lt_add_one, Nat.zero_lt_succ, Nat.succ_pos, Nat.zero_le, beq_self_eq_true, a1, a2, a3, a4, a5, a6, a7, decide_true, decide_false, w1, w2, w3, k_date_Days_0]
    exact days1_ok (by omega) (by omega) (by omega) (by omega) (by omega) (by omega) (by omega) (by omega) (by omega) (by omega) rfl (by unfold numD; rw [if_pos a7])
  · simp (maxSteps := 4000000) only [vm, vl, Arg.get, cells, stor, boundO, resultsV, resV, partK, loadV, Vm.part, fillC, splice, reduceIte, reduceCtorEq, Nat.reduceEqDiff, Nat.reduceAdd, Nat.reduceSub, Nat.reduceMul, Nat.reduceLeDiff, ne_eq, not_false_eq_true, Int.reduceEq, Int.reduceLT, Int.reduceLE, Int.reduceNeg, Int.reduceToNat, Int.reduceGT, Int.reduceGE, Nat.reduceLT, Nat.lt_add_one, Nat.zero_lt_succ, Nat.succ_pos, Nat.zero_le, beq_self_eq_true, a1, a2, a3, a4, a5, a6, a7, decide_true, decide_false, w1, w2, w3, k_date_Days_0]
    exact days1_ok (by omega) (by omega) (by omega) (by omega) (by omega) (by omega) (by omega) (by omega) (by omega) (by omega) rfl (by unfold numD; rw [if_neg a7])
end Go.Proofs.YtaahialaegfjgaaGreatDoor.Vh
end
section
set_option linter.unusedVariables false
set_option linter.unusedSimpArgs false
namespace Go.Proofs.YtaahialaegfjgaaGreatDoor.Vh
open Go.Vm
open Go.Vm Go.Vt
attribute [local congr] wi_congr wg_congr wgd_congr wb_congr wl_congr cf_congr
variable {L : FuncId → List V → V → Prop} {h : Heap}
def dayLs : List Bs := [[77, 111, 110, 100, 97, 121], [84, 117, 101, 115, 100, 97, 121], [87, 101, 100, 110, 101, 115, 100, 97, 121], [84, 104, 117, 114, 115, 100, 97, 121], [70, 114, 105, 100, 97, 121], [83, 97, 116, 117, 114, 100, 97, 121], [83, 117, 110, 100, 97, 121]]
def monLs : List Bs := [[74, 97, 110], [70, 101, 98], [77, 97, 114], [65, 112, 114], [77, 97, 121], [74, 117, 110], [74, 117, 108], [65, 117, 103], [83, 101, 112], [79, 99, 116], [78, 111, 118], [68, 101, 99]]
theorem longDays_ok : Cf F L i_date_longDays [] h (Pu h (.agg (dayLs.map .str))) := by
  refine run_date_longDays ?_
  simp only [p_date_longDays]
  simp (maxSteps := 4000000) only [vm, vl, Arg.get, cells, stor, boundO, resultsV, resV, partK, loadV, Vm.part, fillC, splice, reduceIte, reduceCtorEq, Nat.reduceEqDiff, Nat.reduceAdd, Nat.reduceSub, Nat.reduceMul, Nat.reduceLeDiff, ne_eq, not_false_eq_true, Int.reduceEq, Int.reduceLT, Int.reduceLE, Int.reduceNeg, Int.reduceToNat, Int.reduceGT, Int.reduceGE, Nat.reduceLT, Nat.lt_add_one, Nat.zero_lt_succ, Nat.succ_pos, Nat.zero_le, beq_self_eq_true]
  rfl
theorem monthNames_ok : Cf F L i_date_monthNames [] h (Pu h (.agg (monLs.map .str))) := by
  refine run_date_monthNames ?_
  simp only [p_date_monthNames]
  simp (maxSteps := 4000000) only [vm, vl, Arg.get, cells, stor, boundO, resultsV, resV, partK, loadV, Vm.part, fillC, splice, reduceIte, reduceCtorEq, Nat.reduceEqDiff, Nat.reduceAdd, Nat.reduceSub, Nat.reduceMul, Nat.reduceLeDiff, ne_eq, not_false_eq_true, Int.reduceEq, Int.reduceLT, Int.reduceLE, Int.reduceNeg, Int.reduceToNat, Int.reduceGT, Int.reduceGE, Nat.reduceLT, Nat.lt_add_one, Nat.zero_lt_succ, Nat.succ_pos, Nat.zero_le, beq_self_eq_true]
  rfl
theorem day3 : ∀ w, w < 7 → 3 ≤ (dayLs.getD w []).length ∧ ((dayLs.getD w []).take 3).length = 3 := by decide
theorem aggstr_at {l : List Bs} {i : Nat} (hi : i < l.length) : (l.map V.str).getD i (.tup []) = .str (l.getD i []) := by
  rw [List.getD_eq_getElem?_getD, List.getD_eq_getElem?_getD, List.getElem?_map, List.getElem?_eq_getElem hi]; rfl
end Go.Proofs.YtaahialaegfjgaaGreatDoor.Vh
end
section
set_option linter.unusedVariables false
set_option linter.unusedSimpArgs false
namespace Go.Proofs.YtaahialaegfjgaaGreatDoor.Vh
open Go.Vm Go.Vt
attribute [local congr] wi_congr wg_congr wgd_congr wb_congr wl_congr cf_congr
variable {L : FuncId → List V → V → Prop} {h : Heap}
/-- A reader: what is left, and whether all was well. -/
abbrev Rd := Bs × Bool
def bx (r : Rd) : O := .box [.str r.1, .bool r.2]
def RdP (h : Heap) (id : Nat) (x : V) (r : Rd) (v : V) (h' : Heap) : Prop := v = x ∧ ∃ t, h' = h.set id (bx r) ++ t
theorem Cf.rd {f : FuncId} {args : List V} {id : Nat} {x : V} {r : Rd} {K : V → Heap → Prop} (hc : Cf F L f args h (RdP h id x r)) (k : ∀ t, K x (h.set id (bx r) ++ t)) : Cf F L f args h K :=
  hc.mono fun v h' ⟨h1, t, h2⟩ => by rw [h1, h2]; exact k t
theorem rd_len {id : Nat} {o : O} (hb : h[id]? = some o) : id < h.length := (List.getElem?_eq_some_iff.1 hb).1
theorem rd_at {id : Nat} {o : O} {t : Heap} (hi : id < h.length) : (h.set id o ++ t)[id]? = some o := by
  rw [List.getElem?_append_left (by rw [List.length_set]; exact hi), List.getElem?_set_self hi]
theorem rd_set {id : Nat} {o o' : O} {t : Heap} (hi : id < h.length) : (h.set id o ++ t).set id o' = h.set id o' ++ t := by
  rw [List.set_append_left _ _ (by rw [List.length_set]; exact hi), List.set_set]
def takeR (n : Nat) (r : Rd) : Bs × Rd := if r.1.length < n then ([], (r.1, false)) else (r.1.take n, (r.1.drop n, r.2))
theorem take_ok {id n : Nat} {r : Rd} (hb : h[id]? = some (bx r)) (hn : n ≤ 1000000) (hl : r.1.length < 9223372036854775807) : Cf F L i___gatepost_date_reader__take [.ptr id 0, .int .i64 n] h (RdP h id (.str (takeR n r).1) (takeR n r).2) := by
  refine run___gatepost_date_reader__take ?_
  simp only [p___gatepost_date_reader__take]
  have hb' : h[id]? = some (O.box [.str r.1, .bool r.2]) := hb
  by_cases hc : r.1.length < n
  · have hc' : (r.1.length : Int) < n := by omega
    have e : takeR n r = ([], (r.1, false)) := if_pos hc
    rw [e]
    simp (maxSteps := 4000000) only [vm, vl, Arg.get, cells, stor, boundO, resultsV, resV, partK, loadV, Vm.part, fillC, splice, reduceIte, reduceCtorEq, Nat.reduceEqDiff, Nat.reduceAdd, Nat.reduceSub, Nat.reduceMul, Nat.reduceLeDiff, ne_eq, not_false_eq_true, Int.reduceEq, Int.reduceLT, Int.reduceLE, Int.reduceNeg, Int.reduceToNat, Int.reduceGT, Int.reduceGE, Nat.reduceLT, Nat.lt_add_one, Nat.zero_lt_succ, Nat.succ_pos, Nat.zero_le, beq_self_eq_true, k___gatepost_date_reader__take_0, hb', hc']
    exact ⟨rfl, [], by simp [bx]⟩
  · have hc' : ¬ (r.1.length : Int) < n := by omega
    have e : takeR n r = (r.1.take n, (r.1.drop n, r.2)) := if_neg hc
    have g0 : (0 : Int) ≤ n := by omega
    have g1 : n ≤ r.1.length := by omega
    have g2 : List.take r.1.length r.1 = r.1 := List.take_of_length_le (Nat.le_refl _)
    rw [e]
    simp (maxSteps := 4000000) only [vm, vl, Arg.get, cells, stor, boundO, resultsV, resV, partK, loadV, Vm.part, fillC, splice, reduceIte, reduceCtorEq, Nat.reduceEqDiff, Nat.reduceAdd, Nat.reduceSub, Nat.reduceMul, Nat.reduceLeDiff, ne_eq, not_false_eq_true, Int.reduceEq, Int.reduceLT, Int.reduceLE, Int.reduceNeg, Int.reduceToNat, Int.reduceGT, Int.reduceGE, Nat.reduceLT, Nat.lt_add_one, Nat.zero_lt_succ, Nat.succ_pos, Nat.zero_le, beq_self_eq_true, k___gatepost_date_reader__take_0, hb', hc', g0, g1, g2, Int.toNat_natCast, List.drop_zero]
    exact ⟨rfl, [], by simp [bx]⟩
def needR (p : Bs) (r : Rd) : Rd := if (takeR p.length r).1 = p then (takeR p.length r).2 else ((takeR p.length r).2.1, false)
theorem need_ok {id : Nat} {p : Bs} {r : Rd} (hb : h[id]? = some (bx r)) (hn : p.length ≤ 1000000) (hl : r.1.length < 9223372036854775807) : Cf F L i___gatepost_date_reader__need [.ptr id 0, .str p] h (RdP h id (.tup []) (needR p r)) := by
  refine run___gatepost_date_reader__need ?_
  simp only [p___gatepost_date_reader__need]
  have hi := rd_len hb
  simp (maxSteps := 4000000) only [vm, vl, Arg.get, cells, stor, boundO, resultsV, resV, partK, loadV, Vm.part, fillC, splice, reduceIte, reduceCtorEq, Nat.reduceEqDiff, Nat.reduceAdd, Nat.reduceSub, Nat.reduceMul, Nat.reduceLeDiff, ne_eq, not_false_eq_true, Int.reduceEq, Int.reduceLT, Int.reduceLE, Int.reduceNeg, Int.reduceToNat, Int.reduceGT, Int.reduceGE, Nat.reduceLT, Nat.lt_add_one, Nat.zero_lt_succ, Nat.succ_pos, Nat.zero_le, beq_self_eq_true]
  refine Cf.rd (take_ok hb hn hl) fun t => ?_
  unfold needR
  generalize takeR p.length r = q at *
  obtain ⟨x, r'⟩ := q
  have hb2 : (h.set id (bx r') ++ t)[id]? = some (O.box [.str r'.1, .bool r'.2]) := rd_at hi
  by_cases hx : x = p
  · have d : (x == p) = true := by simpa using hx
    rw [if_pos hx]
    simp (maxSteps := 4000000) only [vm, vl, Arg.get, cells, stor, boundO, resultsV, resV, partK, loadV, Vm.part, fillC, splice, reduceIte, reduceCtorEq, Nat.reduceEqDiff, Nat.reduceAdd, Nat.reduceSub, Nat.reduceMul, Nat.reduceLeDiff, ne_eq, not_false_eq_true, Int.reduceEq, Int.reduceLT, Int.reduceLE, Int.reduceNeg, Int.reduceToNat, Int.reduceGT, Int.reduceGE, Nat.reduceLT, Nat.lt_add_one, Nat.zero_lt_succ, Nat.succ_pos, Nat.zero_le, beq_self_eq_true, d, Bool.not_true]
    exact ⟨rfl, t, rfl⟩
  · have d : (x == p) = false := by simpa using hx
    rw [if_neg hx]
    simp (maxSteps := 4000000) only [vm, vl, Arg.get, cells, stor, boundO, resultsV, resV, partK, loadV, Vm.part, fillC, splice, reduceIte, reduceCtorEq, Nat.reduceEqDiff, Nat.reduceAdd, Nat.reduceSub, Nat.reduceMul, Nat.reduceLeDiff, ne_eq, not_false_eq_true, Int.reduceEq, Int.reduceLT, Int.reduceLE, Int.reduceNeg, Int.reduceToNat, Int.reduceGT, Int.reduceGE, Nat.reduceLT, Nat.lt_add_one, Nat.zero_lt_succ, Nat.succ_pos, Nat.zero_le, beq_self_eq_true, d, Bool.not_false, hb2]
    refine ⟨rfl, t, ?_⟩
    rw [rd_set hi]; rfl
def dgt (c : UInt8) : Int := ((c.toNat + 208) % 256 : Nat)
def isDig (c : UInt8) : Bool := decide (48 ≤ (c.toNat : Int) ∧ (c.toNat : Int) ≤ 57)
theorem dgt_wrap (c : UInt8) : IntKind.u8.wrap ((c.toNat : Int) - 48) = dgt c := byte_all (p := fun c => IntKind.u8.wrap ((c.toNat : Int) - 48) = dgt c) (by decide +kernel) c
theorem dgt_range (c : UInt8) : 0 ≤ dgt c ∧ dgt c ≤ 255 := by unfold dgt; omega
theorem digit_ok {c : UInt8} {id ir iv : Nat} {r : Rd} {v : Int} (hb : h[id]? = some (bx r)) (h1 : h[ir]? = some (.box [.ptr id 0])) (h2 : h[iv]? = some (.box [.int .i64 v])) (hne : iv ≠ id) (v0 : 0 ≤ v) (v1 : v ≤ 100000000) :
    Cf F L i___gatepost_date_reader__number_1 [.int .u8 c.toNat, .ptr ir 0, .ptr iv 0] h (fun _ h' => h' = (h.set id (bx (r.1, r.2 && isDig c))).set iv (.box [.int .i64 (10 * v + dgt c)])) := by
  refine run___gatepost_date_reader__number_1 ?_
  simp only [p___gatepost_date_reader__number_1]
  have hb' : h[id]? = some (O.box [.str r.1, .bool r.2]) := hb
  obtain ⟨d0, d1⟩ := dgt_range c
  have w1 : IntKind.i64.wrap (10 * v) = 10 * v := wrap64 (by omega) (by omega)
  have w2 : IntKind.i64.wrap (dgt c) = dgt c := wrap64 (by omega) (by omega)
  have w3 : IntKind.i64.wrap (10 * v + dgt c) = 10 * v + dgt c := wrap64 (by omega) (by omega)
  have wd := dgt_wrap c
  have hiv : (h.set id (bx (r.1, false)))[iv]? = some (.box [.int .i64 v]) := by rw [List.getElem?_set_ne (Ne.symm hne)]; exact h2
  have hiv' : (h.set id (O.box [.str r.1, .bool false]))[iv]? = some (.box [.int .i64 v]) := hiv
  have same : h.set id (bx r) = h := by
    have hi := rd_len hb
    apply List.ext_getElem?
    intro j
    by_cases hj : id = j
    · subst hj; rw [List.getElem?_set_self hi, hb]
    · rw [List.getElem?_set_ne hj]
  by_cases c1 : (c.toNat : Int) < 48
  · have q : isDig c = false := by simp [isDig]; omega
    rw [q, Bool.and_false]
    simp (maxSteps := 4000000) only [vm, vl, Arg.get, cells, stor, boundO, resultsV, resV, partK, loadV, Vm.part, fillC, splice, reduceIte, reduceCtorEq, Nat.reduceEqDiff, Nat.reduceAdd, Nat.reduceSub, Nat.reduceMul, Nat.reduceLeDiff, ne_eq, not_false_eq_true, Int.reduceEq, Int.reduceLT, Int.reduceLE, Int.reduceNeg, Int.reduceToNat, Int.reduceGT, Int.reduceGE, Nat.reduceLT, Nat.lt_add_one, Nat.zero_lt_succ, Nat.succ_pos, Nat.zero_le, beq_self_eq_true, k___gatepost_date_reader__number_1_0, c1, decide_true, h1, hb', hiv', h2, w1, w2, w3, wd]
    rfl
  · by_cases c2 : (c.toNat : Int) > 57
    · have q : isDig c = false := by simp [isDig]; omega
      rw [q, Bool.and_false]
      simp (maxSteps := 4000000) only [vm, vl, Arg.get, cells, stor, boundO, resultsV, resV, partK, loadV, Vm.part, fillC, splice, reduceIte, reduceCtorEq, Nat.reduceEqDiff, Nat.reduceAdd, Nat.reduceSub, Nat.reduceMul, Nat.reduceLeDiff, ne_eq, not_false_eq_true, Int.reduceEq, Int.reduceLT, Int.reduceLE, Int.reduceNeg, Int.reduceToNat, Int.reduceGT, Int.reduceGE, Nat.reduceLT, Nat.lt_add_one, Nat.zero_lt_succ, Nat.succ_pos, Nat.zero_le, beq_self_eq_true, k___gatepost_date_reader__number_1_0, c1, c2, decide_true, decide_false, h1, hb', hiv', h2, w1, w2, w3, wd]
      rfl
    · have q : isDig c = true := by simp [isDig]; omega
      rw [q, Bool.and_true, same]
      simp (maxSteps := 4000000) only [vm, vl, Arg.get, cells, stor, boundO, resultsV, resV, partK, loadV, Vm.part, fillC, splice, reduceIte, reduceCtorEq, Nat.reduceEqDiff, Nat.reduceAdd, Nat.reduceSub, Nat.reduceMul, Nat.reduceLeDiff, ne_eq, not_false_eq_true, Int.reduceEq, Int.reduceLT, Int.reduceLE, Int.reduceNeg, Int.reduceToNat, Int.reduceGT, Int.reduceGE, Nat.reduceLT, Nat.lt_add_one, Nat.zero_lt_succ, Nat.succ_pos, Nat.zero_le, beq_self_eq_true, k___gatepost_date_reader__number_1_0, c1, c2, decide_true, decide_false, h1, hb', hiv', h2, w1, w2, w3, wd]
def numV (s : Bs) : Int := s.foldl (fun v c => 10 * v + dgt c) 0
theorem numV_snoc (s : Bs) (c : UInt8) : numV (s ++ [c]) = 10 * numV s + dgt c := by simp [numV, List.foldl_append]
theorem numV_le {s : Bs} (h : s.length ≤ 4) : 0 ≤ numV s ∧ numV s ≤ 283305 := by
  match s, h with
  | [], _ => simp [numV]
  | [a], _ => have := dgt_range a; simp [numV]; omega
  | [a, b], _ => have := dgt_range a; have := dgt_range b; simp [numV]; omega
  | [a, b, c], _ => have := dgt_range a; have := dgt_range b; have := dgt_range c; simp [numV]; omega
  | [a, b, c, d], _ => have := dgt_range a; have := dgt_range b; have := dgt_range c; have := dgt_range d; simp [numV]; omega
  | _ :: _ :: _ :: _ :: _ :: _, h => simp at h
def numR (n : Nat) (r : Rd) : Int × Rd := (numV (takeR n r).1, ((takeR n r).2.1, (takeR n r).2.2 && (takeR n r).1.all isDig))
theorem takeR_len (n : Nat) (r : Rd) : (takeR n r).1.length ≤ n := by
  unfold takeR; split
  · simp
  · rw [List.length_take]; omega
theorem num_loop {id ir iv : Nat} {s : Bs} {r : Rd} {e : Env} {hh : Heap} (hi : id < h.length) (hs : s.length ≤ 4) (e5 : e 5 = .str s) (e6 : e 6 = .ptr iv 0) (e7 : e 7 = .fn i___gatepost_date_reader__number_1 [.ptr ir 0, .ptr iv 0]) (e14 : e 14 = .int .i64 s.length) (e15 : e 15 = .int .i64 0)
    (hh1 : ∃ t, hh = h.set id (bx r) ++ t) (g1 : hh[ir]? = some (.box [.ptr id 0])) (g2 : hh[iv]? = some (.box [.int .i64 0])) (n1 : h.length ≤ ir) (n2 : h.length ≤ iv) (n3 : ir ≠ iv) :
    Wl F L lc___gatepost_date_reader__number_0 (q___gatepost_date_reader__number_0 L (RdP h id (.int .i64 (numV s)) (r.1, r.2 && s.all isDig))) e hh := by
  refine l___gatepost_date_reader__number_0 (fun n e h' => ∃ i, n = s.length - i ∧ i ≤ s.length ∧ e 5 = .str s ∧ e 6 = .ptr iv 0 ∧ e 7 = .fn i___gatepost_date_reader__number_1 [.ptr ir 0, .ptr iv 0] ∧ e 14 = .int .i64 s.length ∧ e 15 = .int .i64 i ∧
    (∃ t, h' = h.set id (bx (r.1, r.2 && (s.take i).all isDig)) ++ t) ∧ h'[ir]? = some (.box [.ptr id 0]) ∧ h'[iv]? = some (.box [.int .i64 (numV (s.take i))])) ?_ (n := s.length) ⟨0, by simp, by simp, e5, e6, e7, e14, e15, by simpa using hh1, g1, by simpa [numV] using g2⟩
  clear e5 e6 e7 e14 e15 hh1 g1 g2
  rintro n e h' ⟨i, rfl, hil, e5, e6, e7, e14, e15, ⟨t, rfl⟩, g1, g2⟩
  simp only [b___gatepost_date_reader__number_0]
  
  rcases Nat.lt_or_eq_of_le hil with hlt | rfl
  · have hl : (i : Int) < s.length := by omega
    have w := wrap64 (x := (i : Int) + 1) (by omega) (by omega)
    obtain ⟨c, hc, htk⟩ : ∃ c, s.getD i 0 = c ∧ s.take (i + 1) = s.take i ++ [c] := ⟨s[i], by rw [List.getD_eq_getElem?_getD, List.getElem?_eq_getElem hlt]; rfl, by rw [List.take_add_one, List.getElem?_eq_getElem hlt]; rfl⟩
    have i0 : (0 : Int) ≤ i := by omega
    obtain ⟨b0, b1⟩ := numV_le (s := s.take i) (by rw [List.length_take]; omega)
    simp (maxSteps := 4000000) only [vm, vl, Arg.get, cells, stor, boundO, resultsV, resV, partK, loadV, Vm.part, fillC, splice, reduceIte, reduceCtorEq, Nat.reduceEqDiff, Nat.reduceAdd, Nat.reduceSub, Nat.reduceMul, Nat.reduceLeDiff, ne_eq, not_false_eq_true, Int.reduceEq, Int.reduceLT, Int.reduceLE, Int.reduceNeg, Int.reduceToNat, Int.reduceGT, Int.reduceGE, Nat.reduceLT, Nat.lt_add_one, Nat.zero_lt_succ, Nat.succ_pos, Nat.zero_le, beq_self_eq_true, k___gatepost_date_reader__number_0, k___gatepost_date_reader__number_2, k___gatepost_date_reader__number_1, e5, e6, e7, e14, e15, hl, i0, hlt, hc, Int.toNat_natCast]
    refine (digit_ok (c := c) (id := id) (ir := ir) (iv := iv) (r := (r.1, r.2 && (s.take i).all isDig)) (rd_at hi) g1 g2 (by omega) b0 (by omega)).mono fun _ h2 hp => ?_
    subst hp
    simp (maxSteps := 4000000) only [vm, vl, Arg.get, cells, stor, boundO, resultsV, resV, partK, loadV, Vm.part, fillC, splice, reduceIte, reduceCtorEq, Nat.reduceEqDiff, Nat.reduceAdd, Nat.reduceSub, Nat.reduceMul, Nat.reduceLeDiff, ne_eq, not_false_eq_true, Int.reduceEq, Int.reduceLT, Int.reduceLE, Int.reduceNeg, Int.reduceToNat, Int.reduceGT, Int.reduceGE, Nat.reduceLT, Nat.lt_add_one, Nat.zero_lt_succ, Nat.succ_pos, Nat.zero_le, beq_self_eq_true, k___gatepost_date_reader__number_0, k___gatepost_date_reader__number_2, k___gatepost_date_reader__number_1, w]
    refine ⟨s.length - (i + 1), by omega, i + 1, rfl, hlt, rfl, ?_, ?_, ?_⟩
    · rw [rd_set hi, List.set_append_right _ _ (by rw [List.length_set]; exact n2)]
      refine ⟨t.set (iv - (h.set id (bx (r.1, (r.2 && (s.take i).all isDig) && isDig c))).length) (.box [.int .i64 (10 * numV (s.take i) + dgt c)]), ?_⟩
      rw [htk, List.all_append]
      simp only [List.all_cons, List.all_nil, Bool.and_true, Bool.and_assoc]
    · rw [List.getElem?_set_ne (Ne.symm n3), List.getElem?_set_ne (by omega)]; exact g1
    · rw [htk, numV_snoc]
      refine List.getElem?_set_self ?_
      rw [List.length_set]
      exact (List.getElem?_eq_some_iff.1 g2).1
  · have hn : ¬ (s.length : Int) < s.length := by omega
    rw [List.take_of_length_le (Nat.le_refl _)] at g2 ⊢
    simp (maxSteps := 4000000) only [vm, vl, Arg.get, cells, stor, boundO, resultsV, resV, partK, loadV, Vm.part, fillC, splice, reduceIte, reduceCtorEq, Nat.reduceEqDiff, Nat.reduceAdd, Nat.reduceSub, Nat.reduceMul, Nat.reduceLeDiff, ne_eq, not_false_eq_true, Int.reduceEq, Int.reduceLT, Int.reduceLE, Int.reduceNeg, Int.reduceToNat, Int.reduceGT, Int.reduceGE, Nat.reduceLT, Nat.lt_add_one, Nat.zero_lt_succ, Nat.succ_pos, Nat.zero_le, beq_self_eq_true, k___gatepost_date_reader__number_0, k___gatepost_date_reader__number_2, k___gatepost_date_reader__number_1, e5, e6, e7, e14, e15, hn, g2]
    exact ⟨rfl, t, rfl⟩
theorem number_ok {id n : Nat} {r : Rd} (hb : h[id]? = some (bx r)) (hn : n ≤ 4) (hl : r.1.length < 9223372036854775807) : Cf F L i___gatepost_date_reader__number [.ptr id 0, .int .i64 n] h (RdP h id (.int .i64 (numR n r).1) (numR n r).2) := by
  refine run___gatepost_date_reader__number ?_
  simp only [p___gatepost_date_reader__number]
  
  have hi := rd_len hb
  simp (maxSteps := 4000000) only [vm, vl, Arg.get, cells, stor, boundO, resultsV, resV, partK, loadV, Vm.part, fillC, splice, reduceIte, reduceCtorEq, Nat.reduceEqDiff, Nat.reduceAdd, Nat.reduceSub, Nat.reduceMul, Nat.reduceLeDiff, ne_eq, not_false_eq_true, Int.reduceEq, Int.reduceLT, Int.reduceLE, Int.reduceNeg, Int.reduceToNat, Int.reduceGT, Int.reduceGE, Nat.reduceLT, Nat.lt_add_one, Nat.zero_lt_succ, Nat.succ_pos, Nat.zero_le, beq_self_eq_true]
  refine Cf.rd (take_ok (h := h ++ [O.box [.ptr id 0]]) (get_old hb) (by omega) hl) fun t => ?_
  have hql := takeR_len n r
  have eR : numR n r = (numV (takeR n r).1, ((takeR n r).2.1, (takeR n r).2.2 && (takeR n r).1.all isDig)) := rfl
  rw [eR]
  generalize takeR n r = q at *
  obtain ⟨s, r'⟩ := q
  rw [List.set_append_left _ _ hi]
  simp only at hql ⊢
  simp (maxSteps := 4000000) only [vm, vl, Arg.get, cells, stor, boundO, resultsV, resV, partK, loadV, Vm.part, fillC, splice, reduceIte, reduceCtorEq, Nat.reduceEqDiff, Nat.reduceAdd, Nat.reduceSub, Nat.reduceMul, Nat.reduceLeDiff, ne_eq, not_false_eq_true, Int.reduceEq, Int.reduceLT, Int.reduceLE, Int.reduceNeg, Int.reduceToNat, Int.reduceGT, Int.reduceGE, Nat.reduceLT, Nat.lt_add_one, Nat.zero_lt_succ, Nat.succ_pos, Nat.zero_le, beq_self_eq_true]
  refine num_loop hi (by omega) rfl rfl rfl rfl rfl ⟨_, rfl⟩ ?_ ?_ (Nat.le_refl _) (by omega) (by omega)
  · rw [List.getElem?_append_right (by rw [List.length_set]; omega), List.length_set, Nat.sub_self]; rfl
  · rw [List.getElem?_append_right (by rw [List.length_set]; omega), List.length_set, show h.length + (t.length + 1) - h.length = t.length + 1 by omega, List.getElem?_cons_succ, List.getElem?_append_right (Nat.le_refl _), Nat.sub_self]; rfl
open Go.Vm Go.Vt
attribute [local congr] wi_congr wg_congr wgd_congr wb_congr wl_congr cf_congr
/-- A text's first place in a list; the length where it is not. -/
def lpos (x : Bs) (l : List Bs) : Nat := (l.takeWhile (· != x)).length
theorem lpos_cons (x y : Bs) (r : List Bs) : lpos x (y :: r) = if y = x then 0 else lpos x r + 1 := by
  unfold lpos
  rw [List.takeWhile_cons]
  by_cases h : y = x <;> simp [h]
theorem lpos_at {x : Bs} : ∀ {l : List Bs} {i : Nat}, i < l.length → (∀ j, j < i → l.getD j [] ≠ x) → l.getD i [] = x → lpos x l = i
  | y :: r, 0, _, _, h => by rw [lpos_cons, if_pos (by simpa using h)]
  | y :: r, i + 1, hi, hj, h => by
    rw [lpos_cons, if_neg (by simpa using hj 0 (by omega)), lpos_at (by simpa using hi) (fun j hlt => by simpa using hj (j + 1) (by omega)) (by simpa using h)]
  | [], _, hi, _, _ => by simp at hi
theorem lpos_none {x : Bs} : ∀ {l : List Bs}, (∀ j, j < l.length → l.getD j [] ≠ x) → lpos x l = l.length
  | [], _ => rfl
  | y :: r, hj => by
    rw [lpos_cons, if_neg (by simpa using hj 0 (by simp)), lpos_none fun j hlt => by simpa using hj (j + 1) (by simpa using hlt)]; rfl
def monR (r : Rd) : Int × Rd := if lpos (takeR 3 r).1 monLs < 12 then ((lpos (takeR 3 r).1 monLs : Int) + 1, (takeR 3 r).2) else (0, ((takeR 3 r).2.1, false))
theorem month_ok' {id : Nat} {r : Rd} (hb : h[id]? = some (bx r)) (hl : r.1.length < 9223372036854775807) : Cf F L i___gatepost_date_reader__month [.ptr id 0] h (RdP h id (.int .i64 (monR r).1) (monR r).2) := by
  refine run___gatepost_date_reader__month ?_
  simp only [p___gatepost_date_reader__month]
  have hi := rd_len hb
  simp (maxSteps := 4000000) only [vm, vl, Arg.get, cells, stor, boundO, resultsV, resV, partK, loadV, Vm.part, fillC, splice, reduceIte, reduceCtorEq, Nat.reduceEqDiff, Nat.reduceAdd, Nat.reduceSub, Nat.reduceMul, Nat.reduceLeDiff, ne_eq, not_false_eq_true, Int.reduceEq, Int.reduceLT, Int.reduceLE, Int.reduceNeg, Int.reduceToNat, Int.reduceGT, Int.reduceGE, Nat.reduceLT, Nat.lt_add_one, Nat.zero_lt_succ, Nat.succ_pos, Nat.zero_le, beq_self_eq_true, k___gatepost_date_reader__month_0, k___gatepost_date_reader__month_2, k___gatepost_date_reader__month_1]
  refine Cf.rd (take_ok (n := 3) hb (by omega) hl) fun t => ?_
  unfold monR
  generalize takeR 3 r = q at *
  obtain ⟨s, r'⟩ := q
  simp only
  try simp (maxSteps := 4000000) only [vm, vl, Arg.get, cells, stor, boundO, resultsV, resV, partK, loadV, Vm.part, fillC, splice, reduceIte, reduceCtorEq, Nat.reduceEqDiff, Nat.reduceAdd, Nat.reduceSub, Nat.reduceMul, Nat.reduceLeDiff, ne_eq, not_false_eq_true, Int.reduceEq, Int.reduceLT, Int.reduceLE, Int.reduceNeg, Int.reduceToNat, Int.reduceGT, Int.reduceGE, Nat.reduceLT, Nat.lt_add_one, Nat.zero_lt_succ, Nat.succ_pos, Nat.zero_le, beq_self_eq_true, k___gatepost_date_reader__month_0, k___gatepost_date_reader__month_2, k___gatepost_date_reader__month_1]
  refine Cf.pu monthNames_ok fun t1 => ?_
  try simp (maxSteps := 4000000) only [vm, vl, Arg.get, cells, stor, boundO, resultsV, resV, partK, loadV, Vm.part, fillC, splice, reduceIte, reduceCtorEq, Nat.reduceEqDiff, Nat.reduceAdd, Nat.reduceSub, Nat.reduceMul, Nat.reduceLeDiff, ne_eq, not_false_eq_true, Int.reduceEq, Int.reduceLT, Int.reduceLE, Int.reduceNeg, Int.reduceToNat, Int.reduceGT, Int.reduceGE, Nat.reduceLT, Nat.lt_add_one, Nat.zero_lt_succ, Nat.succ_pos, Nat.zero_le, beq_self_eq_true, k___gatepost_date_reader__month_0, k___gatepost_date_reader__month_2, k___gatepost_date_reader__month_1]
  refine l___gatepost_date_reader__month_0 (fun n e h' => ∃ i, n = 12 - i ∧ i ≤ 12 ∧ e 0 = .ptr id 0 ∧ e 3 = .str s ∧ e 8 = .agg (monLs.map .str) ∧ e 9 = .int .i64 i ∧ (∃ t, h' = h.set id (bx r') ++ t) ∧ ∀ j, j < i → monLs.getD j [] ≠ s) ?_ (n := 12) ⟨0, by simp, by simp, rfl, rfl, rfl, rfl, ⟨_, rfl⟩, by simp⟩
  rintro n e h' ⟨i, rfl, hil, e0, e3, e8, e9, ⟨t2, rfl⟩, hj⟩
  simp only [b___gatepost_date_reader__month_0]
  have hb2 : (h.set id (bx r') ++ t2)[id]? = some (O.box [.str r'.1, .bool r'.2]) := rd_at hi
  have z2 : (monLs.map V.str).length = 12 := rfl
  rcases Nat.lt_or_eq_of_le hil with hlt | rfl
  · have hl12 : (i : Int) < 12 := by omega
    have i0 : (0 : Int) ≤ i := by omega
    have i11 : i ≤ 11 := by omega
    have r2 : (monLs.map V.str).getD i (.tup []) = .str (monLs.getD i []) := aggstr_at hlt
    have w := wrap64 (x := (i : Int) + 1) (by omega) (by omega)
    generalize hmv : monLs.map V.str = mvs at *
    by_cases hx : monLs.getD i [] = s
    · have hp : lpos s monLs = i := lpos_at hlt hj hx
      have d : (monLs.getD i [] == s) = true := by simpa using hx
      rw [hp, if_pos hlt]
      simp (maxSteps := 4000000) only [vm, vl, Arg.get, cells, stor, boundO, resultsV, resV, partK, loadV, Vm.part, fillC, splice, reduceIte, reduceCtorEq, Nat.reduceEqDiff, Nat.reduceAdd, Nat.reduceSub, Nat.reduceMul, Nat.reduceLeDiff, ne_eq, not_false_eq_true, Int.reduceEq, Int.reduceLT, Int.reduceLE, Int.reduceNeg, Int.reduceToNat, Int.reduceGT, Int.reduceGE, Nat.reduceLT, Nat.lt_add_one, Nat.zero_lt_succ, Nat.succ_pos, Nat.zero_le, beq_self_eq_true, k___gatepost_date_reader__month_0, k___gatepost_date_reader__month_2, k___gatepost_date_reader__month_1, e0, e3, e8, e9, hl12, i0, i11, z2, r2, w, d, Int.toNat_natCast]
      exact ⟨rfl, t2, rfl⟩
    · have d : (monLs.getD i [] == s) = false := by simpa using hx
      simp (maxSteps := 4000000) only [vm, vl, Arg.get, cells, stor, boundO, resultsV, resV, partK, loadV, Vm.part, fillC, splice, reduceIte, reduceCtorEq, Nat.reduceEqDiff, Nat.reduceAdd, Nat.reduceSub, Nat.reduceMul, Nat.reduceLeDiff, ne_eq, not_false_eq_true, Int.reduceEq, Int.reduceLT, Int.reduceLE, Int.reduceNeg, Int.reduceToNat, Int.reduceGT, Int.reduceGE, Nat.reduceLT, Nat.lt_add_one, Nat.zero_lt_succ, Nat.succ_pos, Nat.zero_le, beq_self_eq_true, k___gatepost_date_reader__month_0, k___gatepost_date_reader__month_2, k___gatepost_date_reader__month_1, e0, e3, e8, e9, hl12, i0, i11, z2, r2, w, d, Int.toNat_natCast]
      refine ⟨12 - (i + 1), by omega, i + 1, rfl, hlt, rfl, ⟨t2, rfl⟩, ?_⟩
      intro j hj'
      rcases Nat.lt_or_ge j i with h1 | h1
      · exact hj j h1
      · have : j = i := by omega
        subst this; exact hx
  · have hp : lpos s monLs = 12 := lpos_none hj
    rw [hp, if_neg (by omega)]
    have hn : ¬ (((12 : Nat) : Int) < 12) := by omega
    simp (maxSteps := 4000000) only [vm, vl, Arg.get, cells, stor, boundO, resultsV, resV, partK, loadV, Vm.part, fillC, splice, reduceIte, reduceCtorEq, Nat.reduceEqDiff, Nat.reduceAdd, Nat.reduceSub, Nat.reduceMul, Nat.reduceLeDiff, ne_eq, not_false_eq_true, Int.reduceEq, Int.reduceLT, Int.reduceLE, Int.reduceNeg, Int.reduceToNat, Int.reduceGT, Int.reduceGE, Nat.reduceLT, Nat.lt_add_one, Nat.zero_lt_succ, Nat.succ_pos, Nat.zero_le, beq_self_eq_true, k___gatepost_date_reader__month_0, k___gatepost_date_reader__month_2, k___gatepost_date_reader__month_1, e0, e3, e8, e9, hn, hb2]
    refine ⟨rfl, t2, ?_⟩
    rw [rd_set hi]; rfl
theorem takeR_rest (n : Nat) (r : Rd) : (takeR n r).2.1.length ≤ r.1.length := by
  unfold takeR; split
  · simp
  · simp only [List.length_drop]; omega
theorem needR_rest (p : Bs) (r : Rd) : (needR p r).1.length ≤ r.1.length := by
  have := takeR_rest p.length r
  unfold needR; split <;> exact this
theorem numR_rest (n : Nat) (r : Rd) : (numR n r).2.1.length ≤ r.1.length := takeR_rest n r
theorem numR_le {n : Nat} (hn : n ≤ 4) (r : Rd) : 0 ≤ (numR n r).1 ∧ (numR n r).1 ≤ 283305 := numV_le (Nat.le_trans (takeR_len n r) hn)
theorem monR_rest (r : Rd) : (monR r).2.1.length ≤ r.1.length := by
  have := takeR_rest 3 r
  unfold monR; split <;> exact this
theorem daysS_range (y m d : Int) : -1 ≤ daysS y m d ∧ daysS y m d ≤ 2932896 := by
  unfold daysS
  split
  · rename_i h
    obtain ⟨h1, h2, _⟩ := civil_num y m d h.1 h.2.1 h.2.2.1 h.2.2.2.1 h.2.2.2.2.1 h.2.2.2.2.2
    omega
  · omega
def secR (r : Rd) (w y m d c : Int) : V := if r.2 = true ∧ r.1 = [] ∧ 0 ≤ daysS y m d ∧ (daysS y m d + 3) % 7 = w then .tup [.int .i64 (daysS y m d * 86400 + c), .bool true] else .tup [.int .i64 0, .bool false]
theorem second_ok {id : Nat} {r : Rd} {w y m d c : Int} (hb : h[id]? = some (bx r)) (c0 : 0 ≤ c) (c1 : c ≤ 100000000000) : Cf F L i___gatepost_date_reader__second [.ptr id 0, .int .i64 w, .int .i64 y, .int .i64 m, .int .i64 d, .int .i64 c] h (Pu h (secR r w y m d c)) := by
  refine run___gatepost_date_reader__second ?_
  simp only [p___gatepost_date_reader__second]
  refine Cf.pu Days_ok fun t => ?_
  obtain ⟨d0, d1⟩ := daysS_range y m d
  unfold secR
  generalize daysS y m d = n at *
  obtain ⟨s, ok⟩ := r
  have hb' : (h ++ t)[id]? = some (O.box [.str s, .bool ok]) := get_old hb
  cases ok with
  | false =>
    rw [if_neg (by rintro ⟨h, _⟩; cases h)]
    simp (maxSteps := 4000000) only [vm, vl, Arg.get, cells, stor, boundO, resultsV, resV, partK, loadV, Vm.part, fillC, splice, reduceIte, reduceCtorEq, Nat.reduceEqDiff, Nat.reduceAdd, Nat.reduceSub, Nat.reduceMul, Nat.reduceLeDiff, ne_eq, not_false_eq_true, Int.reduceEq, Int.reduceLT, Int.reduceLE, Int.reduceNeg, Int.reduceToNat, Int.reduceGT, Int.reduceGE, Nat.reduceLT, Nat.lt_add_one, Nat.zero_lt_succ, Nat.succ_pos, Nat.zero_le, beq_self_eq_true, k___gatepost_date_reader__second_0, hb', Bool.not_false]
  | true =>
  by_cases hs : s = []
  · subst hs
    have ds : (([] : Bs) == []) = true := rfl
    by_cases n0 : n < 0
    · rw [if_neg (by rintro ⟨_, _, h, _⟩; omega)]
      simp (maxSteps := 4000000) only [vm, vl, Arg.get, cells, stor, boundO, resultsV, resV, partK, loadV, Vm.part, fillC, splice, reduceIte, reduceCtorEq, Nat.reduceEqDiff, Nat.reduceAdd, Nat.reduceSub, Nat.reduceMul, Nat.reduceLeDiff, ne_eq, not_false_eq_true, Int.reduceEq, Int.reduceLT, Int.reduceLE, Int.reduceNeg, Int.reduceToNat, Int.reduceGT, Int.reduceGE, Nat.reduceLT, Nat.lt_add_one, Nat.zero_lt_succ, Nat.succ_pos, Nat.zero_le, beq_self_eq_true, k___gatepost_date_reader__second_0, hb', Bool.not_true, ds, n0, decide_true]
    · have w1 : IntKind.i64.wrap (n + 3) = n + 3 := wrap64 (by omega) (by omega)
      have q1 : (n + 3).tmod 7 = (n + 3) % 7 := tmod_nn (by omega)
      have w2 : IntKind.i64.wrap (n * 86400) = n * 86400 := wrap64 (by omega) (by omega)
      have w3 : IntKind.i64.wrap (n * 86400 + c) = n * 86400 + c := wrap64 (by omega) (by omega)
      by_cases hw : (n + 3) % 7 = w
      · rw [if_pos ⟨rfl, rfl, by omega, hw⟩]
        simp (maxSteps := 4000000) only [vm, vl, Arg.get, cells, stor, boundO, resultsV, resV, partK, loadV, Vm.part, fillC, splice, reduceIte, reduceCtorEq, Nat.reduceEqDiff, Nat.reduceAdd, Nat.reduceSub, Nat.reduceMul, Nat.reduceLeDiff, ne_eq, not_false_eq_true, Int.reduceEq, Int.reduceLT, Int.reduceLE, Int.reduceNeg, Int.reduceToNat, Int.reduceGT, Int.reduceGE, Nat.reduceLT, Nat.lt_add_one, Nat.zero_lt_succ, Nat.succ_pos, Nat.zero_le, beq_self_eq_true, k___gatepost_date_reader__second_0, hb', Bool.not_true, ds, n0, decide_false, decide_true, w1, q1, bin_rem, hw, w2, w3]
      · rw [if_neg (by rintro ⟨_, _, _, h⟩; exact hw h)]
        simp (maxSteps := 4000000) only [vm, vl, Arg.get, cells, stor, boundO, resultsV, resV, partK, loadV, Vm.part, fillC, splice, reduceIte, reduceCtorEq, Nat.reduceEqDiff, Nat.reduceAdd, Nat.reduceSub, Nat.reduceMul, Nat.reduceLeDiff, ne_eq, not_false_eq_true, Int.reduceEq, Int.reduceLT, Int.reduceLE, Int.reduceNeg, Int.reduceToNat, Int.reduceGT, Int.reduceGE, Nat.reduceLT, Nat.lt_add_one, Nat.zero_lt_succ, Nat.succ_pos, Nat.zero_le, beq_self_eq_true, k___gatepost_date_reader__second_0, hb', Bool.not_true, Bool.not_false, ds, n0, decide_false, w1, q1, bin_rem, hw]
  · have ds : (s == []) = false := by simpa using hs
    rw [if_neg (by rintro ⟨_, h, _⟩; exact hs h)]
    simp (maxSteps := 4000000) only [vm, vl, Arg.get, cells, stor, boundO, resultsV, resV, partK, loadV, Vm.part, fillC, splice, reduceIte, reduceCtorEq, Nat.reduceEqDiff, Nat.reduceAdd, Nat.reduceSub, Nat.reduceMul, Nat.reduceLeDiff, ne_eq, not_false_eq_true, Int.reduceEq, Int.reduceLT, Int.reduceLE, Int.reduceNeg, Int.reduceToNat, Int.reduceGT, Int.reduceGE, Nat.reduceLT, Nat.lt_add_one, Nat.zero_lt_succ, Nat.succ_pos, Nat.zero_le, beq_self_eq_true, k___gatepost_date_reader__second_0, hb', Bool.not_true, Bool.not_false, ds]
def clkR (r : Rd) : Int × Rd :=
  let q1 := numR 2 r; let r2 := needR [58] q1.2; let q3 := numR 2 r2; let r4 := needR [58] q3.2; let q5 := numR 2 r4
  (q1.1 * 3600 + q3.1 * 60 + min q5.1 59, if q1.1 ≥ 24 ∨ q3.1 ≥ 60 ∨ q5.1 > 60 then (q5.2.1, false) else q5.2)
theorem clock_ok {id : Nat} {r : Rd} (hb : h[id]? = some (bx r)) (hl : r.1.length < 9223372036854775807) : Cf F L i___gatepost_date_reader__clock [.ptr id 0] h (RdP h id (.int .i64 (clkR r).1) (clkR r).2) := by
  refine run___gatepost_date_reader__clock ?_
  simp only [p___gatepost_date_reader__clock]
  have hi := rd_len hb
  have l1 := numR_rest 2 r
  have b1 := numR_le (n := 2) (by omega) r
  refine Cf.rd (number_ok (n := 2) hb (by omega) hl) fun t1 => ?_
  unfold clkR
  generalize numR 2 r = q1 at *
  have l2 := needR_rest [58] q1.2
  refine Cf.rd (need_ok (p := [58]) (rd_at hi) (by simp) (by omega)) fun t2 => ?_
  rw [rd_set hi]
  simp only
  generalize needR [58] q1.2 = r2 at *
  have l3 := numR_rest 2 r2
  have b3 := numR_le (n := 2) (by omega) r2
  rw [List.append_assoc]
  refine Cf.rd (number_ok (n := 2) (rd_at hi) (by omega) (by omega)) fun t3 => ?_
  rw [rd_set hi]
  generalize numR 2 r2 = q3 at *
  have l4 := needR_rest [58] q3.2
  rw [List.append_assoc]
  refine Cf.rd (need_ok (p := [58]) (rd_at hi) (by simp) (by omega)) fun t4 => ?_
  rw [rd_set hi]
  generalize needR [58] q3.2 = r4 at *
  have l5 := numR_rest 2 r4
  have b5 := numR_le (n := 2) (by omega) r4
  rw [List.append_assoc]
  refine Cf.rd (number_ok (n := 2) (rd_at hi) (by omega) (by omega)) fun t5 => ?_
  rw [rd_set hi]
  generalize numR 2 r4 = q5 at *
  obtain ⟨a, x1⟩ := q1; obtain ⟨m, x3⟩ := q3; obtain ⟨c, x5⟩ := q5
  simp only at *
  have w1 : IntKind.i64.wrap (a * 3600) = a * 3600 := wrap64 (by omega) (by omega)
  have w2 : IntKind.i64.wrap (m * 60) = m * 60 := wrap64 (by omega) (by omega)
  have w3 : IntKind.i64.wrap (a * 3600 + m * 60) = a * 3600 + m * 60 := wrap64 (by omega) (by omega)
  have w4 : IntKind.i64.wrap (a * 3600 + m * 60 + min c 59) = a * 3600 + m * 60 + min c 59 := wrap64 (by omega) (by omega)
  have hb2 : ∀ t, (h.set id (bx x5) ++ t)[id]? = some (O.box [.str x5.1, .bool x5.2]) := fun t => rd_at hi
  have fin : ∀ t : Heap, ∃ t', (h.set id (bx x5) ++ t).set id (O.box [.str x5.1, .bool false]) = h.set id (bx (x5.1, false)) ++ t' := fun t => ⟨t, rd_set hi⟩
  by_cases h1 : a ≥ 24
  · rw [if_pos (.inl h1)]
    simp (maxSteps := 4000000) only [vm, vl, Arg.get, cells, stor, boundO, resultsV, resV, partK, loadV, Vm.part, fillC, splice, reduceIte, reduceCtorEq, Nat.reduceEqDiff, Nat.reduceAdd, Nat.reduceSub, Nat.reduceMul, Nat.reduceLeDiff, ne_eq, not_false_eq_true, Int.reduceEq, Int.reduceLT, Int.reduceLE, Int.reduceNeg, Int.reduceToNat, Int.reduceGT, Int.reduceGE, Nat.reduceLT, Nat.lt_add_one, Nat.zero_lt_succ, Nat.succ_pos, Nat.zero_le, beq_self_eq_true, k___gatepost_date_reader__clock_0, h1, decide_true, hb2, w1, w2, w3, w4]
    exact ⟨rfl, fin _⟩
  · by_cases h2 : m ≥ 60
    · rw [if_pos (.inr (.inl h2))]
      simp (maxSteps := 4000000) only [vm, vl, Arg.get, cells, stor, boundO, resultsV, resV, partK, loadV, Vm.part, fillC, splice, reduceIte, reduceCtorEq, Nat.reduceEqDiff, Nat.reduceAdd, Nat.reduceSub, Nat.reduceMul, Nat.reduceLeDiff, ne_eq, not_false_eq_true, Int.reduceEq, Int.reduceLT, Int.reduceLE, Int.reduceNeg, Int.reduceToNat, Int.reduceGT, Int.reduceGE, Nat.reduceLT, Nat.lt_add_one, Nat.zero_lt_succ, Nat.succ_pos, Nat.zero_le, beq_self_eq_true, k___gatepost_date_reader__clock_0, h1, h2, decide_true, decide_false, hb2, w1, w2, w3, w4]
      exact ⟨rfl, fin _⟩
    · by_cases h3 : c > 60
      · rw [if_pos (.inr (.inr h3))]
        simp (maxSteps := 4000000) only [vm, vl, Arg.get, cells, stor, boundO, resultsV, resV, partK, loadV, Vm.part, fillC, splice, reduceIte, reduceCtorEq, Nat.reduceEqDiff, Nat.reduceAdd, Nat.reduceSub, Nat.reduceMul, Nat.reduceLeDiff, ne_eq, not_false_eq_true, Int.reduceEq, Int.reduceLT, Int.reduceLE, Int.reduceNeg, Int.reduceToNat, Int.reduceGT, Int.reduceGE, Nat.reduceLT, Nat.lt_add_one, Nat.zero_lt_succ, Nat.succ_pos, Nat.zero_le, beq_self_eq_true, k___gatepost_date_reader__clock_0, h1, h2, h3, decide_true, decide_false, hb2, w1, w2, w3, w4]
        exact ⟨rfl, fin _⟩
      · rw [if_neg (by rintro (h | h | h) <;> omega)]
        simp (maxSteps := 4000000) only [vm, vl, Arg.get, cells, stor, boundO, resultsV, resV, partK, loadV, Vm.part, fillC, splice, reduceIte, reduceCtorEq, Nat.reduceEqDiff, Nat.reduceAdd, Nat.reduceSub, Nat.reduceMul, Nat.reduceLeDiff, ne_eq, not_false_eq_true, Int.reduceEq, Int.reduceLT, Int.reduceLE, Int.reduceNeg, Int.reduceToNat, Int.reduceGT, Int.reduceGE, Nat.reduceLT, Nat.lt_add_one, Nat.zero_lt_succ, Nat.succ_pos, Nat.zero_le, beq_self_eq_true, k___gatepost_date_reader__clock_0, h1, h2, h3, decide_true, decide_false, hb2, w1, w2, w3, w4]
        exact ⟨rfl, _, rfl⟩
open Go.Vm Go.Vt
attribute [local congr] wi_congr wg_congr wgd_congr wb_congr wl_congr cf_congr
/-- The first number below n of which p holds; n where there is none. -/
def firstN (p : Nat → Bool) : Nat → Nat
  | 0 => 0
  | n + 1 => if firstN p n < n then firstN p n else if p n then n else n + 1
theorem firstN_none {p : Nat → Bool} : ∀ {n : Nat}, (∀ j, j < n → p j = false) → firstN p n = n
  | 0, _ => rfl
  | n + 1, h => by
    have := firstN_none (n := n) fun j hj => h j (by omega)
    unfold firstN
    rw [this, if_neg (by omega), h n (by omega)]; rfl
theorem firstN_at {p : Nat → Bool} {i : Nat} (h1 : p i = true) (hj : ∀ j, j < i → p j = false) : ∀ {n : Nat}, i < n → firstN p n = i
  | n + 1, hi => by
    unfold firstN
    rcases Nat.lt_or_eq_of_le (Nat.le_of_lt_succ hi) with h | h
    · rw [firstN_at h1 hj h, if_pos h]
    · subst h
      rw [firstN_none hj, if_neg (by omega), h1]; rfl
def nmD (long : Bool) (w : Nat) : Bs := if long then dayLs.getD w [] else (dayLs.getD w []).take 3
def hitD (long : Bool) (s : Bs) (w : Nat) : Bool := decide (s.length > (nmD long w).length) && (s.take (nmD long w).length == nmD long w)
def dayR (long : Bool) (r : Rd) : Int × Rd := if firstN (hitD long r.1) 7 < 7 then ((firstN (hitD long r.1) 7 : Nat), (r.1.drop (nmD long (firstN (hitD long r.1) 7)).length, r.2)) else (0, (r.1, false))
theorem nmD_len (long : Bool) : ∀ w, w < 7 → (nmD long w).length ≤ 10 := by cases long <;> decide
theorem day_ok {id : Nat} {long : Bool} {r : Rd} (hb : h[id]? = some (bx r)) (hl : r.1.length < 9223372036854775807) : Cf F L i___gatepost_date_reader__day [.ptr id 0, .bool long] h (RdP h id (.int .i64 (dayR long r).1) (dayR long r).2) := by
  refine run___gatepost_date_reader__day ?_
  simp only [p___gatepost_date_reader__day]
  have hi := rd_len hb
  refine Cf.pu longDays_ok fun t => ?_
  have same : h.set id (bx r) = h := by
    apply List.ext_getElem?
    intro j
    by_cases hj : id = j
    · subst hj; rw [List.getElem?_set_self hi, hb]
    · rw [List.getElem?_set_ne hj]
  refine l___gatepost_date_reader__day_0 (fun n e h' => ∃ i, n = 7 - i ∧ i ≤ 7 ∧ e 0 = .ptr id 0 ∧ e 1 = .bool long ∧ e 7 = .agg (dayLs.map .str) ∧ e 8 = .int .i64 i ∧ (∃ t, h' = h ++ t) ∧ ∀ j, j < i → hitD long r.1 j = false) ?_ (n := 7) ⟨0, by simp, by simp, rfl, rfl, rfl, rfl, ⟨_, rfl⟩, by simp⟩
  rintro n e h' ⟨i, rfl, hil, e0, e1, e7, e8, ⟨t2, rfl⟩, hj⟩
  simp only [b___gatepost_date_reader__day_0]
  have hb2 : (h ++ t2)[id]? = some (O.box [.str r.1, .bool r.2]) := get_old hb
  have z2 : (dayLs.map V.str).length = 7 := rfl
  rcases Nat.lt_or_eq_of_le hil with hlt | rfl
  · have hl7 : (i : Int) < 7 := by omega
    have i0 : (0 : Int) ≤ i := by omega
    have i6 : i ≤ 6 := by omega
    have r2 : (dayLs.map V.str).getD i (.tup []) = .str (dayLs.getD i []) := aggstr_at hlt
    have w := wrap64 (x := (i : Int) + 1) (by omega) (by omega)
    have hn10 := nmD_len long i hlt
    obtain ⟨u1, _⟩ := day3 i hlt
    generalize hdv : dayLs.map V.str = dvs at *
    have tail : ∀ (e : Env), e 0 = .ptr id 0 → e 1 = .bool long → e 7 = .agg dvs → k___gatepost_date_reader__day_3 L (RdP h id (.int .i64 (dayR long r).1) (dayR long r).2) (fun e' h' => ∃ m, m < 7 - i ∧ ∃ i, m = 7 - i ∧ i ≤ 7 ∧ e' 0 = .ptr id 0 ∧ e' 1 = .bool long ∧ e' 7 = .agg dvs ∧ e' 8 = .int .i64 i ∧ (∃ t, h' = h ++ t) ∧ ∀ j, j < i → hitD long r.1 j = false) e (.ptr id 0) (.int .i64 i) (.str (nmD long i)) (.int .i64 i) (h ++ t2) := by
      intro e e0 e1 e7
      
      have no : hitD long r.1 i = false → ∃ m, m < 7 - i ∧ ∃ i, m = 7 - i ∧ i ≤ 7 ∧ True := fun _ => ⟨7 - (i + 1), by omega, i + 1, rfl, hlt, trivial⟩
      have nxt : hitD long r.1 i = false → ∀ j, j < i + 1 → hitD long r.1 j = false := by
        intro hx j hj'
        rcases Nat.lt_or_ge j i with h1 | h1
        · exact hj j h1
        · have : j = i := by omega
          subst this; exact hx
      have hit : hitD long r.1 i = (decide (r.1.length > (nmD long i).length) && (r.1.take (nmD long i).length == nmD long i)) := rfl
      have dR : hitD long r.1 i = true → dayR long r = ((i : Int), (r.1.drop (nmD long i).length, r.2)) := by
        intro hx
        unfold dayR
        rw [firstN_at hx hj hlt, if_pos hlt]
      generalize nmD long i = nm at *
      by_cases c1 : r.1.length > nm.length
      · have c1' : (r.1.length : Int) > nm.length := by omega
        have g1 : nm.length ≤ r.1.length := by omega
        have g0 : (0 : Int) ≤ nm.length := by omega
        have d1 : decide (r.1.length > nm.length) = true := by simpa using c1
        cases c2 : (r.1.take nm.length == nm) with
        | true =>
          have hx : hitD long r.1 i = true := by rw [hit, d1, c2]; rfl
          rw [dR hx]
          simp (maxSteps := 4000000) only [vm, vl, Arg.get, cells, stor, boundO, resultsV, resV, partK, loadV, Vm.part, fillC, splice, reduceIte, reduceCtorEq, Nat.reduceEqDiff, Nat.reduceAdd, Nat.reduceSub, Nat.reduceMul, Nat.reduceLeDiff, ne_eq, not_false_eq_true, Int.reduceEq, Int.reduceLT, Int.reduceLE, Int.reduceNeg, Int.reduceToNat, Int.reduceGT, Int.reduceGE, Nat.reduceLT, Nat.lt_add_one, Nat.zero_lt_succ, Nat.succ_pos, Nat.zero_le, beq_self_eq_true, k___gatepost_date_reader__day_0, k___gatepost_date_reader__day_2, k___gatepost_date_reader__day_3, k___gatepost_date_reader__day_1, hb2, c1', g1, g0, c2, decide_true, Int.toNat_natCast, List.drop_zero]
          have tk := take_ok (L := L) (h := h ++ t2) (n := nm.length) (r := r) (get_old hb) (by omega) hl
          have e : takeR nm.length r = (r.1.take nm.length, (r.1.drop nm.length, r.2)) := if_neg (by omega)
          rw [e] at tk
          refine tk.mono fun v h2 hp => ?_
          obtain ⟨_, t3, rfl⟩ := hp
          refine ⟨rfl, t2 ++ t3, ?_⟩
          rw [List.set_append_left _ _ hi, List.append_assoc]
        | false =>
          have hx : hitD long r.1 i = false := by rw [hit, d1, c2]; rfl
          simp (maxSteps := 4000000) only [vm, vl, Arg.get, cells, stor, boundO, resultsV, resV, partK, loadV, Vm.part, fillC, splice, reduceIte, reduceCtorEq, Nat.reduceEqDiff, Nat.reduceAdd, Nat.reduceSub, Nat.reduceMul, Nat.reduceLeDiff, ne_eq, not_false_eq_true, Int.reduceEq, Int.reduceLT, Int.reduceLE, Int.reduceNeg, Int.reduceToNat, Int.reduceGT, Int.reduceGE, Nat.reduceLT, Nat.lt_add_one, Nat.zero_lt_succ, Nat.succ_pos, Nat.zero_le, beq_self_eq_true, k___gatepost_date_reader__day_0, k___gatepost_date_reader__day_2, k___gatepost_date_reader__day_3, k___gatepost_date_reader__day_1, hb2, c1', g1, g0, c2, decide_true, Int.toNat_natCast, List.drop_zero, w, e0, e1, e7]
          exact ⟨7 - (i + 1), by omega, i + 1, rfl, hlt, rfl, ⟨t2, rfl⟩, nxt hx⟩
      · have c1' : ¬ (r.1.length : Int) > nm.length := by omega
        have d1 : decide (r.1.length > nm.length) = false := by simpa using c1
        have hx : hitD long r.1 i = false := by rw [hit, d1]; rfl
        simp (maxSteps := 4000000) only [vm, vl, Arg.get, cells, stor, boundO, resultsV, resV, partK, loadV, Vm.part, fillC, splice, reduceIte, reduceCtorEq, Nat.reduceEqDiff, Nat.reduceAdd, Nat.reduceSub, Nat.reduceMul, Nat.reduceLeDiff, ne_eq, not_false_eq_true, Int.reduceEq, Int.reduceLT, Int.reduceLE, Int.reduceNeg, Int.reduceToNat, Int.reduceGT, Int.reduceGE, Nat.reduceLT, Nat.lt_add_one, Nat.zero_lt_succ, Nat.succ_pos, Nat.zero_le, beq_self_eq_true, k___gatepost_date_reader__day_0, k___gatepost_date_reader__day_2, k___gatepost_date_reader__day_3, k___gatepost_date_reader__day_1, hb2, c1', decide_false, w, e0, e1, e7]
        exact ⟨7 - (i + 1), by omega, i + 1, rfl, hlt, rfl, ⟨t2, rfl⟩, nxt hx⟩
    
    cases long with
    | true =>
      have nt : nmD true i = dayLs.getD i [] := rfl
      rw [← nt] at r2
      simp (maxSteps := 4000000) only [vm, vl, Arg.get, cells, stor, boundO, resultsV, resV, partK, loadV, Vm.part, fillC, splice, reduceIte, reduceCtorEq, Nat.reduceEqDiff, Nat.reduceAdd, Nat.reduceSub, Nat.reduceMul, Nat.reduceLeDiff, ne_eq, not_false_eq_true, Int.reduceEq, Int.reduceLT, Int.reduceLE, Int.reduceNeg, Int.reduceToNat, Int.reduceGT, Int.reduceGE, Nat.reduceLT, Nat.lt_add_one, Nat.zero_lt_succ, Nat.succ_pos, Nat.zero_le, beq_self_eq_true, e0, e1, e7, e8, hl7, i0, i6, z2, r2, Int.toNat_natCast, k___gatepost_date_reader__day_1, Bool.not_true]
      exact tail _ e0 e1 e7
    | false =>
      have nt : List.take 3 (dayLs.getD i []) = nmD false i := rfl
      simp (maxSteps := 4000000) only [vm, vl, Arg.get, cells, stor, boundO, resultsV, resV, partK, loadV, Vm.part, fillC, splice, reduceIte, reduceCtorEq, Nat.reduceEqDiff, Nat.reduceAdd, Nat.reduceSub, Nat.reduceMul, Nat.reduceLeDiff, ne_eq, not_false_eq_true, Int.reduceEq, Int.reduceLT, Int.reduceLE, Int.reduceNeg, Int.reduceToNat, Int.reduceGT, Int.reduceGE, Nat.reduceLT, Nat.lt_add_one, Nat.zero_lt_succ, Nat.succ_pos, Nat.zero_le, beq_self_eq_true, e0, e1, e7, e8, hl7, i0, i6, z2, r2, Int.toNat_natCast, k___gatepost_date_reader__day_1, Bool.not_false, u1, List.drop_zero, nt]
      exact tail _ e0 e1 e7
  · have hp : firstN (hitD long r.1) 7 = 7 := firstN_none hj
    have e : dayR long r = (0, (r.1, false)) := by unfold dayR; rw [hp, if_neg (by omega)]
    rw [e]
    have hn : ¬ (((7 : Nat) : Int) < 7) := by omega
    
    simp (maxSteps := 4000000) only [vm, vl, Arg.get, cells, stor, boundO, resultsV, resV, partK, loadV, Vm.part, fillC, splice, reduceIte, reduceCtorEq, Nat.reduceEqDiff, Nat.reduceAdd, Nat.reduceSub, Nat.reduceMul, Nat.reduceLeDiff, ne_eq, not_false_eq_true, Int.reduceEq, Int.reduceLT, Int.reduceLE, Int.reduceNeg, Int.reduceToNat, Int.reduceGT, Int.reduceGE, Nat.reduceLT, Nat.lt_add_one, Nat.zero_lt_succ, Nat.succ_pos, Nat.zero_le, beq_self_eq_true, k___gatepost_date_reader__day_0, k___gatepost_date_reader__day_2, k___gatepost_date_reader__day_3, k___gatepost_date_reader__day_1, e0, e1, e7, e8, hn, hb2]
    refine ⟨rfl, t2, ?_⟩
    rw [List.set_append_left _ _ hi]; rfl
end Go.Proofs.YtaahialaegfjgaaGreatDoor.Vh
end
