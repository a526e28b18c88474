/- Several texts in one: VSplit3, VNum, VCtl1, VSplitN, VCtl2, VPairR, VCtl3, VCtl4, VField, VFew, VRGet, VCtlOf, VNamesE, VNamesF, VDateA, VFormatA, VReaders, VFormsA, VFresh, VStor1, VStor2, VStor5, VJoin, VStorT, VStorF, VStorS. -/
import Derived.Test.YtaahialaegfjgaaDoorPk7
import Derived.Test.YtaahialaegfjgaaDoorPk8
import Derived.Test.YtaahialaegfjgaaDoorPk5
import Derived.Test.YtaahialaegfjgaaDoorPk4
import Derived.Test.YtaahialaegfjgaaDoorPk2
import Derived.Test.YtaahialaegfjgaaDoorPk3
import Derived.Test.YtaahialaegfjgaaDoorPk6
import Derived.Lib.ItoaNum
import Derived.Lib.AppendIntMem
section
set_option linter.unusedVariables false
set_option linter.unusedSimpArgs false
namespace Go.Proofs.YtaahialaegfjgaaDoor.Vh
open Go.Vm Go.Vt
attribute [local congr] wi_congr wg_congr wgd_congr wb_congr wl_congr cf_congr
variable {L : FuncId → List V → V → Prop} {h : Heap}
theorem full_list (out : List Bs) : ListV 1 (fullV out) (strs out) := by
  unfold fullV ListV
  by_cases h : out = []
  · simp [h, strs]
  · simp [h, strs]
theorem splitG_none {s own : Bs} {q : Bool} {out : List Bs} (h : s = []) : splitG s own q out = if q then none else some (flush out own) := by subst h; rfl
/-- What Split comes to: a list, or none. -/
def SplitP (h : Heap) (o : Option (List Bs)) (v : V) (h' : Heap) : Prop := (∃ t, h' = h ++ t) ∧ ((o = none ∧ v = .tup [.nsl, .bool false]) ∨ ∃ out x, o = some out ∧ v = .tup [x, .bool true] ∧ ListV 1 x (strs out))
theorem SplitP.no {h h' : Heap} (hh : ∃ t, h' = h ++ t) : SplitP h none (.tup [.nsl, .bool false]) h' := ⟨hh, .inl ⟨rfl, rfl⟩⟩
end Go.Proofs.YtaahialaegfjgaaDoor.Vh
end
section
set_option linter.unusedVariables false
set_option linter.unusedSimpArgs false
namespace Go.Proofs.YtaahialaegfjgaaDoor.Vh
open Go.Vm Go.Vt
attribute [local congr] wi_congr wg_congr wgd_congr wb_congr wl_congr cf_congr
variable {L : FuncId → List V → V → Prop} {h : Heap}
theorem wquo {x c : Int} (h0 : 0 ≤ x) (hc : 0 < c) (h1 : x ≤ 9223372036854775807) : IntKind.i64.wrap (Int.tdiv x c) = x / c := by
  rw [Int.tdiv_eq_ediv_of_nonneg h0]
  have : 0 ≤ x / c := Int.ediv_nonneg h0 (by omega)
  have := Int.ediv_le_self c h0
  exact wrap64 (by omega) (by omega)
theorem bin_quo' {x y : Int} : binV .quo (.int .i64 x) (.int .i64 y) = if y = 0 then none else some (.int .i64 (IntKind.i64.wrap (x.tdiv y))) := by
  by_cases h : y = 0 <;> simp [binV, binI, h]
theorem dig_eq (c : UInt8) : digB c = (decide ((c.toNat : Int) ≥ 48) && decide ((c.toNat : Int) ≤ 57)) := byte_all (p := fun c => digB c = (decide ((c.toNat : Int) ≥ 48) && decide ((c.toNat : Int) ≤ 57))) (by decide +kernel) c
theorem dig_in {c : UInt8} (h : digB c = true) : 48 ≤ (c.toNat : Int) ∧ (c.toNat : Int) ≤ 57 := by
  rw [dig_eq, Bool.and_eq_true, decide_eq_true_eq, decide_eq_true_eq] at h; exact h
theorem dig_wrap (c : UInt8) : (decide (48 ≤ (c.toNat : Int)) && decide ((c.toNat : Int) ≤ 57)) = true → IntKind.u8.wrap ((c.toNat : Int) - 48) = (c.toNat : Int) - 48 :=
  byte_all (p := fun c => (decide (48 ≤ (c.toNat : Int)) && decide ((c.toNat : Int) ≤ 57)) = true → IntKind.u8.wrap ((c.toNat : Int) - 48) = (c.toNat : Int) - 48) (by decide +kernel) c
theorem Number1_ok {c : UInt8} : Cf F L i_token_Number_1 [byV c] h (Pu h (.bool (digB c))) := by
  refine run_token_Number_1 ?_
  simp only [p_token_Number_1]
  rw [dig_eq]
  by_cases a : (c.toNat : Int) ≥ 48
  · simp (maxSteps := 4000000) only [vm, vl, Arg.get, cells, stor, boundO, resultsV, resV, partK, loadV, Vm.part, fillC, splice, reduceIte, reduceCtorEq, Nat.reduceEqDiff, Nat.reduceAdd, Nat.reduceSub, Nat.reduceMul, Nat.reduceLeDiff, ne_eq, not_false_eq_true, Int.reduceEq, Int.reduceLT, Int.reduceLE, Int.reduceNeg, Int.reduceToNat, Int.reduceGT, Int.reduceGE, Nat.reduceLT, Nat.lt_add_one, Nat.zero_lt_succ, Nat.succ_pos, Nat.zero_le, beq_self_eq_true, a, decide_true, Bool.true_and]
  · simp (maxSteps := 4000000) only [vm, vl, Arg.get, cells, stor, boundO, resultsV, resV, partK, loadV, Vm.part, fillC, splice, reduceIte, reduceCtorEq, Nat.reduceEqDiff, Nat.reduceAdd, Nat.reduceSub, Nat.reduceMul, Nat.reduceLeDiff, ne_eq, not_false_eq_true, Int.reduceEq, Int.reduceLT, Int.reduceLE, Int.reduceNeg, Int.reduceToNat, Int.reduceGT, Int.reduceGE, Nat.reduceLT, Nat.lt_add_one, Nat.zero_lt_succ, Nat.succ_pos, Nat.zero_le, beq_self_eq_true, a, decide_false, Bool.false_and]
theorem num_pair {n : Int} {b : Bool} {x : Int × Bool} (h : x = (n, b)) : V.tup [.int .i64 x.1, .bool x.2] = .tup [.int .i64 n, .bool b] := by subst h; rfl
theorem Number_ok {s : Bs} {most : Int} (hs : s.length ≤ 9223372036854775806) (h0 : -4000000000000000000 ≤ most) (h1 : most ≤ 4000000000000000000) : Cf F L i_token_Number [.str s, .int .i64 most] h (Pu h (.tup [.int .i64 (numS s most).1, .bool (numS s most).2])) := by
  refine run_token_Number ?_
  simp only [p_token_Number]
  by_cases a : s = []
  · subst a
    rw [num_pair (show numS [] most = (0, false) from rfl)]
    have e1 : (([] : Bs) == []) = true := rfl
    simp (maxSteps := 4000000) only [vm, vl, Arg.get, cells, stor, boundO, resultsV, resV, partK, loadV, Vm.part, fillC, splice, reduceIte, reduceCtorEq, Nat.reduceEqDiff, Nat.reduceAdd, Nat.reduceSub, Nat.reduceMul, Nat.reduceLeDiff, ne_eq, not_false_eq_true, Int.reduceEq, Int.reduceLT, Int.reduceLE, Int.reduceNeg, Int.reduceToNat, Int.reduceGT, Int.reduceGE, Nat.reduceLT, Nat.lt_add_one, Nat.zero_lt_succ, Nat.succ_pos, Nat.zero_le, beq_self_eq_true, k_token_Number_1, k_token_Number_3, k_token_Number_4, k_token_Number_2, k_token_Number_0, e1]
  have a' : (s == []) = false := beq_eq_false_iff_ne.2 a
  have ae : s.isEmpty = false := by cases s; exact absurd rfl a; rfl
  by_cases b : most < 0
  · rw [num_pair (show numS s most = (0, false) by unfold numS; simp [b])]
    simp (maxSteps := 4000000) only [vm, vl, Arg.get, cells, stor, boundO, resultsV, resV, partK, loadV, Vm.part, fillC, splice, reduceIte, reduceCtorEq, Nat.reduceEqDiff, Nat.reduceAdd, Nat.reduceSub, Nat.reduceMul, Nat.reduceLeDiff, ne_eq, not_false_eq_true, Int.reduceEq, Int.reduceLT, Int.reduceLE, Int.reduceNeg, Int.reduceToNat, Int.reduceGT, Int.reduceGE, Nat.reduceLT, Nat.lt_add_one, Nat.zero_lt_succ, Nat.succ_pos, Nat.zero_le, beq_self_eq_true, k_token_Number_1, k_token_Number_3, k_token_Number_4, k_token_Number_2, k_token_Number_0, a', b, decide_true]
  cases hd : s.all digB with
  | false =>
    rw [num_pair (show numS s most = (0, false) by unfold numS; simp [hd])]
    simp (maxSteps := 4000000) only [vm, vl, Arg.get, cells, stor, boundO, resultsV, resV, partK, loadV, Vm.part, fillC, splice, reduceIte, reduceCtorEq, Nat.reduceEqDiff, Nat.reduceAdd, Nat.reduceSub, Nat.reduceMul, Nat.reduceLeDiff, ne_eq, not_false_eq_true, Int.reduceEq, Int.reduceLT, Int.reduceLE, Int.reduceNeg, Int.reduceToNat, Int.reduceGT, Int.reduceGE, Nat.reduceLT, Nat.lt_add_one, Nat.zero_lt_succ, Nat.succ_pos, Nat.zero_le, beq_self_eq_true, k_token_Number_1, k_token_Number_3, k_token_Number_4, k_token_Number_2, k_token_Number_0, a', b, decide_false]
    refine Cf.pu (all_ok (caps := []) (by omega) fun c h => Number1_ok) fun u => ?_
    simp (maxSteps := 4000000) only [vm, vl, Arg.get, cells, stor, boundO, resultsV, resV, partK, loadV, Vm.part, fillC, splice, reduceIte, reduceCtorEq, Nat.reduceEqDiff, Nat.reduceAdd, Nat.reduceSub, Nat.reduceMul, Nat.reduceLeDiff, ne_eq, not_false_eq_true, Int.reduceEq, Int.reduceLT, Int.reduceLE, Int.reduceNeg, Int.reduceToNat, Int.reduceGT, Int.reduceGE, Nat.reduceLT, Nat.lt_add_one, Nat.zero_lt_succ, Nat.succ_pos, Nat.zero_le, beq_self_eq_true, k_token_Number_1, k_token_Number_3, k_token_Number_4, k_token_Number_2, k_token_Number_0, hd, Bool.not_false]
  | true =>
    rw [num_pair (show numS s most = (numG s 0 most, true) by unfold numS; simp [hd, b, ae])]
    simp (maxSteps := 4000000) only [vm, vl, Arg.get, cells, stor, boundO, resultsV, resV, partK, loadV, Vm.part, fillC, splice, reduceIte, reduceCtorEq, Nat.reduceEqDiff, Nat.reduceAdd, Nat.reduceSub, Nat.reduceMul, Nat.reduceLeDiff, ne_eq, not_false_eq_true, Int.reduceEq, Int.reduceLT, Int.reduceLE, Int.reduceNeg, Int.reduceToNat, Int.reduceGT, Int.reduceGE, Nat.reduceLT, Nat.lt_add_one, Nat.zero_lt_succ, Nat.succ_pos, Nat.zero_le, beq_self_eq_true, k_token_Number_1, k_token_Number_3, k_token_Number_4, k_token_Number_2, k_token_Number_0, a', b, decide_false]
    refine Cf.pu (all_ok (caps := []) (by omega) fun c h => Number1_ok) fun u => ?_
    simp (maxSteps := 4000000) only [vm, vl, Arg.get, cells, stor, boundO, resultsV, resV, partK, loadV, Vm.part, fillC, splice, reduceIte, reduceCtorEq, Nat.reduceEqDiff, Nat.reduceAdd, Nat.reduceSub, Nat.reduceMul, Nat.reduceLeDiff, ne_eq, not_false_eq_true, Int.reduceEq, Int.reduceLT, Int.reduceLE, Int.reduceNeg, Int.reduceToNat, Int.reduceGT, Int.reduceGE, Nat.reduceLT, Nat.lt_add_one, Nat.zero_lt_succ, Nat.succ_pos, Nat.zero_le, beq_self_eq_true, k_token_Number_1, k_token_Number_3, k_token_Number_4, k_token_Number_2, k_token_Number_0, hd, Bool.not_true]
    refine l_token_Number_0 (fun n e h' => ∃ (i : Nat) (v : Int), n = s.length - i ∧ i ≤ s.length ∧ e 0 = .str s ∧ e 1 = .int .i64 most ∧ e 6 = .int .i64 v ∧ e 21 = .int .i64 s.length ∧ e 22 = .int .i64 i ∧ 0 ≤ v ∧ v ≤ most ∧ numG s 0 most = numG (s.drop i) v most ∧ ∃ t, h' = h ++ t) ?_ (n := s.length) ⟨0, 0, by simp, by simp, rfl, rfl, rfl, rfl, rfl, by omega, by omega, rfl, u, rfl⟩
    rintro n e h' ⟨i, v, rfl, hi, e0, e1, e6, e21, e22, v0, v1, hg, t, rfl⟩
    simp only [b_token_Number_0]
    rw [hg]
    rcases str_at hi with ⟨hn, rfl, hdr⟩ | ⟨c, hl, hl', hc, hdr⟩
    · rw [hdr]
      simp (maxSteps := 4000000) only [vm, vl, Arg.get, cells, stor, boundO, resultsV, resV, partK, loadV, Vm.part, fillC, splice, reduceIte, reduceCtorEq, Nat.reduceEqDiff, Nat.reduceAdd, Nat.reduceSub, Nat.reduceMul, Nat.reduceLeDiff, ne_eq, not_false_eq_true, Int.reduceEq, Int.reduceLT, Int.reduceLE, Int.reduceNeg, Int.reduceToNat, Int.reduceGT, Int.reduceGE, Nat.reduceLT, Nat.lt_add_one, Nat.zero_lt_succ, Nat.succ_pos, Nat.zero_le, beq_self_eq_true, k_token_Number_1, k_token_Number_3, k_token_Number_4, k_token_Number_2, k_token_Number_0, e0, e1, e6, e21, e22, hn, decide_false]
      rfl
    · have w := wrap64 (x := (i : Int) + 1) (by omega) (by omega)
      have dc : digB c = true := by
        rw [← hc]
        refine (List.all_eq_true.1 hd) _ ?_
        rw [List.getD_eq_getElem?_getD, List.getElem?_eq_getElem hl', Option.getD_some]; exact List.getElem_mem _
      have di := dig_in dc
      have dw := dig_wrap c (by simp [di])
      have d64 : IntKind.i64.wrap ((c.toNat : Int) - 48) = (c.toNat : Int) - 48 := wrap64 (by omega) (by omega)
      have eg : numG (c :: s.drop (i + 1)) v most = if (c.toNat : Int) - 48 > most ∨ v > (most - ((c.toNat : Int) - 48)) / 10 then most else numG (s.drop (i + 1)) (10 * v + ((c.toNat : Int) - 48)) most := rfl
      rw [hdr, eg]
      generalize hD : (c.toNat : Int) - 48 = D at *
      by_cases p : D > most
      · rw [if_pos (.inl p)]
        simp (maxSteps := 4000000) only [vm, vl, Arg.get, cells, stor, boundO, resultsV, resV, partK, loadV, Vm.part, fillC, splice, reduceIte, reduceCtorEq, Nat.reduceEqDiff, Nat.reduceAdd, Nat.reduceSub, Nat.reduceMul, Nat.reduceLeDiff, ne_eq, not_false_eq_true, Int.reduceEq, Int.reduceLT, Int.reduceLE, Int.reduceNeg, Int.reduceToNat, Int.reduceGT, Int.reduceGE, Nat.reduceLT, Nat.lt_add_one, Nat.zero_lt_succ, Nat.succ_pos, Nat.zero_le, beq_self_eq_true, k_token_Number_1, k_token_Number_3, k_token_Number_4, k_token_Number_2, k_token_Number_0, e0, e1, e6, e21, e22, hl, hl', hc, hD, dw, d64, p, decide_true]
      have w1 : IntKind.i64.wrap (most - D) = most - D := wrap64 (by omega) (by omega)
      have w2 : IntKind.i64.wrap ((most - D).tdiv 10) = (most - D) / 10 := wquo (by omega) (by omega) (by omega)
      by_cases q : v > (most - D) / 10
      · rw [if_pos (.inr q)]
        simp (maxSteps := 4000000) only [vm, vl, Arg.get, cells, stor, boundO, resultsV, resV, partK, loadV, Vm.part, fillC, splice, reduceIte, reduceCtorEq, Nat.reduceEqDiff, Nat.reduceAdd, Nat.reduceSub, Nat.reduceMul, Nat.reduceLeDiff, ne_eq, not_false_eq_true, Int.reduceEq, Int.reduceLT, Int.reduceLE, Int.reduceNeg, Int.reduceToNat, Int.reduceGT, Int.reduceGE, Nat.reduceLT, Nat.lt_add_one, Nat.zero_lt_succ, Nat.succ_pos, Nat.zero_le, beq_self_eq_true, k_token_Number_1, k_token_Number_3, k_token_Number_4, k_token_Number_2, k_token_Number_0, e0, e1, e6, e21, e22, hl, hl', hc, hD, dw, d64, p, q, w1, w2, bin_quo', decide_true, decide_false]
      · rw [if_neg (fun h => h.elim p q)]
        have w3 : IntKind.i64.wrap (10 * v) = 10 * v := wrap64 (by omega) (by omega)
        have w4 : IntKind.i64.wrap (10 * v + D) = 10 * v + D := wrap64 (by omega) (by omega)
        simp (maxSteps := 4000000) only [vm, vl, Arg.get, cells, stor, boundO, resultsV, resV, partK, loadV, Vm.part, fillC, splice, reduceIte, reduceCtorEq, Nat.reduceEqDiff, Nat.reduceAdd, Nat.reduceSub, Nat.reduceMul, Nat.reduceLeDiff, ne_eq, not_false_eq_true, Int.reduceEq, Int.reduceLT, Int.reduceLE, Int.reduceNeg, Int.reduceToNat, Int.reduceGT, Int.reduceGE, Nat.reduceLT, Nat.lt_add_one, Nat.zero_lt_succ, Nat.succ_pos, Nat.zero_le, beq_self_eq_true, k_token_Number_1, k_token_Number_3, k_token_Number_4, k_token_Number_2, k_token_Number_0, e0, e1, e6, e21, e22, hl, hl', hc, hD, dw, d64, p, q, w, w1, w2, w3, w4, bin_quo', decide_true, decide_false]
        exact ⟨s.length - (i + 1), by omega, i + 1, 10 * v + D, rfl, hl', rfl, rfl, by omega, by omega, rfl, _, rfl⟩
end Go.Proofs.YtaahialaegfjgaaDoor.Vh
end
section
set_option linter.unusedVariables false
set_option linter.unusedSimpArgs false
namespace Go.Proofs.YtaahialaegfjgaaDoor.Vh
open Go.Vm Go.Vt
attribute [local congr] wi_congr wg_congr wgd_congr wb_congr wl_congr cf_congr
variable {L : FuncId → List V → V → Prop} {h : Heap}
/-- Flags and numbers. -/
structure Ct where
  f : Nat → Bool
  n : Nat → Int
def ctV (c : Ct) : List V := [.bool (c.f 0), .bool (c.f 1), .bool (c.f 2), .bool (c.f 3), .bool (c.f 4), .bool (c.f 5), .bool (c.f 6), .int .i64 (c.n 0), .int .i64 (c.n 1), .int .i64 (c.n 2), .int .i64 (c.n 3), .int .i64 (c.n 4), .int .i64 (c.n 5)]
def ct0 : Ct := ⟨fun _ => false, fun _ => -1⟩
def setF (c : Ct) (i : Nat) : Ct := ⟨fun k => if k = i then true else c.f k, c.n⟩
def setN (c : Ct) (j : Nat) (v : Int) : Ct := ⟨c.f, fun k => if k = j then v else c.n k⟩
/-- What a name stands for. -/
inductive Rl where
  | no
  | flag (i : Nat)
  | num (j : Nat) (m b : Int)
def ruleT : List (Bs × Rl) := [([110, 111, 45, 115, 116, 111, 114, 101], .flag 0), ([110, 111, 45, 99, 97, 99, 104, 101], .flag 1), ([112, 114, 105, 118, 97, 116, 101], .flag 2), ([112, 117, 98, 108, 105, 99], .flag 3), ([109, 117, 115, 116, 45, 114, 101, 118, 97, 108, 105, 100, 97, 116, 101], .flag 4), ([112, 114, 111, 120, 121, 45, 114, 101, 118, 97, 108, 105, 100, 97, 116, 101], .flag 5), ([111, 110, 108, 121, 45, 105, 102, 45, 99, 97, 99, 104, 101, 100], .flag 6), ([109, 97, 120, 45, 97, 103, 101], .num 0 0 0), ([115, 45, 109, 97, 120, 97, 103, 101], .num 1 0 0), ([115, 116, 97, 108, 101, 45, 119, 104, 105, 108, 101, 45, 114, 101, 118, 97, 108, 105, 100, 97, 116, 101], .num 2 (-1) (-1)), ([115, 116, 97, 108, 101, 45, 105, 102, 45, 101, 114, 114, 111, 114], .num 3 (-1) (-1)), ([109, 105, 110, 45, 102, 114, 101, 115, 104], .num 4 (-1) (-1)), ([109, 97, 120, 45, 115, 116, 97, 108, 101], .num 5 2147483648 (-1))]
def ruleOf (nm : Bs) : Rl := (ruleT.lookup nm).getD .no
def valueS (text : Bs) (has : Bool) (m b : Int) : Int := if has then (if (numS text 2147483648).2 then (numS text 2147483648).1 else b) else m
/-- What an element does. -/
inductive Ac where
  | nop
  | flag (i : Nat)
  | num (j : Nat) (v : Int)
  deriving DecidableEq
def actS (x : Bs) : Ac := match ruleOf (low (pairS x).1) with
  | .no => .nop
  | .flag i => .flag i
  | .num j m b => if valueS (pairS x).2.1 (pairS x).2.2.1 m b = -1 then .nop else .num j (valueS (pairS x).2.1 (pairS x).2.2.1 m b)
def lst (a v : Int) : Int := if a = -1 ∨ v < a then v else a
def applyA (c : Ct) : Ac → Ct
  | .nop => c
  | .flag i => setF c i
  | .num j v => setN c j (lst (c.n j) v)
def stepC (c : Ct) (x : Bs) : Ct := applyA c (actS x)
def parseC (s : Bs) : Ct × Bool := match split s with
  | none => (setF (setF ct0 0) 1, false)
  | some l => (l.foldl stepC ct0, true)
def parseCV (p : Ct × Bool) : V := .tup [.agg (ctV p.1), .bool p.2]
def flagF : List FuncId := [i_control_rules_3, i_control_rules_4, i_control_rules_5, i_control_rules_6, i_control_rules_7, i_control_rules_8, i_control_rules_9]
def numF : List FuncId := [i_control_rules_10, i_control_rules_11, i_control_rules_12, i_control_rules_13, i_control_rules_14, i_control_rules_15]
def ruleV : Rl → V
  | .no => .agg [.nfn, .nfn, .int .i64 0, .int .i64 0]
  | .flag i => .agg [.fn (flagF.getD i 0) [], .nfn, .int .i64 0, .int .i64 0]
  | .num j m b => .agg [.nfn, .fn (numF.getD j 0) [], .int .i64 m, .int .i64 b]
def ruleE : List (V × V) := ruleT.map fun p => (.str p.1, ruleV p.2)
theorem find_rule (nm : Bs) : ∀ (l : List (Bs × Rl)) (k : Nat), ∃ r, findE .s (.str nm) (l.map fun p => (V.str p.1, ruleV p.2)) k = some r ∧ (match l.lookup nm with | none => r = none | some a => ∃ i, r = some (i, ruleV a))
  | [], k => ⟨none, rfl, rfl⟩
  | (n, a) :: l, k => by
    by_cases hn : nm = n
    · subst hn
      refine ⟨some (k, ruleV a), ?_, ?_⟩
      · simp [findE, eqLeaf]
      · rw [List.lookup_cons, show (nm == nm) = true from beq_self_eq_true nm]; exact ⟨k, rfl⟩
    · obtain ⟨r, h1, h2⟩ := find_rule nm l (k + 1)
      have hb : (nm == n) = false := beq_eq_false_iff_ne.2 hn
      refine ⟨r, ?_, ?_⟩
      · rw [List.map_cons, findE]
        simp only [eqLeaf, hb, Option.bind_some, Bool.false_eq_true, if_false]
        exact h1
      · rw [List.lookup_cons, hb]; exact h2
theorem nothing_ok : Cf F L i_control_nothing [] h (fun v h' => v = .agg (ctV ct0) ∧ h' = h ++ [.box (ctV ct0)]) := by
  refine run_control_nothing ?_
  simp only [p_control_nothing]
  simp (maxSteps := 4000000) only [vm, vl, Arg.get, cells, stor, boundO, resultsV, resV, partK, loadV, Vm.part, fillC, splice, reduceIte, reduceCtorEq, Nat.reduceEqDiff, Nat.reduceAdd, Nat.reduceSub, Nat.reduceMul, Nat.reduceLeDiff, ne_eq, not_false_eq_true, Int.reduceEq, Int.reduceLT, Int.reduceLE, Int.reduceNeg, Int.reduceToNat, Int.reduceGT, Int.reduceGE, Nat.reduceLT, Nat.lt_add_one, Nat.zero_lt_succ, Nat.succ_pos, Nat.zero_le, beq_self_eq_true]
  exact ⟨rfl, rfl⟩
theorem value_ok {f g : V} {m b : Int} {text : Bs} {has : Bool} (hs : text.length ≤ 9223372036854775806) : Cf F L i__gatepost_control_rule__value [.agg [f, g, .int .i64 m, .int .i64 b], .str text, .bool has] h (Pu h (.int .i64 (valueS text has m b))) := by
  refine run__gatepost_control_rule__value ?_
  simp only [p__gatepost_control_rule__value]
  unfold valueS
  cases has with
  | false => simp (maxSteps := 4000000) only [vm, vl, Arg.get, cells, stor, boundO, resultsV, resV, partK, loadV, Vm.part, fillC, splice, reduceIte, reduceCtorEq, Nat.reduceEqDiff, Nat.reduceAdd, Nat.reduceSub, Nat.reduceMul, Nat.reduceLeDiff, ne_eq, not_false_eq_true, Int.reduceEq, Int.reduceLT, Int.reduceLE, Int.reduceNeg, Int.reduceToNat, Int.reduceGT, Int.reduceGE, Nat.reduceLT, Nat.lt_add_one, Nat.zero_lt_succ, Nat.succ_pos, Nat.zero_le, beq_self_eq_true, k__gatepost_control_rule__value_1, k__gatepost_control_rule__value_0, Bool.not_false]
  | true =>
    simp (maxSteps := 4000000) only [vm, vl, Arg.get, cells, stor, boundO, resultsV, resV, partK, loadV, Vm.part, fillC, splice, reduceIte, reduceCtorEq, Nat.reduceEqDiff, Nat.reduceAdd, Nat.reduceSub, Nat.reduceMul, Nat.reduceLeDiff, ne_eq, not_false_eq_true, Int.reduceEq, Int.reduceLT, Int.reduceLE, Int.reduceNeg, Int.reduceToNat, Int.reduceGT, Int.reduceGE, Nat.reduceLT, Nat.lt_add_one, Nat.zero_lt_succ, Nat.succ_pos, Nat.zero_le, beq_self_eq_true, k__gatepost_control_rule__value_1, k__gatepost_control_rule__value_0, Bool.not_true]
    refine Cf.pu (Number_ok hs (by decide) (by decide)) fun u => ?_
    cases hn : (numS text 2147483648).2 with
    | true => simp (maxSteps := 4000000) only [vm, vl, Arg.get, cells, stor, boundO, resultsV, resV, partK, loadV, Vm.part, fillC, splice, reduceIte, reduceCtorEq, Nat.reduceEqDiff, Nat.reduceAdd, Nat.reduceSub, Nat.reduceMul, Nat.reduceLeDiff, ne_eq, not_false_eq_true, Int.reduceEq, Int.reduceLT, Int.reduceLE, Int.reduceNeg, Int.reduceToNat, Int.reduceGT, Int.reduceGE, Nat.reduceLT, Nat.lt_add_one, Nat.zero_lt_succ, Nat.succ_pos, Nat.zero_le, beq_self_eq_true, k__gatepost_control_rule__value_1, k__gatepost_control_rule__value_0, hn]
    | false => simp (maxSteps := 4000000) only [vm, vl, Arg.get, cells, stor, boundO, resultsV, resV, partK, loadV, Vm.part, fillC, splice, reduceIte, reduceCtorEq, Nat.reduceEqDiff, Nat.reduceAdd, Nat.reduceSub, Nat.reduceMul, Nat.reduceLeDiff, ne_eq, not_false_eq_true, Int.reduceEq, Int.reduceLT, Int.reduceLE, Int.reduceNeg, Int.reduceToNat, Int.reduceGT, Int.reduceGE, Nat.reduceLT, Nat.lt_add_one, Nat.zero_lt_succ, Nat.succ_pos, Nat.zero_le, beq_self_eq_true, k__gatepost_control_rule__value_1, k__gatepost_control_rule__value_0, hn]
theorem flag0_ok {c : Ct} {p : Nat} {K : V → Heap → Prop} (hb : h[p]? = some (.box (ctV c))) (hk : K (.tup []) (h.set p (.box (ctV (setF c 0))))) : Cf F L i_control_rules_3 [.ptr p 0] h K := by
  have hb' := hb
  unfold ctV at hb'
  refine run_control_rules_3 ?_
  simp only [p_control_rules_3]
  simp (maxSteps := 4000000) only [vm, vl, Arg.get, cells, stor, boundO, resultsV, resV, partK, loadV, Vm.part, fillC, splice, reduceIte, reduceCtorEq, Nat.reduceEqDiff, Nat.reduceAdd, Nat.reduceSub, Nat.reduceMul, Nat.reduceLeDiff, ne_eq, not_false_eq_true, Int.reduceEq, Int.reduceLT, Int.reduceLE, Int.reduceNeg, Int.reduceToNat, Int.reduceGT, Int.reduceGE, Nat.reduceLT, Nat.lt_add_one, Nat.zero_lt_succ, Nat.succ_pos, Nat.zero_le, beq_self_eq_true, hb']
  exact hk
theorem flag1_ok {c : Ct} {p : Nat} {K : V → Heap → Prop} (hb : h[p]? = some (.box (ctV c))) (hk : K (.tup []) (h.set p (.box (ctV (setF c 1))))) : Cf F L i_control_rules_4 [.ptr p 0] h K := by
  have hb' := hb
  unfold ctV at hb'
  refine run_control_rules_4 ?_
  simp only [p_control_rules_4]
  simp (maxSteps := 4000000) only [vm, vl, Arg.get, cells, stor, boundO, resultsV, resV, partK, loadV, Vm.part, fillC, splice, reduceIte, reduceCtorEq, Nat.reduceEqDiff, Nat.reduceAdd, Nat.reduceSub, Nat.reduceMul, Nat.reduceLeDiff, ne_eq, not_false_eq_true, Int.reduceEq, Int.reduceLT, Int.reduceLE, Int.reduceNeg, Int.reduceToNat, Int.reduceGT, Int.reduceGE, Nat.reduceLT, Nat.lt_add_one, Nat.zero_lt_succ, Nat.succ_pos, Nat.zero_le, beq_self_eq_true, hb']
  exact hk
theorem flag2_ok {c : Ct} {p : Nat} {K : V → Heap → Prop} (hb : h[p]? = some (.box (ctV c))) (hk : K (.tup []) (h.set p (.box (ctV (setF c 2))))) : Cf F L i_control_rules_5 [.ptr p 0] h K := by
  have hb' := hb
  unfold ctV at hb'
  refine run_control_rules_5 ?_
  simp only [p_control_rules_5]
  simp (maxSteps := 4000000) only [vm, vl, Arg.get, cells, stor, boundO, resultsV, resV, partK, loadV, Vm.part, fillC, splice, reduceIte, reduceCtorEq, Nat.reduceEqDiff, Nat.reduceAdd, Nat.reduceSub, Nat.reduceMul, Nat.reduceLeDiff, ne_eq, not_false_eq_true, Int.reduceEq, Int.reduceLT, Int.reduceLE, Int.reduceNeg, Int.reduceToNat, Int.reduceGT, Int.reduceGE, Nat.reduceLT, Nat.lt_add_one, Nat.zero_lt_succ, Nat.succ_pos, Nat.zero_le, beq_self_eq_true, hb']
  exact hk
theorem flag3_ok {c : Ct} {p : Nat} {K : V → Heap → Prop} (hb : h[p]? = some (.box (ctV c))) (hk : K (.tup []) (h.set p (.box (ctV (setF c 3))))) : Cf F L i_control_rules_6 [.ptr p 0] h K := by
  have hb' := hb
  unfold ctV at hb'
  refine run_control_rules_6 ?_
  simp only [p_control_rules_6]
  simp (maxSteps := 4000000) only [vm, vl, Arg.get, cells, stor, boundO, resultsV, resV, partK, loadV, Vm.part, fillC, splice, reduceIte, reduceCtorEq, Nat.reduceEqDiff, Nat.reduceAdd, Nat.reduceSub, Nat.reduceMul, Nat.reduceLeDiff, ne_eq, not_false_eq_true, Int.reduceEq, Int.reduceLT, Int.reduceLE, Int.reduceNeg, Int.reduceToNat, Int.reduceGT, Int.reduceGE, Nat.reduceLT, Nat.lt_add_one, Nat.zero_lt_succ, Nat.succ_pos, Nat.zero_le, beq_self_eq_true, hb']
  exact hk
theorem flag4_ok {c : Ct} {p : Nat} {K : V → Heap → Prop} (hb : h[p]? = some (.box (ctV c))) (hk : K (.tup []) (h.set p (.box (ctV (setF c 4))))) : Cf F L i_control_rules_7 [.ptr p 0] h K := by
  have hb' := hb
  unfold ctV at hb'
  refine run_control_rules_7 ?_
  simp only [p_control_rules_7]
  simp (maxSteps := 4000000) only [vm, vl, Arg.get, cells, stor, boundO, resultsV, resV, partK, loadV, Vm.part, fillC, splice, reduceIte, reduceCtorEq, Nat.reduceEqDiff, Nat.reduceAdd, Nat.reduceSub, Nat.reduceMul, Nat.reduceLeDiff, ne_eq, not_false_eq_true, Int.reduceEq, Int.reduceLT, Int.reduceLE, Int.reduceNeg, Int.reduceToNat, Int.reduceGT, Int.reduceGE, Nat.reduceLT, Nat.lt_add_one, Nat.zero_lt_succ, Nat.succ_pos, Nat.zero_le, beq_self_eq_true, hb']
  exact hk
theorem flag5_ok {c : Ct} {p : Nat} {K : V → Heap → Prop} (hb : h[p]? = some (.box (ctV c))) (hk : K (.tup []) (h.set p (.box (ctV (setF c 5))))) : Cf F L i_control_rules_8 [.ptr p 0] h K := by
  have hb' := hb
  unfold ctV at hb'
  refine run_control_rules_8 ?_
  simp only [p_control_rules_8]
  simp (maxSteps := 4000000) only [vm, vl, Arg.get, cells, stor, boundO, resultsV, resV, partK, loadV, Vm.part, fillC, splice, reduceIte, reduceCtorEq, Nat.reduceEqDiff, Nat.reduceAdd, Nat.reduceSub, Nat.reduceMul, Nat.reduceLeDiff, ne_eq, not_false_eq_true, Int.reduceEq, Int.reduceLT, Int.reduceLE, Int.reduceNeg, Int.reduceToNat, Int.reduceGT, Int.reduceGE, Nat.reduceLT, Nat.lt_add_one, Nat.zero_lt_succ, Nat.succ_pos, Nat.zero_le, beq_self_eq_true, hb']
  exact hk
theorem flag6_ok {c : Ct} {p : Nat} {K : V → Heap → Prop} (hb : h[p]? = some (.box (ctV c))) (hk : K (.tup []) (h.set p (.box (ctV (setF c 6))))) : Cf F L i_control_rules_9 [.ptr p 0] h K := by
  have hb' := hb
  unfold ctV at hb'
  refine run_control_rules_9 ?_
  simp only [p_control_rules_9]
  simp (maxSteps := 4000000) only [vm, vl, Arg.get, cells, stor, boundO, resultsV, resV, partK, loadV, Vm.part, fillC, splice, reduceIte, reduceCtorEq, Nat.reduceEqDiff, Nat.reduceAdd, Nat.reduceSub, Nat.reduceMul, Nat.reduceLeDiff, ne_eq, not_false_eq_true, Int.reduceEq, Int.reduceLT, Int.reduceLE, Int.reduceNeg, Int.reduceToNat, Int.reduceGT, Int.reduceGE, Nat.reduceLT, Nat.lt_add_one, Nat.zero_lt_succ, Nat.succ_pos, Nat.zero_le, beq_self_eq_true, hb']
  exact hk
theorem num0_ok {p : Nat} : Cf F L i_control_rules_10 [.ptr p 0] h (fun v h' => v = .ptr p 7 ∧ h' = h) := by
  refine run_control_rules_10 ?_
  simp only [p_control_rules_10]
  simp (maxSteps := 4000000) only [vm, vl, Arg.get, cells, stor, boundO, resultsV, resV, partK, loadV, Vm.part, fillC, splice, reduceIte, reduceCtorEq, Nat.reduceEqDiff, Nat.reduceAdd, Nat.reduceSub, Nat.reduceMul, Nat.reduceLeDiff, ne_eq, not_false_eq_true, Int.reduceEq, Int.reduceLT, Int.reduceLE, Int.reduceNeg, Int.reduceToNat, Int.reduceGT, Int.reduceGE, Nat.reduceLT, Nat.lt_add_one, Nat.zero_lt_succ, Nat.succ_pos, Nat.zero_le, beq_self_eq_true]
theorem num1_ok {p : Nat} : Cf F L i_control_rules_11 [.ptr p 0] h (fun v h' => v = .ptr p 8 ∧ h' = h) := by
  refine run_control_rules_11 ?_
  simp only [p_control_rules_11]
  simp (maxSteps := 4000000) only [vm, vl, Arg.get, cells, stor, boundO, resultsV, resV, partK, loadV, Vm.part, fillC, splice, reduceIte, reduceCtorEq, Nat.reduceEqDiff, Nat.reduceAdd, Nat.reduceSub, Nat.reduceMul, Nat.reduceLeDiff, ne_eq, not_false_eq_true, Int.reduceEq, Int.reduceLT, Int.reduceLE, Int.reduceNeg, Int.reduceToNat, Int.reduceGT, Int.reduceGE, Nat.reduceLT, Nat.lt_add_one, Nat.zero_lt_succ, Nat.succ_pos, Nat.zero_le, beq_self_eq_true]
theorem num2_ok {p : Nat} : Cf F L i_control_rules_12 [.ptr p 0] h (fun v h' => v = .ptr p 9 ∧ h' = h) := by
  refine run_control_rules_12 ?_
  simp only [p_control_rules_12]
  simp (maxSteps := 4000000) only [vm, vl, Arg.get, cells, stor, boundO, resultsV, resV, partK, loadV, Vm.part, fillC, splice, reduceIte, reduceCtorEq, Nat.reduceEqDiff, Nat.reduceAdd, Nat.reduceSub, Nat.reduceMul, Nat.reduceLeDiff, ne_eq, not_false_eq_true, Int.reduceEq, Int.reduceLT, Int.reduceLE, Int.reduceNeg, Int.reduceToNat, Int.reduceGT, Int.reduceGE, Nat.reduceLT, Nat.lt_add_one, Nat.zero_lt_succ, Nat.succ_pos, Nat.zero_le, beq_self_eq_true]
theorem num3_ok {p : Nat} : Cf F L i_control_rules_13 [.ptr p 0] h (fun v h' => v = .ptr p 10 ∧ h' = h) := by
  refine run_control_rules_13 ?_
  simp only [p_control_rules_13]
  simp (maxSteps := 4000000) only [vm, vl, Arg.get, cells, stor, boundO, resultsV, resV, partK, loadV, Vm.part, fillC, splice, reduceIte, reduceCtorEq, Nat.reduceEqDiff, Nat.reduceAdd, Nat.reduceSub, Nat.reduceMul, Nat.reduceLeDiff, ne_eq, not_false_eq_true, Int.reduceEq, Int.reduceLT, Int.reduceLE, Int.reduceNeg, Int.reduceToNat, Int.reduceGT, Int.reduceGE, Nat.reduceLT, Nat.lt_add_one, Nat.zero_lt_succ, Nat.succ_pos, Nat.zero_le, beq_self_eq_true]
theorem num4_ok {p : Nat} : Cf F L i_control_rules_14 [.ptr p 0] h (fun v h' => v = .ptr p 11 ∧ h' = h) := by
  refine run_control_rules_14 ?_
  simp only [p_control_rules_14]
  simp (maxSteps := 4000000) only [vm, vl, Arg.get, cells, stor, boundO, resultsV, resV, partK, loadV, Vm.part, fillC, splice, reduceIte, reduceCtorEq, Nat.reduceEqDiff, Nat.reduceAdd, Nat.reduceSub, Nat.reduceMul, Nat.reduceLeDiff, ne_eq, not_false_eq_true, Int.reduceEq, Int.reduceLT, Int.reduceLE, Int.reduceNeg, Int.reduceToNat, Int.reduceGT, Int.reduceGE, Nat.reduceLT, Nat.lt_add_one, Nat.zero_lt_succ, Nat.succ_pos, Nat.zero_le, beq_self_eq_true]
theorem num5_ok {p : Nat} : Cf F L i_control_rules_15 [.ptr p 0] h (fun v h' => v = .ptr p 12 ∧ h' = h) := by
  refine run_control_rules_15 ?_
  simp only [p_control_rules_15]
  simp (maxSteps := 4000000) only [vm, vl, Arg.get, cells, stor, boundO, resultsV, resV, partK, loadV, Vm.part, fillC, splice, reduceIte, reduceCtorEq, Nat.reduceEqDiff, Nat.reduceAdd, Nat.reduceSub, Nat.reduceMul, Nat.reduceLeDiff, ne_eq, not_false_eq_true, Int.reduceEq, Int.reduceLT, Int.reduceLE, Int.reduceNeg, Int.reduceToNat, Int.reduceGT, Int.reduceGE, Nat.reduceLT, Nat.lt_add_one, Nat.zero_lt_succ, Nat.succ_pos, Nat.zero_le, beq_self_eq_true]
theorem flag_ok {c : Ct} {p i : Nat} {K : V → Heap → Prop} (hi : i < 7) (hb : h[p]? = some (.box (ctV c))) (hk : K (.tup []) (h.set p (.box (ctV (setF c i))))) : Cf F L (flagF.getD i 0) [.ptr p 0] h K := by
  match i, hi with
  | 0, _ => exact flag0_ok hb hk
  | 1, _ => exact flag1_ok hb hk
  | 2, _ => exact flag2_ok hb hk
  | 3, _ => exact flag3_ok hb hk
  | 4, _ => exact flag4_ok hb hk
  | 5, _ => exact flag5_ok hb hk
  | 6, _ => exact flag6_ok hb hk
theorem num_ok {p j : Nat} (hj : j < 6) : Cf F L (numF.getD j 0) [.ptr p 0] h (fun v h' => v = .ptr p (7 + j) ∧ h' = h) := by
  match j, hj with
  | 0, _ => exact num0_ok
  | 1, _ => exact num1_ok
  | 2, _ => exact num2_ok
  | 3, _ => exact num3_ok
  | 4, _ => exact num4_ok
  | 5, _ => exact num5_ok
theorem put_rule1 {es es' : List (V × V)} {name : Bs} {f : FuncId} {K : V → Heap → Prop} (he : mapsetE .s (.str name) (.agg [.fn f [], .nfn, .int .i64 0, .int .i64 0]) es = some es')
    (hk : K (.tup []) (h ++ [.map es', .box [.map h.length]])) : Cf F L i_control_rules_1 [.str name, .fn f [], .ptr (h.length + 1) 0] (h ++ [.map es, .box [.map h.length]]) K := by
  refine run_control_rules_1 ?_
  simp only [p_control_rules_1]
  simp (maxSteps := 4000000) only [vm, vl, Arg.get, cells, stor, boundO, resultsV, resV, partK, loadV, Vm.part, fillC, splice, reduceIte, reduceCtorEq, Nat.reduceEqDiff, Nat.reduceAdd, Nat.reduceSub, Nat.reduceMul, Nat.reduceLeDiff, ne_eq, not_false_eq_true, Int.reduceEq, Int.reduceLT, Int.reduceLE, Int.reduceNeg, Int.reduceToNat, Int.reduceGT, Int.reduceGE, Nat.reduceLT, Nat.lt_add_one, Nat.zero_lt_succ, Nat.succ_pos, Nat.zero_le, beq_self_eq_true, he]
  exact hk
theorem put_rule2 {es es' : List (V × V)} {name : Bs} {f : FuncId} {m b : Int} {K : V → Heap → Prop} (he : mapsetE .s (.str name) (.agg [.nfn, .fn f [], .int .i64 m, .int .i64 b]) es = some es')
    (hk : K (.tup []) (h ++ [.map es', .box [.map h.length]])) : Cf F L i_control_rules_2 [.str name, .int .i64 m, .int .i64 b, .fn f [], .ptr (h.length + 1) 0] (h ++ [.map es, .box [.map h.length]]) K := by
  refine run_control_rules_2 ?_
  simp only [p_control_rules_2]
  simp (maxSteps := 4000000) only [vm, vl, Arg.get, cells, stor, boundO, resultsV, resV, partK, loadV, Vm.part, fillC, splice, reduceIte, reduceCtorEq, Nat.reduceEqDiff, Nat.reduceAdd, Nat.reduceSub, Nat.reduceMul, Nat.reduceLeDiff, ne_eq, not_false_eq_true, Int.reduceEq, Int.reduceLT, Int.reduceLE, Int.reduceNeg, Int.reduceToNat, Int.reduceGT, Int.reduceGE, Nat.reduceLT, Nat.lt_add_one, Nat.zero_lt_succ, Nat.succ_pos, Nat.zero_le, beq_self_eq_true, he]
  exact hk
theorem rules_ok : Cf F L i_control_rules [] h (fun v h' => v = .map h.length ∧ h' = h ++ [.map ruleE, .box [.map h.length]]) := by
  refine run_control_rules ?_
  simp only [p_control_rules]
  simp (maxSteps := 4000000) only [vm, vl, Arg.get, cells, stor, boundO, resultsV, resV, partK, loadV, Vm.part, fillC, splice, reduceIte, reduceCtorEq, Nat.reduceEqDiff, Nat.reduceAdd, Nat.reduceSub, Nat.reduceMul, Nat.reduceLeDiff, ne_eq, not_false_eq_true, Int.reduceEq, Int.reduceLT, Int.reduceLE, Int.reduceNeg, Int.reduceToNat, Int.reduceGT, Int.reduceGE, Nat.reduceLT, Nat.lt_add_one, Nat.zero_lt_succ, Nat.succ_pos, Nat.zero_le, beq_self_eq_true]
  refine put_rule1 (es' := ruleE.take 1) rfl ?_
  try simp (maxSteps := 4000000) only [vm, vl, Arg.get, cells, stor, boundO, resultsV, resV, partK, loadV, Vm.part, fillC, splice, reduceIte, reduceCtorEq, Nat.reduceEqDiff, Nat.reduceAdd, Nat.reduceSub, Nat.reduceMul, Nat.reduceLeDiff, ne_eq, not_false_eq_true, Int.reduceEq, Int.reduceLT, Int.reduceLE, Int.reduceNeg, Int.reduceToNat, Int.reduceGT, Int.reduceGE, Nat.reduceLT, Nat.lt_add_one, Nat.zero_lt_succ, Nat.succ_pos, Nat.zero_le, beq_self_eq_true]
  refine put_rule1 (es' := ruleE.take 2) rfl ?_
  try simp (maxSteps := 4000000) only [vm, vl, Arg.get, cells, stor, boundO, resultsV, resV, partK, loadV, Vm.part, fillC, splice, reduceIte, reduceCtorEq, Nat.reduceEqDiff, Nat.reduceAdd, Nat.reduceSub, Nat.reduceMul, Nat.reduceLeDiff, ne_eq, not_false_eq_true, Int.reduceEq, Int.reduceLT, Int.reduceLE, Int.reduceNeg, Int.reduceToNat, Int.reduceGT, Int.reduceGE, Nat.reduceLT, Nat.lt_add_one, Nat.zero_lt_succ, Nat.succ_pos, Nat.zero_le, beq_self_eq_true]
  refine put_rule1 (es' := ruleE.take 3) rfl ?_
  try simp (maxSteps := 4000000) only [vm, vl, Arg.get, cells, stor, boundO, resultsV, resV, partK, loadV, Vm.part, fillC, splice, reduceIte, reduceCtorEq, Nat.reduceEqDiff, Nat.reduceAdd, Nat.reduceSub, Nat.reduceMul, Nat.reduceLeDiff, ne_eq, not_false_eq_true, Int.reduceEq, Int.reduceLT, Int.reduceLE, Int.reduceNeg, Int.reduceToNat, Int.reduceGT, Int.reduceGE, Nat.reduceLT, Nat.lt_add_one, Nat.zero_lt_succ, Nat.succ_pos, Nat.zero_le, beq_self_eq_true]
  refine put_rule1 (es' := ruleE.take 4) rfl ?_
  try simp (maxSteps := 4000000) only [vm, vl, Arg.get, cells, stor, boundO, resultsV, resV, partK, loadV, Vm.part, fillC, splice, reduceIte, reduceCtorEq, Nat.reduceEqDiff, Nat.reduceAdd, Nat.reduceSub, Nat.reduceMul, Nat.reduceLeDiff, ne_eq, not_false_eq_true, Int.reduceEq, Int.reduceLT, Int.reduceLE, Int.reduceNeg, Int.reduceToNat, Int.reduceGT, Int.reduceGE, Nat.reduceLT, Nat.lt_add_one, Nat.zero_lt_succ, Nat.succ_pos, Nat.zero_le, beq_self_eq_true]
  refine put_rule1 (es' := ruleE.take 5) rfl ?_
  try simp (maxSteps := 4000000) only [vm, vl, Arg.get, cells, stor, boundO, resultsV, resV, partK, loadV, Vm.part, fillC, splice, reduceIte, reduceCtorEq, Nat.reduceEqDiff, Nat.reduceAdd, Nat.reduceSub, Nat.reduceMul, Nat.reduceLeDiff, ne_eq, not_false_eq_true, Int.reduceEq, Int.reduceLT, Int.reduceLE, Int.reduceNeg, Int.reduceToNat, Int.reduceGT, Int.reduceGE, Nat.reduceLT, Nat.lt_add_one, Nat.zero_lt_succ, Nat.succ_pos, Nat.zero_le, beq_self_eq_true]
  refine put_rule1 (es' := ruleE.take 6) rfl ?_
  try simp (maxSteps := 4000000) only [vm, vl, Arg.get, cells, stor, boundO, resultsV, resV, partK, loadV, Vm.part, fillC, splice, reduceIte, reduceCtorEq, Nat.reduceEqDiff, Nat.reduceAdd, Nat.reduceSub, Nat.reduceMul, Nat.reduceLeDiff, ne_eq, not_false_eq_true, Int.reduceEq, Int.reduceLT, Int.reduceLE, Int.reduceNeg, Int.reduceToNat, Int.reduceGT, Int.reduceGE, Nat.reduceLT, Nat.lt_add_one, Nat.zero_lt_succ, Nat.succ_pos, Nat.zero_le, beq_self_eq_true]
  refine put_rule1 (es' := ruleE.take 7) rfl ?_
  try simp (maxSteps := 4000000) only [vm, vl, Arg.get, cells, stor, boundO, resultsV, resV, partK, loadV, Vm.part, fillC, splice, reduceIte, reduceCtorEq, Nat.reduceEqDiff, Nat.reduceAdd, Nat.reduceSub, Nat.reduceMul, Nat.reduceLeDiff, ne_eq, not_false_eq_true, Int.reduceEq, Int.reduceLT, Int.reduceLE, Int.reduceNeg, Int.reduceToNat, Int.reduceGT, Int.reduceGE, Nat.reduceLT, Nat.lt_add_one, Nat.zero_lt_succ, Nat.succ_pos, Nat.zero_le, beq_self_eq_true]
  refine put_rule2 (es' := ruleE.take 8) rfl ?_
  try simp (maxSteps := 4000000) only [vm, vl, Arg.get, cells, stor, boundO, resultsV, resV, partK, loadV, Vm.part, fillC, splice, reduceIte, reduceCtorEq, Nat.reduceEqDiff, Nat.reduceAdd, Nat.reduceSub, Nat.reduceMul, Nat.reduceLeDiff, ne_eq, not_false_eq_true, Int.reduceEq, Int.reduceLT, Int.reduceLE, Int.reduceNeg, Int.reduceToNat, Int.reduceGT, Int.reduceGE, Nat.reduceLT, Nat.lt_add_one, Nat.zero_lt_succ, Nat.succ_pos, Nat.zero_le, beq_self_eq_true]
  refine put_rule2 (es' := ruleE.take 9) rfl ?_
  try simp (maxSteps := 4000000) only [vm, vl, Arg.get, cells, stor, boundO, resultsV, resV, partK, loadV, Vm.part, fillC, splice, reduceIte, reduceCtorEq, Nat.reduceEqDiff, Nat.reduceAdd, Nat.reduceSub, Nat.reduceMul, Nat.reduceLeDiff, ne_eq, not_false_eq_true, Int.reduceEq, Int.reduceLT, Int.reduceLE, Int.reduceNeg, Int.reduceToNat, Int.reduceGT, Int.reduceGE, Nat.reduceLT, Nat.lt_add_one, Nat.zero_lt_succ, Nat.succ_pos, Nat.zero_le, beq_self_eq_true]
  refine put_rule2 (es' := ruleE.take 10) rfl ?_
  try simp (maxSteps := 4000000) only [vm, vl, Arg.get, cells, stor, boundO, resultsV, resV, partK, loadV, Vm.part, fillC, splice, reduceIte, reduceCtorEq, Nat.reduceEqDiff, Nat.reduceAdd, Nat.reduceSub, Nat.reduceMul, Nat.reduceLeDiff, ne_eq, not_false_eq_true, Int.reduceEq, Int.reduceLT, Int.reduceLE, Int.reduceNeg, Int.reduceToNat, Int.reduceGT, Int.reduceGE, Nat.reduceLT, Nat.lt_add_one, Nat.zero_lt_succ, Nat.succ_pos, Nat.zero_le, beq_self_eq_true]
  refine put_rule2 (es' := ruleE.take 11) rfl ?_
  try simp (maxSteps := 4000000) only [vm, vl, Arg.get, cells, stor, boundO, resultsV, resV, partK, loadV, Vm.part, fillC, splice, reduceIte, reduceCtorEq, Nat.reduceEqDiff, Nat.reduceAdd, Nat.reduceSub, Nat.reduceMul, Nat.reduceLeDiff, ne_eq, not_false_eq_true, Int.reduceEq, Int.reduceLT, Int.reduceLE, Int.reduceNeg, Int.reduceToNat, Int.reduceGT, Int.reduceGE, Nat.reduceLT, Nat.lt_add_one, Nat.zero_lt_succ, Nat.succ_pos, Nat.zero_le, beq_self_eq_true]
  refine put_rule2 (es' := ruleE.take 12) rfl ?_
  try simp (maxSteps := 4000000) only [vm, vl, Arg.get, cells, stor, boundO, resultsV, resV, partK, loadV, Vm.part, fillC, splice, reduceIte, reduceCtorEq, Nat.reduceEqDiff, Nat.reduceAdd, Nat.reduceSub, Nat.reduceMul, Nat.reduceLeDiff, ne_eq, not_false_eq_true, Int.reduceEq, Int.reduceLT, Int.reduceLE, Int.reduceNeg, Int.reduceToNat, Int.reduceGT, Int.reduceGE, Nat.reduceLT, Nat.lt_add_one, Nat.zero_lt_succ, Nat.succ_pos, Nat.zero_le, beq_self_eq_true]
  refine put_rule2 (es' := ruleE.take 13) rfl ?_
  try simp (maxSteps := 4000000) only [vm, vl, Arg.get, cells, stor, boundO, resultsV, resV, partK, loadV, Vm.part, fillC, splice, reduceIte, reduceCtorEq, Nat.reduceEqDiff, Nat.reduceAdd, Nat.reduceSub, Nat.reduceMul, Nat.reduceLeDiff, ne_eq, not_false_eq_true, Int.reduceEq, Int.reduceLT, Int.reduceLE, Int.reduceNeg, Int.reduceToNat, Int.reduceGT, Int.reduceGE, Nat.reduceLT, Nat.lt_add_one, Nat.zero_lt_succ, Nat.succ_pos, Nat.zero_le, beq_self_eq_true]
  rfl
end Go.Proofs.YtaahialaegfjgaaDoor.Vh
end
section
set_option linter.unusedVariables false
set_option linter.unusedSimpArgs false
namespace Go.Proofs.YtaahialaegfjgaaDoor.Vh
open Go.Vm Go.Vt
theorem trimL_len (s : Bs) : (trimL s).length ≤ s.length := (List.dropWhile_sublist _).length_le
theorem trimR_len : ∀ s : Bs, (trimR s).length ≤ s.length
  | [] => by simp [trimR]
  | c :: r => by
    have := trimR_len r
    unfold trimR
    split
    · split
      · simp
      · simp
    · rename_i h
      simp only [List.length_cons]; omega
theorem trim_len (s : Bs) : (trim s).length ≤ s.length := Nat.le_trans (trimL_len _) (trimR_len _)
theorem flush_mem {out : List Bs} {own x : Bs} (h : x ∈ flush out own) : x ∈ out ∨ x.length ≤ own.length := by
  unfold flush at h
  split at h
  · exact .inl h
  · rcases List.mem_append.1 h with h | h
    · exact .inl h
    · right; rw [List.mem_singleton.1 h]; exact trim_len _
theorem splitG_mem : ∀ {n : Nat} {s own : Bs} {q : Bool} {out l : List Bs}, s.length ≤ n → splitG s own q out = some l → ∀ x ∈ l, x ∈ out ∨ x.length ≤ own.length + s.length
  | n, [], own, q, out, l, hn, h, x, hx => by
    have e : splitG [] own q out = if q then none else some (flush out own) := rfl
    rw [e] at h
    split at h
    · cases h
    · injection h with h; subst h
      exact (flush_mem hx).imp_right fun h => by simpa using h
  | 0, c :: r, own, q, out, l, hn, h, x, hx => by simp at hn
  | n + 1, c :: r, own, q, out, l, hn, h, x, hx => by
    simp at hn
    rw [splitG_step] at h
    split at h
    · refine (splitG_mem hn h x hx).imp_right fun this => ?_; simp only [List.length_append, List.length_cons, List.length_nil] at this ⊢; omega
    split at h
    · cases r with
      | nil => cases h
      | cons d r =>
        refine (splitG_mem (n := n) (by simp at hn; omega) h x hx).imp_right fun this => ?_; simp only [List.length_append, List.length_cons, List.length_nil] at this ⊢; omega
    split at h
    · rcases splitG_mem hn h x hx with h1 | h1
      · refine (flush_mem h1).imp_right fun this => ?_; simp only [List.length_cons]; omega
      · right; simp only [List.length_cons, List.length_nil] at h1 ⊢; omega
    · refine (splitG_mem hn h x hx).imp_right fun this => ?_; simp only [List.length_append, List.length_cons, List.length_nil] at this ⊢; omega
theorem split_mem {s : Bs} {l : List Bs} (h : split s = some l) : ∀ x ∈ l, x.length ≤ s.length := by
  intro x hx
  have := splitG_mem (Nat.le_refl _) h x hx
  simpa using this
theorem list_at' {α : Type} {l : List α} {i : Nat} (d : α) (hi : i ≤ l.length) : (¬ (i : Int) < l.length ∧ i = l.length ∧ l.drop i = []) ∨ ((i : Int) < l.length ∧ i < l.length ∧ l.drop i = l.getD i d :: l.drop (i + 1) ∧ l.take (i + 1) = l.take i ++ [l.getD i d]) := by
  rcases Nat.lt_or_eq_of_le hi with h | h
  · right
    have e : l.getD i d = l[i] := by rw [List.getD_eq_getElem?_getD, List.getElem?_eq_getElem h]; rfl
    exact ⟨by omega, h, by rw [e]; exact List.drop_eq_getElem_cons h, by rw [e, List.take_add_one, List.getElem?_eq_getElem h]; rfl⟩
  · exact .inl ⟨by omega, h, by rw [h]; simp⟩
theorem splitG_len : ∀ {n : Nat} {s own : Bs} {q : Bool} {out l : List Bs}, s.length ≤ n → splitG s own q out = some l → l.length ≤ out.length + s.length + 1
  | 0, s, own, q, out, l, hn, h => by
    obtain rfl : s = [] := List.eq_nil_of_length_eq_zero (by omega)
    rw [splitG_none rfl] at h
    split at h
    · cases h
    · injection h with h; subst h
      have := flush_len out own; simp; omega
  | n + 1, [], own, q, out, l, hn, h => splitG_len (n := n) (by simp) h
  | n + 1, c :: r, own, q, out, l, hn, h => by
    simp at hn
    rw [splitG_step] at h
    split at h
    · have := splitG_len hn h; simp; omega
    split at h
    · cases r with
      | nil => cases h
      | cons d r =>
        have := splitG_len (n := n) (by simp at hn; omega) h; simp; omega
    split at h
    · have := splitG_len hn h
      have := flush_len out own; simp; omega
    · have := splitG_len hn h; simp; omega
end Go.Proofs.YtaahialaegfjgaaDoor.Vh
end
section
set_option linter.unusedVariables false
set_option linter.unusedSimpArgs false
namespace Go.Proofs.YtaahialaegfjgaaDoor.Vh
open Go.Vm Go.Vt
attribute [local congr] wi_congr wg_congr wgd_congr wb_congr wl_congr cf_congr
variable {L : FuncId → List V → V → Prop} {h : Heap}
theorem ruleT_spec (nm : Bs) : ruleOf nm = .no ∨ (∃ i, i < 7 ∧ ruleOf nm = .flag i) ∨ ∃ j m b, j < 6 ∧ ruleOf nm = .num j m b := by
  unfold ruleOf ruleT
  simp only [List.lookup]
  repeat' split
  all_goals simp
theorem ctV_len (c : Ct) : (ctV c).length = 13 := rfl
theorem ctV_num {c : Ct} {j : Nat} (hj : j < 6) : (ctV c).getD (7 + j) (.tup []) = .int .i64 (c.n j) := by
  match j, hj with
  | 0, _ => rfl
  | 1, _ => rfl
  | 2, _ => rfl
  | 3, _ => rfl
  | 4, _ => rfl
  | 5, _ => rfl
theorem ctV_put {c : Ct} {j : Nat} {v : Int} (hj : j < 6) : List.take (7 + j) (ctV c) ++ V.int .i64 v :: List.drop (7 + (j + 1)) (ctV c) = ctV (setN c j v) := by
  match j, hj with
  | 0, _ => rfl
  | 1, _ => rfl
  | 2, _ => rfl
  | 3, _ => rfl
  | 4, _ => rfl
  | 5, _ => rfl
theorem unqT_len : ∀ (n : Nat) (s bs : Bs), s.length ≤ n → (unqT s bs).1.length ≤ bs.length + s.length
  | _, [], bs, _ => by rw [unqT_end]; simp
  | 0, c :: r, bs, hn => by simp at hn
  | n + 1, c :: t, bs, hn => by
    simp at hn
    by_cases c34 : c = 34
    · subst c34
      rw [unqT_stop]; simp
    · by_cases c92 : c = 92
      · subst c92
        cases t with
        | nil => rw [unqT_esc0]; simp
        | cons d t =>
          rw [unqT_esc]
          simp at hn
          split
          · have := unqT_len n t (bs ++ [d]) (by omega)
            simp at this ⊢; omega
          · simp
      · rw [unqT_one c34 c92]
        split
        · have := unqT_len n t (bs ++ [c]) hn
          simp at this ⊢; omega
        · simp
theorem unqP_len (s : Bs) : (unqP s).1.length ≤ s.length := by
  unfold unqP
  split
  · have := unqT_len _ (s.drop 1) [] (Nat.le_refl _)
    rw [List.length_drop, List.length_nil] at this
    omega
  · simp
theorem pairS_len1 (s : Bs) : (pairS s).1.length ≤ s.length := by
  unfold pairS
  simp only
  split
  · split
    · split
      · rw [List.length_take]; omega
      · split
        · rw [List.length_take]; omega
        · simp
    · rw [List.length_take]; omega
  · simp
theorem pairS_len2 (s : Bs) : (pairS s).2.1.length ≤ s.length := by
  have h1 : (s.drop (pos 61 s + 1)).length ≤ s.length := by rw [List.length_drop]; omega
  have h2 := unqP_len (s.drop (pos 61 s + 1))
  unfold pairS
  simp only
  split
  · split
    · split
      · exact h1
      · split
        · exact Nat.le_trans h2 h1
        · simp
    · exact h1
  · simp
theorem find_case (nm : Bs) : ∃ r, findE .s (.str nm) ruleE 0 = some r ∧ ((r = none ∧ ruleOf nm = .no) ∨ ∃ i, r = some (i, ruleV (ruleOf nm))) := by
  obtain ⟨r, h1, h2⟩ := find_rule nm ruleT 0
  refine ⟨r, h1, ?_⟩
  unfold ruleOf
  cases hl : ruleT.lookup nm with
  | none => rw [hl] at h2; exact .inl ⟨h2, rfl⟩
  | some a => rw [hl] at h2; exact .inr h2
def ParI (h : Heap) (l : List Bs) (x : V) (n : Nat) (e : Env) (h' : Heap) : Prop :=
  ∃ (i : Nat) (c : Ct) (km : Nat) (R A : O) (t : Heap), n = l.length - i ∧ i ≤ l.length ∧ e 2 = .ptr h.length 0 ∧ e 4 = .ptr (h.length + 2) 0 ∧ e 7 = .map (h.length + (km + 3)) ∧ e 29 = x ∧ e 30 = .int .i64 l.length ∧ e 31 = .int .i64 i ∧
    (∃ cs, R = .box cs ∧ cs.length = 13) ∧ h' = h ++ (R :: A :: .box (ctV c) :: t) ∧ t[km]? = some (.map ruleE) ∧ l.foldl stepC ct0 = (l.drop i).foldl stepC c
theorem Parse_round {l : List Bs} {x : V} (HI : IndexOk L) (HU : UnqOk L) (hx : ListV 1 x (strs l)) (hl : l.length < 100000000) (hb : ∀ s ∈ l, s.length < 100000000) {n : Nat} {e : Env} {h' : Heap} (hI : ParI h l x n e h') :
    b_control_Parse_0 L (Pu h (parseCV (l.foldl stepC ct0, true))) (fun e' h' => ∃ m, m < n ∧ ParI h l x m e' h') e h' := by
  obtain ⟨i, c, km, R, A, t, rfl, hi, e2, e4, e7, e29, e30, e31, ⟨cs, rfl, hcs⟩, rfl, hk, hf⟩ := hI
  simp only [b_control_Parse_0]
  
  rcases list_at' [] hi with ⟨hn, rfl, hd⟩ | ⟨hl1, hl2, hd, _⟩
  · rw [hd] at hf
    have hcs1 : List.drop 13 cs = [] := List.drop_eq_nil_of_le (by omega)
    have hc13 := ctV_len c
    have ht13 : List.take 13 (ctV c) = ctV c := rfl
    simp (maxSteps := 4000000) only [vm, vl, Arg.get, cells, stor, boundO, resultsV, resV, partK, loadV, Vm.part, fillC, splice, reduceIte, reduceCtorEq, Nat.reduceEqDiff, Nat.reduceAdd, Nat.reduceSub, Nat.reduceMul, Nat.reduceLeDiff, ne_eq, not_false_eq_true, Int.reduceEq, Int.reduceLT, Int.reduceLE, Int.reduceNeg, Int.reduceToNat, Int.reduceGT, Int.reduceGE, Nat.reduceLT, Nat.lt_add_one, Nat.zero_lt_succ, Nat.succ_pos, Nat.zero_le, beq_self_eq_true, e2, e4, e30, e31, hn]
    unfold k_control_Parse_1
    simp (maxSteps := 4000000) only [vm, vl, Arg.get, cells, stor, boundO, resultsV, resV, partK, loadV, Vm.part, fillC, splice, reduceIte, reduceCtorEq, Nat.reduceEqDiff, Nat.reduceAdd, Nat.reduceSub, Nat.reduceMul, Nat.reduceLeDiff, ne_eq, not_false_eq_true, Int.reduceEq, Int.reduceLT, Int.reduceLE, Int.reduceNeg, Int.reduceToNat, Int.reduceGT, Int.reduceGE, Nat.reduceLT, Nat.lt_add_one, Nat.zero_lt_succ, Nat.succ_pos, Nat.zero_le, beq_self_eq_true, hcs, hc13, ht13, hcs1, List.append_nil]
    rw [hf]; rfl
  · obtain ⟨o, rfl⟩ : ∃ o, x = .sl 1 o (strs l) := by
      rcases hx with ⟨he, _⟩ | h
      · have := strs_len l
        rw [he] at this
        simp at this
        omega
      · exact h
    have hsl : i < (strs l).length := by rw [strs_len]; exact hl2
    have hi0 : (0 : Int) ≤ (i : Int) := by omega
    have g : (strs l).getD i (.tup []) = .str (l.getD i []) := by
      unfold strs
      rw [List.getD_eq_getElem?_getD, List.getD_eq_getElem?_getD, List.getElem?_map, List.getElem?_eq_getElem hl2]; rfl
    have hyb : (l.getD i []).length < 100000000 := by
      rw [List.getD_eq_getElem?_getD, List.getElem?_eq_getElem hl2]; exact hb _ (List.getElem_mem hl2)
    rw [hd, List.foldl_cons] at hf
    generalize l.getD i [] = y at *
    have w := wrap64 (x := (i : Int) + 1) (by omega) (by omega)
    have hplen : (pairS y).1.length ≤ y.length := pairS_len1 y
    have hplen2 : (pairS y).2.1.length ≤ y.length := pairS_len2 y
    simp (maxSteps := 4000000) only [vm, vl, Arg.get, cells, stor, boundO, resultsV, resV, partK, loadV, Vm.part, fillC, splice, reduceIte, reduceCtorEq, Nat.reduceEqDiff, Nat.reduceAdd, Nat.reduceSub, Nat.reduceMul, Nat.reduceLeDiff, ne_eq, not_false_eq_true, Int.reduceEq, Int.reduceLT, Int.reduceLE, Int.reduceNeg, Int.reduceToNat, Int.reduceGT, Int.reduceGE, Nat.reduceLT, Nat.lt_add_one, Nat.zero_lt_succ, Nat.succ_pos, Nat.zero_le, beq_self_eq_true, e2, e4, e7, e29, e30, e31, hl1]
    unfold k_control_Parse_2
    simp (maxSteps := 4000000) only [vm, vl, Arg.get, cells, stor, boundO, resultsV, resV, partK, loadV, Vm.part, fillC, splice, reduceIte, reduceCtorEq, Nat.reduceEqDiff, Nat.reduceAdd, Nat.reduceSub, Nat.reduceMul, Nat.reduceLeDiff, ne_eq, not_false_eq_true, Int.reduceEq, Int.reduceLT, Int.reduceLE, Int.reduceNeg, Int.reduceToNat, Int.reduceGT, Int.reduceGE, Nat.reduceLT, Nat.lt_add_one, Nat.zero_lt_succ, Nat.succ_pos, Nat.zero_le, beq_self_eq_true, hsl, hi0, g]
    refine Cf.pu (Pair_ok HI HU (by omega)) fun u1 => ?_
    unfold k_control_Parse_6
    simp (maxSteps := 4000000) only [vm, vl, Arg.get, cells, stor, boundO, resultsV, resV, partK, loadV, Vm.part, fillC, splice, reduceIte, reduceCtorEq, Nat.reduceEqDiff, Nat.reduceAdd, Nat.reduceSub, Nat.reduceMul, Nat.reduceLeDiff, ne_eq, not_false_eq_true, Int.reduceEq, Int.reduceLT, Int.reduceLE, Int.reduceNeg, Int.reduceToNat, Int.reduceGT, Int.reduceGE, Nat.reduceLT, Nat.lt_add_one, Nat.zero_lt_succ, Nat.succ_pos, Nat.zero_le, beq_self_eq_true, pairV]
    refine Cf.pu (Lower_ok (by omega)) fun u2 => ?_
    have hmap : (h ++ (O.box cs :: A :: O.box (ctV c) :: (t ++ u1)) ++ u2)[h.length + (km + 3)]? = some (.map ruleE) := by
      refine get_old ?_
      rw [get_new]; exact get_old hk
    obtain ⟨r, hr1, hr2⟩ := find_case (low (pairS y).1)
    simp only [hmap, hr1]
    have main : k_control_Parse_5 L (Pu h (parseCV (List.foldl stepC ct0 l, true)))
        (fun e' h' => ∃ m, m < l.length - i ∧ ParI h l (V.sl 1 o (strs l)) m e' h') (upd e 32 (V.bool true))
        (V.ptr (List.length h + 2) 0) (V.map (List.length h + (km + 3))) (V.int IntKind.i64 ↑i) (V.iptr [V.str y])
        (V.str y)
        (V.tup
          [V.str (pairS y).fst, V.str (pairS y).snd.fst, V.bool (pairS y).snd.snd.fst, V.bool (pairS y).snd.snd.snd])
        (V.str (pairS y).fst) (V.str (pairS y).snd.fst) (V.bool (pairS y).snd.snd.fst) (V.bool (pairS y).snd.snd.snd)
        (V.str (low (pairS y).fst)) (ruleV (ruleOf (low (pairS y).1)))
        (h ++ O.box cs :: A :: O.box (ctV c) :: (t ++ u1) ++ u2) := by
      have hfin : ∀ (c' : Ct) (e' : Env) (t' : Heap), (∃ u, t' = t ++ u) → stepC c y = c' → e' 2 = .ptr h.length 0 → e' 4 = .ptr (h.length + 2) 0 → e' 7 = .map (h.length + (km + 3)) → e' 29 = V.sl 1 o (strs l) → e' 30 = .int .i64 l.length → e' 31 = .int .i64 ((i : Int) + 1) →
          ∃ m, m < l.length - i ∧ ParI h l (V.sl 1 o (strs l)) m e' (h ++ (O.box cs :: A :: O.box (ctV c') :: t')) := by
        rintro c' e' t' ⟨u, rfl⟩ hs f2 f4 f7 f29 f30 f31
        rw [hs] at hf
        exact ⟨l.length - (i + 1), by omega, i + 1, c', km, _, A, t ++ u, rfl, hl2, f2, f4, f7, f29, f30, f31, ⟨cs, rfl, hcs⟩, rfl, get_old hk, hf⟩
      have ha : actS y = match ruleOf (low (pairS y).1) with
        | .no => .nop
        | .flag i => .flag i
        | .num j m b => if valueS (pairS y).2.1 (pairS y).2.2.1 m b = -1 then .nop else .num j (valueS (pairS y).2.1 (pairS y).2.2.1 m b) := rfl
      clear hmap hr1 hr2 hf
      generalize low (pairS y).1 = nm at *
      generalize (pairS y).1 = pn at *
      generalize (pairS y).2.1 = text at *
      generalize (pairS y).2.2.1 = has at *
      generalize (pairS y).2.2.2 = ok at *
      unfold k_control_Parse_5
      rcases ruleT_spec nm with hr | ⟨k, hk7, hr⟩ | ⟨j, m, b, hj, hr⟩
      · rw [hr] at ha ⊢
        have hs : stepC c y = c := by unfold stepC; rw [ha]; rfl
        unfold ruleV
        simp (maxSteps := 4000000) only [vm, vl, Arg.get, cells, stor, boundO, resultsV, resV, partK, loadV, Vm.part, fillC, splice, reduceIte, reduceCtorEq, Nat.reduceEqDiff, Nat.reduceAdd, Nat.reduceSub, Nat.reduceMul, Nat.reduceLeDiff, ne_eq, not_false_eq_true, Int.reduceEq, Int.reduceLT, Int.reduceLE, Int.reduceNeg, Int.reduceToNat, Int.reduceGT, Int.reduceGE, Nat.reduceLT, Nat.lt_add_one, Nat.zero_lt_succ, Nat.succ_pos, Nat.zero_le, beq_self_eq_true, k_control_Parse_3, w]
        exact hfin c _ _ ⟨_, rfl⟩ hs e2 e4 e7 e29 e30 rfl
      · rw [hr] at ha ⊢
        have hs : stepC c y = setF c k := by unfold stepC; rw [ha]; rfl
        unfold ruleV
        simp (maxSteps := 4000000) only [vm, vl, Arg.get, cells, stor, boundO, resultsV, resV, partK, loadV, Vm.part, fillC, splice, reduceIte, reduceCtorEq, Nat.reduceEqDiff, Nat.reduceAdd, Nat.reduceSub, Nat.reduceMul, Nat.reduceLeDiff, ne_eq, not_false_eq_true, Int.reduceEq, Int.reduceLT, Int.reduceLE, Int.reduceNeg, Int.reduceToNat, Int.reduceGT, Int.reduceGE, Nat.reduceLT, Nat.lt_add_one, Nat.zero_lt_succ, Nat.succ_pos, Nat.zero_le, beq_self_eq_true, k_control_Parse_3, w]
        refine flag_ok hk7 (c := c) (by rw [get_new]; rfl) ?_
        simp (maxSteps := 4000000) only [vm, vl, Arg.get, cells, stor, boundO, resultsV, resV, partK, loadV, Vm.part, fillC, splice, reduceIte, reduceCtorEq, Nat.reduceEqDiff, Nat.reduceAdd, Nat.reduceSub, Nat.reduceMul, Nat.reduceLeDiff, ne_eq, not_false_eq_true, Int.reduceEq, Int.reduceLT, Int.reduceLE, Int.reduceNeg, Int.reduceToNat, Int.reduceGT, Int.reduceGE, Nat.reduceLT, Nat.lt_add_one, Nat.zero_lt_succ, Nat.succ_pos, Nat.zero_le, beq_self_eq_true, k_control_Parse_3, w]
        exact hfin (setF c k) _ _ ⟨_, rfl⟩ hs e2 e4 e7 e29 e30 rfl
      · rw [hr] at ha ⊢
        have hc13 := ctV_len c
        have h13 : 7 + (j + 1) ≤ 13 := by omega
        have hnj := ctV_num (c := c) hj
        unfold ruleV
        simp (maxSteps := 4000000) only [vm, vl, Arg.get, cells, stor, boundO, resultsV, resV, partK, loadV, Vm.part, fillC, splice, reduceIte, reduceCtorEq, Nat.reduceEqDiff, Nat.reduceAdd, Nat.reduceSub, Nat.reduceMul, Nat.reduceLeDiff, ne_eq, not_false_eq_true, Int.reduceEq, Int.reduceLT, Int.reduceLE, Int.reduceNeg, Int.reduceToNat, Int.reduceGT, Int.reduceGE, Nat.reduceLT, Nat.lt_add_one, Nat.zero_lt_succ, Nat.succ_pos, Nat.zero_le, beq_self_eq_true, k_control_Parse_3, w]
        refine (num_ok hj).mono fun v h' hv => ?_
        obtain ⟨rfl, rfl⟩ := hv
        simp (maxSteps := 4000000) only [vm, vl, Arg.get, cells, stor, boundO, resultsV, resV, partK, loadV, Vm.part, fillC, splice, reduceIte, reduceCtorEq, Nat.reduceEqDiff, Nat.reduceAdd, Nat.reduceSub, Nat.reduceMul, Nat.reduceLeDiff, ne_eq, not_false_eq_true, Int.reduceEq, Int.reduceLT, Int.reduceLE, Int.reduceNeg, Int.reduceToNat, Int.reduceGT, Int.reduceGE, Nat.reduceLT, Nat.lt_add_one, Nat.zero_lt_succ, Nat.succ_pos, Nat.zero_le, beq_self_eq_true]
        refine Cf.pu (value_ok (by omega)) fun u3 => ?_
        unfold k_control_Parse_4
        have ha' : actS y = if valueS text has m b = -1 then .nop else .num j (valueS text has m b) := ha
        clear ha
        generalize hval : valueS text has m b = vv at *
        by_cases hv : vv = -1
        · have hs : stepC c y = c := by unfold stepC; rw [ha', if_pos hv]; rfl
          simp (maxSteps := 4000000) only [vm, vl, Arg.get, cells, stor, boundO, resultsV, resV, partK, loadV, Vm.part, fillC, splice, reduceIte, reduceCtorEq, Nat.reduceEqDiff, Nat.reduceAdd, Nat.reduceSub, Nat.reduceMul, Nat.reduceLeDiff, ne_eq, not_false_eq_true, Int.reduceEq, Int.reduceLT, Int.reduceLE, Int.reduceNeg, Int.reduceToNat, Int.reduceGT, Int.reduceGE, Nat.reduceLT, Nat.lt_add_one, Nat.zero_lt_succ, Nat.succ_pos, Nat.zero_le, beq_self_eq_true, hv, decide_true, Bool.not_true, k_control_Parse_3, w]
          exact hfin c _ _ ⟨_, rfl⟩ hs e2 e4 e7 e29 e30 rfl
        · rw [if_neg hv] at ha'
          have hs : stepC c y = setN c j (lst (c.n j) vv) := by unfold stepC; rw [ha']; rfl
          have hput := ctV_put (c := c) (j := j) (v := vv) hj
          by_cases h1 : c.n j = -1
          · have hl : lst (c.n j) vv = vv := if_pos (.inl h1)
            rw [hl] at hs
            simp (maxSteps := 4000000) only [vm, vl, Arg.get, cells, stor, boundO, resultsV, resV, partK, loadV, Vm.part, fillC, splice, reduceIte, reduceCtorEq, Nat.reduceEqDiff, Nat.reduceAdd, Nat.reduceSub, Nat.reduceMul, Nat.reduceLeDiff, ne_eq, not_false_eq_true, Int.reduceEq, Int.reduceLT, Int.reduceLE, Int.reduceNeg, Int.reduceToNat, Int.reduceGT, Int.reduceGE, Nat.reduceLT, Nat.lt_add_one, Nat.zero_lt_succ, Nat.succ_pos, Nat.zero_le, beq_self_eq_true, hv, decide_false, Bool.not_false, hc13, h13, hnj, h1, decide_true, hput, k_control_Parse_3, w]
            exact hfin (setN c j vv) _ _ ⟨_, rfl⟩ hs e2 e4 e7 e29 e30 rfl
          · by_cases h2 : vv < c.n j
            · have hl : lst (c.n j) vv = vv := if_pos (.inr h2)
              rw [hl] at hs
              simp (maxSteps := 4000000) only [vm, vl, Arg.get, cells, stor, boundO, resultsV, resV, partK, loadV, Vm.part, fillC, splice, reduceIte, reduceCtorEq, Nat.reduceEqDiff, Nat.reduceAdd, Nat.reduceSub, Nat.reduceMul, Nat.reduceLeDiff, ne_eq, not_false_eq_true, Int.reduceEq, Int.reduceLT, Int.reduceLE, Int.reduceNeg, Int.reduceToNat, Int.reduceGT, Int.reduceGE, Nat.reduceLT, Nat.lt_add_one, Nat.zero_lt_succ, Nat.succ_pos, Nat.zero_le, beq_self_eq_true, hv, decide_false, Bool.not_false, hc13, h13, hnj, h1, h2, decide_true, hput, k_control_Parse_3, w]
              exact hfin (setN c j vv) _ _ ⟨_, rfl⟩ hs e2 e4 e7 e29 e30 rfl
            · have hl : lst (c.n j) vv = c.n j := if_neg (by omega)
              have hss : setN c j (c.n j) = c := by
                unfold setN
                have : (fun k => if k = j then c.n j else c.n k) = c.n := funext fun k => by split <;> simp_all
                rw [this]
              rw [hl, hss] at hs
              simp (maxSteps := 4000000) only [vm, vl, Arg.get, cells, stor, boundO, resultsV, resV, partK, loadV, Vm.part, fillC, splice, reduceIte, reduceCtorEq, Nat.reduceEqDiff, Nat.reduceAdd, Nat.reduceSub, Nat.reduceMul, Nat.reduceLeDiff, ne_eq, not_false_eq_true, Int.reduceEq, Int.reduceLT, Int.reduceLE, Int.reduceNeg, Int.reduceToNat, Int.reduceGT, Int.reduceGE, Nat.reduceLT, Nat.lt_add_one, Nat.zero_lt_succ, Nat.succ_pos, Nat.zero_le, beq_self_eq_true, hv, decide_false, Bool.not_false, hc13, h13, hnj, h1, h2, k_control_Parse_3, w]
              exact hfin c _ _ ⟨_, rfl⟩ hs e2 e4 e7 e29 e30 rfl
    rcases hr2 with ⟨rfl, hr⟩ | ⟨k, rfl⟩
    · rw [hr] at main; exact main
    · exact main
theorem Parse_ok (HI : IndexOk L) (HU : UnqOk L) {s : Bs} (hs : s.length < 1000000) : Cf F L i_control_Parse [.str s] h (Pu h (parseCV (parseC s))) := by
  refine run_control_Parse ?_
  simp only [p_control_Parse]
  
  simp (maxSteps := 4000000) only [vm, vl, Arg.get, cells, stor, boundO, resultsV, resV, partK, loadV, Vm.part, fillC, splice, reduceIte, reduceCtorEq, Nat.reduceEqDiff, Nat.reduceAdd, Nat.reduceSub, Nat.reduceMul, Nat.reduceLeDiff, ne_eq, not_false_eq_true, Int.reduceEq, Int.reduceLT, Int.reduceLE, Int.reduceNeg, Int.reduceToNat, Int.reduceGT, Int.reduceGE, Nat.reduceLT, Nat.lt_add_one, Nat.zero_lt_succ, Nat.succ_pos, Nat.zero_le, beq_self_eq_true]
  refine (nothing_ok).mono fun v h' hv => ?_
  obtain ⟨rfl, rfl⟩ := hv
  have hc13 := ctV_len ct0
  have hd13 : List.drop 13 (ctV ct0) = [] := rfl
  simp (maxSteps := 4000000) only [vm, vl, Arg.get, cells, stor, boundO, resultsV, resV, partK, loadV, Vm.part, fillC, splice, reduceIte, reduceCtorEq, Nat.reduceEqDiff, Nat.reduceAdd, Nat.reduceSub, Nat.reduceMul, Nat.reduceLeDiff, ne_eq, not_false_eq_true, Int.reduceEq, Int.reduceLT, Int.reduceLE, Int.reduceNeg, Int.reduceToNat, Int.reduceGT, Int.reduceGE, Nat.reduceLT, Nat.lt_add_one, Nat.zero_lt_succ, Nat.succ_pos, Nat.zero_le, beq_self_eq_true, hc13]
  refine Cf.pu (Split_ok (by omega)) fun u1 => ?_
  unfold k_control_Parse_7 parseC
  cases hsp : split s with
  | none =>
    simp only [splitV]
    simp (maxSteps := 4000000) only [vm, vl, Arg.get, cells, stor, boundO, resultsV, resV, partK, loadV, Vm.part, fillC, splice, reduceIte, reduceCtorEq, Nat.reduceEqDiff, Nat.reduceAdd, Nat.reduceSub, Nat.reduceMul, Nat.reduceLeDiff, ne_eq, not_false_eq_true, Int.reduceEq, Int.reduceLT, Int.reduceLE, Int.reduceNeg, Int.reduceToNat, Int.reduceGT, Int.reduceGE, Nat.reduceLT, Nat.lt_add_one, Nat.zero_lt_succ, Nat.succ_pos, Nat.zero_le, beq_self_eq_true, ctV, Bool.not_false]
    rfl
  | some l =>
    simp only [splitV]
    simp (maxSteps := 4000000) only [vm, vl, Arg.get, cells, stor, boundO, resultsV, resV, partK, loadV, Vm.part, fillC, splice, reduceIte, reduceCtorEq, Nat.reduceEqDiff, Nat.reduceAdd, Nat.reduceSub, Nat.reduceMul, Nat.reduceLeDiff, ne_eq, not_false_eq_true, Int.reduceEq, Int.reduceLT, Int.reduceLE, Int.reduceNeg, Int.reduceToNat, Int.reduceGT, Int.reduceGE, Nat.reduceLT, Nat.lt_add_one, Nat.zero_lt_succ, Nat.succ_pos, Nat.zero_le, beq_self_eq_true, Bool.not_true]
    unfold k_control_Parse_0
    simp (maxSteps := 4000000) only [vm, vl, Arg.get, cells, stor, boundO, resultsV, resV, partK, loadV, Vm.part, fillC, splice, reduceIte, reduceCtorEq, Nat.reduceEqDiff, Nat.reduceAdd, Nat.reduceSub, Nat.reduceMul, Nat.reduceLeDiff, ne_eq, not_false_eq_true, Int.reduceEq, Int.reduceLT, Int.reduceLE, Int.reduceNeg, Int.reduceToNat, Int.reduceGT, Int.reduceGE, Nat.reduceLT, Nat.lt_add_one, Nat.zero_lt_succ, Nat.succ_pos, Nat.zero_le, beq_self_eq_true]
    refine (rules_ok).mono fun v h' hv => ?_
    obtain ⟨rfl, rfl⟩ := hv
    have hlen : l.length < 100000000 := by
      have := splitG_len (Nat.le_refl _) (show splitG s [] false [] = some l from hsp)
      simp at this; omega
    have hmem := split_mem hsp
    have hx := full_list l
    have hbs : ∀ x ∈ l, x.length < 100000000 := fun x hx => by have := hmem x hx; omega
    have fin : ∀ (e : Env), e 2 = .ptr h.length 0 → e 4 = .ptr (h.length + 2) 0 → e 7 = .map (h.length + (u1.length + 3)) → e 29 = fullV l → e 30 = .int .i64 l.length → e 31 = .int .i64 ((0 : Nat) : Int) →
        Wl F L lc_control_Parse_0 (q_control_Parse_0 L (Pu h (parseCV (List.foldl stepC ct0 l, true)))) e (h ++
        O.box
            [V.bool false, V.bool false, V.bool false, V.bool false, V.bool false, V.bool false, V.bool false,
              V.int IntKind.i64 0, V.int IntKind.i64 0, V.int IntKind.i64 0, V.int IntKind.i64 0, V.int IntKind.i64 0,
              V.int IntKind.i64 0] ::
          O.box (ctV ct0) ::
            O.box (ctV ct0 ++ []) :: (u1 ++ [O.map ruleE, O.box [V.map (List.length h + (List.length u1 + 3))]])) := by
      intro e f2 f4 f7 f29 f30 f31
      rw [List.append_nil]
      exact l_control_Parse_0 (ParI h l (fullV l)) (fun n e h' hI => Parse_round HI HU hx hlen hbs hI) (n := l.length) ⟨0, ct0, u1.length, _, _, _, by simp, by simp, f2, f4, f7, f29, f30, f31, ⟨_, rfl, rfl⟩, rfl, by rw [List.getElem?_append_right (Nat.le_refl _)]; simp, by simp⟩
    rcases hx with ⟨he, e⟩ | ⟨o, e⟩
    · have hl0 : l.length = 0 := by rw [← strs_len, he]; rfl
      rw [hl0] at fin
      rw [e] at fin ⊢
      simp (maxSteps := 4000000) only [vm, vl, Arg.get, cells, stor, boundO, resultsV, resV, partK, loadV, Vm.part, fillC, splice, reduceIte, reduceCtorEq, Nat.reduceEqDiff, Nat.reduceAdd, Nat.reduceSub, Nat.reduceMul, Nat.reduceLeDiff, ne_eq, not_false_eq_true, Int.reduceEq, Int.reduceLT, Int.reduceLE, Int.reduceNeg, Int.reduceToNat, Int.reduceGT, Int.reduceGE, Nat.reduceLT, Nat.lt_add_one, Nat.zero_lt_succ, Nat.succ_pos, Nat.zero_le, beq_self_eq_true]
      exact fin _ rfl rfl rfl rfl rfl rfl
    · rw [e] at fin ⊢
      have hsl := strs_len l
      simp (maxSteps := 4000000) only [vm, vl, Arg.get, cells, stor, boundO, resultsV, resV, partK, loadV, Vm.part, fillC, splice, reduceIte, reduceCtorEq, Nat.reduceEqDiff, Nat.reduceAdd, Nat.reduceSub, Nat.reduceMul, Nat.reduceLeDiff, ne_eq, not_false_eq_true, Int.reduceEq, Int.reduceLT, Int.reduceLE, Int.reduceNeg, Int.reduceToNat, Int.reduceGT, Int.reduceGE, Nat.reduceLT, Nat.lt_add_one, Nat.zero_lt_succ, Nat.succ_pos, Nat.zero_le, beq_self_eq_true, hsl]
      exact fin _ rfl rfl rfl rfl rfl rfl
end Go.Proofs.YtaahialaegfjgaaDoor.Vh
end
section
set_option linter.unusedVariables false
set_option linter.unusedSimpArgs false
namespace Go.Proofs.YtaahialaegfjgaaDoor.Vh
open Go.Vm Go.Vt
attribute [local congr] wi_congr wg_congr wgd_congr wb_congr wl_congr cf_congr
variable {L : FuncId → List V → V → Prop} {h : Heap}
end Go.Proofs.YtaahialaegfjgaaDoor.Vh
end
section
set_option linter.unusedVariables false
set_option linter.unusedSimpArgs false
namespace Go.Proofs.YtaahialaegfjgaaDoor.Vh
open Go.Vm Go.Vt
attribute [local congr] wi_congr wg_congr wgd_congr wb_congr wl_congr cf_congr
variable {L : FuncId → List V → V → Prop} {h : Heap}
end Go.Proofs.YtaahialaegfjgaaDoor.Vh
end
section
set_option linter.unusedVariables false
set_option linter.unusedSimpArgs false
namespace Go.Proofs.YtaahialaegfjgaaDoor.Vh
open Go.Vm Go.Vt
attribute [local congr] wi_congr wg_congr wgd_congr wb_congr wl_congr cf_congr
variable {L : FuncId → List V → V → Prop} {h : Heap}
end Go.Proofs.YtaahialaegfjgaaDoor.Vh
end
section
set_option linter.unusedVariables false
set_option linter.unusedSimpArgs false
namespace Go.Proofs.YtaahialaegfjgaaDoor.Vh
open Go.Vm Go.Vt
attribute [local congr] wi_congr wg_congr wgd_congr wb_congr wl_congr cf_congr
variable {L : FuncId → List V → V → Prop} {h : Heap}
abbrev Fld := Bs × Bs
def fldV (f : Fld) : V := .agg [.str f.1, .str f.2]
def flds (l : List Fld) : List V := l.map fldV
theorem flds_len (l : List Fld) : (flds l).length = l.length := by simp [flds]
theorem flds_at {l : List Fld} {i : Nat} (hi : i < l.length) : (flds l).getD i (.tup []) = fldV (l.getD i ([], [])) := by
  unfold flds
  rw [List.getD_eq_getElem?_getD, List.getD_eq_getElem?_getD, List.getElem?_map, List.getElem?_eq_getElem hi]; rfl
theorem list_at {α : Type} {l : List α} {i : Nat} (d : α) (hi : i ≤ l.length) : (¬ (i : Int) < l.length ∧ i = l.length ∧ l.drop i = []) ∨ ((i : Int) < l.length ∧ i < l.length ∧ l.drop i = l.getD i d :: l.drop (i + 1) ∧ l.take (i + 1) = l.take i ++ [l.getD i d]) := by
  rcases Nat.lt_or_eq_of_le hi with h | h
  · have e : l.getD i d = l[i] := by rw [List.getD_eq_getElem?_getD, List.getElem?_eq_getElem h, Option.getD_some]
    exact .inr ⟨by omega, h, by rw [e]; exact List.drop_eq_getElem_cons h, by rw [e, List.take_add_one, List.getElem?_eq_getElem h]; rfl⟩
  · exact .inl ⟨by omega, h, by rw [h]; simp⟩
/-- Texts with commas between. -/
def joinS (l : List Bs) : Bs := [44, 32].intercalate l
def JoinOk (L : FuncId → List V → V → Prop) : Prop := ∀ {x : V} {l : List Bs} {h : Heap}, ListV 1 x (strs l) → l.length ≤ 1000000000 → (joinS l).length ≤ 140737488355328 → Cf F L i_strings_Join [x, .str [44, 32]] h (Pu h (.str (joinS l)))
def valsOf (l : List Fld) (name : Bs) : List Bs := (l.filter fun f => low f.1 == low name).map (·.2)
def getV (l : List Fld) (name : Bs) : V := .tup [.str (joinS (valsOf l name)), .int .i64 (valsOf l name).length]
theorem vals_len (l : List Fld) (name : Bs) : (valsOf l name).length ≤ l.length := by
  unfold valsOf; rw [List.length_map]; exact List.length_filter_le _ _
theorem Get_ok {x : V} {l : List Fld} {name : Bs} (HJ : JoinOk L) (hx : ListV 2 x (flds l)) (hl : l.length < 1000000000) (hln : ∀ f ∈ l, f.1.length ≤ 140737488355328) (hn : name.length ≤ 140737488355328) (hj : (joinS (valsOf l name)).length ≤ 140737488355328) :
    Cf F L i_field_Get [x, .str name] h (Pu h (getV l name)) := by
  refine run_field_Get ?_
  simp only [p_field_Get]
  have l1 := fun {K : V → Heap → Prop} {h : Heap} => hx.len (F := F) (L := L) (e := E0) (K := K) (h := h)
  simp only [flds_len] at l1
  simp (maxSteps := 4000000) only [vm, vl, Arg.get, cells, stor, boundO, resultsV, resV, partK, loadV, Vm.part, fillC, splice, reduceIte, reduceCtorEq, Nat.reduceEqDiff, Nat.reduceAdd, Nat.reduceSub, Nat.reduceMul, Nat.reduceLeDiff, ne_eq, not_false_eq_true, Int.reduceEq, Int.reduceLT, Int.reduceLE, Int.reduceNeg, Int.reduceToNat, Int.reduceGT, Int.reduceGE, Nat.reduceLT, Nat.lt_add_one, Nat.zero_lt_succ, Nat.succ_pos, Nat.zero_le, beq_self_eq_true, k_field_Get_0, k_field_Get_2, k_field_Get_1, l1]
  refine l_field_Get_0 (fun n e h' => ∃ i, n = l.length - i ∧ i ≤ l.length ∧ e 1 = .str name ∧ e 9 = x ∧ e 10 = .int .i64 l.length ∧ e 11 = .int .i64 i ∧ Grow 1 h h' (e 6) (strs (valsOf (l.take i) name))) ?_ (n := l.length) ⟨0, by simp, by simp, rfl, rfl, rfl, rfl, .nil0⟩
  rintro n e h' ⟨i, rfl, hi, e1, e9, e10, e11, G⟩
  simp only [b_field_Get_0]
  generalize e6 : e 6 = x6 at *
  have vln := vals_len (l.take i) name
  rw [List.length_take] at vln
  rcases list_at ([], []) hi with ⟨hn, rfl, hd⟩ | ⟨hl1, hl2, hd, htk⟩
  · rw [List.take_of_length_le (Nat.le_refl _)] at G
    have vln := vals_len l name
    have g1 := fun {K : V → Heap → Prop} {h : Heap} => G.list.len (F := F) (L := L) (e := E0) (K := K) (h := h)
    simp only [strs_len] at g1
    simp (maxSteps := 4000000) only [vm, vl, Arg.get, cells, stor, boundO, resultsV, resV, partK, loadV, Vm.part, fillC, splice, reduceIte, reduceCtorEq, Nat.reduceEqDiff, Nat.reduceAdd, Nat.reduceSub, Nat.reduceMul, Nat.reduceLeDiff, ne_eq, not_false_eq_true, Int.reduceEq, Int.reduceLT, Int.reduceLE, Int.reduceNeg, Int.reduceToNat, Int.reduceGT, Int.reduceGE, Nat.reduceLT, Nat.lt_add_one, Nat.zero_lt_succ, Nat.succ_pos, Nat.zero_le, beq_self_eq_true, k_field_Get_0, k_field_Get_2, k_field_Get_1, e1, e6, e9, e10, e11, hn]
    refine Cf.pu (HJ G.list (by omega) hj) fun t => ?_
    obtain ⟨t0, rfl⟩ := G.1
    rcases G.list with ⟨he, rfl⟩ | ⟨o, rfl⟩
    · have he' : valsOf l name = [] := by simpa [strs] using he
      simp (maxSteps := 4000000) only [vm, vl, Arg.get, cells, stor, boundO, resultsV, resV, partK, loadV, Vm.part, fillC, splice, reduceIte, reduceCtorEq, Nat.reduceEqDiff, Nat.reduceAdd, Nat.reduceSub, Nat.reduceMul, Nat.reduceLeDiff, ne_eq, not_false_eq_true, Int.reduceEq, Int.reduceLT, Int.reduceLE, Int.reduceNeg, Int.reduceToNat, Int.reduceGT, Int.reduceGE, Nat.reduceLT, Nat.lt_add_one, Nat.zero_lt_succ, Nat.succ_pos, Nat.zero_le, beq_self_eq_true, k_field_Get_0, k_field_Get_2, k_field_Get_1]
      simp [getV, he']
    · simp (maxSteps := 4000000) only [vm, vl, Arg.get, cells, stor, boundO, resultsV, resV, partK, loadV, Vm.part, fillC, splice, reduceIte, reduceCtorEq, Nat.reduceEqDiff, Nat.reduceAdd, Nat.reduceSub, Nat.reduceMul, Nat.reduceLeDiff, ne_eq, not_false_eq_true, Int.reduceEq, Int.reduceLT, Int.reduceLE, Int.reduceNeg, Int.reduceToNat, Int.reduceGT, Int.reduceGE, Nat.reduceLT, Nat.lt_add_one, Nat.zero_lt_succ, Nat.succ_pos, Nat.zero_le, beq_self_eq_true, k_field_Get_0, k_field_Get_2, k_field_Get_1, strs_len]
      simp [getV]
  · have w := wrap64 (x := (i : Int) + 1) (by omega) (by omega)
    have i1 := fun {K : V → Heap → Prop} {h : Heap} => hx.at (F := F) (L := L) (e := E0) (K := K) (h := h) (i := i) (by rw [flds_len]; exact hl2)
    have a1 := flds_at hl2
    have hmem : l.getD i ([], []) ∈ l := by
      rw [List.getD_eq_getElem?_getD, List.getElem?_eq_getElem hl2]; exact List.getElem_mem _
    generalize hf : l.getD i ([], []) = f at *
    obtain ⟨t0, rfl⟩ := G.1
    simp (maxSteps := 4000000) only [vm, vl, Arg.get, cells, stor, boundO, resultsV, resV, partK, loadV, Vm.part, fillC, splice, reduceIte, reduceCtorEq, Nat.reduceEqDiff, Nat.reduceAdd, Nat.reduceSub, Nat.reduceMul, Nat.reduceLeDiff, ne_eq, not_false_eq_true, Int.reduceEq, Int.reduceLT, Int.reduceLE, Int.reduceNeg, Int.reduceToNat, Int.reduceGT, Int.reduceGE, Nat.reduceLT, Nat.lt_add_one, Nat.zero_lt_succ, Nat.succ_pos, Nat.zero_le, beq_self_eq_true, k_field_Get_0, k_field_Get_2, k_field_Get_1, e1, e6, e9, e10, e11, hl1, i1, a1, fldV]
    refine Cf.pu (Same_ok (hln f hmem) hn) fun t1 => ?_
    have hb : (h ++ (t0 ++ O.box [.str f.1, .str f.2] :: t1))[h.length + t0.length]? = some (.box [.str f.1, .str f.2]) := by
      rw [← List.append_assoc, List.getElem?_append_right (by simp)]; simp
    have G2 := G.more (t := [O.box [.str f.1, .str f.2]] ++ t1)
    cases hp : (low f.1 == low name) with
    | false =>
      simp (maxSteps := 4000000) only [vm, vl, Arg.get, cells, stor, boundO, resultsV, resV, partK, loadV, Vm.part, fillC, splice, reduceIte, reduceCtorEq, Nat.reduceEqDiff, Nat.reduceAdd, Nat.reduceSub, Nat.reduceMul, Nat.reduceLeDiff, ne_eq, not_false_eq_true, Int.reduceEq, Int.reduceLT, Int.reduceLE, Int.reduceNeg, Int.reduceToNat, Int.reduceGT, Int.reduceGE, Nat.reduceLT, Nat.lt_add_one, Nat.zero_lt_succ, Nat.succ_pos, Nat.zero_le, beq_self_eq_true, k_field_Get_0, k_field_Get_2, k_field_Get_1, w]
      refine ⟨l.length - (i + 1), by omega, i + 1, rfl, hl2, rfl, ?_⟩
      have : valsOf (l.take (i + 1)) name = valsOf (l.take i) name := by simp [valsOf, htk, hp]
      rw [this]
      simpa using G2
    | true =>
      obtain ⟨x', h'', ha, G3⟩ := G2.app (bytes := 16) (y := .str f.2) (by rw [strs_len]; omega)
      rw [strs_app] at G3
      simp only [List.append_assoc, List.cons_append, List.nil_append] at ha
      simp (maxSteps := 4000000) only [vm, vl, Arg.get, cells, stor, boundO, resultsV, resV, partK, loadV, Vm.part, fillC, splice, reduceIte, reduceCtorEq, Nat.reduceEqDiff, Nat.reduceAdd, Nat.reduceSub, Nat.reduceMul, Nat.reduceLeDiff, ne_eq, not_false_eq_true, Int.reduceEq, Int.reduceLT, Int.reduceLE, Int.reduceNeg, Int.reduceToNat, Int.reduceGT, Int.reduceGE, Nat.reduceLT, Nat.lt_add_one, Nat.zero_lt_succ, Nat.succ_pos, Nat.zero_le, beq_self_eq_true, k_field_Get_0, k_field_Get_2, k_field_Get_1, w, hb, ha]
      refine ⟨l.length - (i + 1), by omega, i + 1, rfl, hl2, rfl, ?_⟩
      have : valsOf (l.take (i + 1)) name = valsOf (l.take i) name ++ [f.2] := by simp [valsOf, htk, hp]
      rw [this]
      exact G3
end Go.Proofs.YtaahialaegfjgaaDoor.Vh
end
section
set_option linter.unusedVariables false
set_option linter.unusedSimpArgs false
namespace Go.Proofs.YtaahialaegfjgaaDoor.Vh
open Go.Vm Go.Vt
attribute [local congr] wi_congr wg_congr wgd_congr wb_congr wl_congr cf_congr
variable {L : FuncId → List V → V → Prop} {h : Heap}
def sumF (l : List Fld) : Nat := (l.map fun f => f.1.length + f.2.length).sum
theorem sumF_take {l : List Fld} {i : Nat} (hi : i < l.length) : sumF (l.take (i + 1)) = sumF (l.take i) + ((l.getD i ([], [])).1.length + (l.getD i ([], [])).2.length) := by
  have e : l.getD i ([], []) = l[i] := by rw [List.getD_eq_getElem?_getD, List.getElem?_eq_getElem hi, Option.getD_some]
  unfold sumF
  rw [List.take_add_one, List.getElem?_eq_getElem hi, e]
  simp only [List.map_append, List.sum_append, Option.toList_some, List.map_cons, List.map_nil, List.sum_cons, List.sum_nil, Nat.add_zero]
theorem sumF_le (l : List Fld) (i : Nat) : sumF (l.take i) ≤ sumF l := by
  conv => rhs; rw [← List.take_append_drop i l]
  unfold sumF
  rw [List.map_append, List.sum_append]
  omega
/-- A list of fields as a parameter. -/
theorem fields_par {x : V} (v : VPar [.sl [.s, .s]] x) : ∃ l, ListV 2 x (flds l) ∧ l.length ≤ 140737488351232 ∧ ∀ f ∈ l, f.1.length ≤ 140737488351232 ∧ f.2.length ≤ 140737488351232 := by
  rcases v with rfl | ⟨es, rfl, hl, he⟩
  · exact ⟨[], .inl ⟨rfl, rfl⟩, by simp, by simp⟩
  · have : ∃ l, flds l = es ∧ ∀ f ∈ l, f.1.length ≤ 140737488351232 ∧ f.2.length ≤ 140737488351232 := by
      clear hl
      induction es with
      | nil => exact ⟨[], rfl, by simp⟩
      | cons e r ih =>
        obtain ⟨l, h1, h2⟩ := ih fun x hx => he x (by simp [hx])
        obtain ⟨a1, _, a3⟩ := he e (by simp)
        have a3 := a3 (by simp)
        generalize cells e = cs at a1 a3
        subst a3
        match cs, a1 with
        | [x, y], ⟨⟨s, e1, b1⟩, ⟨t, e2, b2⟩, _⟩ =>
          subst e1; subst e2
          refine ⟨(s, t) :: l, by rw [← h1]; rfl, ?_⟩
          intro f hf
          rcases List.mem_cons.1 hf with rfl | hf
          · exact ⟨b1, b2⟩
          · exact h2 f hf
    obtain ⟨l, rfl, h2⟩ := this
    exact ⟨l, .inr ⟨_, rfl⟩, by rwa [flds_len] at hl, h2⟩
theorem vals_app (l m : List Fld) (name : Bs) : valsOf (l ++ m) name = valsOf l name ++ valsOf m name := by simp [valsOf]
theorem vals_one_same {name other v : Bs} (h : low name = low other) : valsOf [(name, v)] other = [v] := by simp [valsOf, h]
theorem join_len : ∀ l : List Bs, (joinS l).length ≤ (l.map List.length).sum + 2 * l.length
  | [] => by simp [joinS]
  | [a] => by simp [joinS]
  | a :: b :: r => by
    have := join_len (b :: r)
    have e : joinS (a :: b :: r) = a ++ ([44, 32] ++ joinS (b :: r)) := by simp [joinS, List.intercalate]
    rw [e]
    simp only [List.length_append, List.length_cons, List.length_nil, List.map_cons, List.sum_cons] at this ⊢
    omega
theorem vals_sum (l : List Fld) (name : Bs) : ((valsOf l name).map List.length).sum ≤ sumF l := by
  induction l with
  | nil => simp [valsOf, sumF]
  | cons f r ih =>
    unfold valsOf sumF at *
    rw [List.filter_cons]
    split <;> simp only [List.map_cons, List.sum_cons] at * <;> omega
theorem vals_join (l : List Fld) (name : Bs) : (joinS (valsOf l name)).length ≤ sumF l + 2 * l.length := by
  have h1 := join_len (valsOf l name)
  have h2 := vals_sum l name
  have h3 := vals_len l name
  omega
end Go.Proofs.YtaahialaegfjgaaDoor.Vh
end
section
set_option linter.unusedVariables false
set_option linter.unusedSimpArgs false
namespace Go.Proofs.YtaahialaegfjgaaDoor.Vh
open Go.Vm Go.Vt
attribute [local congr] wi_congr wg_congr wgd_congr wb_congr wl_congr cf_congr
variable {L : FuncId → List V → V → Prop} {h : Heap}
theorem getD_mem {α : Type} {l : List α} {i : Nat} {d : α} (hi : i < l.length) : l.getD i d ∈ l := by
  rw [List.getD_eq_getElem?_getD, List.getElem?_eq_getElem hi]; exact List.getElem_mem _
/-- What Names come to. -/
theorem joinS_snoc (l : List Bs) (v : Bs) : joinS (l ++ [v]) = if l = [] then v else joinS l ++ [44, 32] ++ v := by
  induction l with
  | nil => simp [joinS]
  | cons a r ih =>
    cases r with
    | nil => simp [joinS, List.intercalate]
    | cons b r' =>
      have e : ∀ (m : List Bs), m ≠ [] → joinS (a :: m) = a ++ ([44, 32] ++ joinS m) := by
        intro m hm
        cases m with
        | nil => exact absurd rfl hm
        | cons x y => simp [joinS, List.intercalate]
      rw [List.cons_append, e _ (by simp), ih, e _ (by simp)]
      simp
end Go.Proofs.YtaahialaegfjgaaDoor.Vh
end
section
set_option linter.unusedVariables false
set_option linter.unusedSimpArgs false
namespace Go.Proofs.YtaahialaegfjgaaDoor.Vh
open Go.Vm Go.Vt
attribute [local congr] wi_congr wg_congr wgd_congr wb_congr wl_congr cf_congr
variable {L : FuncId → List V → V → Prop} {h : Heap}
def nCC : Bs := [67, 97, 99, 104, 101, 45, 67, 111, 110, 116, 114, 111, 108]
def nPr : Bs := [80, 114, 97, 103, 109, 97]
def nNC : Bs := [110, 111, 45, 99, 97, 99, 104, 101]
def setB (c : Ct) (i : Nat) (b : Bool) : Ct := ⟨fun k => if k = i then b else c.f k, c.n⟩
def pragB (s : Bs) : Bool := match split (low s) with
  | none => false
  | some l => l.contains nNC
def ofC (l : List Fld) : Ct := if 0 < (valsOf l nCC).length then (parseC (joinS (valsOf l nCC))).1 else setB ct0 1 (pragB (joinS (valsOf l nPr)))
theorem sIndex_ok {x : V} {l : List Bs} {y : Bs} (hx : ListV 1 x (strs l)) (hl : l.length < 9223372036854775807) :
    Cf F L i_slices_Index___string_string_ [x, .str y] h (fun v h' => (∃ t, h' = h ++ t) ∧ ∃ n : Int, v = .int .i64 n ∧ (decide (n ≥ 0) = l.contains y)) := by
  refine run_slices_Index___string_string_ ?_
  simp only [p_slices_Index___string_string_]
  have l1 := fun {K : V → Heap → Prop} {h : Heap} => hx.len (F := F) (L := L) (e := E0) (K := K) (h := h)
  simp only [strs_len] at l1
  simp (maxSteps := 4000000) only [vm, vl, Arg.get, cells, stor, boundO, resultsV, resV, partK, loadV, Vm.part, fillC, splice, reduceIte, reduceCtorEq, Nat.reduceEqDiff, Nat.reduceAdd, Nat.reduceSub, Nat.reduceMul, Nat.reduceLeDiff, ne_eq, not_false_eq_true, Int.reduceEq, Int.reduceLT, Int.reduceLE, Int.reduceNeg, Int.reduceToNat, Int.reduceGT, Int.reduceGE, Nat.reduceLT, Nat.lt_add_one, Nat.zero_lt_succ, Nat.succ_pos, Nat.zero_le, beq_self_eq_true, k_slices_Index___string_string__0, k_slices_Index___string_string__2, k_slices_Index___string_string__1, l1]
  refine l_slices_Index___string_string__0 (fun n e h' => ∃ i : Nat, n = l.length - i ∧ i ≤ l.length ∧ e 0 = x ∧ e 1 = .str y ∧ e 7 = .int .i64 l.length ∧ e 8 = .int .i64 i ∧ h' = h ∧ l.contains y = (l.drop i).contains y) ?_ (n := l.length) ⟨0, by simp, by simp, rfl, rfl, rfl, rfl, rfl, rfl⟩
  rintro n e h' ⟨i, rfl, hi, e0, e1, e7, e8, rfl, hc⟩
  simp only [b_slices_Index___string_string__0]
  rcases list_at' [] hi with ⟨hn, rfl, hd⟩ | ⟨hl1, hl2, hd, _⟩
  · rw [hd] at hc
    simp (maxSteps := 4000000) only [vm, vl, Arg.get, cells, stor, boundO, resultsV, resV, partK, loadV, Vm.part, fillC, splice, reduceIte, reduceCtorEq, Nat.reduceEqDiff, Nat.reduceAdd, Nat.reduceSub, Nat.reduceMul, Nat.reduceLeDiff, ne_eq, not_false_eq_true, Int.reduceEq, Int.reduceLT, Int.reduceLE, Int.reduceNeg, Int.reduceToNat, Int.reduceGT, Int.reduceGE, Nat.reduceLT, Nat.lt_add_one, Nat.zero_lt_succ, Nat.succ_pos, Nat.zero_le, beq_self_eq_true, k_slices_Index___string_string__0, k_slices_Index___string_string__2, k_slices_Index___string_string__1, e7, e8, hn]
    exact ⟨⟨[], by simp⟩, -1, rfl, by rw [hc]; rfl⟩
  · obtain ⟨o, rfl⟩ : ∃ o, x = .sl 1 o (strs l) := by
      rcases hx with ⟨he, _⟩ | h
      · have := strs_len l
        rw [he] at this
        simp at this
        omega
      · exact h
    have hsl : i < (strs l).length := by rw [strs_len]; exact hl2
    have hi0 : (0 : Int) ≤ (i : Int) := by omega
    have g : (strs l).getD i (.tup []) = .str (l.getD i []) := by
      unfold strs
      rw [List.getD_eq_getElem?_getD, List.getD_eq_getElem?_getD, List.getElem?_map, List.getElem?_eq_getElem hl2]; rfl
    have w := wrap64 (x := (i : Int) + 1) (by omega) (by omega)
    rw [hd, List.contains_cons] at hc
    generalize l.getD i [] = z at *
    cases hz : (y == z) with
    | true =>
      rw [hz, Bool.true_or] at hc
      simp (maxSteps := 4000000) only [vm, vl, Arg.get, cells, stor, boundO, resultsV, resV, partK, loadV, Vm.part, fillC, splice, reduceIte, reduceCtorEq, Nat.reduceEqDiff, Nat.reduceAdd, Nat.reduceSub, Nat.reduceMul, Nat.reduceLeDiff, ne_eq, not_false_eq_true, Int.reduceEq, Int.reduceLT, Int.reduceLE, Int.reduceNeg, Int.reduceToNat, Int.reduceGT, Int.reduceGE, Nat.reduceLT, Nat.lt_add_one, Nat.zero_lt_succ, Nat.succ_pos, Nat.zero_le, beq_self_eq_true, k_slices_Index___string_string__0, k_slices_Index___string_string__2, k_slices_Index___string_string__1, e0, e1, e7, e8, hl1, hsl, hi0, g, hz]
      exact ⟨⟨[], by simp⟩, i, rfl, by rw [hc]; simp⟩
    | false =>
      rw [hz, Bool.false_or] at hc
      simp (maxSteps := 4000000) only [vm, vl, Arg.get, cells, stor, boundO, resultsV, resV, partK, loadV, Vm.part, fillC, splice, reduceIte, reduceCtorEq, Nat.reduceEqDiff, Nat.reduceAdd, Nat.reduceSub, Nat.reduceMul, Nat.reduceLeDiff, ne_eq, not_false_eq_true, Int.reduceEq, Int.reduceLT, Int.reduceLE, Int.reduceNeg, Int.reduceToNat, Int.reduceGT, Int.reduceGE, Nat.reduceLT, Nat.lt_add_one, Nat.zero_lt_succ, Nat.succ_pos, Nat.zero_le, beq_self_eq_true, k_slices_Index___string_string__0, k_slices_Index___string_string__2, k_slices_Index___string_string__1, e0, e1, e7, e8, hl1, hsl, hi0, g, hz, w]
      exact ⟨l.length - (i + 1), by omega, i + 1, rfl, hl2, rfl, hc⟩
theorem sContains_ok {x : V} {l : List Bs} {y : Bs} (hx : ListV 1 x (strs l)) (hl : l.length < 9223372036854775807) : Cf F L i_slices_Contains___string_string_ [x, .str y] h (Pu h (.bool (l.contains y))) := by
  refine run_slices_Contains___string_string_ ?_
  simp only [p_slices_Contains___string_string_]
  simp (maxSteps := 4000000) only [vm, vl, Arg.get, cells, stor, boundO, resultsV, resV, partK, loadV, Vm.part, fillC, splice, reduceIte, reduceCtorEq, Nat.reduceEqDiff, Nat.reduceAdd, Nat.reduceSub, Nat.reduceMul, Nat.reduceLeDiff, ne_eq, not_false_eq_true, Int.reduceEq, Int.reduceLT, Int.reduceLE, Int.reduceNeg, Int.reduceToNat, Int.reduceGT, Int.reduceGE, Nat.reduceLT, Nat.lt_add_one, Nat.zero_lt_succ, Nat.succ_pos, Nat.zero_le, beq_self_eq_true]
  refine (sIndex_ok hx hl).mono fun v h' hv => ?_
  obtain ⟨⟨t, rfl⟩, n, rfl, hn⟩ := hv
  simp (maxSteps := 4000000) only [vm, vl, Arg.get, cells, stor, boundO, resultsV, resV, partK, loadV, Vm.part, fillC, splice, reduceIte, reduceCtorEq, Nat.reduceEqDiff, Nat.reduceAdd, Nat.reduceSub, Nat.reduceMul, Nat.reduceLeDiff, ne_eq, not_false_eq_true, Int.reduceEq, Int.reduceLT, Int.reduceLE, Int.reduceNeg, Int.reduceToNat, Int.reduceGT, Int.reduceGE, Nat.reduceLT, Nat.lt_add_one, Nat.zero_lt_succ, Nat.succ_pos, Nat.zero_le, beq_self_eq_true]
  exact hn
theorem split_small {s : Bs} {l : List Bs} (h : split s = some l) : l.length ≤ s.length + 1 := by
  have := splitG_len (Nat.le_refl _) (show splitG s [] false [] = some l from h)
  simpa using this
theorem Of_ok (HJ : JoinOk L) (HI : IndexOk L) (HU : UnqOk L) {x : V} {l : List Fld} (hx : ListV 2 x (flds l)) (hl : l.length < 100000) (hln : ∀ f ∈ l, f.1.length ≤ 140737488355328) (hsm : sumF l < 100000) :
    Cf F L i_control_Of [x] h (Pu h (.agg (ctV (ofC l)))) := by
  refine run_control_Of ?_
  simp only [p_control_Of]
  
  simp (maxSteps := 4000000) only [vm, vl, Arg.get, cells, stor, boundO, resultsV, resV, partK, loadV, Vm.part, fillC, splice, reduceIte, reduceCtorEq, Nat.reduceEqDiff, Nat.reduceAdd, Nat.reduceSub, Nat.reduceMul, Nat.reduceLeDiff, ne_eq, not_false_eq_true, Int.reduceEq, Int.reduceLT, Int.reduceLE, Int.reduceNeg, Int.reduceToNat, Int.reduceGT, Int.reduceGE, Nat.reduceLT, Nat.lt_add_one, Nat.zero_lt_succ, Nat.succ_pos, Nat.zero_le, beq_self_eq_true]
  have j1 := vals_join l nCC
  have j2 := vals_join l nPr
  refine Cf.pu (Get_ok HJ (name := nCC) hx (by omega) hln (by decide) (by omega)) fun u1 => ?_
  have c1 := vals_len l nCC
  unfold ofC
  by_cases h0 : 0 < (valsOf l nCC).length
  · have h0' : ((valsOf l nCC).length : Int) > 0 := by omega
    rw [if_pos h0]
    simp (maxSteps := 4000000) only [vm, vl, Arg.get, cells, stor, boundO, resultsV, resV, partK, loadV, Vm.part, fillC, splice, reduceIte, reduceCtorEq, Nat.reduceEqDiff, Nat.reduceAdd, Nat.reduceSub, Nat.reduceMul, Nat.reduceLeDiff, ne_eq, not_false_eq_true, Int.reduceEq, Int.reduceLT, Int.reduceLE, Int.reduceNeg, Int.reduceToNat, Int.reduceGT, Int.reduceGE, Nat.reduceLT, Nat.lt_add_one, Nat.zero_lt_succ, Nat.succ_pos, Nat.zero_le, beq_self_eq_true, getV, h0', decide_true]
    refine Cf.pu (Parse_ok HI HU (by omega)) fun u2 => ?_
    have hc13 := ctV_len (parseC (joinS (valsOf l nCC))).1
    have ht13 : List.take 13 (ctV (parseC (joinS (valsOf l nCC))).1) = ctV (parseC (joinS (valsOf l nCC))).1 := rfl
    unfold k_control_Of_3
    simp (maxSteps := 4000000) only [vm, vl, Arg.get, cells, stor, boundO, resultsV, resV, partK, loadV, Vm.part, fillC, splice, reduceIte, reduceCtorEq, Nat.reduceEqDiff, Nat.reduceAdd, Nat.reduceSub, Nat.reduceMul, Nat.reduceLeDiff, ne_eq, not_false_eq_true, Int.reduceEq, Int.reduceLT, Int.reduceLE, Int.reduceNeg, Int.reduceToNat, Int.reduceGT, Int.reduceGE, Nat.reduceLT, Nat.lt_add_one, Nat.zero_lt_succ, Nat.succ_pos, Nat.zero_le, beq_self_eq_true, parseCV, hc13, ht13, List.append_nil]
  · have h0' : ¬ ((valsOf l nCC).length : Int) > 0 := by omega
    rw [if_neg h0]
    simp (maxSteps := 4000000) only [vm, vl, Arg.get, cells, stor, boundO, resultsV, resV, partK, loadV, Vm.part, fillC, splice, reduceIte, reduceCtorEq, Nat.reduceEqDiff, Nat.reduceAdd, Nat.reduceSub, Nat.reduceMul, Nat.reduceLeDiff, ne_eq, not_false_eq_true, Int.reduceEq, Int.reduceLT, Int.reduceLE, Int.reduceNeg, Int.reduceToNat, Int.reduceGT, Int.reduceGE, Nat.reduceLT, Nat.lt_add_one, Nat.zero_lt_succ, Nat.succ_pos, Nat.zero_le, beq_self_eq_true, getV, h0', decide_false]
    unfold k_control_Of_0
    simp (maxSteps := 4000000) only [vm, vl, Arg.get, cells, stor, boundO, resultsV, resV, partK, loadV, Vm.part, fillC, splice, reduceIte, reduceCtorEq, Nat.reduceEqDiff, Nat.reduceAdd, Nat.reduceSub, Nat.reduceMul, Nat.reduceLeDiff, ne_eq, not_false_eq_true, Int.reduceEq, Int.reduceLT, Int.reduceLE, Int.reduceNeg, Int.reduceToNat, Int.reduceGT, Int.reduceGE, Nat.reduceLT, Nat.lt_add_one, Nat.zero_lt_succ, Nat.succ_pos, Nat.zero_le, beq_self_eq_true]
    refine (nothing_ok).mono fun v h' hv => ?_
    obtain ⟨rfl, rfl⟩ := hv
    unfold k_control_Of_2
    have hc13 := ctV_len ct0
    have hd13 : List.drop 13 (ctV ct0) = [] := rfl
    simp (maxSteps := 4000000) only [vm, vl, Arg.get, cells, stor, boundO, resultsV, resV, partK, loadV, Vm.part, fillC, splice, reduceIte, reduceCtorEq, Nat.reduceEqDiff, Nat.reduceAdd, Nat.reduceSub, Nat.reduceMul, Nat.reduceLeDiff, ne_eq, not_false_eq_true, Int.reduceEq, Int.reduceLT, Int.reduceLE, Int.reduceNeg, Int.reduceToNat, Int.reduceGT, Int.reduceGE, Nat.reduceLT, Nat.lt_add_one, Nat.zero_lt_succ, Nat.succ_pos, Nat.zero_le, beq_self_eq_true, hc13]
    refine Cf.pu (Get_ok HJ (name := nPr) hx (by omega) hln (by decide) (by omega)) fun u3 => ?_
    simp (maxSteps := 4000000) only [vm, vl, Arg.get, cells, stor, boundO, resultsV, resV, partK, loadV, Vm.part, fillC, splice, reduceIte, reduceCtorEq, Nat.reduceEqDiff, Nat.reduceAdd, Nat.reduceSub, Nat.reduceMul, Nat.reduceLeDiff, ne_eq, not_false_eq_true, Int.reduceEq, Int.reduceLT, Int.reduceLE, Int.reduceNeg, Int.reduceToNat, Int.reduceGT, Int.reduceGE, Nat.reduceLT, Nat.lt_add_one, Nat.zero_lt_succ, Nat.succ_pos, Nat.zero_le, beq_self_eq_true, getV]
    refine Cf.pu (Lower_ok (by omega)) fun u4 => ?_
    have hll : (low (joinS (valsOf l nPr))).length < 8000000000 := by rw [low_length]; omega
    have hpr : pragB (joinS (valsOf l nPr)) = match split (low (joinS (valsOf l nPr))) with
      | none => false
      | some l => l.contains nNC := rfl
    rw [hpr]
    simp (maxSteps := 4000000) only [vm, vl, Arg.get, cells, stor, boundO, resultsV, resV, partK, loadV, Vm.part, fillC, splice, reduceIte, reduceCtorEq, Nat.reduceEqDiff, Nat.reduceAdd, Nat.reduceSub, Nat.reduceMul, Nat.reduceLeDiff, ne_eq, not_false_eq_true, Int.reduceEq, Int.reduceLT, Int.reduceLE, Int.reduceNeg, Int.reduceToNat, Int.reduceGT, Int.reduceGE, Nat.reduceLT, Nat.lt_add_one, Nat.zero_lt_succ, Nat.succ_pos, Nat.zero_le, beq_self_eq_true]
    refine Cf.pu (Split_ok hll) fun u5 => ?_
    unfold k_control_Of_1
    cases hsp : split (low (joinS (valsOf l nPr))) with
    | none =>
      simp only [splitV]
      simp (maxSteps := 4000000) only [vm, vl, Arg.get, cells, stor, boundO, resultsV, resV, partK, loadV, Vm.part, fillC, splice, reduceIte, reduceCtorEq, Nat.reduceEqDiff, Nat.reduceAdd, Nat.reduceSub, Nat.reduceMul, Nat.reduceLeDiff, ne_eq, not_false_eq_true, Int.reduceEq, Int.reduceLT, Int.reduceLE, Int.reduceNeg, Int.reduceToNat, Int.reduceGT, Int.reduceGE, Nat.reduceLT, Nat.lt_add_one, Nat.zero_lt_succ, Nat.succ_pos, Nat.zero_le, beq_self_eq_true, ctV]
      rfl
    | some ws =>
      simp only [splitV]
      have := split_small hsp
      simp (maxSteps := 4000000) only [vm, vl, Arg.get, cells, stor, boundO, resultsV, resV, partK, loadV, Vm.part, fillC, splice, reduceIte, reduceCtorEq, Nat.reduceEqDiff, Nat.reduceAdd, Nat.reduceSub, Nat.reduceMul, Nat.reduceLeDiff, ne_eq, not_false_eq_true, Int.reduceEq, Int.reduceLT, Int.reduceLE, Int.reduceNeg, Int.reduceToNat, Int.reduceGT, Int.reduceGE, Nat.reduceLT, Nat.lt_add_one, Nat.zero_lt_succ, Nat.succ_pos, Nat.zero_le, beq_self_eq_true]
      refine Cf.pu (sContains_ok (full_list ws) (by omega)) fun u6 => ?_
      rw [show nNC = ([110, 111, 45, 99, 97, 99, 104, 101] : Bs) from rfl]
      generalize ws.contains [110, 111, 45, 99, 97, 99, 104, 101] = bb
      simp (maxSteps := 4000000) only [vm, vl, Arg.get, cells, stor, boundO, resultsV, resV, partK, loadV, Vm.part, fillC, splice, reduceIte, reduceCtorEq, Nat.reduceEqDiff, Nat.reduceAdd, Nat.reduceSub, Nat.reduceMul, Nat.reduceLeDiff, ne_eq, not_false_eq_true, Int.reduceEq, Int.reduceLT, Int.reduceLE, Int.reduceNeg, Int.reduceToNat, Int.reduceGT, Int.reduceGE, Nat.reduceLT, Nat.lt_add_one, Nat.zero_lt_succ, Nat.succ_pos, Nat.zero_le, beq_self_eq_true, ctV]
      rfl
end Go.Proofs.YtaahialaegfjgaaDoor.Vh
end
section
set_option linter.unusedVariables false
set_option linter.unusedSimpArgs false
namespace Go.Proofs.YtaahialaegfjgaaDoor.Vh
open Go.Vm Go.Vt
attribute [local congr] wi_congr wg_congr wgd_congr wb_congr wl_congr cf_congr
variable {L : FuncId → List V → V → Prop} {h : Heap}
end Go.Proofs.YtaahialaegfjgaaDoor.Vh
end
section
set_option linter.unusedVariables false
set_option linter.unusedSimpArgs false
namespace Go.Proofs.YtaahialaegfjgaaDoor.Vh
open Go.Vm Go.Vt
attribute [local congr] wi_congr wg_congr wgd_congr wb_congr wl_congr cf_congr
variable {L : FuncId → List V → V → Prop} {h : Heap}
end Go.Proofs.YtaahialaegfjgaaDoor.Vh
end
section
set_option linter.unusedVariables false
set_option linter.unusedSimpArgs false
namespace Go.Proofs.YtaahialaegfjgaaDoor.Vh
def leapP (y : Int) : Prop := y % 4 = 0 ∧ (y % 100 ≠ 0 ∨ y % 400 = 0)
instance (y : Int) : Decidable (leapP y) := by unfold leapP; infer_instance
open Go.Vm
attribute [local congr] wi_congr wg_congr wgd_congr wb_congr wl_congr cf_congr
variable {L : FuncId → List V → V → Prop} {h : Heap}
open Go.Vm
attribute [local congr] wi_congr wg_congr wgd_congr wb_congr wl_congr cf_congr
end Go.Proofs.YtaahialaegfjgaaDoor.Vh
end
section
set_option linter.unusedVariables false
set_option linter.unusedSimpArgs false
namespace Go.Proofs.YtaahialaegfjgaaDoor.Vh
open Go.Vm
open Go.Vm Go.Vt
attribute [local congr] wi_congr wg_congr wgd_congr wb_congr wl_congr cf_congr
variable {L : FuncId → List V → V → Prop} {h : Heap}
def two (n : Nat) : Bs := [UInt8.ofNat (48 + n / 10), UInt8.ofNat (48 + n % 10)]
end Go.Proofs.YtaahialaegfjgaaDoor.Vh
end
section
set_option linter.unusedVariables false
set_option linter.unusedSimpArgs false
namespace Go.Proofs.YtaahialaegfjgaaDoor.Vh
open Go.Vm Go.Vt
attribute [local congr] wi_congr wg_congr wgd_congr wb_congr wl_congr cf_congr
variable {L : FuncId → List V → V → Prop} {h : Heap}
open Go.Vm Go.Vt
attribute [local congr] wi_congr wg_congr wgd_congr wb_congr wl_congr cf_congr
open Go.Vm Go.Vt
attribute [local congr] wi_congr wg_congr wgd_congr wb_congr wl_congr cf_congr
end Go.Proofs.YtaahialaegfjgaaDoor.Vh
end
section
set_option linter.unusedVariables false
set_option linter.unusedSimpArgs false
namespace Go.Proofs.YtaahialaegfjgaaDoor.Vh
open Go.Vm Go.Vt
attribute [local congr] wi_congr wg_congr wgd_congr wb_congr wl_congr cf_congr
variable {L : FuncId → List V → V → Prop} {h : Heap}
open Go.Vm Go.Vt
attribute [local congr] wi_congr wg_congr wgd_congr wb_congr wl_congr cf_congr
open Go.Vm Go.Vt
attribute [local congr] wi_congr wg_congr wgd_congr wb_congr wl_congr cf_congr
end Go.Proofs.YtaahialaegfjgaaDoor.Vh
end
section
set_option linter.unusedVariables false
set_option linter.unusedSimpArgs false
namespace Go.Proofs.YtaahialaegfjgaaDoor.Vh
open Go.Vm
attribute [local congr] wi_congr wg_congr wgd_congr wb_congr wl_congr cf_congr
variable {L : FuncId → List V → V → Prop} {h : Heap}
def isKept (c : Int) : Bool := [200, 203, 204, 206, 300, 301, 308, 404, 405, 410, 414, 501].contains c
theorem keeps_ok : Cf F L i_fresh_keeps [] h (Pu h (.agg ([200, 203, 204, 206, 300, 301, 308, 404, 405, 410, 414, 501].map (.int .i64)))) := by
  refine run_fresh_keeps ?_
  simp only [p_fresh_keeps]
  simp (maxSteps := 4000000) only [vm, vl, Arg.get, cells, stor, boundO, resultsV, resV, partK, loadV, Vm.part, fillC, splice, reduceIte, reduceCtorEq, Nat.reduceEqDiff, Nat.reduceAdd, Nat.reduceSub, Nat.reduceMul, Nat.reduceLeDiff, ne_eq, not_false_eq_true, Int.reduceEq, Int.reduceLT, Int.reduceLE, Int.reduceNeg, Int.reduceToNat, Int.reduceGT, Int.reduceGE, Nat.reduceLT, Nat.lt_add_one, Nat.zero_lt_succ, Nat.succ_pos, Nat.zero_le, beq_self_eq_true]
  (repeat' ((first | refine wg_casep (fun _ => ?_) (fun _ => ?_) | refine wg_casen (fun _ => ?_) (fun _ => ?_) | refine wg_case (fun _ => ?_) (fun _ => ?_) | refine wgd_casep (fun _ => ?_) (fun _ => ?_) | refine wgd_casen (fun _ => ?_) (fun _ => ?_) | refine wgd_case (fun _ => ?_) (fun _ => ?_) | refine wb_casep (fun _ => ?_) (fun _ => ?_) | refine wb_casen (fun _ => ?_) (fun _ => ?_) | refine wb_case (fun _ => ?_) (fun _ => ?_)) <;> try simp (maxSteps := 4000000) only [vm, vl, Arg.get, cells, stor, boundO, resultsV, resV, partK, loadV, Vm.part, fillC, splice, reduceIte, reduceCtorEq, Nat.reduceEqDiff, Nat.reduceAdd, Nat.reduceSub, Nat.reduceMul, Nat.reduceLeDiff, ne_eq, not_false_eq_true, Int.reduceEq, Int.reduceLT, Int.reduceLE, Int.reduceNeg, Int.reduceToNat, Int.reduceGT, Int.reduceGE, Nat.reduceLT, Nat.lt_add_one, Nat.zero_lt_succ, Nat.succ_pos, Nat.zero_le, beq_self_eq_true, *]))
theorem kept_at {c : Int} : ∀ {i : Nat}, i < 12 → ([200, 203, 204, 206, 300, 301, 308, 404, 405, 410, 414, 501] : List Int).getD i 0 = c → isKept c = true := by
  intro i hi he
  subst he
  unfold isKept
  rw [List.contains_iff_mem, List.getD_eq_getElem?_getD, List.getElem?_eq_getElem hi, Option.getD_some]
  exact List.getElem_mem _
theorem kept_no {c : Int} (h : ∀ i, i < 12 → ([200, 203, 204, 206, 300, 301, 308, 404, 405, 410, 414, 501] : List Int).getD i 0 ≠ c) : isKept c = false := by
  cases hk : isKept c
  · rfl
  · unfold isKept at hk
    rw [List.contains_iff_mem] at hk
    obtain ⟨i, hi, rfl⟩ := List.getElem_of_mem hk
    exact absurd (by rw [List.getD_eq_getElem?_getD, List.getElem?_eq_getElem hi, Option.getD_some]) (h i hi)
theorem Heuristic_ok {c : Int} : Cf F L i_fresh_Heuristic [.int .i64 c] h (Pu h (.bool (isKept c))) := by
  refine run_fresh_Heuristic ?_
  simp only [p_fresh_Heuristic]
  simp (maxSteps := 4000000) only [vm, vl, Arg.get, cells, stor, boundO, resultsV, resV, partK, loadV, Vm.part, fillC, splice, reduceIte, reduceCtorEq, Nat.reduceEqDiff, Nat.reduceAdd, Nat.reduceSub, Nat.reduceMul, Nat.reduceLeDiff, ne_eq, not_false_eq_true, Int.reduceEq, Int.reduceLT, Int.reduceLE, Int.reduceNeg, Int.reduceToNat, Int.reduceGT, Int.reduceGE, Nat.reduceLT, Nat.lt_add_one, Nat.zero_lt_succ, Nat.succ_pos, Nat.zero_le, beq_self_eq_true, k_fresh_Heuristic_0, k_fresh_Heuristic_2, k_fresh_Heuristic_1]
  (repeat' ((first | refine wg_casep (fun _ => ?_) (fun _ => ?_) | refine wg_casen (fun _ => ?_) (fun _ => ?_) | refine wg_case (fun _ => ?_) (fun _ => ?_) | refine wgd_casep (fun _ => ?_) (fun _ => ?_) | refine wgd_casen (fun _ => ?_) (fun _ => ?_) | refine wgd_case (fun _ => ?_) (fun _ => ?_) | refine wb_casep (fun _ => ?_) (fun _ => ?_) | refine wb_casen (fun _ => ?_) (fun _ => ?_) | refine wb_case (fun _ => ?_) (fun _ => ?_) | refine Cf.pu keeps_ok (fun _ => ?_)) <;> try simp (maxSteps := 4000000) only [vm, vl, Arg.get, cells, stor, boundO, resultsV, resV, partK, loadV, Vm.part, fillC, splice, reduceIte, reduceCtorEq, Nat.reduceEqDiff, Nat.reduceAdd, Nat.reduceSub, Nat.reduceMul, Nat.reduceLeDiff, ne_eq, not_false_eq_true, Int.reduceEq, Int.reduceLT, Int.reduceLE, Int.reduceNeg, Int.reduceToNat, Int.reduceGT, Int.reduceGE, Nat.reduceLT, Nat.lt_add_one, Nat.zero_lt_succ, Nat.succ_pos, Nat.zero_le, beq_self_eq_true, k_fresh_Heuristic_0, k_fresh_Heuristic_2, k_fresh_Heuristic_1, *]))
  rename_i t
  refine l_fresh_Heuristic_0 (fun n e h' => ∃ i, i ≤ 12 ∧ n = 12 - i ∧ e 0 = .int .i64 c ∧ e 5 = .agg ([200, 203, 204, 206, 300, 301, 308, 404, 405, 410, 414, 501].map (.int .i64)) ∧ e 6 = .int .i64 i ∧ h' = h ++ t ∧ ∀ j, j < i → ([200, 203, 204, 206, 300, 301, 308, 404, 405, 410, 414, 501] : List Int).getD j 0 ≠ c) ?_ (n := 12) ?_
  rotate_left
  · exact ⟨0, by simp, by simp, rfl, rfl, rfl, rfl, by simp⟩
  rintro n e h' ⟨i, hi, rfl, e0, e5, e6, rfl, hj⟩
  simp only [b_fresh_Heuristic_0]
  have hd : ∀ i, i < 12 → ([200, 203, 204, 206, 300, 301, 308, 404, 405, 410, 414, 501].map (V.int .i64)).getD i (.tup []) = .int .i64 (([200, 203, 204, 206, 300, 301, 308, 404, 405, 410, 414, 501] : List Int).getD i 0) := by
    intro i hi
    rw [List.getD_eq_getElem?_getD, List.getD_eq_getElem?_getD, List.getElem?_map, List.getElem?_eq_getElem hi, Option.map_some, Option.getD_some, Option.getD_some]
  by_cases hl : (i : Int) < 12
  · have hl' : i < 12 := by omega
    have w := wrap64 (x := (i : Int) + 1) (by omega) (by omega)
    have b1 : i + 1 ≤ 12 := by omega
    have b2 := hd i hl'
    generalize hL : ([200, 203, 204, 206, 300, 301, 308, 404, 405, 410, 414, 501].map (V.int .i64)) = Ls at *
    have b3 : Ls.length = 12 := by rw [← hL]; rfl
    simp (maxSteps := 4000000) only [vm, vl, Arg.get, cells, stor, boundO, resultsV, resV, partK, loadV, Vm.part, fillC, splice, reduceIte, reduceCtorEq, Nat.reduceEqDiff, Nat.reduceAdd, Nat.reduceSub, Nat.reduceMul, Nat.reduceLeDiff, ne_eq, not_false_eq_true, Int.reduceEq, Int.reduceLT, Int.reduceLE, Int.reduceNeg, Int.reduceToNat, Int.reduceGT, Int.reduceGE, Nat.reduceLT, Nat.lt_add_one, Nat.zero_lt_succ, Nat.succ_pos, Nat.zero_le, beq_self_eq_true, k_fresh_Heuristic_0, k_fresh_Heuristic_2, k_fresh_Heuristic_1, e0, e5, e6, hl, w, hl', b1, b2, b3]
    (repeat' ((first | refine wg_casep (fun _ => ?_) (fun _ => ?_) | refine wg_casen (fun _ => ?_) (fun _ => ?_) | refine wg_case (fun _ => ?_) (fun _ => ?_) | refine wgd_casep (fun _ => ?_) (fun _ => ?_) | refine wgd_casen (fun _ => ?_) (fun _ => ?_) | refine wgd_case (fun _ => ?_) (fun _ => ?_) | refine wb_casep (fun _ => ?_) (fun _ => ?_) | refine wb_casen (fun _ => ?_) (fun _ => ?_) | refine wb_case (fun _ => ?_) (fun _ => ?_)) <;> try simp (maxSteps := 4000000) only [vm, vl, Arg.get, cells, stor, boundO, resultsV, resV, partK, loadV, Vm.part, fillC, splice, reduceIte, reduceCtorEq, Nat.reduceEqDiff, Nat.reduceAdd, Nat.reduceSub, Nat.reduceMul, Nat.reduceLeDiff, ne_eq, not_false_eq_true, Int.reduceEq, Int.reduceLT, Int.reduceLE, Int.reduceNeg, Int.reduceToNat, Int.reduceGT, Int.reduceGE, Nat.reduceLT, Nat.lt_add_one, Nat.zero_lt_succ, Nat.succ_pos, Nat.zero_le, beq_self_eq_true, k_fresh_Heuristic_0, k_fresh_Heuristic_2, k_fresh_Heuristic_1, *]))
    · rename_i hc
      rw [kept_at hl' hc]
    · rename_i hc
      refine ⟨12 - (i + 1), by omega, i + 1, by omega, rfl, by simp, ?_⟩
      intro j hj'
      rcases Nat.lt_or_ge j i with h1 | h1
      · exact hj j h1
      · have : j = i := by omega
        subst this; exact hc
  · simp (maxSteps := 4000000) only [vm, vl, Arg.get, cells, stor, boundO, resultsV, resV, partK, loadV, Vm.part, fillC, splice, reduceIte, reduceCtorEq, Nat.reduceEqDiff, Nat.reduceAdd, Nat.reduceSub, Nat.reduceMul, Nat.reduceLeDiff, ne_eq, not_false_eq_true, Int.reduceEq, Int.reduceLT, Int.reduceLE, Int.reduceNeg, Int.reduceToNat, Int.reduceGT, Int.reduceGE, Nat.reduceLT, Nat.lt_add_one, Nat.zero_lt_succ, Nat.succ_pos, Nat.zero_le, beq_self_eq_true, k_fresh_Heuristic_0, k_fresh_Heuristic_2, k_fresh_Heuristic_1, e0, e5, e6, hl]
    rw [kept_no fun j h1 => hj j (by omega)]
end Go.Proofs.YtaahialaegfjgaaDoor.Vh
end
section
set_option linter.unusedVariables false
set_option linter.unusedSimpArgs false
namespace Go.Proofs.YtaahialaegfjgaaDoor.Vh
open Go.Vm Go.Vt
attribute [local congr] wi_congr wg_congr wgd_congr wb_congr wl_congr cf_congr
variable {L : FuncId → List V → V → Prop} {h : Heap}
def nExp : Bs := [69, 120, 112, 105, 114, 101, 115]
def nVary : Bs := [86, 97, 114, 121]
def nRange : Bs := [82, 97, 110, 103, 101]
def nAuth : Bs := [65, 117, 116, 104, 111, 114, 105, 122, 97, 116, 105, 111, 110]
def hasB (l : List Fld) (name : Bs) : Bool := decide (0 < (valsOf l name).length)
def varyB (l : List Fld) : Bool := match split (joinS (valsOf l nVary)) with
  | none => true
  | some ws => ws.contains [42]
def knownB (code : Int) (ranged : Bool) : Bool :=
  if code < 200 ∨ code > 599 ∨ code = 304 then false else if code < 300 ∧ ranged = true then decide (code = 200 ∨ code = 206) else true
def mayB (m : Bs) (a : List Fld) (code : Int) (l : List Fld) : Bool :=
  if m ≠ [71, 69, 84] ∨ (ofC a).f 0 = true ∨ (ofC l).f 0 = true ∨ (ofC l).f 2 = true then false
  else if knownB code (hasB a nRange) = false ∨ varyB l = true then false
  else if hasB a nAuth = true ∧ (ofC l).f 3 = false ∧ (ofC l).f 4 = false ∧ (ofC l).n 1 < 0 then false
  else hasB l nExp || (ofC l).f 3 || decide ((ofC l).n 0 ≥ 0) || decide ((ofC l).n 1 ≥ 0) || isKept code
end Go.Proofs.YtaahialaegfjgaaDoor.Vh
end
section
set_option linter.unusedVariables false
set_option linter.unusedSimpArgs false
namespace Go.Proofs.YtaahialaegfjgaaDoor.Vh
open Go.Vm Go.Vt
attribute [local congr] wi_congr wg_congr wgd_congr wb_congr wl_congr cf_congr
variable {L : FuncId → List V → V → Prop} {h : Heap}
theorem fIdx_ok {x : V} {l : List Fld} {g : FuncId} {caps : List V} {p : Fld → Bool} (hx : ListV 2 x (flds l)) (hl : l.length < 1000000000) (hg : ∀ f ∈ l, ∀ t, Cf F L g ([fldV f] ++ caps) (h ++ t) (Pu (h ++ t) (.bool (p f)))) :
    Cf F L i_slices_IndexFunc___gatepost_api_Field_gatepost_api_Field_ [x, .fn g caps] h (fun v h' => (∃ t, h' = h ++ t) ∧ ∃ n : Int, v = .int .i64 n ∧ (decide (n ≥ 0) = l.any p)) := by
  refine run_slices_IndexFunc___gatepost_api_Field_gatepost_api_Field_ ?_
  simp only [p_slices_IndexFunc___gatepost_api_Field_gatepost_api_Field_]
  
  have l1 := fun {K : V → Heap → Prop} {h : Heap} => hx.len (F := F) (L := L) (e := E0) (K := K) (h := h)
  simp only [flds_len] at l1
  simp (maxSteps := 4000000) only [vm, vl, Arg.get, cells, stor, boundO, resultsV, resV, partK, loadV, Vm.part, fillC, splice, reduceIte, reduceCtorEq, Nat.reduceEqDiff, Nat.reduceAdd, Nat.reduceSub, Nat.reduceMul, Nat.reduceLeDiff, ne_eq, not_false_eq_true, Int.reduceEq, Int.reduceLT, Int.reduceLE, Int.reduceNeg, Int.reduceToNat, Int.reduceGT, Int.reduceGE, Nat.reduceLT, Nat.lt_add_one, Nat.zero_lt_succ, Nat.succ_pos, Nat.zero_le, beq_self_eq_true, l1]
  refine l_slices_IndexFunc___gatepost_api_Field_gatepost_api_Field__0 (fun n e h' => ∃ i : Nat, n = l.length - i ∧ i ≤ l.length ∧ e 0 = x ∧ e 1 = .fn g caps ∧ e 7 = .int .i64 l.length ∧ e 8 = .int .i64 i ∧ (∃ t, h' = h ++ t) ∧ l.any p = (l.drop i).any p) ?_ (n := l.length) ⟨0, by simp, by simp, rfl, rfl, rfl, rfl, ⟨[], by simp⟩, rfl⟩
  rintro n e h' ⟨i, rfl, hi, e0, e1, e7, e8, ⟨t0, rfl⟩, hc⟩
  simp only [b_slices_IndexFunc___gatepost_api_Field_gatepost_api_Field__0]
  rcases list_at ([], []) hi with ⟨hn, rfl, hd⟩ | ⟨hl1, hl2, hd, _⟩
  · rw [hd] at hc
    simp (maxSteps := 4000000) only [vm, vl, Arg.get, cells, stor, boundO, resultsV, resV, partK, loadV, Vm.part, fillC, splice, reduceIte, reduceCtorEq, Nat.reduceEqDiff, Nat.reduceAdd, Nat.reduceSub, Nat.reduceMul, Nat.reduceLeDiff, ne_eq, not_false_eq_true, Int.reduceEq, Int.reduceLT, Int.reduceLE, Int.reduceNeg, Int.reduceToNat, Int.reduceGT, Int.reduceGE, Nat.reduceLT, Nat.lt_add_one, Nat.zero_lt_succ, Nat.succ_pos, Nat.zero_le, beq_self_eq_true, e7, e8, hn, k_slices_IndexFunc___gatepost_api_Field_gatepost_api_Field__0]
    exact ⟨⟨t0, rfl⟩, -1, rfl, by rw [hc]; rfl⟩
  · have w := wrap64 (x := (i : Int) + 1) (by omega) (by omega)
    have i1 := fun {K : V → Heap → Prop} {h : Heap} => hx.at (F := F) (L := L) (e := E0) (K := K) (h := h) (i := i) (by rw [flds_len]; exact hl2)
    have a1 := flds_at hl2
    have hmem : l.getD i ([], []) ∈ l := getD_mem hl2
    rw [hd, List.any_cons] at hc
    generalize hf : l.getD i ([], []) = f at *
    simp (maxSteps := 4000000) only [vm, vl, Arg.get, cells, stor, boundO, resultsV, resV, partK, loadV, Vm.part, fillC, splice, reduceIte, reduceCtorEq, Nat.reduceEqDiff, Nat.reduceAdd, Nat.reduceSub, Nat.reduceMul, Nat.reduceLeDiff, ne_eq, not_false_eq_true, Int.reduceEq, Int.reduceLT, Int.reduceLE, Int.reduceNeg, Int.reduceToNat, Int.reduceGT, Int.reduceGE, Nat.reduceLT, Nat.lt_add_one, Nat.zero_lt_succ, Nat.succ_pos, Nat.zero_le, beq_self_eq_true, e0, e1, e7, e8, hl1, i1, a1, fldV, k_slices_IndexFunc___gatepost_api_Field_gatepost_api_Field__1]
    have hg1 := hg f hmem t0
    simp only [fldV, List.singleton_append] at hg1
    refine Cf.pu hg1 fun t1 => ?_
    cases hp : p f with
    | true =>
      rw [hp, Bool.true_or] at hc
      simp (maxSteps := 4000000) only [vm, vl, Arg.get, cells, stor, boundO, resultsV, resV, partK, loadV, Vm.part, fillC, splice, reduceIte, reduceCtorEq, Nat.reduceEqDiff, Nat.reduceAdd, Nat.reduceSub, Nat.reduceMul, Nat.reduceLeDiff, ne_eq, not_false_eq_true, Int.reduceEq, Int.reduceLT, Int.reduceLE, Int.reduceNeg, Int.reduceToNat, Int.reduceGT, Int.reduceGE, Nat.reduceLT, Nat.lt_add_one, Nat.zero_lt_succ, Nat.succ_pos, Nat.zero_le, beq_self_eq_true, hp]
      exact ⟨⟨t0 ++ t1, by simp⟩, i, rfl, by rw [hc]; simp⟩
    | false =>
      rw [hp, Bool.false_or] at hc
      simp (maxSteps := 4000000) only [vm, vl, Arg.get, cells, stor, boundO, resultsV, resV, partK, loadV, Vm.part, fillC, splice, reduceIte, reduceCtorEq, Nat.reduceEqDiff, Nat.reduceAdd, Nat.reduceSub, Nat.reduceMul, Nat.reduceLeDiff, ne_eq, not_false_eq_true, Int.reduceEq, Int.reduceLT, Int.reduceLE, Int.reduceNeg, Int.reduceToNat, Int.reduceGT, Int.reduceGE, Nat.reduceLT, Nat.lt_add_one, Nat.zero_lt_succ, Nat.succ_pos, Nat.zero_le, beq_self_eq_true, hp, w, k_slices_IndexFunc___gatepost_api_Field_gatepost_api_Field__2]
      exact ⟨l.length - (i + 1), by omega, i + 1, rfl, hl2, e0, e1, e7, rfl, ⟨t0 ++ t1, by simp⟩, hc⟩
theorem hasB_any (l : List Fld) (name : Bs) : hasB l name = l.any fun f => low f.1 == low name := by
  unfold hasB valsOf
  rw [List.length_map, Bool.eq_iff_iff, decide_eq_true_eq, List.length_pos_iff_exists_mem, List.any_eq_true]
  exact ⟨fun ⟨f, hf⟩ => ⟨f, (List.mem_filter.1 hf).1, (List.mem_filter.1 hf).2⟩, fun ⟨f, h1, h2⟩ => ⟨f, List.mem_filter.2 ⟨h1, h2⟩⟩⟩
theorem has1_ok {f : Fld} {name : Bs} {k : Nat} (hb : h[k]? = some (.box [.str name])) (hf : f.1.length ≤ 140737488355328) (hn : name.length ≤ 140737488355328) :
    Cf F L i_storing_has_1 [fldV f, .ptr k 0] h (Pu h (.bool (low f.1 == low name))) := by
  have hb' := fun t => get_old (t := t) hb
  refine run_storing_has_1 ?_
  simp only [p_storing_has_1]
  simp (maxSteps := 4000000) only [vm, vl, Arg.get, cells, stor, boundO, resultsV, resV, partK, loadV, Vm.part, fillC, splice, reduceIte, reduceCtorEq, Nat.reduceEqDiff, Nat.reduceAdd, Nat.reduceSub, Nat.reduceMul, Nat.reduceLeDiff, ne_eq, not_false_eq_true, Int.reduceEq, Int.reduceLT, Int.reduceLE, Int.reduceNeg, Int.reduceToNat, Int.reduceGT, Int.reduceGE, Nat.reduceLT, Nat.lt_add_one, Nat.zero_lt_succ, Nat.succ_pos, Nat.zero_le, beq_self_eq_true, fldV, hb']
  refine Cf.pu (Same_ok hf hn) fun t => ?_
  simp (maxSteps := 4000000) only [vm, vl, Arg.get, cells, stor, boundO, resultsV, resV, partK, loadV, Vm.part, fillC, splice, reduceIte, reduceCtorEq, Nat.reduceEqDiff, Nat.reduceAdd, Nat.reduceSub, Nat.reduceMul, Nat.reduceLeDiff, ne_eq, not_false_eq_true, Int.reduceEq, Int.reduceLT, Int.reduceLE, Int.reduceNeg, Int.reduceToNat, Int.reduceGT, Int.reduceGE, Nat.reduceLT, Nat.lt_add_one, Nat.zero_lt_succ, Nat.succ_pos, Nat.zero_le, beq_self_eq_true]
theorem has_ok {x : V} {l : List Fld} {name : Bs} (hx : ListV 2 x (flds l)) (hl : l.length < 1000000000) (hln : ∀ f ∈ l, f.1.length ≤ 140737488355328) (hn : name.length ≤ 140737488355328) :
    Cf F L i_storing_has [x, .str name] h (Pu h (.bool (hasB l name))) := by
  refine run_storing_has ?_
  simp only [p_storing_has]
  simp (maxSteps := 4000000) only [vm, vl, Arg.get, cells, stor, boundO, resultsV, resV, partK, loadV, Vm.part, fillC, splice, reduceIte, reduceCtorEq, Nat.reduceEqDiff, Nat.reduceAdd, Nat.reduceSub, Nat.reduceMul, Nat.reduceLeDiff, ne_eq, not_false_eq_true, Int.reduceEq, Int.reduceLT, Int.reduceLE, Int.reduceNeg, Int.reduceToNat, Int.reduceGT, Int.reduceGE, Nat.reduceLT, Nat.lt_add_one, Nat.zero_lt_succ, Nat.succ_pos, Nat.zero_le, beq_self_eq_true]
  refine run_slices_ContainsFunc___gatepost_api_Field_gatepost_api_Field_ ?_
  simp only [p_slices_ContainsFunc___gatepost_api_Field_gatepost_api_Field_]
  simp (maxSteps := 4000000) only [vm, vl, Arg.get, cells, stor, boundO, resultsV, resV, partK, loadV, Vm.part, fillC, splice, reduceIte, reduceCtorEq, Nat.reduceEqDiff, Nat.reduceAdd, Nat.reduceSub, Nat.reduceMul, Nat.reduceLeDiff, ne_eq, not_false_eq_true, Int.reduceEq, Int.reduceLT, Int.reduceLE, Int.reduceNeg, Int.reduceToNat, Int.reduceGT, Int.reduceGE, Nat.reduceLT, Nat.lt_add_one, Nat.zero_lt_succ, Nat.succ_pos, Nat.zero_le, beq_self_eq_true]
  refine (fIdx_ok (p := fun f => low f.1 == low name) hx hl fun f hf t => ?_).mono fun v h' hv => ?_
  · exact has1_ok (get_old (by simp)) (hln f hf) hn
  · obtain ⟨⟨t, rfl⟩, n, rfl, he⟩ := hv
    rw [hasB_any, ← he]
    simp (maxSteps := 4000000) only [vm, vl, Arg.get, cells, stor, boundO, resultsV, resV, partK, loadV, Vm.part, fillC, splice, reduceIte, reduceCtorEq, Nat.reduceEqDiff, Nat.reduceAdd, Nat.reduceSub, Nat.reduceMul, Nat.reduceLeDiff, ne_eq, not_false_eq_true, Int.reduceEq, Int.reduceLT, Int.reduceLE, Int.reduceNeg, Int.reduceToNat, Int.reduceGT, Int.reduceGE, Nat.reduceLT, Nat.lt_add_one, Nat.zero_lt_succ, Nat.succ_pos, Nat.zero_le, beq_self_eq_true]
theorem known_ok {c : Int} {b : Bool} : Cf F L i_storing_known [.int .i64 c, .bool b] h (Pu h (.bool (knownB c b))) := by
  refine run_storing_known ?_
  simp only [p_storing_known]
  unfold knownB
  by_cases c1 : c < 200
  · rw [if_pos (.inl c1)]
    simp (maxSteps := 4000000) only [vm, vl, Arg.get, cells, stor, boundO, resultsV, resV, partK, loadV, Vm.part, fillC, splice, reduceIte, reduceCtorEq, Nat.reduceEqDiff, Nat.reduceAdd, Nat.reduceSub, Nat.reduceMul, Nat.reduceLeDiff, ne_eq, not_false_eq_true, Int.reduceEq, Int.reduceLT, Int.reduceLE, Int.reduceNeg, Int.reduceToNat, Int.reduceGT, Int.reduceGE, Nat.reduceLT, Nat.lt_add_one, Nat.zero_lt_succ, Nat.succ_pos, Nat.zero_le, beq_self_eq_true, k_storing_known_0, c1, decide_true]
  by_cases c2 : c > 599
  · rw [if_pos (.inr (.inl c2))]
    simp (maxSteps := 4000000) only [vm, vl, Arg.get, cells, stor, boundO, resultsV, resV, partK, loadV, Vm.part, fillC, splice, reduceIte, reduceCtorEq, Nat.reduceEqDiff, Nat.reduceAdd, Nat.reduceSub, Nat.reduceMul, Nat.reduceLeDiff, ne_eq, not_false_eq_true, Int.reduceEq, Int.reduceLT, Int.reduceLE, Int.reduceNeg, Int.reduceToNat, Int.reduceGT, Int.reduceGE, Nat.reduceLT, Nat.lt_add_one, Nat.zero_lt_succ, Nat.succ_pos, Nat.zero_le, beq_self_eq_true, k_storing_known_0, c1, c2, decide_true, decide_false]
  by_cases c3 : c = 304
  · rw [if_pos (.inr (.inr c3))]
    simp (maxSteps := 4000000) only [vm, vl, Arg.get, cells, stor, boundO, resultsV, resV, partK, loadV, Vm.part, fillC, splice, reduceIte, reduceCtorEq, Nat.reduceEqDiff, Nat.reduceAdd, Nat.reduceSub, Nat.reduceMul, Nat.reduceLeDiff, ne_eq, not_false_eq_true, Int.reduceEq, Int.reduceLT, Int.reduceLE, Int.reduceNeg, Int.reduceToNat, Int.reduceGT, Int.reduceGE, Nat.reduceLT, Nat.lt_add_one, Nat.zero_lt_succ, Nat.succ_pos, Nat.zero_le, beq_self_eq_true, k_storing_known_0, c1, c2, c3, decide_true, decide_false]
  rw [if_neg (by omega)]
  by_cases c4 : c < 300
  case neg =>
    rw [if_neg (by omega)]
    simp (maxSteps := 4000000) only [vm, vl, Arg.get, cells, stor, boundO, resultsV, resV, partK, loadV, Vm.part, fillC, splice, reduceIte, reduceCtorEq, Nat.reduceEqDiff, Nat.reduceAdd, Nat.reduceSub, Nat.reduceMul, Nat.reduceLeDiff, ne_eq, not_false_eq_true, Int.reduceEq, Int.reduceLT, Int.reduceLE, Int.reduceNeg, Int.reduceToNat, Int.reduceGT, Int.reduceGE, Nat.reduceLT, Nat.lt_add_one, Nat.zero_lt_succ, Nat.succ_pos, Nat.zero_le, beq_self_eq_true, k_storing_known_0, c1, c2, c3, c4, decide_true, decide_false]
  cases b with
  | false =>
    rw [if_neg (by simp)]
    simp (maxSteps := 4000000) only [vm, vl, Arg.get, cells, stor, boundO, resultsV, resV, partK, loadV, Vm.part, fillC, splice, reduceIte, reduceCtorEq, Nat.reduceEqDiff, Nat.reduceAdd, Nat.reduceSub, Nat.reduceMul, Nat.reduceLeDiff, ne_eq, not_false_eq_true, Int.reduceEq, Int.reduceLT, Int.reduceLE, Int.reduceNeg, Int.reduceToNat, Int.reduceGT, Int.reduceGE, Nat.reduceLT, Nat.lt_add_one, Nat.zero_lt_succ, Nat.succ_pos, Nat.zero_le, beq_self_eq_true, k_storing_known_0, c1, c2, c3, c4, decide_true, decide_false]
  | true =>
    rw [if_pos ⟨c4, rfl⟩]
    by_cases c5 : c = 200
    · subst c5
      simp (maxSteps := 4000000) only [vm, vl, Arg.get, cells, stor, boundO, resultsV, resV, partK, loadV, Vm.part, fillC, splice, reduceIte, reduceCtorEq, Nat.reduceEqDiff, Nat.reduceAdd, Nat.reduceSub, Nat.reduceMul, Nat.reduceLeDiff, ne_eq, not_false_eq_true, Int.reduceEq, Int.reduceLT, Int.reduceLE, Int.reduceNeg, Int.reduceToNat, Int.reduceGT, Int.reduceGE, Nat.reduceLT, Nat.lt_add_one, Nat.zero_lt_succ, Nat.succ_pos, Nat.zero_le, beq_self_eq_true, k_storing_known_0, decide_true, decide_false]
      try rfl
    · by_cases c6 : c = 206
      · simp (maxSteps := 4000000) only [vm, vl, Arg.get, cells, stor, boundO, resultsV, resV, partK, loadV, Vm.part, fillC, splice, reduceIte, reduceCtorEq, Nat.reduceEqDiff, Nat.reduceAdd, Nat.reduceSub, Nat.reduceMul, Nat.reduceLeDiff, ne_eq, not_false_eq_true, Int.reduceEq, Int.reduceLT, Int.reduceLE, Int.reduceNeg, Int.reduceToNat, Int.reduceGT, Int.reduceGE, Nat.reduceLT, Nat.lt_add_one, Nat.zero_lt_succ, Nat.succ_pos, Nat.zero_le, beq_self_eq_true, k_storing_known_0, c1, c2, c3, c4, c5, c6, decide_true, decide_false, or_true]
      · simp (maxSteps := 4000000) only [vm, vl, Arg.get, cells, stor, boundO, resultsV, resV, partK, loadV, Vm.part, fillC, splice, reduceIte, reduceCtorEq, Nat.reduceEqDiff, Nat.reduceAdd, Nat.reduceSub, Nat.reduceMul, Nat.reduceLeDiff, ne_eq, not_false_eq_true, Int.reduceEq, Int.reduceLT, Int.reduceLE, Int.reduceNeg, Int.reduceToNat, Int.reduceGT, Int.reduceGE, Nat.reduceLT, Nat.lt_add_one, Nat.zero_lt_succ, Nat.succ_pos, Nat.zero_le, beq_self_eq_true, k_storing_known_0, c1, c2, c3, c4, c5, c6, decide_true, decide_false, or_self]
theorem varies_ok (HJ : JoinOk L) {x : V} {l : List Fld} (hx : ListV 2 x (flds l)) (hl : l.length < 100000) (hln : ∀ f ∈ l, f.1.length ≤ 140737488355328) (hsm : sumF l < 100000) :
    Cf F L i_storing_varies [x] h (Pu h (.bool (varyB l))) := by
  refine run_storing_varies ?_
  simp only [p_storing_varies]
  have j1 := vals_join l nVary
  simp (maxSteps := 4000000) only [vm, vl, Arg.get, cells, stor, boundO, resultsV, resV, partK, loadV, Vm.part, fillC, splice, reduceIte, reduceCtorEq, Nat.reduceEqDiff, Nat.reduceAdd, Nat.reduceSub, Nat.reduceMul, Nat.reduceLeDiff, ne_eq, not_false_eq_true, Int.reduceEq, Int.reduceLT, Int.reduceLE, Int.reduceNeg, Int.reduceToNat, Int.reduceGT, Int.reduceGE, Nat.reduceLT, Nat.lt_add_one, Nat.zero_lt_succ, Nat.succ_pos, Nat.zero_le, beq_self_eq_true]
  refine Cf.pu (Get_ok HJ (name := nVary) hx (by omega) hln (by simp [nVary]) (by omega)) fun u1 => ?_
  simp only [getV]
  simp (maxSteps := 4000000) only [vm, vl, Arg.get, cells, stor, boundO, resultsV, resV, partK, loadV, Vm.part, fillC, splice, reduceIte, reduceCtorEq, Nat.reduceEqDiff, Nat.reduceAdd, Nat.reduceSub, Nat.reduceMul, Nat.reduceLeDiff, ne_eq, not_false_eq_true, Int.reduceEq, Int.reduceLT, Int.reduceLE, Int.reduceNeg, Int.reduceToNat, Int.reduceGT, Int.reduceGE, Nat.reduceLT, Nat.lt_add_one, Nat.zero_lt_succ, Nat.succ_pos, Nat.zero_le, beq_self_eq_true]
  refine Cf.pu (Split_ok (by omega)) fun u2 => ?_
  unfold varyB
  cases hsp : split (joinS (valsOf l nVary)) with
  | none =>
    simp only [splitV]
    simp (maxSteps := 4000000) only [vm, vl, Arg.get, cells, stor, boundO, resultsV, resV, partK, loadV, Vm.part, fillC, splice, reduceIte, reduceCtorEq, Nat.reduceEqDiff, Nat.reduceAdd, Nat.reduceSub, Nat.reduceMul, Nat.reduceLeDiff, ne_eq, not_false_eq_true, Int.reduceEq, Int.reduceLT, Int.reduceLE, Int.reduceNeg, Int.reduceToNat, Int.reduceGT, Int.reduceGE, Nat.reduceLT, Nat.lt_add_one, Nat.zero_lt_succ, Nat.succ_pos, Nat.zero_le, beq_self_eq_true]
  | some ws =>
    simp only [splitV]
    have := split_small hsp
    simp (maxSteps := 4000000) only [vm, vl, Arg.get, cells, stor, boundO, resultsV, resV, partK, loadV, Vm.part, fillC, splice, reduceIte, reduceCtorEq, Nat.reduceEqDiff, Nat.reduceAdd, Nat.reduceSub, Nat.reduceMul, Nat.reduceLeDiff, ne_eq, not_false_eq_true, Int.reduceEq, Int.reduceLT, Int.reduceLE, Int.reduceNeg, Int.reduceToNat, Int.reduceGT, Int.reduceGE, Nat.reduceLT, Nat.lt_add_one, Nat.zero_lt_succ, Nat.succ_pos, Nat.zero_le, beq_self_eq_true]
    refine Cf.pu (sContains_ok (full_list ws) (by omega)) fun u3 => ?_
    simp (maxSteps := 4000000) only [vm, vl, Arg.get, cells, stor, boundO, resultsV, resV, partK, loadV, Vm.part, fillC, splice, reduceIte, reduceCtorEq, Nat.reduceEqDiff, Nat.reduceAdd, Nat.reduceSub, Nat.reduceMul, Nat.reduceLeDiff, ne_eq, not_false_eq_true, Int.reduceEq, Int.reduceLT, Int.reduceLE, Int.reduceNeg, Int.reduceToNat, Int.reduceGT, Int.reduceGE, Nat.reduceLT, Nat.lt_add_one, Nat.zero_lt_succ, Nat.succ_pos, Nat.zero_le, beq_self_eq_true]
end Go.Proofs.YtaahialaegfjgaaDoor.Vh
end
section
set_option linter.unusedVariables false
set_option linter.unusedSimpArgs false
namespace Go.Proofs.YtaahialaegfjgaaDoor.Vh
open Go.Vm Go.Vt
attribute [local congr] wi_congr wg_congr wgd_congr wb_congr wl_congr cf_congr
variable {L : FuncId → List V → V → Prop} {h : Heap}
theorem gold {b T u : Heap} {k : Nat} {o : O} (hk : (b ++ T)[k]? = some o) : (b ++ (T ++ u))[k]? = some o := by rw [← List.append_assoc]; exact get_old hk
theorem May1_ok {k3 k6 : Nat} {h1 T : Heap} {a c z : V} {code : Int} {C : Ct} {b : Bool} (hb3 : (h1 ++ T)[k3]? = some (O.box [a, .int .i64 code, c, z])) (hb6 : (h1 ++ T)[k6]? = some (O.box (ctV C))) :
    k_storing_May_1 L (Pu h1 (.bool (b || C.f 3 || decide (C.n 0 ≥ 0) || decide (C.n 1 ≥ 0) || isKept code))) (.ptr k3 0) (.ptr k6 0) (.bool b) (h1 ++ T) := by
  
  unfold k_storing_May_1
  have hc13 := ctV_len C
  have g3 : (ctV C).getD 3 (.tup []) = .bool (C.f 3) := rfl
  have g7 : (ctV C).getD 7 (.tup []) = .int .i64 (C.n 0) := rfl
  have g8 : (ctV C).getD 8 (.tup []) = .int .i64 (C.n 1) := rfl
  generalize ctV C = cs at *
  generalize C.f 3 = b3 at *
  generalize C.n 0 = n0 at *
  generalize C.n 1 = n1 at *
  cases b with
  | true => simp (maxSteps := 4000000) only [vm, vl, Arg.get, cells, stor, boundO, resultsV, resV, partK, loadV, Vm.part, fillC, splice, reduceIte, reduceCtorEq, Nat.reduceEqDiff, Nat.reduceAdd, Nat.reduceSub, Nat.reduceMul, Nat.reduceLeDiff, ne_eq, not_false_eq_true, Int.reduceEq, Int.reduceLT, Int.reduceLE, Int.reduceNeg, Int.reduceToNat, Int.reduceGT, Int.reduceGE, Nat.reduceLT, Nat.lt_add_one, Nat.zero_lt_succ, Nat.succ_pos, Nat.zero_le, beq_self_eq_true, Bool.true_or]
  | false =>
    cases b3 with
    | true => simp (maxSteps := 4000000) only [vm, vl, Arg.get, cells, stor, boundO, resultsV, resV, partK, loadV, Vm.part, fillC, splice, reduceIte, reduceCtorEq, Nat.reduceEqDiff, Nat.reduceAdd, Nat.reduceSub, Nat.reduceMul, Nat.reduceLeDiff, ne_eq, not_false_eq_true, Int.reduceEq, Int.reduceLT, Int.reduceLE, Int.reduceNeg, Int.reduceToNat, Int.reduceGT, Int.reduceGE, Nat.reduceLT, Nat.lt_add_one, Nat.zero_lt_succ, Nat.succ_pos, Nat.zero_le, beq_self_eq_true, hb6, hc13, g3, Bool.true_or, Bool.or_true]
    | false =>
      by_cases c0 : n0 ≥ 0
      · simp (maxSteps := 4000000) only [vm, vl, Arg.get, cells, stor, boundO, resultsV, resV, partK, loadV, Vm.part, fillC, splice, reduceIte, reduceCtorEq, Nat.reduceEqDiff, Nat.reduceAdd, Nat.reduceSub, Nat.reduceMul, Nat.reduceLeDiff, ne_eq, not_false_eq_true, Int.reduceEq, Int.reduceLT, Int.reduceLE, Int.reduceNeg, Int.reduceToNat, Int.reduceGT, Int.reduceGE, Nat.reduceLT, Nat.lt_add_one, Nat.zero_lt_succ, Nat.succ_pos, Nat.zero_le, beq_self_eq_true, hb6, hc13, g3, g7, c0, decide_true, Bool.true_or, Bool.or_true]
      · by_cases c1 : n1 ≥ 0
        · simp (maxSteps := 4000000) only [vm, vl, Arg.get, cells, stor, boundO, resultsV, resV, partK, loadV, Vm.part, fillC, splice, reduceIte, reduceCtorEq, Nat.reduceEqDiff, Nat.reduceAdd, Nat.reduceSub, Nat.reduceMul, Nat.reduceLeDiff, ne_eq, not_false_eq_true, Int.reduceEq, Int.reduceLT, Int.reduceLE, Int.reduceNeg, Int.reduceToNat, Int.reduceGT, Int.reduceGE, Nat.reduceLT, Nat.lt_add_one, Nat.zero_lt_succ, Nat.succ_pos, Nat.zero_le, beq_self_eq_true, hb6, hc13, g3, g7, g8, c0, c1, decide_true, decide_false, Bool.true_or, Bool.or_true, Bool.false_or]
        · simp (maxSteps := 4000000) only [vm, vl, Arg.get, cells, stor, boundO, resultsV, resV, partK, loadV, Vm.part, fillC, splice, reduceIte, reduceCtorEq, Nat.reduceEqDiff, Nat.reduceAdd, Nat.reduceSub, Nat.reduceMul, Nat.reduceLeDiff, ne_eq, not_false_eq_true, Int.reduceEq, Int.reduceLT, Int.reduceLE, Int.reduceNeg, Int.reduceToNat, Int.reduceGT, Int.reduceGE, Nat.reduceLT, Nat.lt_add_one, Nat.zero_lt_succ, Nat.succ_pos, Nat.zero_le, beq_self_eq_true, hb6, hc13, g3, g7, g8, c0, c1, hb3, decide_true, decide_false, Bool.false_or]
          refine Cf.pu (Heuristic_ok) fun u => ?_
          simp (maxSteps := 4000000) only [vm, vl, Arg.get, cells, stor, boundO, resultsV, resV, partK, loadV, Vm.part, fillC, splice, reduceIte, reduceCtorEq, Nat.reduceEqDiff, Nat.reduceAdd, Nat.reduceSub, Nat.reduceMul, Nat.reduceLeDiff, ne_eq, not_false_eq_true, Int.reduceEq, Int.reduceLT, Int.reduceLE, Int.reduceNeg, Int.reduceToNat, Int.reduceGT, Int.reduceGE, Nat.reduceLT, Nat.lt_add_one, Nat.zero_lt_succ, Nat.succ_pos, Nat.zero_le, beq_self_eq_true]
theorem May0_ok {k3 k6 : Nat} {h1 T : Heap} {a c z : V} {code : Int} {C : Ct} {l : List Fld} (hb3 : (h1 ++ T)[k3]? = some (O.box [a, .int .i64 code, c, z])) (hb6 : (h1 ++ T)[k6]? = some (O.box (ctV C)))
    (hx : ListV 2 z (flds l)) (hl : l.length < 100000) (hln : ∀ f ∈ l, f.1.length ≤ 140737488355328) :
    k_storing_May_0 L (Pu h1 (.bool (hasB l nExp || C.f 3 || decide (C.n 0 ≥ 0) || decide (C.n 1 ≥ 0) || isKept code))) (.ptr k3 0) (.ptr k6 0) (h1 ++ T) := by
  
  unfold k_storing_May_0
  simp (maxSteps := 4000000) only [vm, vl, Arg.get, cells, stor, boundO, resultsV, resV, partK, loadV, Vm.part, fillC, splice, reduceIte, reduceCtorEq, Nat.reduceEqDiff, Nat.reduceAdd, Nat.reduceSub, Nat.reduceMul, Nat.reduceLeDiff, ne_eq, not_false_eq_true, Int.reduceEq, Int.reduceLT, Int.reduceLE, Int.reduceNeg, Int.reduceToNat, Int.reduceGT, Int.reduceGE, Nat.reduceLT, Nat.lt_add_one, Nat.zero_lt_succ, Nat.succ_pos, Nat.zero_le, beq_self_eq_true, hb3]
  refine Cf.pu (has_ok (name := nExp) hx (by omega) hln (by simp [nExp])) fun u => ?_
  rw [List.append_assoc]
  exact May1_ok (gold hb3) (gold hb6)
theorem May2_ok {k3 k6 : Nat} {h1 T : Heap} {a c z : V} {code : Int} {C : Ct} {l : List Fld} {b : Bool} (hb3 : (h1 ++ T)[k3]? = some (O.box [a, .int .i64 code, c, z])) (hb6 : (h1 ++ T)[k6]? = some (O.box (ctV C)))
    (hx : ListV 2 z (flds l)) (hl : l.length < 100000) (hln : ∀ f ∈ l, f.1.length ≤ 140737488355328) :
    k_storing_May_2 L (Pu h1 (.bool (if b = true ∧ C.f 3 = false ∧ C.f 4 = false ∧ C.n 1 < 0 then false else (hasB l nExp || C.f 3 || decide (C.n 0 ≥ 0) || decide (C.n 1 ≥ 0) || isKept code)))) (.ptr k3 0) (.ptr k6 0) (.bool b) (h1 ++ T) := by
  
  unfold k_storing_May_2
  have M := May0_ok (L := L) hb3 hb6 hx hl hln
  have hc13 := ctV_len C
  have g3 : (ctV C).getD 3 (.tup []) = .bool (C.f 3) := rfl
  have g4 : (ctV C).getD 4 (.tup []) = .bool (C.f 4) := rfl
  have g8 : (ctV C).getD 8 (.tup []) = .int .i64 (C.n 1) := rfl
  generalize (hasB l nExp || C.f 3 || decide (C.n 0 ≥ 0) || decide (C.n 1 ≥ 0) || isKept code) = R at *
  generalize ctV C = cs at *
  generalize C.f 3 = b3 at *
  generalize C.f 4 = b4 at *
  generalize C.n 1 = n1 at *
  cases b with
  | false =>
    rw [if_neg (by simp)]
    simp (maxSteps := 4000000) only [vm, vl, Arg.get, cells, stor, boundO, resultsV, resV, partK, loadV, Vm.part, fillC, splice, reduceIte, reduceCtorEq, Nat.reduceEqDiff, Nat.reduceAdd, Nat.reduceSub, Nat.reduceMul, Nat.reduceLeDiff, ne_eq, not_false_eq_true, Int.reduceEq, Int.reduceLT, Int.reduceLE, Int.reduceNeg, Int.reduceToNat, Int.reduceGT, Int.reduceGE, Nat.reduceLT, Nat.lt_add_one, Nat.zero_lt_succ, Nat.succ_pos, Nat.zero_le, beq_self_eq_true]
    exact M
  | true =>
    cases b3 with
    | true =>
      rw [if_neg (by simp)]
      simp (maxSteps := 4000000) only [vm, vl, Arg.get, cells, stor, boundO, resultsV, resV, partK, loadV, Vm.part, fillC, splice, reduceIte, reduceCtorEq, Nat.reduceEqDiff, Nat.reduceAdd, Nat.reduceSub, Nat.reduceMul, Nat.reduceLeDiff, ne_eq, not_false_eq_true, Int.reduceEq, Int.reduceLT, Int.reduceLE, Int.reduceNeg, Int.reduceToNat, Int.reduceGT, Int.reduceGE, Nat.reduceLT, Nat.lt_add_one, Nat.zero_lt_succ, Nat.succ_pos, Nat.zero_le, beq_self_eq_true, hb6, hc13, g3, Bool.not_true]
      exact M
    | false =>
      cases b4 with
      | true =>
        rw [if_neg (by simp)]
        simp (maxSteps := 4000000) only [vm, vl, Arg.get, cells, stor, boundO, resultsV, resV, partK, loadV, Vm.part, fillC, splice, reduceIte, reduceCtorEq, Nat.reduceEqDiff, Nat.reduceAdd, Nat.reduceSub, Nat.reduceMul, Nat.reduceLeDiff, ne_eq, not_false_eq_true, Int.reduceEq, Int.reduceLT, Int.reduceLE, Int.reduceNeg, Int.reduceToNat, Int.reduceGT, Int.reduceGE, Nat.reduceLT, Nat.lt_add_one, Nat.zero_lt_succ, Nat.succ_pos, Nat.zero_le, beq_self_eq_true, hb6, hc13, g3, g4, Bool.not_true, Bool.not_false]
        exact M
      | false =>
        by_cases c1 : n1 < 0
        · rw [if_pos ⟨rfl, rfl, rfl, c1⟩]
          simp (maxSteps := 4000000) only [vm, vl, Arg.get, cells, stor, boundO, resultsV, resV, partK, loadV, Vm.part, fillC, splice, reduceIte, reduceCtorEq, Nat.reduceEqDiff, Nat.reduceAdd, Nat.reduceSub, Nat.reduceMul, Nat.reduceLeDiff, ne_eq, not_false_eq_true, Int.reduceEq, Int.reduceLT, Int.reduceLE, Int.reduceNeg, Int.reduceToNat, Int.reduceGT, Int.reduceGE, Nat.reduceLT, Nat.lt_add_one, Nat.zero_lt_succ, Nat.succ_pos, Nat.zero_le, beq_self_eq_true, hb6, hc13, g3, g4, g8, c1, decide_true, Bool.not_false]
        · rw [if_neg (by simp [c1])]
          simp (maxSteps := 4000000) only [vm, vl, Arg.get, cells, stor, boundO, resultsV, resV, partK, loadV, Vm.part, fillC, splice, reduceIte, reduceCtorEq, Nat.reduceEqDiff, Nat.reduceAdd, Nat.reduceSub, Nat.reduceMul, Nat.reduceLeDiff, ne_eq, not_false_eq_true, Int.reduceEq, Int.reduceLT, Int.reduceLE, Int.reduceNeg, Int.reduceToNat, Int.reduceGT, Int.reduceGE, Nat.reduceLT, Nat.lt_add_one, Nat.zero_lt_succ, Nat.succ_pos, Nat.zero_le, beq_self_eq_true, hb6, hc13, g3, g4, g8, c1, decide_false, Bool.not_false]
          exact M
theorem May4_ok (HJ : JoinOk L) {k2 k3 k6 : Nat} {h1 T : Heap} {m p y x a c z : V} {code : Int} {C : Ct} {la l : List Fld} (hb2 : (h1 ++ T)[k2]? = some (O.box [m, p, y, x])) (hb3 : (h1 ++ T)[k3]? = some (O.box [a, .int .i64 code, c, z])) (hb6 : (h1 ++ T)[k6]? = some (O.box (ctV C)))
    (hxa : ListV 2 x (flds la)) (hla : la.length < 100000) (hlna : ∀ f ∈ la, f.1.length ≤ 140737488355328)
    (hx : ListV 2 z (flds l)) (hl : l.length < 100000) (hln : ∀ f ∈ l, f.1.length ≤ 140737488355328) (hsm : sumF l < 100000) :
    k_storing_May_4 L (Pu h1 (.bool (if knownB code (hasB la nRange) = false ∨ varyB l = true then false else if hasB la nAuth = true ∧ C.f 3 = false ∧ C.f 4 = false ∧ C.n 1 < 0 then false else (hasB l nExp || C.f 3 || decide (C.n 0 ≥ 0) || decide (C.n 1 ≥ 0) || isKept code)))) (.ptr k2 0) (.ptr k3 0) (.ptr k6 0) (h1 ++ T) := by
  
  unfold k_storing_May_4
  simp (maxSteps := 4000000) only [vm, vl, Arg.get, cells, stor, boundO, resultsV, resV, partK, loadV, Vm.part, fillC, splice, reduceIte, reduceCtorEq, Nat.reduceEqDiff, Nat.reduceAdd, Nat.reduceSub, Nat.reduceMul, Nat.reduceLeDiff, ne_eq, not_false_eq_true, Int.reduceEq, Int.reduceLT, Int.reduceLE, Int.reduceNeg, Int.reduceToNat, Int.reduceGT, Int.reduceGE, Nat.reduceLT, Nat.lt_add_one, Nat.zero_lt_succ, Nat.succ_pos, Nat.zero_le, beq_self_eq_true, hb2, hb3]
  refine Cf.pu (has_ok (name := nRange) hxa (by omega) hlna (by simp [nRange])) fun u1 => ?_
  simp (maxSteps := 4000000) only [vm, vl, Arg.get, cells, stor, boundO, resultsV, resV, partK, loadV, Vm.part, fillC, splice, reduceIte, reduceCtorEq, Nat.reduceEqDiff, Nat.reduceAdd, Nat.reduceSub, Nat.reduceMul, Nat.reduceLeDiff, ne_eq, not_false_eq_true, Int.reduceEq, Int.reduceLT, Int.reduceLE, Int.reduceNeg, Int.reduceToNat, Int.reduceGT, Int.reduceGE, Nat.reduceLT, Nat.lt_add_one, Nat.zero_lt_succ, Nat.succ_pos, Nat.zero_le, beq_self_eq_true]
  refine Cf.pu known_ok fun u2 => ?_
  have tail : ∀ (t : Heap), Cf F L i_storing_has [x, .str [65, 117, 116, 104, 111, 114, 105, 122, 97, 116, 105, 111, 110]] (h1 ++ (T ++ t)) fun v45 h' => k_storing_May_2 L (Pu h1 (.bool (if hasB la nAuth = true ∧ C.f 3 = false ∧ C.f 4 = false ∧ C.n 1 < 0 then false else (hasB l nExp || C.f 3 || decide (C.n 0 ≥ 0) || decide (C.n 1 ≥ 0) || isKept code)))) (.ptr k3 0) (.ptr k6 0) v45 h' := by
    intro t
    refine Cf.pu (has_ok (name := nAuth) hxa (by omega) hlna (by simp [nAuth])) fun u5 => ?_
    rw [List.append_assoc, List.append_assoc]
    exact May2_ok (gold hb3) (gold hb6) hx hl hln
  generalize (if hasB la nAuth = true ∧ C.f 3 = false ∧ C.f 4 = false ∧ C.n 1 < 0 then false else (hasB l nExp || C.f 3 || decide (C.n 0 ≥ 0) || decide (C.n 1 ≥ 0) || isKept code)) = R at *
  have hb2' := fun t => gold (u := t) hb2
  have hb3' := fun t => gold (u := t) hb3
  cases hk : knownB code (hasB la nRange) with
  | false =>
    rw [if_pos (.inl rfl)]
    simp (maxSteps := 4000000) only [vm, vl, Arg.get, cells, stor, boundO, resultsV, resV, partK, loadV, Vm.part, fillC, splice, reduceIte, reduceCtorEq, Nat.reduceEqDiff, Nat.reduceAdd, Nat.reduceSub, Nat.reduceMul, Nat.reduceLeDiff, ne_eq, not_false_eq_true, Int.reduceEq, Int.reduceLT, Int.reduceLE, Int.reduceNeg, Int.reduceToNat, Int.reduceGT, Int.reduceGE, Nat.reduceLT, Nat.lt_add_one, Nat.zero_lt_succ, Nat.succ_pos, Nat.zero_le, beq_self_eq_true, k_storing_May_3, Bool.not_false]
  | true =>
    simp (maxSteps := 4000000) only [vm, vl, Arg.get, cells, stor, boundO, resultsV, resV, partK, loadV, Vm.part, fillC, splice, reduceIte, reduceCtorEq, Nat.reduceEqDiff, Nat.reduceAdd, Nat.reduceSub, Nat.reduceMul, Nat.reduceLeDiff, ne_eq, not_false_eq_true, Int.reduceEq, Int.reduceLT, Int.reduceLE, Int.reduceNeg, Int.reduceToNat, Int.reduceGT, Int.reduceGE, Nat.reduceLT, Nat.lt_add_one, Nat.zero_lt_succ, Nat.succ_pos, Nat.zero_le, beq_self_eq_true, hb3', Bool.not_true, List.append_assoc]
    refine Cf.pu (varies_ok HJ hx hl hln hsm) fun u3 => ?_
    cases hv : varyB l with
    | true =>
      rw [if_pos (.inr rfl)]
      simp (maxSteps := 4000000) only [vm, vl, Arg.get, cells, stor, boundO, resultsV, resV, partK, loadV, Vm.part, fillC, splice, reduceIte, reduceCtorEq, Nat.reduceEqDiff, Nat.reduceAdd, Nat.reduceSub, Nat.reduceMul, Nat.reduceLeDiff, ne_eq, not_false_eq_true, Int.reduceEq, Int.reduceLT, Int.reduceLE, Int.reduceNeg, Int.reduceToNat, Int.reduceGT, Int.reduceGE, Nat.reduceLT, Nat.lt_add_one, Nat.zero_lt_succ, Nat.succ_pos, Nat.zero_le, beq_self_eq_true, k_storing_May_3]
    | false =>
      rw [if_neg (by simp)]
      simp (maxSteps := 4000000) only [vm, vl, Arg.get, cells, stor, boundO, resultsV, resV, partK, loadV, Vm.part, fillC, splice, reduceIte, reduceCtorEq, Nat.reduceEqDiff, Nat.reduceAdd, Nat.reduceSub, Nat.reduceMul, Nat.reduceLeDiff, ne_eq, not_false_eq_true, Int.reduceEq, Int.reduceLT, Int.reduceLE, Int.reduceNeg, Int.reduceToNat, Int.reduceGT, Int.reduceGE, Nat.reduceLT, Nat.lt_add_one, Nat.zero_lt_succ, Nat.succ_pos, Nat.zero_le, beq_self_eq_true, k_storing_May_3, hb2', List.append_assoc]
      exact tail _
theorem two_boxes {hh : Heap} {A C : Ct} {K : V → V → Heap → Prop} (hk : K (.ptr hh.length 0) (.ptr (hh.length + 1) 0) (hh ++ [.box (ctV A), .box (ctV C)])) :
    wi F L (.boxz [.bool false, .bool false, .bool false, .bool false, .bool false, .bool false, .bool false, .int .i64 0, .int .i64 0, .int .i64 0, .int .i64 0, .int .i64 0, .int .i64 0]) E0 hh fun v5 h' => Ext hh h' ∧ wi F L (.boxz [.bool false, .bool false, .bool false, .bool false, .bool false, .bool false, .bool false, .int .i64 0, .int .i64 0, .int .i64 0, .int .i64 0, .int .i64 0, .int .i64 0]) E0 h' fun v6 h => Ext h' h ∧ wi F L (.store 13 (.c v5) (.c (.agg (ctV A)))) E0 h fun _ h => wi F L (.store 13 (.c v6) (.c (.agg (ctV C)))) E0 h fun _ h => K v5 v6 h := by
  
  have e13 : ([.bool false, .bool false, .bool false, .bool false, .bool false, .bool false, .bool false, .int .i64 0, .int .i64 0, .int .i64 0, .int .i64 0, .int .i64 0, .int .i64 0] : List V).length = 13 := rfl
  have d13 : List.drop 13 ([.bool false, .bool false, .bool false, .bool false, .bool false, .bool false, .bool false, .int .i64 0, .int .i64 0, .int .i64 0, .int .i64 0, .int .i64 0, .int .i64 0] : List V) = [] := rfl
  generalize ([.bool false, .bool false, .bool false, .bool false, .bool false, .bool false, .bool false, .int .i64 0, .int .i64 0, .int .i64 0, .int .i64 0, .int .i64 0, .int .i64 0] : List V) = z at *
  have g5 : (hh ++ [O.box z, O.box z])[hh.length]? = some (O.box z) := by rw [List.getElem?_append_right (Nat.le_refl _), Nat.sub_self]; rfl
  have g6 : ∀ X, (hh ++ [X, O.box z])[hh.length + 1]? = some (O.box z) := fun X => by rw [List.getElem?_append_right (Nat.le_add_right _ _), Nat.add_sub_cancel_left]; rfl
  have e5 : ∀ X, (hh ++ [O.box z, O.box z]).set hh.length X = hh ++ [X, O.box z] := fun X => by rw [List.set_append_right _ _ (Nat.le_refl _), Nat.sub_self]; rfl
  have e6 : ∀ X Y, (hh ++ [X, O.box z]).set (hh.length + 1) Y = hh ++ [X, Y] := fun X Y => by rw [List.set_append_right _ _ (Nat.le_add_right _ _), Nat.add_sub_cancel_left]; rfl
  have hA := ctV_len A
  have hC := ctV_len C
  simp (maxSteps := 4000000) only [vm, vl, Arg.get, cells, stor, boundO, resultsV, resV, partK, loadV, Vm.part, fillC, splice, reduceIte, reduceCtorEq, Nat.reduceEqDiff, Nat.reduceAdd, Nat.reduceSub, Nat.reduceMul, Nat.reduceLeDiff, ne_eq, not_false_eq_true, Int.reduceEq, Int.reduceLT, Int.reduceLE, Int.reduceNeg, Int.reduceToNat, Int.reduceGT, Int.reduceGE, Nat.reduceLT, Nat.lt_add_one, Nat.zero_lt_succ, Nat.succ_pos, Nat.zero_le, beq_self_eq_true, g5, g6, e5, e6, e13, d13, hA, hC, List.append_nil]
  exact hk
theorem May5_ok (HJ : JoinOk L) {p y x a c z : V} {m : Bs} {code : Int} {la l : List Fld} {T : Heap} (hT0 : T[0]? = some (O.box [.str m, p, y, x])) (hT1 : T[1]? = some (O.box [a, .int .i64 code, c, z]))
    (hxa : ListV 2 x (flds la)) (hla : la.length < 100000) (hlna : ∀ f ∈ la, f.1.length ≤ 140737488355328)
    (hx : ListV 2 z (flds l)) (hl : l.length < 100000) (hln : ∀ f ∈ l, f.1.length ≤ 140737488355328) (hsm : sumF l < 100000) :
    k_storing_May_5 L (Pu h (.bool (mayB m la code l))) (.ptr h.length 0) (.ptr (h.length + 1) 0) (.agg (ctV (ofC la))) (.agg (ctV (ofC l))) (h ++ T) := by
  
  unfold k_storing_May_5 mayB
  refine two_boxes ?_
  have hb2 : (h ++ T ++ [O.box (ctV (ofC la)), O.box (ctV (ofC l))])[h.length]? = some (O.box [.str m, p, y, x]) := get_old (by rw [List.getElem?_append_right (Nat.le_refl _), Nat.sub_self, hT0])
  have hb3 : (h ++ T ++ [O.box (ctV (ofC la)), O.box (ctV (ofC l))])[h.length + 1]? = some (O.box [a, .int .i64 code, c, z]) := get_old (by rw [List.getElem?_append_right (Nat.le_add_right _ _), Nat.add_sub_cancel_left, hT1])
  have hb5 : (h ++ T ++ [O.box (ctV (ofC la)), O.box (ctV (ofC l))])[(h ++ T).length]? = some (O.box (ctV (ofC la))) := by rw [List.getElem?_append_right (Nat.le_refl _), Nat.sub_self]; rfl
  have hb6 : (h ++ T ++ [O.box (ctV (ofC la)), O.box (ctV (ofC l))])[(h ++ T).length + 1]? = some (O.box (ctV (ofC l))) := by rw [List.getElem?_append_right (Nat.le_add_right _ _), Nat.add_sub_cancel_left]; rfl
  generalize hk5 : (h ++ T).length = k5 at *
  rw [List.append_assoc] at *
  generalize hT' : T ++ [O.box (ctV (ofC la)), O.box (ctV (ofC l))] = T' at *
  have M := May4_ok HJ hb2 hb3 hb6 hxa hla hlna hx hl hln hsm
  generalize (if knownB code (hasB la nRange) = false ∨ varyB l = true then false else if hasB la nAuth = true ∧ (ofC l).f 3 = false ∧ (ofC l).f 4 = false ∧ (ofC l).n 1 < 0 then false else (hasB l nExp || (ofC l).f 3 || decide ((ofC l).n 0 ≥ 0) || decide ((ofC l).n 1 ≥ 0) || isKept code)) = R at *
  have hcA := ctV_len (ofC la)
  have hcC := ctV_len (ofC l)
  have a0 : (ctV (ofC la)).getD 0 (.tup []) = .bool ((ofC la).f 0) := rfl
  have c0 : (ctV (ofC l)).getD 0 (.tup []) = .bool ((ofC l).f 0) := rfl
  have c2 : (ctV (ofC l)).getD 2 (.tup []) = .bool ((ofC l).f 2) := rfl
  clear hT' hk5
  generalize ctV (ofC la) = A at *
  generalize ctV (ofC l) = C at *
  generalize (ofC la).f 0 = b1 at *
  generalize (ofC l).f 0 = b2 at *
  generalize (ofC l).f 2 = b3 at *
  by_cases hm : m = [71, 69, 84]
  case neg =>
    rw [if_pos (.inl hm)]
    have ne : (m == [71, 69, 84]) = false := by simpa using hm
    simp (maxSteps := 4000000) only [vm, vl, Arg.get, cells, stor, boundO, resultsV, resV, partK, loadV, Vm.part, fillC, splice, reduceIte, reduceCtorEq, Nat.reduceEqDiff, Nat.reduceAdd, Nat.reduceSub, Nat.reduceMul, Nat.reduceLeDiff, ne_eq, not_false_eq_true, Int.reduceEq, Int.reduceLT, Int.reduceLE, Int.reduceNeg, Int.reduceToNat, Int.reduceGT, Int.reduceGE, Nat.reduceLT, Nat.lt_add_one, Nat.zero_lt_succ, Nat.succ_pos, Nat.zero_le, beq_self_eq_true, hb2, ne, Bool.not_false]
  subst hm
  cases b1 with
  | true =>
    rw [if_pos (by simp)]
    simp (maxSteps := 4000000) only [vm, vl, Arg.get, cells, stor, boundO, resultsV, resV, partK, loadV, Vm.part, fillC, splice, reduceIte, reduceCtorEq, Nat.reduceEqDiff, Nat.reduceAdd, Nat.reduceSub, Nat.reduceMul, Nat.reduceLeDiff, ne_eq, not_false_eq_true, Int.reduceEq, Int.reduceLT, Int.reduceLE, Int.reduceNeg, Int.reduceToNat, Int.reduceGT, Int.reduceGE, Nat.reduceLT, Nat.lt_add_one, Nat.zero_lt_succ, Nat.succ_pos, Nat.zero_le, beq_self_eq_true, hb2, hb5, hcA, a0, bne_self_eq_false]
  | false =>
    cases b2 with
    | true =>
      rw [if_pos (by simp)]
      simp (maxSteps := 4000000) only [vm, vl, Arg.get, cells, stor, boundO, resultsV, resV, partK, loadV, Vm.part, fillC, splice, reduceIte, reduceCtorEq, Nat.reduceEqDiff, Nat.reduceAdd, Nat.reduceSub, Nat.reduceMul, Nat.reduceLeDiff, ne_eq, not_false_eq_true, Int.reduceEq, Int.reduceLT, Int.reduceLE, Int.reduceNeg, Int.reduceToNat, Int.reduceGT, Int.reduceGE, Nat.reduceLT, Nat.lt_add_one, Nat.zero_lt_succ, Nat.succ_pos, Nat.zero_le, beq_self_eq_true, hb2, hb5, hcA, a0, hb6, hcC, c0, bne_self_eq_false]
    | false =>
      cases b3 with
      | true =>
        rw [if_pos (by simp)]
        simp (maxSteps := 4000000) only [vm, vl, Arg.get, cells, stor, boundO, resultsV, resV, partK, loadV, Vm.part, fillC, splice, reduceIte, reduceCtorEq, Nat.reduceEqDiff, Nat.reduceAdd, Nat.reduceSub, Nat.reduceMul, Nat.reduceLeDiff, ne_eq, not_false_eq_true, Int.reduceEq, Int.reduceLT, Int.reduceLE, Int.reduceNeg, Int.reduceToNat, Int.reduceGT, Int.reduceGE, Nat.reduceLT, Nat.lt_add_one, Nat.zero_lt_succ, Nat.succ_pos, Nat.zero_le, beq_self_eq_true, hb2, hb5, hcA, a0, hb6, hcC, c0, c2, bne_self_eq_false]
      | false =>
        rw [if_neg (by simp)]
        simp (maxSteps := 4000000) only [vm, vl, Arg.get, cells, stor, boundO, resultsV, resV, partK, loadV, Vm.part, fillC, splice, reduceIte, reduceCtorEq, Nat.reduceEqDiff, Nat.reduceAdd, Nat.reduceSub, Nat.reduceMul, Nat.reduceLeDiff, ne_eq, not_false_eq_true, Int.reduceEq, Int.reduceLT, Int.reduceLE, Int.reduceNeg, Int.reduceToNat, Int.reduceGT, Int.reduceGE, Nat.reduceLT, Nat.lt_add_one, Nat.zero_lt_succ, Nat.succ_pos, Nat.zero_le, beq_self_eq_true, hb2, hb5, hcA, a0, hb6, hcC, c0, c2, bne_self_eq_false]
        exact M
theorem May_ok (HJ : JoinOk L) (HI : IndexOk L) (HU : UnqOk L) {p y x a c z : V} {m : Bs} {code : Int} {la l : List Fld}
    (hxa : ListV 2 x (flds la)) (hla : la.length < 100000) (hlna : ∀ f ∈ la, f.1.length ≤ 140737488355328) (hsma : sumF la < 100000)
    (hx : ListV 2 z (flds l)) (hl : l.length < 100000) (hln : ∀ f ∈ l, f.1.length ≤ 140737488355328) (hsm : sumF l < 100000) :
    Cf F L i_storing_May [.agg [.str m, p, y, x], .agg [a, .int .i64 code, c, z]] h (Pu h (.bool (mayB m la code l))) := by
  refine run_storing_May ?_
  simp only [p_storing_May]
  
  simp (maxSteps := 4000000) only [vm, vl, Arg.get, cells, stor, boundO, resultsV, resV, partK, loadV, Vm.part, fillC, splice, reduceIte, reduceCtorEq, Nat.reduceEqDiff, Nat.reduceAdd, Nat.reduceSub, Nat.reduceMul, Nat.reduceLeDiff, ne_eq, not_false_eq_true, Int.reduceEq, Int.reduceLT, Int.reduceLE, Int.reduceNeg, Int.reduceToNat, Int.reduceGT, Int.reduceGE, Nat.reduceLT, Nat.lt_add_one, Nat.zero_lt_succ, Nat.succ_pos, Nat.zero_le, beq_self_eq_true, k_storing_May_6]
  refine Cf.pu (Of_ok HJ HI HU hxa hla hlna hsma) fun u1 => ?_
  have hb3 : ∀ t, (h ++ (O.box [.str m, p, y, x] :: O.box [a, .int .i64 code, c, z] :: t))[h.length + 1]? = some (O.box [a, .int .i64 code, c, z]) := fun t => by
    rw [List.getElem?_append_right (Nat.le_add_right _ _), Nat.add_sub_cancel_left]; rfl
  simp (maxSteps := 4000000) only [vm, vl, Arg.get, cells, stor, boundO, resultsV, resV, partK, loadV, Vm.part, fillC, splice, reduceIte, reduceCtorEq, Nat.reduceEqDiff, Nat.reduceAdd, Nat.reduceSub, Nat.reduceMul, Nat.reduceLeDiff, ne_eq, not_false_eq_true, Int.reduceEq, Int.reduceLT, Int.reduceLE, Int.reduceNeg, Int.reduceToNat, Int.reduceGT, Int.reduceGE, Nat.reduceLT, Nat.lt_add_one, Nat.zero_lt_succ, Nat.succ_pos, Nat.zero_le, beq_self_eq_true, hb3]
  refine Cf.pu (Of_ok HJ HI HU hx hl hln hsm) fun u2 => ?_
  rw [List.append_assoc]
  refine ⟨by simp (maxSteps := 4000000) only [vm, vl, Arg.get, cells, stor, boundO, resultsV, resV, partK, loadV, Vm.part, fillC, splice, reduceIte, reduceCtorEq, Nat.reduceEqDiff, Nat.reduceAdd, Nat.reduceSub, Nat.reduceMul, Nat.reduceLeDiff, ne_eq, not_false_eq_true, Int.reduceEq, Int.reduceLT, Int.reduceLE, Int.reduceNeg, Int.reduceToNat, Int.reduceGT, Int.reduceGE, Nat.reduceLT, Nat.lt_add_one, Nat.zero_lt_succ, Nat.succ_pos, Nat.zero_le, beq_self_eq_true], ?_⟩
  exact May5_ok HJ rfl rfl hxa hla hlna hx hl hln hsm
end Go.Proofs.YtaahialaegfjgaaDoor.Vh
end
section
set_option linter.unusedVariables false
set_option linter.unusedSimpArgs false
namespace Go.Proofs.YtaahialaegfjgaaDoor.Vh
open Go.Vm Go.Vt
theorem rv_texts {B : Nat} {G : Gh} {w : World} {x : V} {l : List Bs} {v : Value} (hx : ListV 1 x (strs l)) (h : Rv B G w x v) : (l = [] ∧ ∃ a cap, v = .slice a 0 cap) ∨ (l ≠ [] ∧ ∃ b o cap, v = .slice (some ⟨b, o, none⟩) l.length cap ∧ l.length ≤ cap ∧ ∀ (j : Nat) s, l[j]? = some s → w.cell? ⟨b, o + j, none⟩ = some (.string ⟨s.toArray⟩)) := by
  rcases hx with ⟨he, rfl⟩ | ⟨own, rfl⟩
  · have : l = [] := by simpa [strs] using he
    subst this
    cases h
    exact .inl ⟨rfl, _, _, rfl⟩
  · generalize he : strs l = es at h
    cases h with
    | sl vs hsz hsp hcap hc h1 hr hfull htip =>
      rename_i a cap
      subst he
      rcases List.eq_nil_or_concat l with rfl | hcc
      · exact .inl ⟨rfl, _, _, rfl⟩
      · have hne : l ≠ [] := by rintro rfl; obtain ⟨l', b, h⟩ := hcc; simp at h
        have ha := hsp (by simpa [strs] using hne)
        have hf : flat (strs l) = strs l := flat_ones (by intro e he; obtain ⟨s, _, rfl⟩ := List.mem_map.1 he; rfl)
        obtain ⟨ab, ao, asp⟩ := a
        simp only at ha; subst ha
        refine .inr ⟨hne, ab, ao, cap, by rw [strs_len], by rwa [strs_len] at hcap, fun j s hj => ?_⟩
        have hjl := (List.getElem?_eq_some_iff.1 hj).1
        have h2 := (hc j (by rw [hf, strs_len]; exact hjl)).2
        have h3 := hr j (.str s) (by rw [hf]; simp [strs, hj])
        simp only at h2
        generalize hv : vs j = vj at h2 h3
        cases h3
        exact h2
def LJoin : FuncId → List V → V → Prop := fun f args v => f = i_strings_Join ∧ ∃ (x : V) (l : List Bs), ListV 1 x (strs l) ∧ l.length ≤ 140737488355328 ∧ (joinS l).length ≤ 140737488355328 ∧ args = [x, .str [44, 32]] ∧ v = .str (joinS l)
theorem join_at (w0 : World) : LibAt Tryd.prog w0 LJoin := by
  rintro f args v ⟨rfl, x, l, hx, hl, hj, rfl, rfl⟩
  refine ⟨by kernel_rfl, good_below fun B G h w vs hr hb hv => ?_⟩
  obtain ⟨a, b, rfl, ha, hs⟩ := rvs_two hv
  cases hs
  rcases rv_texts hx ha with ⟨rfl, a', cap, rfl⟩ | ⟨hne, bk, o, cap, rfl, hcap, hc⟩
  · refine (Tryd.strings_Join_none a' cap _ w).mono fun e w' ⟨h1, h2⟩ => ?_
    subst h2
    exact ⟨_, h1, .str [], Go.RowKit.Below.refl ..⟩
  · have hlt : bk < w.heap.size := by
      obtain ⟨s, hs⟩ : ∃ s, l[0]? = some s := by
        cases l with
        | nil => exact absurd rfl hne
        | cons s _ => exact ⟨s, rfl⟩
      exact World.block_lt_of_cell? w _ (hc 0 s hs)
    have hm : (l.map fun s : Bs => (⟨s.toArray⟩ : ByteArray)).map (fun x => x.data.toList) = l := by rw [List.map_map]; exact List.map_id' l
    have := Tryd.strings_Join bk o cap (l.map fun s => ⟨s.toArray⟩) ⟨[44, 32].toArray⟩ w (by
        intro j x hx
        rw [List.getElem?_map] at hx
        obtain ⟨s, h1, rfl⟩ := Option.map_eq_some_iff.1 hx
        exact hc j s h1) hlt (by simpa using hl) (by simpa using hcap) (by rw [hm]; exact hj)
    rw [hm, List.length_map] at this
    exact this.mono fun e w' ⟨h1, h2⟩ => ⟨_, h1, .str _, h2⟩
theorem joinOk {L : FuncId → List V → V → Prop} (hL : ∀ f a v, LJoin f a v → L f a v) : JoinOk L := by
  intro x l h hx hl hj
  exact wlib (hL _ _ _ ⟨rfl, x, l, hx, by omega, hj, rfl, rfl⟩) ⟨rfl, [], by simp⟩
end Go.Proofs.YtaahialaegfjgaaDoor.Vh
end
section
set_option linter.unusedVariables false
set_option linter.unusedSimpArgs false
namespace Go.Proofs.YtaahialaegfjgaaDoor.Vh
open Go.Vm Go.Vt
theorem open_none : ∀ {t own : Bs} {out : List Bs}, (∀ c ∈ t, c ≠ 34 ∧ c ≠ 92) → splitG t own true out = none
  | [], own, out, _ => rfl
  | c :: t, own, out, h => by
    have hc := h c (by simp)
    rw [splitG_step, if_neg hc.1, if_neg (by simp [hc.2]), if_neg (by simp)]
    exact open_none fun d hd => h d (by simp [hd])
theorem split_tail {t : Bs} {ws : List Bs} (ht : ∀ c ∈ t, c ≠ 34 ∧ c ≠ 92) (hw : ∀ X, splitG (32 :: t) [] false X = some (X ++ ws)) :
    ∀ (n : Nat) (s own : Bs) (q : Bool) (out : List Bs), s.length ≤ n → splitG (s ++ 44 :: 32 :: t) own q out = none ∨ ∃ l, splitG (s ++ 44 :: 32 :: t) own q out = some (l ++ ws)
  | n, [], own, q, out, _ => by
    have h2 : ∀ c ∈ (44 :: 32 :: t : Bs), c ≠ 34 ∧ c ≠ 92 := by
      intro c hc
      rcases List.mem_cons.1 hc with rfl | hc
      · decide
      rcases List.mem_cons.1 hc with rfl | hc
      · decide
      · exact ht c hc
    cases q with
    | true => exact .inl (open_none h2)
    | false =>
      right
      rw [List.nil_append, splitG_comma, hw]
      exact ⟨_, rfl⟩
  | 0, c :: s, own, q, out, hn => by simp at hn
  | n + 1, c :: s, own, q, out, hn => by
    simp only [List.length_cons, Nat.add_le_add_iff_right] at hn
    rw [List.cons_append, splitG_step]
    split
    · exact split_tail ht hw n s _ _ _ hn
    split
    · rename_i h1 h2
      cases s with
      | nil =>
        have hq : q = true := by cases q <;> simp_all
        subst hq
        left
        rw [List.nil_append]
        simp only
        exact open_none (by
          intro c hc
          rcases List.mem_cons.1 hc with rfl | hc
          · decide
          · exact ht c hc)
      | cons d s =>
        rw [List.cons_append]
        simp only
        exact split_tail ht hw n s _ _ _ (by simp at hn; omega)
    split
    · exact split_tail ht hw n s _ _ _ hn
    · exact split_tail ht hw n s _ _ _ hn
theorem join_tail {vs : List Bs} {t : Bs} {ws : List Bs} (ht : ∀ c ∈ t, c ≠ 34 ∧ c ≠ 92) (hw : ∀ X, splitG (32 :: t) [] false X = some (X ++ ws)) (h0 : split t = some ws) :
    split (joinS (vs ++ [t])) = none ∨ ∃ l, split (joinS (vs ++ [t])) = some (l ++ ws) := by
  rw [joinS_snoc]
  split
  · exact .inr ⟨[], by rw [h0]; rfl⟩
  · have := split_tail ht hw _ (joinS vs) [] false [] (Nat.le_refl _)
    have e : joinS vs ++ [44, 32] ++ t = joinS vs ++ 44 :: 32 :: t := by simp
    rw [e]
    exact this
def nS : Bs := [110, 111, 45, 115, 116, 111, 114, 101]
def prS : Bs := [112, 114, 105, 118, 97, 116, 101]
def aStar : Bs := [97, 44, 32, 42]
theorem flush_one {out : List Bs} {x : Bs} (h : Firm x) : flush out (32 :: x) = out ++ [x] := by
  have := flush_firm (out := out) h (p := [32]) (q := []) (.inr (.inr rfl)) (.inl rfl)
  simpa using this
theorem pre_tok {x : Bs} (h : isTok x = true) (X : List Bs) : splitG (32 :: x) [] false X = some (X ++ [x]) := by
  have e : (32 :: x : Bs) = ([32] ++ x) ++ [] := by simp
  have r : Runs ([32] ++ x) := Runs.app (Runs.one (by decide) (by decide)) (Runs.tok (isTok_all h))
  rw [e, r [] [] X]
  show some (flush X ([] ++ ([32] ++ x))) = _
  rw [List.nil_append]
  exact congrArg some (flush_one (Firm.tok h))
theorem pre_star (X : List Bs) : splitG (32 :: aStar) [] false X = some (X ++ [[97], [42]]) := by
  have e : (32 :: aStar : Bs) = ([32] ++ [97]) ++ 44 :: (32 :: [42]) := rfl
  have r : Runs ([32] ++ [97]) := Runs.app (Runs.one (by decide) (by decide)) (Runs.one (by decide) (by decide))
  rw [e, r _ [] X, splitG_comma, pre_tok (by decide +kernel)]
  rw [List.nil_append]
  have : flush X ([32] ++ [97]) = X ++ [[97]] := flush_one (Firm.tok (by decide +kernel))
  rw [this]
  simp
theorem says_store (vs : List Bs) : (parseC (joinS (vs ++ [nS]))).1.f 0 = true := by
  unfold parseC
  rcases join_tail (vs := vs) (t := nS) (ws := [nS]) (by decide) (pre_tok (by decide +kernel)) (by decide +kernel) with h | ⟨l, h⟩
  · rw [h]; rfl
  · rw [h]
    simp only [List.foldl_append, List.foldl_cons, List.foldl_nil]
    have : actS nS = .flag 0 := by decide +kernel
    unfold stepC
    rw [this]
    simp [applyA, setF]
theorem says_private (vs : List Bs) : (parseC (joinS (vs ++ [prS]))).1.f 2 = true ∨ (parseC (joinS (vs ++ [prS]))).1.f 0 = true := by
  unfold parseC
  rcases join_tail (vs := vs) (t := prS) (ws := [prS]) (by decide) (pre_tok (by decide +kernel)) (by decide +kernel) with h | ⟨l, h⟩
  · rw [h]; exact .inr rfl
  · rw [h]
    left
    simp only [List.foldl_append, List.foldl_cons, List.foldl_nil]
    have : actS prS = .flag 2 := by decide +kernel
    unfold stepC
    rw [this]
    simp [applyA, setF]
theorem says_star (vs : List Bs) : (match split (joinS (vs ++ [aStar])) with | none => true | some ws => ws.contains [42]) = true := by
  rcases join_tail (vs := vs) (t := aStar) (ws := [[97], [42]]) (by decide) pre_star (by decide +kernel) with h | ⟨l, h⟩
  · rw [h]
  · rw [h]; simp
end Go.Proofs.YtaahialaegfjgaaDoor.Vh
end
section
set_option linter.unusedVariables false
set_option linter.unusedSimpArgs false
namespace Go.Proofs.YtaahialaegfjgaaDoor.Vh
open Go.Vm Go.Vt
attribute [local congr] wi_congr wg_congr wgd_congr wb_congr wl_congr cf_congr
variable {L : FuncId → List V → V → Prop} {h : Heap}
theorem few10_ok {x : V} {l : List Fld} (hx : ListV 2 x (flds l)) (hl : l.length ≤ 140737488351232) (hz : ∀ f ∈ l, f.1.length ≤ 140737488351232 ∧ f.2.length ≤ 140737488351232) :
    Cf F L i_gatepostlaw10_few [x] h (Pu h (.bool (decide (20 * l.length + sumF l < 3000)))) := by
  refine run_gatepostlaw10_few ?_
  simp only [p_gatepostlaw10_few]
  have l1 := fun {K : V → Heap → Prop} {h : Heap} => hx.len (F := F) (L := L) (e := E0) (K := K) (h := h)
  simp only [flds_len] at l1
  have w20 := wrap64 (x := 20 * (l.length : Int)) (by omega) (by omega)
  simp (maxSteps := 4000000) only [vm, vl, Arg.get, cells, stor, boundO, resultsV, resV, partK, loadV, Vm.part, fillC, splice, reduceIte, reduceCtorEq, Nat.reduceEqDiff, Nat.reduceAdd, Nat.reduceSub, Nat.reduceMul, Nat.reduceLeDiff, ne_eq, not_false_eq_true, Int.reduceEq, Int.reduceLT, Int.reduceLE, Int.reduceNeg, Int.reduceToNat, Int.reduceGT, Int.reduceGE, Nat.reduceLT, Nat.lt_add_one, Nat.zero_lt_succ, Nat.succ_pos, Nat.zero_le, beq_self_eq_true, k_gatepostlaw10_few_0, k_gatepostlaw10_few_2, k_gatepostlaw10_few_1, l1, w20]
  refine l_gatepostlaw10_few_0 (fun n e h' => ∃ i, n = l.length - i ∧ i ≤ l.length ∧ e 0 = x ∧ e 3 = .int .i64 ((20 * l.length + sumF (l.take i) : Nat)) ∧ e 4 = .int .i64 i ∧ ∃ t, h' = h ++ t) ?_ (n := l.length) ⟨0, by simp, by simp, rfl, by simp [upd, sumF], rfl, [], by simp⟩
  rintro n e h' ⟨i, rfl, hi, e0, e3, e4, t, rfl⟩
  simp only [b_gatepostlaw10_few_0]
  generalize hS : 20 * l.length + sumF (l.take i) = S at *
  have hmono := sumF_le l i
  rcases list_at ([], []) hi with ⟨hn, rfl, hd⟩ | ⟨hl1, hl2, hd, htk⟩
  · rw [List.take_of_length_le (Nat.le_refl _)] at hS
    have d : decide ((S : Int) < 3000) = decide (20 * l.length + sumF l < 3000) := by rw [hS]; exact decide_eq_decide.2 (by omega)
    simp (maxSteps := 4000000) only [vm, vl, Arg.get, cells, stor, boundO, resultsV, resV, partK, loadV, Vm.part, fillC, splice, reduceIte, reduceCtorEq, Nat.reduceEqDiff, Nat.reduceAdd, Nat.reduceSub, Nat.reduceMul, Nat.reduceLeDiff, ne_eq, not_false_eq_true, Int.reduceEq, Int.reduceLT, Int.reduceLE, Int.reduceNeg, Int.reduceToNat, Int.reduceGT, Int.reduceGE, Nat.reduceLT, Nat.lt_add_one, Nat.zero_lt_succ, Nat.succ_pos, Nat.zero_le, beq_self_eq_true, k_gatepostlaw10_few_0, k_gatepostlaw10_few_2, k_gatepostlaw10_few_1, e0, e3, e4, hn, l1, d]
  · by_cases hs : (S : Int) < 3000
    · have w := wrap64 (x := (i : Int) + 1) (by omega) (by omega)
      have i1 := fun {K : V → Heap → Prop} {h : Heap} => hx.at (F := F) (L := L) (e := E0) (K := K) (h := h) (i := i) (by rw [flds_len]; exact hl2)
      have a1 := flds_at hl2
      have hmem : l.getD i ([], []) ∈ l := by
        rw [List.getD_eq_getElem?_getD, List.getElem?_eq_getElem hl2]; exact List.getElem_mem _
      have hst := sumF_take hl2
      have hzf := hz _ hmem
      generalize hf : l.getD i ([], []) = f at *
      have w1 := wrap64 (x := (S : Int) + f.1.length) (by omega) (by omega)
      have w2 := wrap64 (x := (S : Int) + f.1.length + f.2.length) (by omega) (by omega)
      simp (maxSteps := 4000000) only [vm, vl, Arg.get, cells, stor, boundO, resultsV, resV, partK, loadV, Vm.part, fillC, splice, reduceIte, reduceCtorEq, Nat.reduceEqDiff, Nat.reduceAdd, Nat.reduceSub, Nat.reduceMul, Nat.reduceLeDiff, ne_eq, not_false_eq_true, Int.reduceEq, Int.reduceLT, Int.reduceLE, Int.reduceNeg, Int.reduceToNat, Int.reduceGT, Int.reduceGE, Nat.reduceLT, Nat.lt_add_one, Nat.zero_lt_succ, Nat.succ_pos, Nat.zero_le, beq_self_eq_true, k_gatepostlaw10_few_0, k_gatepostlaw10_few_2, k_gatepostlaw10_few_1, e0, e3, e4, l1, hl1, hs, i1, a1, fldV, w, w1, w2]
      exact ⟨l.length - (i + 1), by omega, i + 1, rfl, hl2, by rw [hst]; congr 1; omega, rfl, t, rfl⟩
    · have d : decide ((S : Int) < 3000) = false := by simpa using hs
      have d2 : decide (20 * l.length + sumF l < 3000) = false := by simp; omega
      simp (maxSteps := 4000000) only [vm, vl, Arg.get, cells, stor, boundO, resultsV, resV, partK, loadV, Vm.part, fillC, splice, reduceIte, reduceCtorEq, Nat.reduceEqDiff, Nat.reduceAdd, Nat.reduceSub, Nat.reduceMul, Nat.reduceLeDiff, ne_eq, not_false_eq_true, Int.reduceEq, Int.reduceLT, Int.reduceLE, Int.reduceNeg, Int.reduceToNat, Int.reduceGT, Int.reduceGE, Nat.reduceLT, Nat.lt_add_one, Nat.zero_lt_succ, Nat.succ_pos, Nat.zero_le, beq_self_eq_true, k_gatepostlaw10_few_0, k_gatepostlaw10_few_2, k_gatepostlaw10_few_1, e0, e3, e4, hl1, hs, l1, d, d2]
end Go.Proofs.YtaahialaegfjgaaDoor.Vh
end
section
set_option linter.unusedVariables false
set_option linter.unusedSimpArgs false
namespace Go.Proofs.YtaahialaegfjgaaDoor.Vh
open Go.Vm Go.Vt
attribute [local congr] wi_congr wg_congr wgd_congr wb_congr wl_congr cf_congr
variable {L : FuncId → List V → V → Prop} {h : Heap}
def ccl : Bs := [99, 97, 99, 104, 101, 45, 99, 111, 110, 116, 114, 111, 108]
theorem low_ccl : low ccl = low nCC := by decide +kernel
/-- The three fields. -/
def noneF : List Fld := [(nCC, nS), (ccl, prS), (nVary, aStar)]
theorem vals_snoc_same {l : List Fld} {a b v : Bs} (h : low a = low b) : valsOf (l ++ [(a, v)]) b = valsOf l b ++ [v] := by
  rw [vals_app, vals_one_same h]
theorem ofC_says {l : List Fld} {a v : Bs} (h : low a = low nCC) : ofC (l ++ [(a, v)]) = (parseC (joinS (valsOf l nCC ++ [v]))).1 := by
  unfold ofC
  rw [vals_snoc_same h, if_pos (by simp)]
theorem may_none {m : Bs} {la l : List Fld} {code : Int} {i : Nat} (hi : i < 3) : mayB m la code (l ++ [noneF.getD i ([], [])]) = false := by
  unfold mayB
  rcases (show i = 0 ∨ i = 1 ∨ i = 2 by omega) with rfl | rfl | rfl
  · have e : ofC (l ++ [(nCC, nS)]) = _ := ofC_says rfl
    rw [show noneF.getD 0 ([], []) = (nCC, nS) from rfl, e, if_pos (.inr (.inr (.inl (says_store _))))]
  · have e : ofC (l ++ [(ccl, prS)]) = _ := ofC_says low_ccl
    rw [show noneF.getD 1 ([], []) = (ccl, prS) from rfl, e, if_pos]
    rcases says_private (valsOf l nCC) with h | h
    · exact .inr (.inr (.inr h))
    · exact .inr (.inr (.inl h))
  · rw [show noneF.getD 2 ([], []) = (nVary, aStar) from rfl]
    split
    · rfl
    · have hv : varyB (l ++ [(nVary, aStar)]) = true := by
        unfold varyB
        rw [vals_snoc_same rfl]
        exact says_star _
      rw [if_pos (.inr hv)]
def pubF : List Fld := [(nCC, [112, 117, 98, 108, 105, 99]), (nVary, [97])]
theorem pub_f : (ofC pubF).f 0 = false ∧ (ofC pubF).f 2 = false ∧ (ofC pubF).f 3 = true ∧ varyB pubF = false := by decide +kernel
theorem ofC_nil : (ofC []).f 0 = false := by decide +kernel
theorem may_pub {code : Int} (h0 : 200 ≤ code) (h1 : code ≤ 455) : mayB [71, 69, 84] [] code pubF = decide (code ≠ 304) := by
  obtain ⟨p0, p2, p3, p4⟩ := pub_f
  unfold mayB
  rw [if_neg (by simp [p0, p2, ofC_nil])]
  have hh : ∀ n, hasB [] n = false := fun n => by simp [hasB, valsOf]
  rw [hh, hh, p4, p3]
  by_cases c : code = 304
  · subst c; rfl
  · rw [if_neg (by unfold knownB; rw [if_neg (by omega), if_neg (by simp)]; simp), if_neg (by simp)]
    simp [c]
theorem may_get {code : Int} {la l : List Fld} : mayB [103, 101, 116] la code l = false := by
  unfold mayB; rw [if_pos (.inl (by decide))]
def noF : List Fld := [(nCC, nS)]
theorem may_no {code : Int} {m : Bs} {l : List Fld} : mayB m noF code l = false := by
  unfold mayB
  rw [if_pos (.inr (.inl (by decide +kernel)))]
def getL : List V := [.str [71, 69, 84], .str [], .int .i64 0, .nsl]
def respL (code : Int) (x : V) : List V := [.int .i64 0, .int .i64 code, .str [], x]
def pubV : V := .sl 2 .full [.agg [.str nCC, .str [112, 117, 98, 108, 105, 99]], .agg [.str nVary, .str [97]]]
theorem pub_list : ListV 2 pubV (flds pubF) := .inr ⟨_, rfl⟩
theorem says2_ok (HJ : JoinOk L) (HI : IndexOk L) (HU : UnqOk L) {ib : Nat} {code : Int} (hb : h[ib]? = some (.box (respL code pubV))) : k_gatepostlaw10_StoringSays_2 L (fun v _ => v = .bool true) (.ptr ib 0) h := by
  
  unfold k_gatepostlaw10_StoringSays_2
  have A := fun hh => May_ok (L := L) (h := hh) (p := .str []) (y := .int .i64 0) (a := .int .i64 0) (c := .str []) (m := [71, 69, 84]) (code := code) HJ HI HU (la := noF) (l := pubF) (x := .sl 2 .full (flds noF)) (z := pubV) (.inr ⟨_, rfl⟩) (by decide) (by decide) (by decide) pub_list (by decide) (by decide) (by decide)
  rw [may_no] at A
  have hb' := fun t => get_old (t := t) hb
  have hl : (respL code pubV).length = 4 := rfl
  have ht : (respL code pubV).take 4 = respL code pubV := rfl
  have hd : (respL code pubV).drop 4 = [] := rfl
  simp (maxSteps := 4000000) only [vm, vl, Arg.get, cells, stor, boundO, resultsV, resV, partK, loadV, Vm.part, fillC, splice, reduceIte, reduceCtorEq, Nat.reduceEqDiff, Nat.reduceAdd, Nat.reduceSub, Nat.reduceMul, Nat.reduceLeDiff, ne_eq, not_false_eq_true, Int.reduceEq, Int.reduceLT, Int.reduceLE, Int.reduceNeg, Int.reduceToNat, Int.reduceGT, Int.reduceGE, Nat.reduceLT, Nat.lt_add_one, Nat.zero_lt_succ, Nat.succ_pos, Nat.zero_le, beq_self_eq_true, hb', hl, ht, hd, List.append_nil]
  refine Cf.pu (A _) fun u => ?_
  simp (maxSteps := 4000000) only [vm, vl, Arg.get, cells, stor, boundO, resultsV, resV, partK, loadV, Vm.part, fillC, splice, reduceIte, reduceCtorEq, Nat.reduceEqDiff, Nat.reduceAdd, Nat.reduceSub, Nat.reduceMul, Nat.reduceLeDiff, ne_eq, not_false_eq_true, Int.reduceEq, Int.reduceLT, Int.reduceLE, Int.reduceNeg, Int.reduceToNat, Int.reduceGT, Int.reduceGE, Nat.reduceLT, Nat.lt_add_one, Nat.zero_lt_succ, Nat.succ_pos, Nat.zero_le, beq_self_eq_true, Bool.not_false]
theorem says3_ok (HJ : JoinOk L) (HI : IndexOk L) (HU : UnqOk L) {ib : Nat} {code : Int} (hb : h[ib]? = some (.box (respL code pubV))) : k_gatepostlaw10_StoringSays_3 L (fun v _ => v = .bool true) (.int .i64 code) (.ptr ib 0) (.bool (decide (code ≠ 304))) h := by
  
  unfold k_gatepostlaw10_StoringSays_3
  have A := fun hh => May_ok (L := L) (h := hh) (p := .str []) (y := .int .i64 0) (a := .int .i64 0) (c := .str []) (m := [103, 101, 116]) (code := code) HJ HI HU (la := []) (l := pubF) (x := .nsl) (z := pubV) (.inl ⟨rfl, rfl⟩) (by decide) (by simp) (by decide) pub_list (by decide) (by decide) (by decide)
  rw [may_get] at A
  have hl : (respL code pubV).length = 4 := rfl
  have ht : (respL code pubV).take 4 = respL code pubV := rfl
  have fin := fun t => says2_ok (L := L) (h := h ++ t) (ib := ib) (code := code) HJ HI HU (get_old hb)
  by_cases hc : code = 304
  · have d1 : decide (code ≠ 304) = false := by simp [hc]
    have d2 : decide (code = 304) = true := by simp [hc]
    rw [d1]
    simp (maxSteps := 4000000) only [vm, vl, Arg.get, cells, stor, boundO, resultsV, resV, partK, loadV, Vm.part, fillC, splice, reduceIte, reduceCtorEq, Nat.reduceEqDiff, Nat.reduceAdd, Nat.reduceSub, Nat.reduceMul, Nat.reduceLeDiff, ne_eq, not_false_eq_true, Int.reduceEq, Int.reduceLT, Int.reduceLE, Int.reduceNeg, Int.reduceToNat, Int.reduceGT, Int.reduceGE, Nat.reduceLT, Nat.lt_add_one, Nat.zero_lt_succ, Nat.succ_pos, Nat.zero_le, beq_self_eq_true, d2, Bool.not_true, hb, hl, ht]
    refine Cf.pu (A _) fun u => ?_
    simp (maxSteps := 4000000) only [vm, vl, Arg.get, cells, stor, boundO, resultsV, resV, partK, loadV, Vm.part, fillC, splice, reduceIte, reduceCtorEq, Nat.reduceEqDiff, Nat.reduceAdd, Nat.reduceSub, Nat.reduceMul, Nat.reduceLeDiff, ne_eq, not_false_eq_true, Int.reduceEq, Int.reduceLT, Int.reduceLE, Int.reduceNeg, Int.reduceToNat, Int.reduceGT, Int.reduceGE, Nat.reduceLT, Nat.lt_add_one, Nat.zero_lt_succ, Nat.succ_pos, Nat.zero_le, beq_self_eq_true]
    exact fin u
  · have d1 : decide (code ≠ 304) = true := by simp [hc]
    have d2 : decide (code = 304) = false := by simp [hc]
    rw [d1]
    simp (maxSteps := 4000000) only [vm, vl, Arg.get, cells, stor, boundO, resultsV, resV, partK, loadV, Vm.part, fillC, splice, reduceIte, reduceCtorEq, Nat.reduceEqDiff, Nat.reduceAdd, Nat.reduceSub, Nat.reduceMul, Nat.reduceLeDiff, ne_eq, not_false_eq_true, Int.reduceEq, Int.reduceLT, Int.reduceLE, Int.reduceNeg, Int.reduceToNat, Int.reduceGT, Int.reduceGE, Nat.reduceLT, Nat.lt_add_one, Nat.zero_lt_succ, Nat.succ_pos, Nat.zero_le, beq_self_eq_true, d2, Bool.not_false, hb, hl, ht]
    refine Cf.pu (A _) fun u => ?_
    simp (maxSteps := 4000000) only [vm, vl, Arg.get, cells, stor, boundO, resultsV, resV, partK, loadV, Vm.part, fillC, splice, reduceIte, reduceCtorEq, Nat.reduceEqDiff, Nat.reduceAdd, Nat.reduceSub, Nat.reduceMul, Nat.reduceLeDiff, ne_eq, not_false_eq_true, Int.reduceEq, Int.reduceLT, Int.reduceLE, Int.reduceNeg, Int.reduceToNat, Int.reduceGT, Int.reduceGE, Nat.reduceLT, Nat.lt_add_one, Nat.zero_lt_succ, Nat.succ_pos, Nat.zero_le, beq_self_eq_true]
    exact fin u
theorem says1_ok (HJ : JoinOk L) (HI : IndexOk L) (HU : UnqOk L) {ib : Nat} {code : Int} (h0 : 200 ≤ code) (h1 : code ≤ 455) (hb : h[ib]? = some (.box getL)) : k_gatepostlaw10_StoringSays_1 L (fun v _ => v = .bool true) (.int .i64 code) (.ptr ib 0) h := by
  
  unfold k_gatepostlaw10_StoringSays_1
  have A := fun hh => May_ok (L := L) (h := hh) (p := .str []) (y := .int .i64 0) (a := .int .i64 0) (c := .str []) (m := [71, 69, 84]) (code := code) HJ HI HU (la := []) (l := pubF) (x := .nsl) (z := pubV) (.inl ⟨rfl, rfl⟩) (by decide) (by simp) (by decide) pub_list (by decide) (by decide) (by decide)
  rw [may_pub h0 h1] at A
  have hb' := fun t => get_old (t := t) hb
  have hl : getL.length = 4 := rfl
  have ht : getL.take 4 = getL := rfl
  have fin := fun t => says3_ok (L := L) (h := h ++ (O.box (respL code pubV) :: t)) (ib := h.length) (code := code) HJ HI HU (by rw [get_new0]; rfl)
  simp (maxSteps := 4000000) only [vm, vl, Arg.get, cells, stor, boundO, resultsV, resV, partK, loadV, Vm.part, fillC, splice, reduceIte, reduceCtorEq, Nat.reduceEqDiff, Nat.reduceAdd, Nat.reduceSub, Nat.reduceMul, Nat.reduceLeDiff, ne_eq, not_false_eq_true, Int.reduceEq, Int.reduceLT, Int.reduceLE, Int.reduceNeg, Int.reduceToNat, Int.reduceGT, Int.reduceGE, Nat.reduceLT, Nat.lt_add_one, Nat.zero_lt_succ, Nat.succ_pos, Nat.zero_le, beq_self_eq_true, hb', hl, ht]
  refine Cf.pu (A _) fun u => ?_
  simp (maxSteps := 4000000) only [vm, vl, Arg.get, cells, stor, boundO, resultsV, resV, partK, loadV, Vm.part, fillC, splice, reduceIte, reduceCtorEq, Nat.reduceEqDiff, Nat.reduceAdd, Nat.reduceSub, Nat.reduceMul, Nat.reduceLeDiff, ne_eq, not_false_eq_true, Int.reduceEq, Int.reduceLT, Int.reduceLE, Int.reduceNeg, Int.reduceToNat, Int.reduceGT, Int.reduceGE, Nat.reduceLT, Nat.lt_add_one, Nat.zero_lt_succ, Nat.succ_pos, Nat.zero_le, beq_self_eq_true]
  exact fin u
theorem none_at (i : Nat) (hi : i < 3) : ([.agg [.str [67, 97, 99, 104, 101, 45, 67, 111, 110, 116, 114, 111, 108], .str [110, 111, 45, 115, 116, 111, 114, 101]], .agg [.str [99, 97, 99, 104, 101, 45, 99, 111, 110, 116, 114, 111, 108], .str [112, 114, 105, 118, 97, 116, 101]], .agg [.str [86, 97, 114, 121], .str [97, 44, 32, 42]]] : List V).getD i (.tup []) = .agg [.str (noneF.getD i ([], [])).1, .str (noneF.getD i ([], [])).2] := by
  rcases (show i = 0 ∨ i = 1 ∨ i = 2 by omega) with rfl | rfl | rfl <;> rfl
theorem none_len (i : Nat) (hi : i < 3) : (noneF.getD i ([], [])).1.length ≤ 100 ∧ (noneF.getD i ([], [])).2.length ≤ 100 := by
  rcases (show i = 0 ∨ i = 1 ∨ i = 2 by omega) with rfl | rfl | rfl <;> decide
theorem rem3 (k : Int) : ∃ i : Nat, i < 3 ∧ binV .rem (.int .i64 k) (.int .i64 3) = some (.int .i64 (k.tmod 3)) ∧ IntKind.i64.wrap (k.tmod 3 + 3) = k.tmod 3 + 3 ∧ binV .rem (.int .i64 (k.tmod 3 + 3)) (.int .i64 3) = some (.int .i64 (i : Int)) := by
  have h1 : -3 < k.tmod 3 := Int.lt_tmod_of_pos k (by omega)
  have h2 : k.tmod 3 < 3 := Int.tmod_lt_of_pos k (by omega)
  have h3 := Int.tmod_lt_of_pos (k.tmod 3 + 3) (show (0 : Int) < 3 by omega)
  have h4 : 0 ≤ (k.tmod 3 + 3).tmod 3 := Int.tmod_nonneg 3 (by omega)
  refine ⟨((k.tmod 3 + 3).tmod 3).toNat, by omega, rfl, wrap64 (by omega) (by omega), ?_⟩
  rw [Int.toNat_of_nonneg h4]
  rfl
theorem Says0_ok (HJ : JoinOk L) (HI : IndexOk L) (HU : UnqOk L) {x0 : V} {l : List Fld} {way code : Int} (h0 : ListV 2 x0 (flds l)) (hl : l.length < 10000) (hln : ∀ f ∈ l, f.1.length ≤ 140737488355328) (hsm : sumF l < 10000) :
    k_gatepostlaw10_StoringSays_0 L (fun v _ => v = .bool true) x0 (.int .i64 code) (.int .i64 way) h := by
  
  unfold k_gatepostlaw10_StoringSays_0
  obtain ⟨i, hi, r1, r2, r3⟩ := rem3 way
  obtain ⟨b0, b1⟩ := andI_range code 255 (by omega) (by omega)
  generalize hA : bitsI .and .i64 code 255 = A at *
  have wA := wrap64 (x := 200 + A) (by omega) (by omega)
  have i0 : (0 : Int) ≤ (i : Int) := by omega
  have f3 := none_at i hi
  obtain ⟨n1, n2⟩ := none_len i hi
  have hmay := may_none (m := [71, 69, 84]) (la := []) (l := l) (code := 200 + A) hi
  generalize noneF.getD i ([], []) = f at *
  obtain ⟨f1, f2⟩ := f
  simp only at f3 n1 n2
  have G0 : Ow 2 (h ++ [O.box getL]) (h ++ [O.box getL]) (.sl 2 .full []) [] := ⟨⟨[], by simp⟩, .inr (.inl rfl)⟩
  obtain ⟨x1, h1, ha1, O1⟩ := G0.app (bytes := 32) h0 (by simp [flds_len]; omega)
  obtain ⟨⟨t1, rfl⟩, _⟩ := id O1
  obtain ⟨x2, h2, ha2, O2⟩ := O1.app (bytes := 32) (y := .sl 2 .full [.agg [.str f1, .str f2]]) (ys := [.agg [.str f1, .str f2]]) (.inr ⟨_, rfl⟩) (by simp [flds_len]; omega)
  obtain ⟨⟨t2, rfl⟩, _⟩ := id O2
  have hL := O2.list
  have e1 : [] ++ flds l ++ [.agg [.str f1, .str f2]] = flds (l ++ [(f1, f2)]) := by simp [flds, fldV]
  rw [e1] at hL
  have hs2 : sumF (l ++ [(f1, f2)]) < 100000 := by simp only [sumF, List.map_append, List.sum_append, List.map_cons, List.map_nil, List.sum_cons, List.sum_nil] at *; omega
  have hn2 : ∀ f ∈ l ++ [(f1, f2)], f.1.length ≤ 140737488355328 := by
    intro f hf
    rcases List.mem_append.1 hf with hf | hf
    · exact hln f hf
    · rw [List.mem_singleton.1 hf]; show f1.length ≤ _; omega
  have M := fun hh => May_ok (L := L) (h := hh) (p := .str []) (y := .int .i64 0) (a := .int .i64 0) (c := .str []) (m := [71, 69, 84]) (code := 200 + A) HJ HI HU (la := []) (l := l ++ [(f1, f2)]) (x := .nsl) (z := x2) (.inl ⟨rfl, rfl⟩) (by decide) (by simp) (by decide) hL (by simp; omega) hn2 hs2
  rw [hmay] at M
  have fin := fun t => says1_ok (L := L) (h := h ++ (O.box getL :: t)) (ib := h.length) (code := 200 + A) HJ HI HU (by omega) (by omega) (by rw [get_new0]; rfl)
  simp only [getL] at ha1 ha2 fin
  simp only [List.append_assoc, List.cons_append, List.nil_append] at ha1 ha2
  obtain ⟨o2, rfl⟩ : ∃ o, x2 = .sl 2 o (flds (l ++ [(f1, f2)])) := by
    rcases hL with ⟨he, _⟩ | hL
    · simp [flds] at he
    · exact hL
  simp (maxSteps := 4000000) only [vm, vl, Arg.get, cells, stor, boundO, resultsV, resV, partK, loadV, Vm.part, fillC, splice, reduceIte, reduceCtorEq, Nat.reduceEqDiff, Nat.reduceAdd, Nat.reduceSub, Nat.reduceMul, Nat.reduceLeDiff, ne_eq, not_false_eq_true, Int.reduceEq, Int.reduceLT, Int.reduceLE, Int.reduceNeg, Int.reduceToNat, Int.reduceGT, Int.reduceGE, Nat.reduceLT, Nat.lt_add_one, Nat.zero_lt_succ, Nat.succ_pos, Nat.zero_le, beq_self_eq_true, hA, wA, r1, r2, r3, i0, hi, f3, Int.toNat_natCast, ha1, ha2]
  refine Cf.pu (M _) fun u => ?_
  simp (maxSteps := 4000000) only [vm, vl, Arg.get, cells, stor, boundO, resultsV, resV, partK, loadV, Vm.part, fillC, splice, reduceIte, reduceCtorEq, Nat.reduceEqDiff, Nat.reduceAdd, Nat.reduceSub, Nat.reduceMul, Nat.reduceLeDiff, ne_eq, not_false_eq_true, Int.reduceEq, Int.reduceLT, Int.reduceLE, Int.reduceNeg, Int.reduceToNat, Int.reduceGT, Int.reduceGE, Nat.reduceLT, Nat.lt_add_one, Nat.zero_lt_succ, Nat.succ_pos, Nat.zero_le, beq_self_eq_true]
  exact fin _
theorem Says_ok (HJ : JoinOk L) (HI : IndexOk L) (HU : UnqOk L) {x0 : V} {l : List Fld} {way code : Int} (h0 : ListV 2 x0 (flds l)) (hl : l.length ≤ 140737488351232) (hz : ∀ f ∈ l, f.1.length ≤ 140737488351232 ∧ f.2.length ≤ 140737488351232) :
    Cf F L i_gatepostlaw10_StoringSays [x0, .int .i64 code, .int .i64 way] h (fun v _ => v = .bool true) := by
  refine run_gatepostlaw10_StoringSays ?_
  simp only [p_gatepostlaw10_StoringSays]
  
  refine Cf.pu (few10_ok h0 hl hz) fun t1 => ?_
  by_cases c1 : 20 * l.length + sumF l < 3000
  case neg =>
    simp (maxSteps := 4000000) only [vm, vl, Arg.get, cells, stor, boundO, resultsV, resV, partK, loadV, Vm.part, fillC, splice, reduceIte, reduceCtorEq, Nat.reduceEqDiff, Nat.reduceAdd, Nat.reduceSub, Nat.reduceMul, Nat.reduceLeDiff, ne_eq, not_false_eq_true, Int.reduceEq, Int.reduceLT, Int.reduceLE, Int.reduceNeg, Int.reduceToNat, Int.reduceGT, Int.reduceGE, Nat.reduceLT, Nat.lt_add_one, Nat.zero_lt_succ, Nat.succ_pos, Nat.zero_le, beq_self_eq_true, c1, decide_false, Bool.not_false]
  have fin := Says0_ok (L := L) (h := h ++ t1) (way := way) (code := code) HJ HI HU h0 (by omega) (fun f hf => by have := hz f hf; omega) (by omega)
  simp (maxSteps := 4000000) only [vm, vl, Arg.get, cells, stor, boundO, resultsV, resV, partK, loadV, Vm.part, fillC, splice, reduceIte, reduceCtorEq, Nat.reduceEqDiff, Nat.reduceAdd, Nat.reduceSub, Nat.reduceMul, Nat.reduceLeDiff, ne_eq, not_false_eq_true, Int.reduceEq, Int.reduceLT, Int.reduceLE, Int.reduceNeg, Int.reduceToNat, Int.reduceGT, Int.reduceGE, Nat.reduceLT, Nat.lt_add_one, Nat.zero_lt_succ, Nat.succ_pos, Nat.zero_le, beq_self_eq_true, c1, decide_true, Bool.not_true]
  exact fin
def LCs : FuncId → List V → V → Prop := fun f a v => LJoin f a v ∨ LIndex f a v ∨ LUnq f a v
theorem lcs_at (w0 : World) : LibAt Tryd.prog w0 LCs := fun f a v h => h.elim (join_at w0 f a v) fun h => h.elim (index_at w0 f a v) (unq_at w0 f a v)
theorem lcs_sort (w0 : World) : SortAt Tryd.prog w0 LCs := by
  rintro f (⟨_, x, l, _, _, _, h, _⟩ | ⟨_, s, c, h, _⟩ | ⟨_, s, _, h, _⟩)
  · cases h
  · cases h
  · cases h
theorem StoringSays_row {x0 x1 x2 : V} (v0 : VPar [.sl [.s, .s]] x0) (v1 : VPar [.l (.i .i64)] x1) (v2 : VPar [.l (.i .i64)] x2) (w : World) (vs : List Value) (hv : Rvs w.heap.size G0 w [x0, x1, x2] vs) :
    Calls Tryd.prog i_gatepostlaw10_StoringSays vs.toArray w fun e w' => e = .returned (.bool true) ∧ RowKit.Below w.heap.size w w' := by
  obtain ⟨l, l1, l2, l3⟩ := fields_par v0
  obtain ⟨n, rfl, _⟩ := v1
  obtain ⟨c, rfl, _⟩ := v2
  exact calls_at hm hF (lcs_at w) (lcs_sort w) (Says_ok (joinOk fun _ _ _ h => .inl h) (indexOk fun _ _ _ h => .inr (.inl h)) (unqOk fun _ _ _ h => .inr (.inr h)) l1 l2 l3) hv
end Go.Proofs.YtaahialaegfjgaaDoor.Vh
end
