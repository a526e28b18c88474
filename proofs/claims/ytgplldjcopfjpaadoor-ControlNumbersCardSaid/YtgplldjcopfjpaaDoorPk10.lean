/- Several texts in one: VSplit3, VNum, VCtl1, VSplitN, VCtl2, VDigits, VCNum, VCNumW. -/
import Derived.Test.YtgplldjcopfjpaaDoorPk8
import Derived.Test.YtgplldjcopfjpaaDoorPk9
import Derived.Test.YtgplldjcopfjpaaDoorPk6
import Derived.Test.YtgplldjcopfjpaaDoorPk5
import Derived.Lib.ItoaNum
section
set_option linter.unusedVariables false
set_option linter.unusedSimpArgs false
namespace Go.Proofs.YtgplldjcopfjpaaDoor.Vh
open Go.Vm Go.Vt
attribute [local congr] wi_congr wg_congr wgd_congr wb_congr wl_congr cf_congr
variable {L : FuncId → List V → V → Prop} {h : Heap}
theorem full_list (out : List Bs) : ListV 1 (fullV out) (strs out) := by
  unfold fullV ListV
  by_cases h : out = []
  · simp [h, strs]
  · simp [h, strs]
theorem splitG_none {s own : Bs} {q : Bool} {out : List Bs} (h : s = []) : splitG s own q out = if q then none else some (flush out own) := by subst h; rfl
/-- What Split comes to: a list, or none. -/
def SplitP (h : Heap) (o : Option (List Bs)) (v : V) (h' : Heap) : Prop := (∃ t, h' = h ++ t) ∧ ((o = none ∧ v = .tup [.nsl, .bool false]) ∨ ∃ out x, o = some out ∧ v = .tup [x, .bool true] ∧ ListV 1 x (strs out))
theorem SplitP.no {h h' : Heap} (hh : ∃ t, h' = h ++ t) : SplitP h none (.tup [.nsl, .bool false]) h' := ⟨hh, .inl ⟨rfl, rfl⟩⟩
end Go.Proofs.YtgplldjcopfjpaaDoor.Vh
end
section
set_option linter.unusedVariables false
set_option linter.unusedSimpArgs false
namespace Go.Proofs.YtgplldjcopfjpaaDoor.Vh
open Go.Vm Go.Vt
attribute [local congr] wi_congr wg_congr wgd_congr wb_congr wl_congr cf_congr
variable {L : FuncId → List V → V → Prop} {h : Heap}
theorem wquo {x c : Int} (h0 : 0 ≤ x) (hc : 0 < c) (h1 : x ≤ 9223372036854775807) : IntKind.i64.wrap (Int.tdiv x c) = x / c := by
  rw [Int.tdiv_eq_ediv_of_nonneg h0]
  have : 0 ≤ x / c := Int.ediv_nonneg h0 (by omega)
  have := Int.ediv_le_self c h0
  exact wrap64 (by omega) (by omega)
theorem bin_quo' {x y : Int} : binV .quo (.int .i64 x) (.int .i64 y) = if y = 0 then none else some (.int .i64 (IntKind.i64.wrap (x.tdiv y))) := by
  by_cases h : y = 0 <;> simp [binV, binI, h]
theorem dig_eq (c : UInt8) : digB c = (decide ((c.toNat : Int) ≥ 48) && decide ((c.toNat : Int) ≤ 57)) := byte_all (p := fun c => digB c = (decide ((c.toNat : Int) ≥ 48) && decide ((c.toNat : Int) ≤ 57))) (by decide +kernel) c
theorem dig_in {c : UInt8} (h : digB c = true) : 48 ≤ (c.toNat : Int) ∧ (c.toNat : Int) ≤ 57 := by
  rw [dig_eq, Bool.and_eq_true, decide_eq_true_eq, decide_eq_true_eq] at h; exact h
theorem dig_wrap (c : UInt8) : (decide (48 ≤ (c.toNat : Int)) && decide ((c.toNat : Int) ≤ 57)) = true → IntKind.u8.wrap ((c.toNat : Int) - 48) = (c.toNat : Int) - 48 :=
  byte_all (p := fun c => (decide (48 ≤ (c.toNat : Int)) && decide ((c.toNat : Int) ≤ 57)) = true → IntKind.u8.wrap ((c.toNat : Int) - 48) = (c.toNat : Int) - 48) (by decide +kernel) c
theorem Number1_ok {c : UInt8} : Cf F L i_token_Number_1 [byV c] h (Pu h (.bool (digB c))) := by
  refine run_token_Number_1 ?_
  simp only [p_token_Number_1]
  rw [dig_eq]
  by_cases a : (c.toNat : Int) ≥ 48
  · simp (maxSteps := 4000000) only [vm, vl, Arg.get, cells, stor, boundO, resultsV, resV, partK, loadV, Vm.part, fillC, splice, reduceIte, reduceCtorEq, Nat.reduceEqDiff, Nat.reduceAdd, Nat.reduceSub, Nat.reduceMul, Nat.reduceLeDiff, ne_eq, not_false_eq_true, Int.reduceEq, Int.reduceLT, Int.reduceLE, Int.reduceNeg, Int.reduceToNat, Int.reduceGT, Int.reduceGE, Nat.reduceLT, Nat.lt_add_one, Nat.zero_lt_succ, Nat.succ_pos, Nat.zero_le, beq_self_eq_true, a, decide_true, Bool.true_and]
  · simp (maxSteps := 4000000) only [vm, vl, Arg.get, cells, stor, boundO, resultsV, resV, partK, loadV, Vm.part, fillC, splice, reduceIte, reduceCtorEq, Nat.reduceEqDiff, Nat.reduceAdd, Nat.reduceSub, Nat.reduceMul, Nat.reduceLeDiff, ne_eq, not_false_eq_true, Int.reduceEq, Int.reduceLT, Int.reduceLE, Int.reduceNeg, Int.reduceToNat, Int.reduceGT, Int.reduceGE, Nat.reduceLT, Nat.lt_add_one, Nat.zero_lt_succ, Nat.succ_pos, Nat.zero_le, beq_self_eq_true, a, decide_false, Bool.false_and]
theorem num_pair {n : Int} {b : Bool} {x : Int × Bool} (h : x = (n, b)) : V.tup [.int .i64 x.1, .bool x.2] = .tup [.int .i64 n, .bool b] := by subst h; rfl
theorem Number_ok {s : Bs} {most : Int} (hs : s.length ≤ 9223372036854775806) (h0 : -4000000000000000000 ≤ most) (h1 : most ≤ 4000000000000000000) : Cf F L i_token_Number [.str s, .int .i64 most] h (Pu h (.tup [.int .i64 (numS s most).1, .bool (numS s most).2])) := by
  refine run_token_Number ?_
  simp only [p_token_Number]
  by_cases a : s = []
  · subst a
    rw [num_pair (show numS [] most = (0, false) from rfl)]
    have e1 : (([] : Bs) == []) = true := rfl
    simp (maxSteps := 4000000) only [vm, vl, Arg.get, cells, stor, boundO, resultsV, resV, partK, loadV, Vm.part, fillC, splice, reduceIte, reduceCtorEq, Nat.reduceEqDiff, Nat.reduceAdd, Nat.reduceSub, Nat.reduceMul, Nat.reduceLeDiff, ne_eq, not_false_eq_true, Int.reduceEq, Int.reduceLT, Int.reduceLE, Int.reduceNeg, Int.reduceToNat, Int.reduceGT, Int.reduceGE, Nat.reduceLT, Nat.lt_add_one, Nat.zero_lt_succ, Nat.succ_pos, Nat.zero_le, beq_self_eq_true, k_token_Number_1, k_token_Number_3, k_token_Number_4, k_token_Number_2, k_token_Number_0, e1]
  have a' : (s == []) = false := beq_eq_false_iff_ne.2 a
  have ae : s.isEmpty = false := by cases s; exact absurd rfl a; rfl
  by_cases b : most < 0
  · rw [num_pair (show numS s most = (0, false) by unfold numS; simp [b])]
    simp (maxSteps := 4000000) only [vm, vl, Arg.get, cells, stor, boundO, resultsV, resV, partK, loadV, Vm.part, fillC, splice, reduceIte, reduceCtorEq, Nat.reduceEqDiff, Nat.reduceAdd, Nat.reduceSub, Nat.reduceMul, Nat.reduceLeDiff, ne_eq, not_false_eq_true, Int.reduceEq, Int.reduceLT, Int.reduceLE, Int.reduceNeg, Int.reduceToNat, Int.reduceGT, Int.reduceGE, Nat.reduceLT, Nat.lt_add_one, Nat.zero_lt_succ, Nat.succ_pos, Nat.zero_le, beq_self_eq_true, k_token_Number_1, k_token_Number_3, k_token_Number_4, k_token_Number_2, k_token_Number_0, a', b, decide_true]
  cases hd : s.all digB with
  | false =>
    rw [num_pair (show numS s most = (0, false) by unfold numS; simp [hd])]
    simp (maxSteps := 4000000) only [vm, vl, Arg.get, cells, stor, boundO, resultsV, resV, partK, loadV, Vm.part, fillC, splice, reduceIte, reduceCtorEq, Nat.reduceEqDiff, Nat.reduceAdd, Nat.reduceSub, Nat.reduceMul, Nat.reduceLeDiff, ne_eq, not_false_eq_true, Int.reduceEq, Int.reduceLT, Int.reduceLE, Int.reduceNeg, Int.reduceToNat, Int.reduceGT, Int.reduceGE, Nat.reduceLT, Nat.lt_add_one, Nat.zero_lt_succ, Nat.succ_pos, Nat.zero_le, beq_self_eq_true, k_token_Number_1, k_token_Number_3, k_token_Number_4, k_token_Number_2, k_token_Number_0, a', b, decide_false]
    refine Cf.pu (all_ok (caps := []) (by omega) fun c h => Number1_ok) fun u => ?_
    simp (maxSteps := 4000000) only [vm, vl, Arg.get, cells, stor, boundO, resultsV, resV, partK, loadV, Vm.part, fillC, splice, reduceIte, reduceCtorEq, Nat.reduceEqDiff, Nat.reduceAdd, Nat.reduceSub, Nat.reduceMul, Nat.reduceLeDiff, ne_eq, not_false_eq_true, Int.reduceEq, Int.reduceLT, Int.reduceLE, Int.reduceNeg, Int.reduceToNat, Int.reduceGT, Int.reduceGE, Nat.reduceLT, Nat.lt_add_one, Nat.zero_lt_succ, Nat.succ_pos, Nat.zero_le, beq_self_eq_true, k_token_Number_1, k_token_Number_3, k_token_Number_4, k_token_Number_2, k_token_Number_0, hd, Bool.not_false]
  | true =>
    rw [num_pair (show numS s most = (numG s 0 most, true) by unfold numS; simp [hd, b, ae])]
    simp (maxSteps := 4000000) only [vm, vl, Arg.get, cells, stor, boundO, resultsV, resV, partK, loadV, Vm.part, fillC, splice, reduceIte, reduceCtorEq, Nat.reduceEqDiff, Nat.reduceAdd, Nat.reduceSub, Nat.reduceMul, Nat.reduceLeDiff, ne_eq, not_false_eq_true, Int.reduceEq, Int.reduceLT, Int.reduceLE, Int.reduceNeg, Int.reduceToNat, Int.reduceGT, Int.reduceGE, Nat.reduceLT, Nat.lt_add_one, Nat.zero_lt_succ, Nat.succ_pos, Nat.zero_le, beq_self_eq_true, k_token_Number_1, k_token_Number_3, k_token_Number_4, k_token_Number_2, k_token_Number_0, a', b, decide_false]
    refine Cf.pu (all_ok (caps := []) (by omega) fun c h => Number1_ok) fun u => ?_
    simp (maxSteps := 4000000) only [vm, vl, Arg.get, cells, stor, boundO, resultsV, resV, partK, loadV, Vm.part, fillC, splice, reduceIte, reduceCtorEq, Nat.reduceEqDiff, Nat.reduceAdd, Nat.reduceSub, Nat.reduceMul, Nat.reduceLeDiff, ne_eq, not_false_eq_true, Int.reduceEq, Int.reduceLT, Int.reduceLE, Int.reduceNeg, Int.reduceToNat, Int.reduceGT, Int.reduceGE, Nat.reduceLT, Nat.lt_add_one, Nat.zero_lt_succ, Nat.succ_pos, Nat.zero_le, beq_self_eq_true, k_token_Number_1, k_token_Number_3, k_token_Number_4, k_token_Number_2, k_token_Number_0, hd, Bool.not_true]
    refine l_token_Number_0 (fun n e h' => ∃ (i : Nat) (v : Int), n = s.length - i ∧ i ≤ s.length ∧ e 0 = .str s ∧ e 1 = .int .i64 most ∧ e 6 = .int .i64 v ∧ e 21 = .int .i64 s.length ∧ e 22 = .int .i64 i ∧ 0 ≤ v ∧ v ≤ most ∧ numG s 0 most = numG (s.drop i) v most ∧ ∃ t, h' = h ++ t) ?_ (n := s.length) ⟨0, 0, by simp, by simp, rfl, rfl, rfl, rfl, rfl, by omega, by omega, rfl, u, rfl⟩
    rintro n e h' ⟨i, v, rfl, hi, e0, e1, e6, e21, e22, v0, v1, hg, t, rfl⟩
    simp only [b_token_Number_0]
    rw [hg]
    rcases str_at hi with ⟨hn, rfl, hdr⟩ | ⟨c, hl, hl', hc, hdr⟩
    · rw [hdr]
      simp (maxSteps := 4000000) only [vm, vl, Arg.get, cells, stor, boundO, resultsV, resV, partK, loadV, Vm.part, fillC, splice, reduceIte, reduceCtorEq, Nat.reduceEqDiff, Nat.reduceAdd, Nat.reduceSub, Nat.reduceMul, Nat.reduceLeDiff, ne_eq, not_false_eq_true, Int.reduceEq, Int.reduceLT, Int.reduceLE, Int.reduceNeg, Int.reduceToNat, Int.reduceGT, Int.reduceGE, Nat.reduceLT, Nat.lt_add_one, Nat.zero_lt_succ, Nat.succ_pos, Nat.zero_le, beq_self_eq_true, k_token_Number_1, k_token_Number_3, k_token_Number_4, k_token_Number_2, k_token_Number_0, e0, e1, e6, e21, e22, hn, decide_false]
      rfl
    · have w := wrap64 (x := (i : Int) + 1) (by omega) (by omega)
      have dc : digB c = true := by
        rw [← hc]
        refine (List.all_eq_true.1 hd) _ ?_
        rw [List.getD_eq_getElem?_getD, List.getElem?_eq_getElem hl', Option.getD_some]; exact List.getElem_mem _
      have di := dig_in dc
      have dw := dig_wrap c (by simp [di])
      have d64 : IntKind.i64.wrap ((c.toNat : Int) - 48) = (c.toNat : Int) - 48 := wrap64 (by omega) (by omega)
      have eg : numG (c :: s.drop (i + 1)) v most = if (c.toNat : Int) - 48 > most ∨ v > (most - ((c.toNat : Int) - 48)) / 10 then most else numG (s.drop (i + 1)) (10 * v + ((c.toNat : Int) - 48)) most := rfl
      rw [hdr, eg]
      generalize hD : (c.toNat : Int) - 48 = D at *
      by_cases p : D > most
      · rw [if_pos (.inl p)]
        simp (maxSteps := 4000000) only [vm, vl, Arg.get, cells, stor, boundO, resultsV, resV, partK, loadV, Vm.part, fillC, splice, reduceIte, reduceCtorEq, Nat.reduceEqDiff, Nat.reduceAdd, Nat.reduceSub, Nat.reduceMul, Nat.reduceLeDiff, ne_eq, not_false_eq_true, Int.reduceEq, Int.reduceLT, Int.reduceLE, Int.reduceNeg, Int.reduceToNat, Int.reduceGT, Int.reduceGE, Nat.reduceLT, Nat.lt_add_one, Nat.zero_lt_succ, Nat.succ_pos, Nat.zero_le, beq_self_eq_true, k_token_Number_1, k_token_Number_3, k_token_Number_4, k_token_Number_2, k_token_Number_0, e0, e1, e6, e21, e22, hl, hl', hc, hD, dw, d64, p, decide_true]
      have w1 : IntKind.i64.wrap (most - D) = most - D := wrap64 (by omega) (by omega)
      have w2 : IntKind.i64.wrap ((most - D).tdiv 10) = (most - D) / 10 := wquo (by omega) (by omega) (by omega)
      by_cases q : v > (most - D) / 10
      · rw [if_pos (.inr q)]
        simp (maxSteps := 4000000) only [vm, vl, Arg.get, cells, stor, boundO, resultsV, resV, partK, loadV, Vm.part, fillC, splice, reduceIte, reduceCtorEq, Nat.reduceEqDiff, Nat.reduceAdd, Nat.reduceSub, Nat.reduceMul, Nat.reduceLeDiff, ne_eq, not_false_eq_true, Int.reduceEq, Int.reduceLT, Int.reduceLE, Int.reduceNeg, Int.reduceToNat, Int.reduceGT, Int.reduceGE, Nat.reduceLT, Nat.lt_add_one, Nat.zero_lt_succ, Nat.succ_pos, Nat.zero_le, beq_self_eq_true, k_token_Number_1, k_token_Number_3, k_token_Number_4, k_token_Number_2, k_token_Number_0, e0, e1, e6, e21, e22, hl, hl', hc, hD, dw, d64, p, q, w1, w2, bin_quo', decide_true, decide_false]
      · rw [if_neg (fun h => h.elim p q)]
        have w3 : IntKind.i64.wrap (10 * v) = 10 * v := wrap64 (by omega) (by omega)
        have w4 : IntKind.i64.wrap (10 * v + D) = 10 * v + D := wrap64 (by omega) (by omega)
        simp (maxSteps := 4000000) only [vm, vl, Arg.get, cells, stor, boundO, resultsV, resV, partK, loadV, Vm.part, fillC, splice, reduceIte, reduceCtorEq, Nat.reduceEqDiff, Nat.reduceAdd, Nat.reduceSub, Nat.reduceMul, Nat.reduceLeDiff, ne_eq, not_false_eq_true, Int.reduceEq, Int.reduceLT, Int.reduceLE, Int.reduceNeg, Int.reduceToNat, Int.reduceGT, Int.reduceGE, Nat.reduceLT, Nat.lt_add_one, Nat.zero_lt_succ, Nat.succ_pos, Nat.zero_le, beq_self_eq_true, k_token_Number_1, k_token_Number_3, k_token_Number_4, k_token_Number_2, k_token_Number_0, e0, e1, e6, e21, e22, hl, hl', hc, hD, dw, d64, p, q, w, w1, w2, w3, w4, bin_quo', decide_true, decide_false]
        exact ⟨s.length - (i + 1), by omega, i + 1, 10 * v + D, rfl, hl', rfl, rfl, by omega, by omega, rfl, _, rfl⟩
end Go.Proofs.YtgplldjcopfjpaaDoor.Vh
end
section
set_option linter.unusedVariables false
set_option linter.unusedSimpArgs false
namespace Go.Proofs.YtgplldjcopfjpaaDoor.Vh
open Go.Vm Go.Vt
attribute [local congr] wi_congr wg_congr wgd_congr wb_congr wl_congr cf_congr
variable {L : FuncId → List V → V → Prop} {h : Heap}
/-- Flags and numbers. -/
structure Ct where
  f : Nat → Bool
  n : Nat → Int
def ctV (c : Ct) : List V := [.bool (c.f 0), .bool (c.f 1), .bool (c.f 2), .bool (c.f 3), .bool (c.f 4), .bool (c.f 5), .bool (c.f 6), .int .i64 (c.n 0), .int .i64 (c.n 1), .int .i64 (c.n 2), .int .i64 (c.n 3), .int .i64 (c.n 4), .int .i64 (c.n 5)]
def ct0 : Ct := ⟨fun _ => false, fun _ => -1⟩
def setF (c : Ct) (i : Nat) : Ct := ⟨fun k => if k = i then true else c.f k, c.n⟩
def setN (c : Ct) (j : Nat) (v : Int) : Ct := ⟨c.f, fun k => if k = j then v else c.n k⟩
/-- What a name stands for. -/
inductive Rl where
  | no
  | flag (i : Nat)
  | num (j : Nat) (m b : Int)
def ruleT : List (Bs × Rl) := [([110, 111, 45, 115, 116, 111, 114, 101], .flag 0), ([110, 111, 45, 99, 97, 99, 104, 101], .flag 1), ([112, 114, 105, 118, 97, 116, 101], .flag 2), ([112, 117, 98, 108, 105, 99], .flag 3), ([109, 117, 115, 116, 45, 114, 101, 118, 97, 108, 105, 100, 97, 116, 101], .flag 4), ([112, 114, 111, 120, 121, 45, 114, 101, 118, 97, 108, 105, 100, 97, 116, 101], .flag 5), ([111, 110, 108, 121, 45, 105, 102, 45, 99, 97, 99, 104, 101, 100], .flag 6), ([109, 97, 120, 45, 97, 103, 101], .num 0 0 0), ([115, 45, 109, 97, 120, 97, 103, 101], .num 1 0 0), ([115, 116, 97, 108, 101, 45, 119, 104, 105, 108, 101, 45, 114, 101, 118, 97, 108, 105, 100, 97, 116, 101], .num 2 (-1) (-1)), ([115, 116, 97, 108, 101, 45, 105, 102, 45, 101, 114, 114, 111, 114], .num 3 (-1) (-1)), ([109, 105, 110, 45, 102, 114, 101, 115, 104], .num 4 (-1) (-1)), ([109, 97, 120, 45, 115, 116, 97, 108, 101], .num 5 2147483648 (-1))]
def ruleOf (nm : Bs) : Rl := (ruleT.lookup nm).getD .no
def valueS (text : Bs) (has : Bool) (m b : Int) : Int := if has then (if (numS text 2147483648).2 then (numS text 2147483648).1 else b) else m
/-- What an element does. -/
inductive Ac where
  | nop
  | flag (i : Nat)
  | num (j : Nat) (v : Int)
def actS (x : Bs) : Ac := match ruleOf (low (pairS x).1) with
  | .no => .nop
  | .flag i => .flag i
  | .num j m b => if valueS (pairS x).2.1 (pairS x).2.2.1 m b = -1 then .nop else .num j (valueS (pairS x).2.1 (pairS x).2.2.1 m b)
def lst (a v : Int) : Int := if a = -1 ∨ v < a then v else a
def applyA (c : Ct) : Ac → Ct
  | .nop => c
  | .flag i => setF c i
  | .num j v => setN c j (lst (c.n j) v)
def stepC (c : Ct) (x : Bs) : Ct := applyA c (actS x)
def parseC (s : Bs) : Ct × Bool := match split s with
  | none => (setF (setF ct0 0) 1, false)
  | some l => (l.foldl stepC ct0, true)
def parseCV (p : Ct × Bool) : V := .tup [.agg (ctV p.1), .bool p.2]
def flagF : List FuncId := [i_control_rules_3, i_control_rules_4, i_control_rules_5, i_control_rules_6, i_control_rules_7, i_control_rules_8, i_control_rules_9]
def numF : List FuncId := [i_control_rules_10, i_control_rules_11, i_control_rules_12, i_control_rules_13, i_control_rules_14, i_control_rules_15]
def ruleV : Rl → V
  | .no => .agg [.nfn, .nfn, .int .i64 0, .int .i64 0]
  | .flag i => .agg [.fn (flagF.getD i 0) [], .nfn, .int .i64 0, .int .i64 0]
  | .num j m b => .agg [.nfn, .fn (numF.getD j 0) [], .int .i64 m, .int .i64 b]
def ruleE : List (V × V) := ruleT.map fun p => (.str p.1, ruleV p.2)
theorem find_rule (nm : Bs) : ∀ (l : List (Bs × Rl)) (k : Nat), ∃ r, findE .s (.str nm) (l.map fun p => (V.str p.1, ruleV p.2)) k = some r ∧ (match l.lookup nm with | none => r = none | some a => ∃ i, r = some (i, ruleV a))
  | [], k => ⟨none, rfl, rfl⟩
  | (n, a) :: l, k => by
    by_cases hn : nm = n
    · subst hn
      refine ⟨some (k, ruleV a), ?_, ?_⟩
      · simp [findE, eqLeaf]
      · rw [List.lookup_cons, show (nm == nm) = true from beq_self_eq_true nm]; exact ⟨k, rfl⟩
    · obtain ⟨r, h1, h2⟩ := find_rule nm l (k + 1)
      have hb : (nm == n) = false := beq_eq_false_iff_ne.2 hn
      refine ⟨r, ?_, ?_⟩
      · rw [List.map_cons, findE]
        simp only [eqLeaf, hb, Option.bind_some, Bool.false_eq_true, if_false]
        exact h1
      · rw [List.lookup_cons, hb]; exact h2
theorem nothing_ok : Cf F L i_control_nothing [] h (fun v h' => v = .agg (ctV ct0) ∧ h' = h ++ [.box (ctV ct0)]) := by
  refine run_control_nothing ?_
  simp only [p_control_nothing]
  simp (maxSteps := 4000000) only [vm, vl, Arg.get, cells, stor, boundO, resultsV, resV, partK, loadV, Vm.part, fillC, splice, reduceIte, reduceCtorEq, Nat.reduceEqDiff, Nat.reduceAdd, Nat.reduceSub, Nat.reduceMul, Nat.reduceLeDiff, ne_eq, not_false_eq_true, Int.reduceEq, Int.reduceLT, Int.reduceLE, Int.reduceNeg, Int.reduceToNat, Int.reduceGT, Int.reduceGE, Nat.reduceLT, Nat.lt_add_one, Nat.zero_lt_succ, Nat.succ_pos, Nat.zero_le, beq_self_eq_true]
  exact ⟨rfl, rfl⟩
theorem value_ok {f g : V} {m b : Int} {text : Bs} {has : Bool} (hs : text.length ≤ 9223372036854775806) : Cf F L i__gatepost_control_rule__value [.agg [f, g, .int .i64 m, .int .i64 b], .str text, .bool has] h (Pu h (.int .i64 (valueS text has m b))) := by
  refine run__gatepost_control_rule__value ?_
  simp only [p__gatepost_control_rule__value]
  unfold valueS
  cases has with
  | false => simp (maxSteps := 4000000) only [vm, vl, Arg.get, cells, stor, boundO, resultsV, resV, partK, loadV, Vm.part, fillC, splice, reduceIte, reduceCtorEq, Nat.reduceEqDiff, Nat.reduceAdd, Nat.reduceSub, Nat.reduceMul, Nat.reduceLeDiff, ne_eq, not_false_eq_true, Int.reduceEq, Int.reduceLT, Int.reduceLE, Int.reduceNeg, Int.reduceToNat, Int.reduceGT, Int.reduceGE, Nat.reduceLT, Nat.lt_add_one, Nat.zero_lt_succ, Nat.succ_pos, Nat.zero_le, beq_self_eq_true, k__gatepost_control_rule__value_1, k__gatepost_control_rule__value_0, Bool.not_false]
  | true =>
    simp (maxSteps := 4000000) only [vm, vl, Arg.get, cells, stor, boundO, resultsV, resV, partK, loadV, Vm.part, fillC, splice, reduceIte, reduceCtorEq, Nat.reduceEqDiff, Nat.reduceAdd, Nat.reduceSub, Nat.reduceMul, Nat.reduceLeDiff, ne_eq, not_false_eq_true, Int.reduceEq, Int.reduceLT, Int.reduceLE, Int.reduceNeg, Int.reduceToNat, Int.reduceGT, Int.reduceGE, Nat.reduceLT, Nat.lt_add_one, Nat.zero_lt_succ, Nat.succ_pos, Nat.zero_le, beq_self_eq_true, k__gatepost_control_rule__value_1, k__gatepost_control_rule__value_0, Bool.not_true]
    refine Cf.pu (Number_ok hs (by decide) (by decide)) fun u => ?_
    cases hn : (numS text 2147483648).2 with
    | true => simp (maxSteps := 4000000) only [vm, vl, Arg.get, cells, stor, boundO, resultsV, resV, partK, loadV, Vm.part, fillC, splice, reduceIte, reduceCtorEq, Nat.reduceEqDiff, Nat.reduceAdd, Nat.reduceSub, Nat.reduceMul, Nat.reduceLeDiff, ne_eq, not_false_eq_true, Int.reduceEq, Int.reduceLT, Int.reduceLE, Int.reduceNeg, Int.reduceToNat, Int.reduceGT, Int.reduceGE, Nat.reduceLT, Nat.lt_add_one, Nat.zero_lt_succ, Nat.succ_pos, Nat.zero_le, beq_self_eq_true, k__gatepost_control_rule__value_1, k__gatepost_control_rule__value_0, hn]
    | false => simp (maxSteps := 4000000) only [vm, vl, Arg.get, cells, stor, boundO, resultsV, resV, partK, loadV, Vm.part, fillC, splice, reduceIte, reduceCtorEq, Nat.reduceEqDiff, Nat.reduceAdd, Nat.reduceSub, Nat.reduceMul, Nat.reduceLeDiff, ne_eq, not_false_eq_true, Int.reduceEq, Int.reduceLT, Int.reduceLE, Int.reduceNeg, Int.reduceToNat, Int.reduceGT, Int.reduceGE, Nat.reduceLT, Nat.lt_add_one, Nat.zero_lt_succ, Nat.succ_pos, Nat.zero_le, beq_self_eq_true, k__gatepost_control_rule__value_1, k__gatepost_control_rule__value_0, hn]
theorem flag0_ok {c : Ct} {p : Nat} {K : V → Heap → Prop} (hb : h[p]? = some (.box (ctV c))) (hk : K (.tup []) (h.set p (.box (ctV (setF c 0))))) : Cf F L i_control_rules_3 [.ptr p 0] h K := by
  have hb' := hb
  unfold ctV at hb'
  refine run_control_rules_3 ?_
  simp only [p_control_rules_3]
  simp (maxSteps := 4000000) only [vm, vl, Arg.get, cells, stor, boundO, resultsV, resV, partK, loadV, Vm.part, fillC, splice, reduceIte, reduceCtorEq, Nat.reduceEqDiff, Nat.reduceAdd, Nat.reduceSub, Nat.reduceMul, Nat.reduceLeDiff, ne_eq, not_false_eq_true, Int.reduceEq, Int.reduceLT, Int.reduceLE, Int.reduceNeg, Int.reduceToNat, Int.reduceGT, Int.reduceGE, Nat.reduceLT, Nat.lt_add_one, Nat.zero_lt_succ, Nat.succ_pos, Nat.zero_le, beq_self_eq_true, hb']
  exact hk
theorem flag1_ok {c : Ct} {p : Nat} {K : V → Heap → Prop} (hb : h[p]? = some (.box (ctV c))) (hk : K (.tup []) (h.set p (.box (ctV (setF c 1))))) : Cf F L i_control_rules_4 [.ptr p 0] h K := by
  have hb' := hb
  unfold ctV at hb'
  refine run_control_rules_4 ?_
  simp only [p_control_rules_4]
  simp (maxSteps := 4000000) only [vm, vl, Arg.get, cells, stor, boundO, resultsV, resV, partK, loadV, Vm.part, fillC, splice, reduceIte, reduceCtorEq, Nat.reduceEqDiff, Nat.reduceAdd, Nat.reduceSub, Nat.reduceMul, Nat.reduceLeDiff, ne_eq, not_false_eq_true, Int.reduceEq, Int.reduceLT, Int.reduceLE, Int.reduceNeg, Int.reduceToNat, Int.reduceGT, Int.reduceGE, Nat.reduceLT, Nat.lt_add_one, Nat.zero_lt_succ, Nat.succ_pos, Nat.zero_le, beq_self_eq_true, hb']
  exact hk
theorem flag2_ok {c : Ct} {p : Nat} {K : V → Heap → Prop} (hb : h[p]? = some (.box (ctV c))) (hk : K (.tup []) (h.set p (.box (ctV (setF c 2))))) : Cf F L i_control_rules_5 [.ptr p 0] h K := by
  have hb' := hb
  unfold ctV at hb'
  refine run_control_rules_5 ?_
  simp only [p_control_rules_5]
  simp (maxSteps := 4000000) only [vm, vl, Arg.get, cells, stor, boundO, resultsV, resV, partK, loadV, Vm.part, fillC, splice, reduceIte, reduceCtorEq, Nat.reduceEqDiff, Nat.reduceAdd, Nat.reduceSub, Nat.reduceMul, Nat.reduceLeDiff, ne_eq, not_false_eq_true, Int.reduceEq, Int.reduceLT, Int.reduceLE, Int.reduceNeg, Int.reduceToNat, Int.reduceGT, Int.reduceGE, Nat.reduceLT, Nat.lt_add_one, Nat.zero_lt_succ, Nat.succ_pos, Nat.zero_le, beq_self_eq_true, hb']
  exact hk
theorem flag3_ok {c : Ct} {p : Nat} {K : V → Heap → Prop} (hb : h[p]? = some (.box (ctV c))) (hk : K (.tup []) (h.set p (.box (ctV (setF c 3))))) : Cf F L i_control_rules_6 [.ptr p 0] h K := by
  have hb' := hb
  unfold ctV at hb'
  refine run_control_rules_6 ?_
  simp only [p_control_rules_6]
  simp (maxSteps := 4000000) only [vm, vl, Arg.get, cells, stor, boundO, resultsV, resV, partK, loadV, Vm.part, fillC, splice, reduceIte, reduceCtorEq, Nat.reduceEqDiff, Nat.reduceAdd, Nat.reduceSub, Nat.reduceMul, Nat.reduceLeDiff, ne_eq, not_false_eq_true, Int.reduceEq, Int.reduceLT, Int.reduceLE, Int.reduceNeg, Int.reduceToNat, Int.reduceGT, Int.reduceGE, Nat.reduceLT, Nat.lt_add_one, Nat.zero_lt_succ, Nat.succ_pos, Nat.zero_le, beq_self_eq_true, hb']
  exact hk
theorem flag4_ok {c : Ct} {p : Nat} {K : V → Heap → Prop} (hb : h[p]? = some (.box (ctV c))) (hk : K (.tup []) (h.set p (.box (ctV (setF c 4))))) : Cf F L i_control_rules_7 [.ptr p 0] h K := by
  have hb' := hb
  unfold ctV at hb'
  refine run_control_rules_7 ?_
  simp only [p_control_rules_7]
  simp (maxSteps := 4000000) only [vm, vl, Arg.get, cells, stor, boundO, resultsV, resV, partK, loadV, Vm.part, fillC, splice, reduceIte, reduceCtorEq, Nat.reduceEqDiff, Nat.reduceAdd, Nat.reduceSub, Nat.reduceMul, Nat.reduceLeDiff, ne_eq, not_false_eq_true, Int.reduceEq, Int.reduceLT, Int.reduceLE, Int.reduceNeg, Int.reduceToNat, Int.reduceGT, Int.reduceGE, Nat.reduceLT, Nat.lt_add_one, Nat.zero_lt_succ, Nat.succ_pos, Nat.zero_le, beq_self_eq_true, hb']
  exact hk
theorem flag5_ok {c : Ct} {p : Nat} {K : V → Heap → Prop} (hb : h[p]? = some (.box (ctV c))) (hk : K (.tup []) (h.set p (.box (ctV (setF c 5))))) : Cf F L i_control_rules_8 [.ptr p 0] h K := by
  have hb' := hb
  unfold ctV at hb'
  refine run_control_rules_8 ?_
  simp only [p_control_rules_8]
  simp (maxSteps := 4000000) only [vm, vl, Arg.get, cells, stor, boundO, resultsV, resV, partK, loadV, Vm.part, fillC, splice, reduceIte, reduceCtorEq, Nat.reduceEqDiff, Nat.reduceAdd, Nat.reduceSub, Nat.reduceMul, Nat.reduceLeDiff, ne_eq, not_false_eq_true, Int.reduceEq, Int.reduceLT, Int.reduceLE, Int.reduceNeg, Int.reduceToNat, Int.reduceGT, Int.reduceGE, Nat.reduceLT, Nat.lt_add_one, Nat.zero_lt_succ, Nat.succ_pos, Nat.zero_le, beq_self_eq_true, hb']
  exact hk
theorem flag6_ok {c : Ct} {p : Nat} {K : V → Heap → Prop} (hb : h[p]? = some (.box (ctV c))) (hk : K (.tup []) (h.set p (.box (ctV (setF c 6))))) : Cf F L i_control_rules_9 [.ptr p 0] h K := by
  have hb' := hb
  unfold ctV at hb'
  refine run_control_rules_9 ?_
  simp only [p_control_rules_9]
  simp (maxSteps := 4000000) only [vm, vl, Arg.get, cells, stor, boundO, resultsV, resV, partK, loadV, Vm.part, fillC, splice, reduceIte, reduceCtorEq, Nat.reduceEqDiff, Nat.reduceAdd, Nat.reduceSub, Nat.reduceMul, Nat.reduceLeDiff, ne_eq, not_false_eq_true, Int.reduceEq, Int.reduceLT, Int.reduceLE, Int.reduceNeg, Int.reduceToNat, Int.reduceGT, Int.reduceGE, Nat.reduceLT, Nat.lt_add_one, Nat.zero_lt_succ, Nat.succ_pos, Nat.zero_le, beq_self_eq_true, hb']
  exact hk
theorem num0_ok {p : Nat} : Cf F L i_control_rules_10 [.ptr p 0] h (fun v h' => v = .ptr p 7 ∧ h' = h) := by
  refine run_control_rules_10 ?_
  simp only [p_control_rules_10]
  simp (maxSteps := 4000000) only [vm, vl, Arg.get, cells, stor, boundO, resultsV, resV, partK, loadV, Vm.part, fillC, splice, reduceIte, reduceCtorEq, Nat.reduceEqDiff, Nat.reduceAdd, Nat.reduceSub, Nat.reduceMul, Nat.reduceLeDiff, ne_eq, not_false_eq_true, Int.reduceEq, Int.reduceLT, Int.reduceLE, Int.reduceNeg, Int.reduceToNat, Int.reduceGT, Int.reduceGE, Nat.reduceLT, Nat.lt_add_one, Nat.zero_lt_succ, Nat.succ_pos, Nat.zero_le, beq_self_eq_true]
theorem num1_ok {p : Nat} : Cf F L i_control_rules_11 [.ptr p 0] h (fun v h' => v = .ptr p 8 ∧ h' = h) := by
  refine run_control_rules_11 ?_
  simp only [p_control_rules_11]
  simp (maxSteps := 4000000) only [vm, vl, Arg.get, cells, stor, boundO, resultsV, resV, partK, loadV, Vm.part, fillC, splice, reduceIte, reduceCtorEq, Nat.reduceEqDiff, Nat.reduceAdd, Nat.reduceSub, Nat.reduceMul, Nat.reduceLeDiff, ne_eq, not_false_eq_true, Int.reduceEq, Int.reduceLT, Int.reduceLE, Int.reduceNeg, Int.reduceToNat, Int.reduceGT, Int.reduceGE, Nat.reduceLT, Nat.lt_add_one, Nat.zero_lt_succ, Nat.succ_pos, Nat.zero_le, beq_self_eq_true]
theorem num2_ok {p : Nat} : Cf F L i_control_rules_12 [.ptr p 0] h (fun v h' => v = .ptr p 9 ∧ h' = h) := by
  refine run_control_rules_12 ?_
  simp only [p_control_rules_12]
  simp (maxSteps := 4000000) only [vm, vl, Arg.get, cells, stor, boundO, resultsV, resV, partK, loadV, Vm.part, fillC, splice, reduceIte, reduceCtorEq, Nat.reduceEqDiff, Nat.reduceAdd, Nat.reduceSub, Nat.reduceMul, Nat.reduceLeDiff, ne_eq, not_false_eq_true, Int.reduceEq, Int.reduceLT, Int.reduceLE, Int.reduceNeg, Int.reduceToNat, Int.reduceGT, Int.reduceGE, Nat.reduceLT, Nat.lt_add_one, Nat.zero_lt_succ, Nat.succ_pos, Nat.zero_le, beq_self_eq_true]
theorem num3_ok {p : Nat} : Cf F L i_control_rules_13 [.ptr p 0] h (fun v h' => v = .ptr p 10 ∧ h' = h) := by
  refine run_control_rules_13 ?_
  simp only [p_control_rules_13]
  simp (maxSteps := 4000000) only [vm, vl, Arg.get, cells, stor, boundO, resultsV, resV, partK, loadV, Vm.part, fillC, splice, reduceIte, reduceCtorEq, Nat.reduceEqDiff, Nat.reduceAdd, Nat.reduceSub, Nat.reduceMul, Nat.reduceLeDiff, ne_eq, not_false_eq_true, Int.reduceEq, Int.reduceLT, Int.reduceLE, Int.reduceNeg, Int.reduceToNat, Int.reduceGT, Int.reduceGE, Nat.reduceLT, Nat.lt_add_one, Nat.zero_lt_succ, Nat.succ_pos, Nat.zero_le, beq_self_eq_true]
theorem num4_ok {p : Nat} : Cf F L i_control_rules_14 [.ptr p 0] h (fun v h' => v = .ptr p 11 ∧ h' = h) := by
  refine run_control_rules_14 ?_
  simp only [p_control_rules_14]
  simp (maxSteps := 4000000) only [vm, vl, Arg.get, cells, stor, boundO, resultsV, resV, partK, loadV, Vm.part, fillC, splice, reduceIte, reduceCtorEq, Nat.reduceEqDiff, Nat.reduceAdd, Nat.reduceSub, Nat.reduceMul, Nat.reduceLeDiff, ne_eq, not_false_eq_true, Int.reduceEq, Int.reduceLT, Int.reduceLE, Int.reduceNeg, Int.reduceToNat, Int.reduceGT, Int.reduceGE, Nat.reduceLT, Nat.lt_add_one, Nat.zero_lt_succ, Nat.succ_pos, Nat.zero_le, beq_self_eq_true]
theorem num5_ok {p : Nat} : Cf F L i_control_rules_15 [.ptr p 0] h (fun v h' => v = .ptr p 12 ∧ h' = h) := by
  refine run_control_rules_15 ?_
  simp only [p_control_rules_15]
  simp (maxSteps := 4000000) only [vm, vl, Arg.get, cells, stor, boundO, resultsV, resV, partK, loadV, Vm.part, fillC, splice, reduceIte, reduceCtorEq, Nat.reduceEqDiff, Nat.reduceAdd, Nat.reduceSub, Nat.reduceMul, Nat.reduceLeDiff, ne_eq, not_false_eq_true, Int.reduceEq, Int.reduceLT, Int.reduceLE, Int.reduceNeg, Int.reduceToNat, Int.reduceGT, Int.reduceGE, Nat.reduceLT, Nat.lt_add_one, Nat.zero_lt_succ, Nat.succ_pos, Nat.zero_le, beq_self_eq_true]
theorem flag_ok {c : Ct} {p i : Nat} {K : V → Heap → Prop} (hi : i < 7) (hb : h[p]? = some (.box (ctV c))) (hk : K (.tup []) (h.set p (.box (ctV (setF c i))))) : Cf F L (flagF.getD i 0) [.ptr p 0] h K := by
  match i, hi with
  | 0, _ => exact flag0_ok hb hk
  | 1, _ => exact flag1_ok hb hk
  | 2, _ => exact flag2_ok hb hk
  | 3, _ => exact flag3_ok hb hk
  | 4, _ => exact flag4_ok hb hk
  | 5, _ => exact flag5_ok hb hk
  | 6, _ => exact flag6_ok hb hk
theorem num_ok {p j : Nat} (hj : j < 6) : Cf F L (numF.getD j 0) [.ptr p 0] h (fun v h' => v = .ptr p (7 + j) ∧ h' = h) := by
  match j, hj with
  | 0, _ => exact num0_ok
  | 1, _ => exact num1_ok
  | 2, _ => exact num2_ok
  | 3, _ => exact num3_ok
  | 4, _ => exact num4_ok
  | 5, _ => exact num5_ok
theorem put_rule1 {es es' : List (V × V)} {name : Bs} {f : FuncId} {K : V → Heap → Prop} (he : mapsetE .s (.str name) (.agg [.fn f [], .nfn, .int .i64 0, .int .i64 0]) es = some es')
    (hk : K (.tup []) (h ++ [.map es', .box [.map h.length]])) : Cf F L i_control_rules_1 [.str name, .fn f [], .ptr (h.length + 1) 0] (h ++ [.map es, .box [.map h.length]]) K := by
  refine run_control_rules_1 ?_
  simp only [p_control_rules_1]
  simp (maxSteps := 4000000) only [vm, vl, Arg.get, cells, stor, boundO, resultsV, resV, partK, loadV, Vm.part, fillC, splice, reduceIte, reduceCtorEq, Nat.reduceEqDiff, Nat.reduceAdd, Nat.reduceSub, Nat.reduceMul, Nat.reduceLeDiff, ne_eq, not_false_eq_true, Int.reduceEq, Int.reduceLT, Int.reduceLE, Int.reduceNeg, Int.reduceToNat, Int.reduceGT, Int.reduceGE, Nat.reduceLT, Nat.lt_add_one, Nat.zero_lt_succ, Nat.succ_pos, Nat.zero_le, beq_self_eq_true, he]
  exact hk
theorem put_rule2 {es es' : List (V × V)} {name : Bs} {f : FuncId} {m b : Int} {K : V → Heap → Prop} (he : mapsetE .s (.str name) (.agg [.nfn, .fn f [], .int .i64 m, .int .i64 b]) es = some es')
    (hk : K (.tup []) (h ++ [.map es', .box [.map h.length]])) : Cf F L i_control_rules_2 [.str name, .int .i64 m, .int .i64 b, .fn f [], .ptr (h.length + 1) 0] (h ++ [.map es, .box [.map h.length]]) K := by
  refine run_control_rules_2 ?_
  simp only [p_control_rules_2]
  simp (maxSteps := 4000000) only [vm, vl, Arg.get, cells, stor, boundO, resultsV, resV, partK, loadV, Vm.part, fillC, splice, reduceIte, reduceCtorEq, Nat.reduceEqDiff, Nat.reduceAdd, Nat.reduceSub, Nat.reduceMul, Nat.reduceLeDiff, ne_eq, not_false_eq_true, Int.reduceEq, Int.reduceLT, Int.reduceLE, Int.reduceNeg, Int.reduceToNat, Int.reduceGT, Int.reduceGE, Nat.reduceLT, Nat.lt_add_one, Nat.zero_lt_succ, Nat.succ_pos, Nat.zero_le, beq_self_eq_true, he]
  exact hk
theorem rules_ok : Cf F L i_control_rules [] h (fun v h' => v = .map h.length ∧ h' = h ++ [.map ruleE, .box [.map h.length]]) := by
  refine run_control_rules ?_
  simp only [p_control_rules]
  simp (maxSteps := 4000000) only [vm, vl, Arg.get, cells, stor, boundO, resultsV, resV, partK, loadV, Vm.part, fillC, splice, reduceIte, reduceCtorEq, Nat.reduceEqDiff, Nat.reduceAdd, Nat.reduceSub, Nat.reduceMul, Nat.reduceLeDiff, ne_eq, not_false_eq_true, Int.reduceEq, Int.reduceLT, Int.reduceLE, Int.reduceNeg, Int.reduceToNat, Int.reduceGT, Int.reduceGE, Nat.reduceLT, Nat.lt_add_one, Nat.zero_lt_succ, Nat.succ_pos, Nat.zero_le, beq_self_eq_true]
  refine put_rule1 (es' := ruleE.take 1) rfl ?_
  try simp (maxSteps := 4000000) only [vm, vl, Arg.get, cells, stor, boundO, resultsV, resV, partK, loadV, Vm.part, fillC, splice, reduceIte, reduceCtorEq, Nat.reduceEqDiff, Nat.reduceAdd, Nat.reduceSub, Nat.reduceMul, Nat.reduceLeDiff, ne_eq, not_false_eq_true, Int.reduceEq, Int.reduceLT, Int.reduceLE, Int.reduceNeg, Int.reduceToNat, Int.reduceGT, Int.reduceGE, Nat.reduceLT, Nat.lt_add_one, Nat.zero_lt_succ, Nat.succ_pos, Nat.zero_le, beq_self_eq_true]
  refine put_rule1 (es' := ruleE.take 2) rfl ?_
  try simp (maxSteps := 4000000) only [vm, vl, Arg.get, cells, stor, boundO, resultsV, resV, partK, loadV, Vm.part, fillC, splice, reduceIte, reduceCtorEq, Nat.reduceEqDiff, Nat.reduceAdd, Nat.reduceSub, Nat.reduceMul, Nat.reduceLeDiff, ne_eq, not_false_eq_true, Int.reduceEq, Int.reduceLT, Int.reduceLE, Int.reduceNeg, Int.reduceToNat, Int.reduceGT, Int.reduceGE, Nat.reduceLT, Nat.lt_add_one, Nat.zero_lt_succ, Nat.succ_pos, Nat.zero_le, beq_self_eq_true]
  refine put_rule1 (es' := ruleE.take 3) rfl ?_
  try simp (maxSteps := 4000000) only [vm, vl, Arg.get, cells, stor, boundO, resultsV, resV, partK, loadV, Vm.part, fillC, splice, reduceIte, reduceCtorEq, Nat.reduceEqDiff, Nat.reduceAdd, Nat.reduceSub, Nat.reduceMul, Nat.reduceLeDiff, ne_eq, not_false_eq_true, Int.reduceEq, Int.reduceLT, Int.reduceLE, Int.reduceNeg, Int.reduceToNat, Int.reduceGT, Int.reduceGE, Nat.reduceLT, Nat.lt_add_one, Nat.zero_lt_succ, Nat.succ_pos, Nat.zero_le, beq_self_eq_true]
  refine put_rule1 (es' := ruleE.take 4) rfl ?_
  try simp (maxSteps := 4000000) only [vm, vl, Arg.get, cells, stor, boundO, resultsV, resV, partK, loadV, Vm.part, fillC, splice, reduceIte, reduceCtorEq, Nat.reduceEqDiff, Nat.reduceAdd, Nat.reduceSub, Nat.reduceMul, Nat.reduceLeDiff, ne_eq, not_false_eq_true, Int.reduceEq, Int.reduceLT, Int.reduceLE, Int.reduceNeg, Int.reduceToNat, Int.reduceGT, Int.reduceGE, Nat.reduceLT, Nat.lt_add_one, Nat.zero_lt_succ, Nat.succ_pos, Nat.zero_le, beq_self_eq_true]
  refine put_rule1 (es' := ruleE.take 5) rfl ?_
  try simp (maxSteps := 4000000) only [vm, vl, Arg.get, cells, stor, boundO, resultsV, resV, partK, loadV, Vm.part, fillC, splice, reduceIte, reduceCtorEq, Nat.reduceEqDiff, Nat.reduceAdd, Nat.reduceSub, Nat.reduceMul, Nat.reduceLeDiff, ne_eq, not_false_eq_true, Int.reduceEq, Int.reduceLT, Int.reduceLE, Int.reduceNeg, Int.reduceToNat, Int.reduceGT, Int.reduceGE, Nat.reduceLT, Nat.lt_add_one, Nat.zero_lt_succ, Nat.succ_pos, Nat.zero_le, beq_self_eq_true]
  refine put_rule1 (es' := ruleE.take 6) rfl ?_
  try simp (maxSteps := 4000000) only [vm, vl, Arg.get, cells, stor, boundO, resultsV, resV, partK, loadV, Vm.part, fillC, splice, reduceIte, reduceCtorEq, Nat.reduceEqDiff, Nat.reduceAdd, Nat.reduceSub, Nat.reduceMul, Nat.reduceLeDiff, ne_eq, not_false_eq_true, Int.reduceEq, Int.reduceLT, Int.reduceLE, Int.reduceNeg, Int.reduceToNat, Int.reduceGT, Int.reduceGE, Nat.reduceLT, Nat.lt_add_one, Nat.zero_lt_succ, Nat.succ_pos, Nat.zero_le, beq_self_eq_true]
  refine put_rule1 (es' := ruleE.take 7) rfl ?_
  try simp (maxSteps := 4000000) only [vm, vl, Arg.get, cells, stor, boundO, resultsV, resV, partK, loadV, Vm.part, fillC, splice, reduceIte, reduceCtorEq, Nat.reduceEqDiff, Nat.reduceAdd, Nat.reduceSub, Nat.reduceMul, Nat.reduceLeDiff, ne_eq, not_false_eq_true, Int.reduceEq, Int.reduceLT, Int.reduceLE, Int.reduceNeg, Int.reduceToNat, Int.reduceGT, Int.reduceGE, Nat.reduceLT, Nat.lt_add_one, Nat.zero_lt_succ, Nat.succ_pos, Nat.zero_le, beq_self_eq_true]
  refine put_rule2 (es' := ruleE.take 8) rfl ?_
  try simp (maxSteps := 4000000) only [vm, vl, Arg.get, cells, stor, boundO, resultsV, resV, partK, loadV, Vm.part, fillC, splice, reduceIte, reduceCtorEq, Nat.reduceEqDiff, Nat.reduceAdd, Nat.reduceSub, Nat.reduceMul, Nat.reduceLeDiff, ne_eq, not_false_eq_true, Int.reduceEq, Int.reduceLT, Int.reduceLE, Int.reduceNeg, Int.reduceToNat, Int.reduceGT, Int.reduceGE, Nat.reduceLT, Nat.lt_add_one, Nat.zero_lt_succ, Nat.succ_pos, Nat.zero_le, beq_self_eq_true]
  refine put_rule2 (es' := ruleE.take 9) rfl ?_
  try simp (maxSteps := 4000000) only [vm, vl, Arg.get, cells, stor, boundO, resultsV, resV, partK, loadV, Vm.part, fillC, splice, reduceIte, reduceCtorEq, Nat.reduceEqDiff, Nat.reduceAdd, Nat.reduceSub, Nat.reduceMul, Nat.reduceLeDiff, ne_eq, not_false_eq_true, Int.reduceEq, Int.reduceLT, Int.reduceLE, Int.reduceNeg, Int.reduceToNat, Int.reduceGT, Int.reduceGE, Nat.reduceLT, Nat.lt_add_one, Nat.zero_lt_succ, Nat.succ_pos, Nat.zero_le, beq_self_eq_true]
  refine put_rule2 (es' := ruleE.take 10) rfl ?_
  try simp (maxSteps := 4000000) only [vm, vl, Arg.get, cells, stor, boundO, resultsV, resV, partK, loadV, Vm.part, fillC, splice, reduceIte, reduceCtorEq, Nat.reduceEqDiff, Nat.reduceAdd, Nat.reduceSub, Nat.reduceMul, Nat.reduceLeDiff, ne_eq, not_false_eq_true, Int.reduceEq, Int.reduceLT, Int.reduceLE, Int.reduceNeg, Int.reduceToNat, Int.reduceGT, Int.reduceGE, Nat.reduceLT, Nat.lt_add_one, Nat.zero_lt_succ, Nat.succ_pos, Nat.zero_le, beq_self_eq_true]
  refine put_rule2 (es' := ruleE.take 11) rfl ?_
  try simp (maxSteps := 4000000) only [vm, vl, Arg.get, cells, stor, boundO, resultsV, resV, partK, loadV, Vm.part, fillC, splice, reduceIte, reduceCtorEq, Nat.reduceEqDiff, Nat.reduceAdd, Nat.reduceSub, Nat.reduceMul, Nat.reduceLeDiff, ne_eq, not_false_eq_true, Int.reduceEq, Int.reduceLT, Int.reduceLE, Int.reduceNeg, Int.reduceToNat, Int.reduceGT, Int.reduceGE, Nat.reduceLT, Nat.lt_add_one, Nat.zero_lt_succ, Nat.succ_pos, Nat.zero_le, beq_self_eq_true]
  refine put_rule2 (es' := ruleE.take 12) rfl ?_
  try simp (maxSteps := 4000000) only [vm, vl, Arg.get, cells, stor, boundO, resultsV, resV, partK, loadV, Vm.part, fillC, splice, reduceIte, reduceCtorEq, Nat.reduceEqDiff, Nat.reduceAdd, Nat.reduceSub, Nat.reduceMul, Nat.reduceLeDiff, ne_eq, not_false_eq_true, Int.reduceEq, Int.reduceLT, Int.reduceLE, Int.reduceNeg, Int.reduceToNat, Int.reduceGT, Int.reduceGE, Nat.reduceLT, Nat.lt_add_one, Nat.zero_lt_succ, Nat.succ_pos, Nat.zero_le, beq_self_eq_true]
  refine put_rule2 (es' := ruleE.take 13) rfl ?_
  try simp (maxSteps := 4000000) only [vm, vl, Arg.get, cells, stor, boundO, resultsV, resV, partK, loadV, Vm.part, fillC, splice, reduceIte, reduceCtorEq, Nat.reduceEqDiff, Nat.reduceAdd, Nat.reduceSub, Nat.reduceMul, Nat.reduceLeDiff, ne_eq, not_false_eq_true, Int.reduceEq, Int.reduceLT, Int.reduceLE, Int.reduceNeg, Int.reduceToNat, Int.reduceGT, Int.reduceGE, Nat.reduceLT, Nat.lt_add_one, Nat.zero_lt_succ, Nat.succ_pos, Nat.zero_le, beq_self_eq_true]
  rfl
end Go.Proofs.YtgplldjcopfjpaaDoor.Vh
end
section
set_option linter.unusedVariables false
set_option linter.unusedSimpArgs false
namespace Go.Proofs.YtgplldjcopfjpaaDoor.Vh
open Go.Vm Go.Vt
theorem trimL_len (s : Bs) : (trimL s).length ≤ s.length := (List.dropWhile_sublist _).length_le
theorem trimR_len : ∀ s : Bs, (trimR s).length ≤ s.length
  | [] => by simp [trimR]
  | c :: r => by
    have := trimR_len r
    unfold trimR
    split
    · split
      · simp
      · simp
    · rename_i h
      simp only [List.length_cons]; omega
theorem trim_len (s : Bs) : (trim s).length ≤ s.length := Nat.le_trans (trimL_len _) (trimR_len _)
theorem flush_mem {out : List Bs} {own x : Bs} (h : x ∈ flush out own) : x ∈ out ∨ x.length ≤ own.length := by
  unfold flush at h
  split at h
  · exact .inl h
  · rcases List.mem_append.1 h with h | h
    · exact .inl h
    · right; rw [List.mem_singleton.1 h]; exact trim_len _
theorem splitG_mem : ∀ {n : Nat} {s own : Bs} {q : Bool} {out l : List Bs}, s.length ≤ n → splitG s own q out = some l → ∀ x ∈ l, x ∈ out ∨ x.length ≤ own.length + s.length
  | n, [], own, q, out, l, hn, h, x, hx => by
    have e : splitG [] own q out = if q then none else some (flush out own) := rfl
    rw [e] at h
    split at h
    · cases h
    · injection h with h; subst h
      exact (flush_mem hx).imp_right fun h => by simpa using h
  | 0, c :: r, own, q, out, l, hn, h, x, hx => by simp at hn
  | n + 1, c :: r, own, q, out, l, hn, h, x, hx => by
    simp at hn
    rw [splitG_step] at h
    split at h
    · refine (splitG_mem hn h x hx).imp_right fun this => ?_; simp only [List.length_append, List.length_cons, List.length_nil] at this ⊢; omega
    split at h
    · cases r with
      | nil => cases h
      | cons d r =>
        refine (splitG_mem (n := n) (by simp at hn; omega) h x hx).imp_right fun this => ?_; simp only [List.length_append, List.length_cons, List.length_nil] at this ⊢; omega
    split at h
    · rcases splitG_mem hn h x hx with h1 | h1
      · refine (flush_mem h1).imp_right fun this => ?_; simp only [List.length_cons]; omega
      · right; simp only [List.length_cons, List.length_nil] at h1 ⊢; omega
    · refine (splitG_mem hn h x hx).imp_right fun this => ?_; simp only [List.length_append, List.length_cons, List.length_nil] at this ⊢; omega
theorem split_mem {s : Bs} {l : List Bs} (h : split s = some l) : ∀ x ∈ l, x.length ≤ s.length := by
  intro x hx
  have := splitG_mem (Nat.le_refl _) h x hx
  simpa using this
theorem list_at' {α : Type} {l : List α} {i : Nat} (d : α) (hi : i ≤ l.length) : (¬ (i : Int) < l.length ∧ i = l.length ∧ l.drop i = []) ∨ ((i : Int) < l.length ∧ i < l.length ∧ l.drop i = l.getD i d :: l.drop (i + 1) ∧ l.take (i + 1) = l.take i ++ [l.getD i d]) := by
  rcases Nat.lt_or_eq_of_le hi with h | h
  · right
    have e : l.getD i d = l[i] := by rw [List.getD_eq_getElem?_getD, List.getElem?_eq_getElem h]; rfl
    exact ⟨by omega, h, by rw [e]; exact List.drop_eq_getElem_cons h, by rw [e, List.take_add_one, List.getElem?_eq_getElem h]; rfl⟩
  · exact .inl ⟨by omega, h, by rw [h]; simp⟩
theorem splitG_len : ∀ {n : Nat} {s own : Bs} {q : Bool} {out l : List Bs}, s.length ≤ n → splitG s own q out = some l → l.length ≤ out.length + s.length + 1
  | 0, s, own, q, out, l, hn, h => by
    obtain rfl : s = [] := List.eq_nil_of_length_eq_zero (by omega)
    rw [splitG_none rfl] at h
    split at h
    · cases h
    · injection h with h; subst h
      have := flush_len out own; simp; omega
  | n + 1, [], own, q, out, l, hn, h => splitG_len (n := n) (by simp) h
  | n + 1, c :: r, own, q, out, l, hn, h => by
    simp at hn
    rw [splitG_step] at h
    split at h
    · have := splitG_len hn h; simp; omega
    split at h
    · cases r with
      | nil => cases h
      | cons d r =>
        have := splitG_len (n := n) (by simp at hn; omega) h; simp; omega
    split at h
    · have := splitG_len hn h
      have := flush_len out own; simp; omega
    · have := splitG_len hn h; simp; omega
end Go.Proofs.YtgplldjcopfjpaaDoor.Vh
end
section
set_option linter.unusedVariables false
set_option linter.unusedSimpArgs false
namespace Go.Proofs.YtgplldjcopfjpaaDoor.Vh
open Go.Vm Go.Vt
attribute [local congr] wi_congr wg_congr wgd_congr wb_congr wl_congr cf_congr
variable {L : FuncId → List V → V → Prop} {h : Heap}
theorem ruleT_spec (nm : Bs) : ruleOf nm = .no ∨ (∃ i, i < 7 ∧ ruleOf nm = .flag i) ∨ ∃ j m b, j < 6 ∧ ruleOf nm = .num j m b := by
  unfold ruleOf ruleT
  simp only [List.lookup]
  repeat' split
  all_goals simp
theorem ctV_len (c : Ct) : (ctV c).length = 13 := rfl
theorem ctV_num {c : Ct} {j : Nat} (hj : j < 6) : (ctV c).getD (7 + j) (.tup []) = .int .i64 (c.n j) := by
  match j, hj with
  | 0, _ => rfl
  | 1, _ => rfl
  | 2, _ => rfl
  | 3, _ => rfl
  | 4, _ => rfl
  | 5, _ => rfl
theorem ctV_put {c : Ct} {j : Nat} {v : Int} (hj : j < 6) : List.take (7 + j) (ctV c) ++ V.int .i64 v :: List.drop (7 + (j + 1)) (ctV c) = ctV (setN c j v) := by
  match j, hj with
  | 0, _ => rfl
  | 1, _ => rfl
  | 2, _ => rfl
  | 3, _ => rfl
  | 4, _ => rfl
  | 5, _ => rfl
theorem unqT_len : ∀ (n : Nat) (s bs : Bs), s.length ≤ n → (unqT s bs).1.length ≤ bs.length + s.length
  | _, [], bs, _ => by rw [unqT_end]; simp
  | 0, c :: r, bs, hn => by simp at hn
  | n + 1, c :: t, bs, hn => by
    simp at hn
    by_cases c34 : c = 34
    · subst c34
      rw [unqT_stop]; simp
    · by_cases c92 : c = 92
      · subst c92
        cases t with
        | nil => rw [unqT_esc0]; simp
        | cons d t =>
          rw [unqT_esc]
          simp at hn
          split
          · have := unqT_len n t (bs ++ [d]) (by omega)
            simp at this ⊢; omega
          · simp
      · rw [unqT_one c34 c92]
        split
        · have := unqT_len n t (bs ++ [c]) hn
          simp at this ⊢; omega
        · simp
theorem unqP_len (s : Bs) : (unqP s).1.length ≤ s.length := by
  unfold unqP
  split
  · have := unqT_len _ (s.drop 1) [] (Nat.le_refl _)
    rw [List.length_drop, List.length_nil] at this
    omega
  · simp
theorem pairS_len1 (s : Bs) : (pairS s).1.length ≤ s.length := by
  unfold pairS
  simp only
  split
  · split
    · split
      · rw [List.length_take]; omega
      · split
        · rw [List.length_take]; omega
        · simp
    · rw [List.length_take]; omega
  · simp
theorem pairS_len2 (s : Bs) : (pairS s).2.1.length ≤ s.length := by
  have h1 : (s.drop (pos 61 s + 1)).length ≤ s.length := by rw [List.length_drop]; omega
  have h2 := unqP_len (s.drop (pos 61 s + 1))
  unfold pairS
  simp only
  split
  · split
    · split
      · exact h1
      · split
        · exact Nat.le_trans h2 h1
        · simp
    · exact h1
  · simp
theorem find_case (nm : Bs) : ∃ r, findE .s (.str nm) ruleE 0 = some r ∧ ((r = none ∧ ruleOf nm = .no) ∨ ∃ i, r = some (i, ruleV (ruleOf nm))) := by
  obtain ⟨r, h1, h2⟩ := find_rule nm ruleT 0
  refine ⟨r, h1, ?_⟩
  unfold ruleOf
  cases hl : ruleT.lookup nm with
  | none => rw [hl] at h2; exact .inl ⟨h2, rfl⟩
  | some a => rw [hl] at h2; exact .inr h2
def ParI (h : Heap) (l : List Bs) (x : V) (n : Nat) (e : Env) (h' : Heap) : Prop :=
  ∃ (i : Nat) (c : Ct) (km : Nat) (R A : O) (t : Heap), n = l.length - i ∧ i ≤ l.length ∧ e 2 = .ptr h.length 0 ∧ e 4 = .ptr (h.length + 2) 0 ∧ e 7 = .map (h.length + (km + 3)) ∧ e 29 = x ∧ e 30 = .int .i64 l.length ∧ e 31 = .int .i64 i ∧
    (∃ cs, R = .box cs ∧ cs.length = 13) ∧ h' = h ++ (R :: A :: .box (ctV c) :: t) ∧ t[km]? = some (.map ruleE) ∧ l.foldl stepC ct0 = (l.drop i).foldl stepC c
theorem Parse_round {l : List Bs} {x : V} (HI : IndexOk L) (HU : UnqOk L) (hx : ListV 1 x (strs l)) (hl : l.length < 100000000) (hb : ∀ s ∈ l, s.length < 100000000) {n : Nat} {e : Env} {h' : Heap} (hI : ParI h l x n e h') :
    b_control_Parse_0 L (Pu h (parseCV (l.foldl stepC ct0, true))) (fun e' h' => ∃ m, m < n ∧ ParI h l x m e' h') e h' := by
  obtain ⟨i, c, km, R, A, t, rfl, hi, e2, e4, e7, e29, e30, e31, ⟨cs, rfl, hcs⟩, rfl, hk, hf⟩ := hI
  simp only [b_control_Parse_0]
  
  rcases list_at' [] hi with ⟨hn, rfl, hd⟩ | ⟨hl1, hl2, hd, _⟩
  · rw [hd] at hf
    have hcs1 : List.drop 13 cs = [] := List.drop_eq_nil_of_le (by omega)
    have hc13 := ctV_len c
    have ht13 : List.take 13 (ctV c) = ctV c := rfl
    simp (maxSteps := 4000000) only [vm, vl, Arg.get, cells, stor, boundO, resultsV, resV, partK, loadV, Vm.part, fillC, splice, reduceIte, reduceCtorEq, Nat.reduceEqDiff, Nat.reduceAdd, Nat.reduceSub, Nat.reduceMul, Nat.reduceLeDiff, ne_eq, not_false_eq_true, Int.reduceEq, Int.reduceLT, Int.reduceLE, Int.reduceNeg, Int.reduceToNat, Int.reduceGT, Int.reduceGE, Nat.reduceLT, Nat.lt_add_one, Nat.zero_lt_succ, Nat.succ_pos, Nat.zero_le, beq_self_eq_true, e2, e4, e30, e31, hn]
    unfold k_control_Parse_1
    simp (maxSteps := 4000000) only [vm, vl, Arg.get, cells, stor, boundO, resultsV, resV, partK, loadV, Vm.part, fillC, splice, reduceIte, reduceCtorEq, Nat.reduceEqDiff, Nat.reduceAdd, Nat.reduceSub, Nat.reduceMul, Nat.reduceLeDiff, ne_eq, not_false_eq_true, Int.reduceEq, Int.reduceLT, Int.reduceLE, Int.reduceNeg, Int.reduceToNat, Int.reduceGT, Int.reduceGE, Nat.reduceLT, Nat.lt_add_one, Nat.zero_lt_succ, Nat.succ_pos, Nat.zero_le, beq_self_eq_true, hcs, hc13, ht13, hcs1, List.append_nil]
    rw [hf]; rfl
  · obtain ⟨o, rfl⟩ : ∃ o, x = .sl 1 o (strs l) := by
      rcases hx with ⟨he, _⟩ | h
      · have := strs_len l
        rw [he] at this
        simp at this
        omega
      · exact h
    have hsl : i < (strs l).length := by rw [strs_len]; exact hl2
    have hi0 : (0 : Int) ≤ (i : Int) := by omega
    have g : (strs l).getD i (.tup []) = .str (l.getD i []) := by
      unfold strs
      rw [List.getD_eq_getElem?_getD, List.getD_eq_getElem?_getD, List.getElem?_map, List.getElem?_eq_getElem hl2]; rfl
    have hyb : (l.getD i []).length < 100000000 := by
      rw [List.getD_eq_getElem?_getD, List.getElem?_eq_getElem hl2]; exact hb _ (List.getElem_mem hl2)
    rw [hd, List.foldl_cons] at hf
    generalize l.getD i [] = y at *
    have w := wrap64 (x := (i : Int) + 1) (by omega) (by omega)
    have hplen : (pairS y).1.length ≤ y.length := pairS_len1 y
    have hplen2 : (pairS y).2.1.length ≤ y.length := pairS_len2 y
    simp (maxSteps := 4000000) only [vm, vl, Arg.get, cells, stor, boundO, resultsV, resV, partK, loadV, Vm.part, fillC, splice, reduceIte, reduceCtorEq, Nat.reduceEqDiff, Nat.reduceAdd, Nat.reduceSub, Nat.reduceMul, Nat.reduceLeDiff, ne_eq, not_false_eq_true, Int.reduceEq, Int.reduceLT, Int.reduceLE, Int.reduceNeg, Int.reduceToNat, Int.reduceGT, Int.reduceGE, Nat.reduceLT, Nat.lt_add_one, Nat.zero_lt_succ, Nat.succ_pos, Nat.zero_le, beq_self_eq_true, e2, e4, e7, e29, e30, e31, hl1]
    unfold k_control_Parse_2
    simp (maxSteps := 4000000) only [vm, vl, Arg.get, cells, stor, boundO, resultsV, resV, partK, loadV, Vm.part, fillC, splice, reduceIte, reduceCtorEq, Nat.reduceEqDiff, Nat.reduceAdd, Nat.reduceSub, Nat.reduceMul, Nat.reduceLeDiff, ne_eq, not_false_eq_true, Int.reduceEq, Int.reduceLT, Int.reduceLE, Int.reduceNeg, Int.reduceToNat, Int.reduceGT, Int.reduceGE, Nat.reduceLT, Nat.lt_add_one, Nat.zero_lt_succ, Nat.succ_pos, Nat.zero_le, beq_self_eq_true, hsl, hi0, g]
    refine Cf.pu (Pair_ok HI HU (by omega)) fun u1 => ?_
    unfold k_control_Parse_6
    simp (maxSteps := 4000000) only [vm, vl, Arg.get, cells, stor, boundO, resultsV, resV, partK, loadV, Vm.part, fillC, splice, reduceIte, reduceCtorEq, Nat.reduceEqDiff, Nat.reduceAdd, Nat.reduceSub, Nat.reduceMul, Nat.reduceLeDiff, ne_eq, not_false_eq_true, Int.reduceEq, Int.reduceLT, Int.reduceLE, Int.reduceNeg, Int.reduceToNat, Int.reduceGT, Int.reduceGE, Nat.reduceLT, Nat.lt_add_one, Nat.zero_lt_succ, Nat.succ_pos, Nat.zero_le, beq_self_eq_true, pairV]
    refine Cf.pu (Lower_ok (by omega)) fun u2 => ?_
    have hmap : (h ++ (O.box cs :: A :: O.box (ctV c) :: (t ++ u1)) ++ u2)[h.length + (km + 3)]? = some (.map ruleE) := by
      refine get_old ?_
      rw [get_new]; exact get_old hk
    obtain ⟨r, hr1, hr2⟩ := find_case (low (pairS y).1)
    simp only [hmap, hr1]
    have main : k_control_Parse_5 L (Pu h (parseCV (List.foldl stepC ct0 l, true)))
        (fun e' h' => ∃ m, m < l.length - i ∧ ParI h l (V.sl 1 o (strs l)) m e' h') (upd e 32 (V.bool true))
        (V.ptr (List.length h + 2) 0) (V.map (List.length h + (km + 3))) (V.int IntKind.i64 ↑i) (V.iptr [V.str y])
        (V.str y)
        (V.tup
          [V.str (pairS y).fst, V.str (pairS y).snd.fst, V.bool (pairS y).snd.snd.fst, V.bool (pairS y).snd.snd.snd])
        (V.str (pairS y).fst) (V.str (pairS y).snd.fst) (V.bool (pairS y).snd.snd.fst) (V.bool (pairS y).snd.snd.snd)
        (V.str (low (pairS y).fst)) (ruleV (ruleOf (low (pairS y).1)))
        (h ++ O.box cs :: A :: O.box (ctV c) :: (t ++ u1) ++ u2) := by
      have hfin : ∀ (c' : Ct) (e' : Env) (t' : Heap), (∃ u, t' = t ++ u) → stepC c y = c' → e' 2 = .ptr h.length 0 → e' 4 = .ptr (h.length + 2) 0 → e' 7 = .map (h.length + (km + 3)) → e' 29 = V.sl 1 o (strs l) → e' 30 = .int .i64 l.length → e' 31 = .int .i64 ((i : Int) + 1) →
          ∃ m, m < l.length - i ∧ ParI h l (V.sl 1 o (strs l)) m e' (h ++ (O.box cs :: A :: O.box (ctV c') :: t')) := by
        rintro c' e' t' ⟨u, rfl⟩ hs f2 f4 f7 f29 f30 f31
        rw [hs] at hf
        exact ⟨l.length - (i + 1), by omega, i + 1, c', km, _, A, t ++ u, rfl, hl2, f2, f4, f7, f29, f30, f31, ⟨cs, rfl, hcs⟩, rfl, get_old hk, hf⟩
      have ha : actS y = match ruleOf (low (pairS y).1) with
        | .no => .nop
        | .flag i => .flag i
        | .num j m b => if valueS (pairS y).2.1 (pairS y).2.2.1 m b = -1 then .nop else .num j (valueS (pairS y).2.1 (pairS y).2.2.1 m b) := rfl
      clear hmap hr1 hr2 hf
      generalize low (pairS y).1 = nm at *
      generalize (pairS y).1 = pn at *
      generalize (pairS y).2.1 = text at *
      generalize (pairS y).2.2.1 = has at *
      generalize (pairS y).2.2.2 = ok at *
      unfold k_control_Parse_5
      rcases ruleT_spec nm with hr | ⟨k, hk7, hr⟩ | ⟨j, m, b, hj, hr⟩
      · rw [hr] at ha ⊢
        have hs : stepC c y = c := by unfold stepC; rw [ha]; rfl
        unfold ruleV
        simp (maxSteps := 4000000) only [vm, vl, Arg.get, cells, stor, boundO, resultsV, resV, partK, loadV, Vm.part, fillC, splice, reduceIte, reduceCtorEq, Nat.reduceEqDiff, Nat.reduceAdd, Nat.reduceSub, Nat.reduceMul, Nat.reduceLeDiff, ne_eq, not_false_eq_true, Int.reduceEq, Int.reduceLT, Int.reduceLE, Int.reduceNeg, Int.reduceToNat, Int.reduceGT, Int.reduceGE, Nat.reduceLT, Nat.lt_add_one, Nat.zero_lt_succ, Nat.succ_pos, Nat.zero_le, beq_self_eq_true, k_control_Parse_3, w]
        exact hfin c _ _ ⟨_, rfl⟩ hs e2 e4 e7 e29 e30 rfl
      · rw [hr] at ha ⊢
        have hs : stepC c y = setF c k := by unfold stepC; rw [ha]; rfl
        unfold ruleV
        simp (maxSteps := 4000000) only [vm, vl, Arg.get, cells, stor, boundO, resultsV, resV, partK, loadV, Vm.part, fillC, splice, reduceIte, reduceCtorEq, Nat.reduceEqDiff, Nat.reduceAdd, Nat.reduceSub, Nat.reduceMul, Nat.reduceLeDiff, ne_eq, not_false_eq_true, Int.reduceEq, Int.reduceLT, Int.reduceLE, Int.reduceNeg, Int.reduceToNat, Int.reduceGT, Int.reduceGE, Nat.reduceLT, Nat.lt_add_one, Nat.zero_lt_succ, Nat.succ_pos, Nat.zero_le, beq_self_eq_true, k_control_Parse_3, w]
        refine flag_ok hk7 (c := c) (by rw [get_new]; rfl) ?_
        simp (maxSteps := 4000000) only [vm, vl, Arg.get, cells, stor, boundO, resultsV, resV, partK, loadV, Vm.part, fillC, splice, reduceIte, reduceCtorEq, Nat.reduceEqDiff, Nat.reduceAdd, Nat.reduceSub, Nat.reduceMul, Nat.reduceLeDiff, ne_eq, not_false_eq_true, Int.reduceEq, Int.reduceLT, Int.reduceLE, Int.reduceNeg, Int.reduceToNat, Int.reduceGT, Int.reduceGE, Nat.reduceLT, Nat.lt_add_one, Nat.zero_lt_succ, Nat.succ_pos, Nat.zero_le, beq_self_eq_true, k_control_Parse_3, w]
        exact hfin (setF c k) _ _ ⟨_, rfl⟩ hs e2 e4 e7 e29 e30 rfl
      · rw [hr] at ha ⊢
        have hc13 := ctV_len c
        have h13 : 7 + (j + 1) ≤ 13 := by omega
        have hnj := ctV_num (c := c) hj
        unfold ruleV
        simp (maxSteps := 4000000) only [vm, vl, Arg.get, cells, stor, boundO, resultsV, resV, partK, loadV, Vm.part, fillC, splice, reduceIte, reduceCtorEq, Nat.reduceEqDiff, Nat.reduceAdd, Nat.reduceSub, Nat.reduceMul, Nat.reduceLeDiff, ne_eq, not_false_eq_true, Int.reduceEq, Int.reduceLT, Int.reduceLE, Int.reduceNeg, Int.reduceToNat, Int.reduceGT, Int.reduceGE, Nat.reduceLT, Nat.lt_add_one, Nat.zero_lt_succ, Nat.succ_pos, Nat.zero_le, beq_self_eq_true, k_control_Parse_3, w]
        refine (num_ok hj).mono fun v h' hv => ?_
        obtain ⟨rfl, rfl⟩ := hv
        simp (maxSteps := 4000000) only [vm, vl, Arg.get, cells, stor, boundO, resultsV, resV, partK, loadV, Vm.part, fillC, splice, reduceIte, reduceCtorEq, Nat.reduceEqDiff, Nat.reduceAdd, Nat.reduceSub, Nat.reduceMul, Nat.reduceLeDiff, ne_eq, not_false_eq_true, Int.reduceEq, Int.reduceLT, Int.reduceLE, Int.reduceNeg, Int.reduceToNat, Int.reduceGT, Int.reduceGE, Nat.reduceLT, Nat.lt_add_one, Nat.zero_lt_succ, Nat.succ_pos, Nat.zero_le, beq_self_eq_true]
        refine Cf.pu (value_ok (by omega)) fun u3 => ?_
        unfold k_control_Parse_4
        have ha' : actS y = if valueS text has m b = -1 then .nop else .num j (valueS text has m b) := ha
        clear ha
        generalize hval : valueS text has m b = vv at *
        by_cases hv : vv = -1
        · have hs : stepC c y = c := by unfold stepC; rw [ha', if_pos hv]; rfl
          simp (maxSteps := 4000000) only [vm, vl, Arg.get, cells, stor, boundO, resultsV, resV, partK, loadV, Vm.part, fillC, splice, reduceIte, reduceCtorEq, Nat.reduceEqDiff, Nat.reduceAdd, Nat.reduceSub, Nat.reduceMul, Nat.reduceLeDiff, ne_eq, not_false_eq_true, Int.reduceEq, Int.reduceLT, Int.reduceLE, Int.reduceNeg, Int.reduceToNat, Int.reduceGT, Int.reduceGE, Nat.reduceLT, Nat.lt_add_one, Nat.zero_lt_succ, Nat.succ_pos, Nat.zero_le, beq_self_eq_true, hv, decide_true, Bool.not_true, k_control_Parse_3, w]
          exact hfin c _ _ ⟨_, rfl⟩ hs e2 e4 e7 e29 e30 rfl
        · rw [if_neg hv] at ha'
          have hs : stepC c y = setN c j (lst (c.n j) vv) := by unfold stepC; rw [ha']; rfl
          have hput := ctV_put (c := c) (j := j) (v := vv) hj
          by_cases h1 : c.n j = -1
          · have hl : lst (c.n j) vv = vv := if_pos (.inl h1)
            rw [hl] at hs
            simp (maxSteps := 4000000) only [vm, vl, Arg.get, cells, stor, boundO, resultsV, resV, partK, loadV, Vm.part, fillC, splice, reduceIte, reduceCtorEq, Nat.reduceEqDiff, Nat.reduceAdd, Nat.reduceSub, Nat.reduceMul, Nat.reduceLeDiff, ne_eq, not_false_eq_true, Int.reduceEq, Int.reduceLT, Int.reduceLE, Int.reduceNeg, Int.reduceToNat, Int.reduceGT, Int.reduceGE, Nat.reduceLT, Nat.lt_add_one, Nat.zero_lt_succ, Nat.succ_pos, Nat.zero_le, beq_self_eq_true, hv, decide_false, Bool.not_false, hc13, h13, hnj, h1, decide_true, hput, k_control_Parse_3, w]
            exact hfin (setN c j vv) _ _ ⟨_, rfl⟩ hs e2 e4 e7 e29 e30 rfl
          · by_cases h2 : vv < c.n j
            · have hl : lst (c.n j) vv = vv := if_pos (.inr h2)
              rw [hl] at hs
              simp (maxSteps := 4000000) only [vm, vl, Arg.get, cells, stor, boundO, resultsV, resV, partK, loadV, Vm.part, fillC, splice, reduceIte, reduceCtorEq, Nat.reduceEqDiff, Nat.reduceAdd, Nat.reduceSub, Nat.reduceMul, Nat.reduceLeDiff, ne_eq, not_false_eq_true, Int.reduceEq, Int.reduceLT, Int.reduceLE, Int.reduceNeg, Int.reduceToNat, Int.reduceGT, Int.reduceGE, Nat.reduceLT, Nat.lt_add_one, Nat.zero_lt_succ, Nat.succ_pos, Nat.zero_le, beq_self_eq_true, hv, decide_false, Bool.not_false, hc13, h13, hnj, h1, h2, decide_true, hput, k_control_Parse_3, w]
              exact hfin (setN c j vv) _ _ ⟨_, rfl⟩ hs e2 e4 e7 e29 e30 rfl
            · have hl : lst (c.n j) vv = c.n j := if_neg (by omega)
              have hss : setN c j (c.n j) = c := by
                unfold setN
                have : (fun k => if k = j then c.n j else c.n k) = c.n := funext fun k => by split <;> simp_all
                rw [this]
              rw [hl, hss] at hs
              simp (maxSteps := 4000000) only [vm, vl, Arg.get, cells, stor, boundO, resultsV, resV, partK, loadV, Vm.part, fillC, splice, reduceIte, reduceCtorEq, Nat.reduceEqDiff, Nat.reduceAdd, Nat.reduceSub, Nat.reduceMul, Nat.reduceLeDiff, ne_eq, not_false_eq_true, Int.reduceEq, Int.reduceLT, Int.reduceLE, Int.reduceNeg, Int.reduceToNat, Int.reduceGT, Int.reduceGE, Nat.reduceLT, Nat.lt_add_one, Nat.zero_lt_succ, Nat.succ_pos, Nat.zero_le, beq_self_eq_true, hv, decide_false, Bool.not_false, hc13, h13, hnj, h1, h2, k_control_Parse_3, w]
              exact hfin c _ _ ⟨_, rfl⟩ hs e2 e4 e7 e29 e30 rfl
    rcases hr2 with ⟨rfl, hr⟩ | ⟨k, rfl⟩
    · rw [hr] at main; exact main
    · exact main
theorem Parse_ok (HI : IndexOk L) (HU : UnqOk L) {s : Bs} (hs : s.length < 1000000) : Cf F L i_control_Parse [.str s] h (Pu h (parseCV (parseC s))) := by
  refine run_control_Parse ?_
  simp only [p_control_Parse]
  
  simp (maxSteps := 4000000) only [vm, vl, Arg.get, cells, stor, boundO, resultsV, resV, partK, loadV, Vm.part, fillC, splice, reduceIte, reduceCtorEq, Nat.reduceEqDiff, Nat.reduceAdd, Nat.reduceSub, Nat.reduceMul, Nat.reduceLeDiff, ne_eq, not_false_eq_true, Int.reduceEq, Int.reduceLT, Int.reduceLE, Int.reduceNeg, Int.reduceToNat, Int.reduceGT, Int.reduceGE, Nat.reduceLT, Nat.lt_add_one, Nat.zero_lt_succ, Nat.succ_pos, Nat.zero_le, beq_self_eq_true]
  refine (nothing_ok).mono fun v h' hv => ?_
  obtain ⟨rfl, rfl⟩ := hv
  have hc13 := ctV_len ct0
  have hd13 : List.drop 13 (ctV ct0) = [] := rfl
  simp (maxSteps := 4000000) only [vm, vl, Arg.get, cells, stor, boundO, resultsV, resV, partK, loadV, Vm.part, fillC, splice, reduceIte, reduceCtorEq, Nat.reduceEqDiff, Nat.reduceAdd, Nat.reduceSub, Nat.reduceMul, Nat.reduceLeDiff, ne_eq, not_false_eq_true, Int.reduceEq, Int.reduceLT, Int.reduceLE, Int.reduceNeg, Int.reduceToNat, Int.reduceGT, Int.reduceGE, Nat.reduceLT, Nat.lt_add_one, Nat.zero_lt_succ, Nat.succ_pos, Nat.zero_le, beq_self_eq_true, hc13]
  refine Cf.pu (Split_ok (by omega)) fun u1 => ?_
  unfold k_control_Parse_7 parseC
  cases hsp : split s with
  | none =>
    simp only [splitV]
    simp (maxSteps := 4000000) only [vm, vl, Arg.get, cells, stor, boundO, resultsV, resV, partK, loadV, Vm.part, fillC, splice, reduceIte, reduceCtorEq, Nat.reduceEqDiff, Nat.reduceAdd, Nat.reduceSub, Nat.reduceMul, Nat.reduceLeDiff, ne_eq, not_false_eq_true, Int.reduceEq, Int.reduceLT, Int.reduceLE, Int.reduceNeg, Int.reduceToNat, Int.reduceGT, Int.reduceGE, Nat.reduceLT, Nat.lt_add_one, Nat.zero_lt_succ, Nat.succ_pos, Nat.zero_le, beq_self_eq_true, ctV, Bool.not_false]
    rfl
  | some l =>
    simp only [splitV]
    simp (maxSteps := 4000000) only [vm, vl, Arg.get, cells, stor, boundO, resultsV, resV, partK, loadV, Vm.part, fillC, splice, reduceIte, reduceCtorEq, Nat.reduceEqDiff, Nat.reduceAdd, Nat.reduceSub, Nat.reduceMul, Nat.reduceLeDiff, ne_eq, not_false_eq_true, Int.reduceEq, Int.reduceLT, Int.reduceLE, Int.reduceNeg, Int.reduceToNat, Int.reduceGT, Int.reduceGE, Nat.reduceLT, Nat.lt_add_one, Nat.zero_lt_succ, Nat.succ_pos, Nat.zero_le, beq_self_eq_true, Bool.not_true]
    unfold k_control_Parse_0
    simp (maxSteps := 4000000) only [vm, vl, Arg.get, cells, stor, boundO, resultsV, resV, partK, loadV, Vm.part, fillC, splice, reduceIte, reduceCtorEq, Nat.reduceEqDiff, Nat.reduceAdd, Nat.reduceSub, Nat.reduceMul, Nat.reduceLeDiff, ne_eq, not_false_eq_true, Int.reduceEq, Int.reduceLT, Int.reduceLE, Int.reduceNeg, Int.reduceToNat, Int.reduceGT, Int.reduceGE, Nat.reduceLT, Nat.lt_add_one, Nat.zero_lt_succ, Nat.succ_pos, Nat.zero_le, beq_self_eq_true]
    refine (rules_ok).mono fun v h' hv => ?_
    obtain ⟨rfl, rfl⟩ := hv
    have hlen : l.length < 100000000 := by
      have := splitG_len (Nat.le_refl _) (show splitG s [] false [] = some l from hsp)
      simp at this; omega
    have hmem := split_mem hsp
    have hx := full_list l
    have hbs : ∀ x ∈ l, x.length < 100000000 := fun x hx => by have := hmem x hx; omega
    have fin : ∀ (e : Env), e 2 = .ptr h.length 0 → e 4 = .ptr (h.length + 2) 0 → e 7 = .map (h.length + (u1.length + 3)) → e 29 = fullV l → e 30 = .int .i64 l.length → e 31 = .int .i64 ((0 : Nat) : Int) →
        Wl F L lc_control_Parse_0 (q_control_Parse_0 L (Pu h (parseCV (List.foldl stepC ct0 l, true)))) e (h ++
        O.box
            [V.bool false, V.bool false, V.bool false, V.bool false, V.bool false, V.bool false, V.bool false,
              V.int IntKind.i64 0, V.int IntKind.i64 0, V.int IntKind.i64 0, V.int IntKind.i64 0, V.int IntKind.i64 0,
              V.int IntKind.i64 0] ::
          O.box (ctV ct0) ::
            O.box (ctV ct0 ++ []) :: (u1 ++ [O.map ruleE, O.box [V.map (List.length h + (List.length u1 + 3))]])) := by
      intro e f2 f4 f7 f29 f30 f31
      rw [List.append_nil]
      exact l_control_Parse_0 (ParI h l (fullV l)) (fun n e h' hI => Parse_round HI HU hx hlen hbs hI) (n := l.length) ⟨0, ct0, u1.length, _, _, _, by simp, by simp, f2, f4, f7, f29, f30, f31, ⟨_, rfl, rfl⟩, rfl, by rw [List.getElem?_append_right (Nat.le_refl _)]; simp, by simp⟩
    rcases hx with ⟨he, e⟩ | ⟨o, e⟩
    · have hl0 : l.length = 0 := by rw [← strs_len, he]; rfl
      rw [hl0] at fin
      rw [e] at fin ⊢
      simp (maxSteps := 4000000) only [vm, vl, Arg.get, cells, stor, boundO, resultsV, resV, partK, loadV, Vm.part, fillC, splice, reduceIte, reduceCtorEq, Nat.reduceEqDiff, Nat.reduceAdd, Nat.reduceSub, Nat.reduceMul, Nat.reduceLeDiff, ne_eq, not_false_eq_true, Int.reduceEq, Int.reduceLT, Int.reduceLE, Int.reduceNeg, Int.reduceToNat, Int.reduceGT, Int.reduceGE, Nat.reduceLT, Nat.lt_add_one, Nat.zero_lt_succ, Nat.succ_pos, Nat.zero_le, beq_self_eq_true]
      exact fin _ rfl rfl rfl rfl rfl rfl
    · rw [e] at fin ⊢
      have hsl := strs_len l
      simp (maxSteps := 4000000) only [vm, vl, Arg.get, cells, stor, boundO, resultsV, resV, partK, loadV, Vm.part, fillC, splice, reduceIte, reduceCtorEq, Nat.reduceEqDiff, Nat.reduceAdd, Nat.reduceSub, Nat.reduceMul, Nat.reduceLeDiff, ne_eq, not_false_eq_true, Int.reduceEq, Int.reduceLT, Int.reduceLE, Int.reduceNeg, Int.reduceToNat, Int.reduceGT, Int.reduceGE, Nat.reduceLT, Nat.lt_add_one, Nat.zero_lt_succ, Nat.succ_pos, Nat.zero_le, beq_self_eq_true, hsl]
      exact fin _ rfl rfl rfl rfl rfl rfl
end Go.Proofs.YtgplldjcopfjpaaDoor.Vh
end
section
set_option linter.unusedVariables false
set_option linter.unusedSimpArgs false
namespace Go.Proofs.YtgplldjcopfjpaaDoor.Vh
open Go.Vm Go.Vt
theorem dec_step {n : Nat} (h : 10 ≤ n) : Go.Lib.decDigits n = Go.Lib.decDigits (n / 10) ++ [UInt8.ofNat (48 + n % 10)] := by
  rw [Go.Lib.decDigits, dif_neg (by omega)]
theorem dec_len : ∀ (k n : Nat), n < 10 ^ (k + 1) → (Go.Lib.decDigits n).length ≤ k + 1
  | k, n, h => by
    by_cases h1 : n < 10
    · rw [Go.Lib.decDigits_one h1]; simp
    · match k with
      | 0 => simp at h; omega
      | k + 1 =>
        rw [dec_step (by omega), List.length_append, List.length_singleton]
        have := dec_len k (n / 10) (by rw [Nat.pow_succ] at h; omega)
        omega
theorem dec_pos (n : Nat) : 0 < (Go.Lib.decDigits n).length := by
  by_cases h1 : n < 10
  · rw [Go.Lib.decDigits_one h1]; simp
  · rw [dec_step (by omega)]; simp
theorem dig_ch : ∀ d, d < 10 → digB (UInt8.ofNat (48 + d)) = true ∧ ((UInt8.ofNat (48 + d)).toNat : Int) - 48 = d := by decide +kernel
theorem dec_dig : ∀ n : Nat, (Go.Lib.decDigits n).all digB = true
  | n => by
    by_cases h1 : n < 10
    · rw [Go.Lib.decDigits_one h1, List.all_cons, List.all_nil, (dig_ch n h1).1]; rfl
    · rw [dec_step (by omega), List.all_append, dec_dig (n / 10)]
      rw [List.all_cons, List.all_nil, (dig_ch (n % 10) (by omega)).1]; rfl
theorem numG_dec : ∀ (n : Nat) {most : Int} {r : Bs}, (n : Int) ≤ most → numG (Go.Lib.decDigits n ++ r) 0 most = numG r n most
  | n, most, r, hm => by
    have st : ∀ (m d : Nat) (r : Bs), d < 10 → (10 * m + d : Int) ≤ most → numG (UInt8.ofNat (48 + d) :: r) m most = numG r (10 * m + d : Nat) most := by
      intro m d r hd hle
      have e : numG (UInt8.ofNat (48 + d) :: r) m most = if ((UInt8.ofNat (48 + d)).toNat : Int) - 48 > most ∨ (m : Int) > (most - (((UInt8.ofNat (48 + d)).toNat : Int) - 48)) / 10 then most else numG r (10 * (m : Int) + (((UInt8.ofNat (48 + d)).toNat : Int) - 48)) most := rfl
      rw [e, (dig_ch d hd).2, if_neg (by omega)]
      congr 1
    by_cases h1 : n < 10
    · rw [Go.Lib.decDigits_one h1]
      have := st 0 n r h1 (by omega)
      simpa using this
    · rw [dec_step (by omega), List.append_assoc, numG_dec (n / 10) (by omega)]
      have := st (n / 10) (n % 10) r (by omega) (by omega)
      rw [List.singleton_append, this]
      congr 1; omega
end Go.Proofs.YtgplldjcopfjpaaDoor.Vh
end
section
set_option linter.unusedVariables false
set_option linter.unusedSimpArgs false
namespace Go.Proofs.YtgplldjcopfjpaaDoor.Vh
open Go.Vm Go.Vt
def namesN : List Bs := [[109, 97, 120, 45, 97, 103, 101], [83, 45, 77, 65, 88, 65, 71, 69], [115, 116, 97, 108, 101, 45, 119, 104, 105, 108, 101, 45, 114, 101, 118, 97, 108, 105, 100, 97, 116, 101], [115, 116, 97, 108, 101, 45, 105, 102, 45, 101, 114, 114, 111, 114], [109, 105, 110, 45, 102, 114, 101, 115, 104], [109, 97, 120, 45, 115, 116, 97, 108, 101]]
def most : Int := 2147483648
theorem names_spec : ∀ k, k < 6 → isTok (namesN.getD k []) = true ∧ (namesN.getD k []).all (· != 61) = true ∧ (namesN.getD k []).length ≤ 22 ∧ ∃ m b, ruleOf (low (namesN.getD k [])) = .num k m b := by
  intro k hk
  match k, hk with
  | 0, _ => exact ⟨by decide, by decide, by decide, _, _, rfl⟩
  | 1, _ => exact ⟨by decide, by decide, by decide, _, _, rfl⟩
  | 2, _ => exact ⟨by decide, by decide, by decide, _, _, rfl⟩
  | 3, _ => exact ⟨by decide, by decide, by decide, _, _, rfl⟩
  | 4, _ => exact ⟨by decide, by decide, by decide, _, _, rfl⟩
  | 5, _ => exact ⟨by decide, by decide, by decide, _, _, rfl⟩
  | k + 6, h => omega
theorem numG_over : ∀ (n : Nat) {m : Int} {r : Bs}, 9 ≤ m → m < (n : Int) → numG (Go.Lib.decDigits n ++ r) 0 m = m := by
  intro n
  induction n using Nat.strongRecOn with
  | ind n ih =>
    intro m r h0 h1
    rw [dec_step (by omega), List.append_assoc]
    by_cases h2 : m < ((n / 10 : Nat) : Int)
    · exact ih (n / 10) (by omega) h0 h2
    · rw [numG_dec (n / 10) (by omega)]
      obtain ⟨_, hd⟩ := dig_ch (n % 10) (Nat.mod_lt _ (by omega))
      show numG (UInt8.ofNat (48 + n % 10) :: r) _ _ = _
      unfold numG
      rw [hd, if_pos]
      right
      omega
theorem numS_dec (n : Nat) : numS (Go.Lib.decDigits n) most = (min (n : Int) most, true) := by
  have hp := dec_pos n
  have he : (Go.Lib.decDigits n).isEmpty = false := by
    cases h : Go.Lib.decDigits n with
    | nil => rw [h] at hp; simp at hp
    | cons a b => rfl
  unfold numS
  rw [he, dec_dig n, if_neg (by simp [most])]
  refine Prod.ext ?_ rfl
  simp only
  by_cases h : (n : Int) ≤ most
  · have := numG_dec n (r := []) h
    rw [List.append_nil] at this
    rw [this, Int.min_eq_left h]; rfl
  · have := numG_over n (m := most) (r := []) (by decide) (by omega)
    rw [List.append_nil] at this
    rw [this, Int.min_eq_right (by omega)]
theorem dig_tok (c : UInt8) : digB c = true → tokB c = true := byte_all (p := fun c => digB c = true → tokB c = true) (by decide +kernel) c
theorem dig_txt (c : UInt8) : digB c = true → (txtB c = true ∧ c ≠ 34 ∧ c ≠ 92) := byte_all (p := fun c => digB c = true → (txtB c = true ∧ c ≠ 34 ∧ c ≠ 92)) (by decide +kernel) c
theorem dec_tok (n : Nat) : isTok (Go.Lib.decDigits n) = true := by
  unfold isTok
  rw [Bool.and_eq_true]
  refine ⟨?_, List.all_eq_true.2 fun x hx => dig_tok x (List.all_eq_true.1 (dec_dig n) x hx)⟩
  have hp := dec_pos n
  cases h : Go.Lib.decDigits n with
  | nil => rw [h] at hp; simp at hp
  | cons a b => rfl
theorem pos_name {nm r : Bs} (h : nm.all (· != 61) = true) : pos 61 (nm ++ 61 :: r) = nm.length := by
  induction nm with
  | nil => rw [List.nil_append, pos_cons, if_pos rfl]; rfl
  | cons a b ih =>
    rw [List.all_cons, Bool.and_eq_true] at h
    rw [List.cons_append, pos_cons, if_neg (by simpa using h.1), ih h.2]; rfl
theorem pair_name {nm v t : Bs} (h1 : isTok nm = true) (h2 : nm.all (· != 61) = true) (hv : (isTok v = true ∧ t = v) ∨ (isTok v = false ∧ unqP v = (t, true))) : pairS (nm ++ 61 :: v) = (nm, t, true, true) := by
  unfold pairS
  simp only
  rw [pos_name h2]
  have e1 : (nm ++ 61 :: v).take nm.length = nm := List.take_left ..
  have e2 : (nm ++ 61 :: v).drop (nm.length + 1) = v := by
    rw [← List.drop_drop, List.drop_left]; rfl
  rw [e1, e2, h1, if_pos rfl, if_pos (by simp)]
  rcases hv with ⟨h3, rfl⟩ | ⟨h3, h4⟩
  · rw [if_pos h3]
  · rw [h3, h4, if_neg (by simp), if_pos rfl]
theorem unq_dec : ∀ (s bs : Bs), s.all digB = true → unqT (s ++ [34]) bs = (bs ++ s, true)
  | [], bs, _ => by rw [List.nil_append, unqT_stop]; simp
  | c :: r, bs, h => by
    rw [List.all_cons, Bool.and_eq_true] at h
    obtain ⟨h1, h2, h3⟩ := dig_txt c h.1
    rw [List.cons_append, unqT_one h2 h3, h1, if_pos rfl, unq_dec r _ h.2, List.append_assoc]; rfl
theorem unqP_dec (n : Nat) : unqP (34 :: (Go.Lib.decDigits n ++ [34])) = (Go.Lib.decDigits n, true) := by
  have e0 : (34 :: (Go.Lib.decDigits n ++ [34]) : Bs).head? = some 34 := rfl
  unfold unqP
  rw [if_pos e0, List.drop_succ_cons, List.drop_zero, unq_dec _ [] (dec_dig n)]; rfl
def pubT : Bs := [80, 117, 98, 108, 105, 99]
def textN (nm A B : Bs) : Bs := (nm ++ 61 :: A) ++ [44, 32] ++ pubT ++ [32, 44] ++ (nm ++ 61 :: (34 :: (B ++ [34])))
theorem split_three {x y z : Bs} (hx : Runs x ∧ Firm x) (hy : Runs y ∧ Firm y) (hz : Runs z ∧ Firm z) : split (x ++ [44, 32] ++ y ++ [32, 44] ++ z) = some [x, y, z] := by
  unfold split
  have e : x ++ [44, 32] ++ y ++ [32, 44] ++ z = x ++ (44 :: 32 :: (y ++ (32 :: 44 :: (z ++ [])))) := by simp
  rw [e, hx.1, splitG_comma, splitG_byte (by decide) (by decide), hy.1, splitG_byte (by decide) (by decide), splitG_comma, hz.1]
  have h1 := flush_firm (out := []) hx.2 (p := []) (q := []) (.inl rfl) (.inl rfl)
  have h2 := flush_firm (out := [x]) hy.2 (p := [32]) (q := [32]) (.inr (.inr rfl)) (.inr rfl)
  have h3 := flush_firm (out := [x, y]) hz.2 (p := []) (q := []) (.inl rfl) (.inl rfl)
  simp only [List.nil_append, List.append_nil] at h1 h2 h3 ⊢
  rw [h1, h2]
  show some (flush ([x] ++ [y]) z) = _
  exact congrArg some h3
def wantC (k : Nat) (a b : Nat) : Ct := ⟨fun i => decide (i = 3), fun j => if j = k then min (min (a : Int) b) most else -1⟩
theorem parse_text {k a b : Nat} (hk : k < 6) : (parseC (textN (namesN.getD k []) (Go.Lib.decDigits a) (Go.Lib.decDigits b))).2 = true ∧ ctV (parseC (textN (namesN.getD k []) (Go.Lib.decDigits a) (Go.Lib.decDigits b))).1 = ctV (wantC k a b) := by
  obtain ⟨n1, n2, n3, m, bb, n4⟩ := names_spec k hk
  generalize namesN.getD k [] = nm at *
  have p1 := pair_name (v := Go.Lib.decDigits a) (t := Go.Lib.decDigits a) n1 n2 (.inl ⟨dec_tok a, rfl⟩)
  have p3 := pair_name (v := 34 :: (Go.Lib.decDigits b ++ [34])) (t := Go.Lib.decDigits b) n1 n2 (.inr ⟨rfl, unqP_dec b⟩)
  have p2 : pairS pubT = (pubT, [], false, true) := by decide
  have s1 := split_three (pair_good (by rw [p1])) (pair_good (s := pubT) (by rw [p2])) (pair_good (by rw [p3]))
  have v1 : actS (nm ++ 61 :: Go.Lib.decDigits a) = .num k (min (a : Int) most) := by
    unfold actS
    rw [p1]
    simp only [n4]
    have : valueS (Go.Lib.decDigits a) true m bb = min (a : Int) most := by
      unfold valueS
      rw [if_pos rfl, show (2147483648 : Int) = most from rfl, numS_dec, if_pos rfl]
    rw [this, if_neg (by unfold most; omega)]
  have v3 : actS (nm ++ 61 :: (34 :: (Go.Lib.decDigits b ++ [34]))) = .num k (min (b : Int) most) := by
    unfold actS
    rw [p3]
    simp only [n4]
    have : valueS (Go.Lib.decDigits b) true m bb = min (b : Int) most := by
      unfold valueS
      rw [if_pos rfl, show (2147483648 : Int) = most from rfl, numS_dec, if_pos rfl]
    rw [this, if_neg (by unfold most; omega)]
  have v2 : actS pubT = .flag 3 := by
    unfold actS
    rw [p2]
    have : ruleOf (low pubT) = .flag 3 := by rfl
    simp only [this]
  have hs : textN nm (Go.Lib.decDigits a) (Go.Lib.decDigits b) = (nm ++ 61 :: Go.Lib.decDigits a) ++ [44, 32] ++ pubT ++ [32, 44] ++ (nm ++ 61 :: (34 :: (Go.Lib.decDigits b ++ [34]))) := rfl
  have hp : parseC (textN nm (Go.Lib.decDigits a) (Go.Lib.decDigits b)) = (([nm ++ 61 :: Go.Lib.decDigits a, pubT, nm ++ 61 :: (34 :: (Go.Lib.decDigits b ++ [34]))] : List Bs).foldl stepC ct0, true) := by
    unfold parseC
    rw [hs, s1]
  rw [hp]
  refine ⟨rfl, ?_⟩
  simp only [List.foldl_cons, List.foldl_nil, stepC, v1, v2, v3, applyA]
  have hn : ∀ j, (setN (setF (setN ct0 k (lst (ct0.n k) (min (a : Int) most))) 3) k (lst ((setF (setN ct0 k (lst (ct0.n k) (min (a : Int) most))) 3).n k) (min (b : Int) most))).n j = (wantC k a b).n j := by
    intro j
    simp only [setN, setF, wantC, ct0]
    by_cases hj : j = k
    · subst hj
      simp only [if_true]
      have h1 : ∀ v, lst (-1) v = v := fun v => if_pos (.inl rfl)
      rw [h1]
      unfold lst most
      split
      · rename_i hc
        rcases hc with hc | hc <;> omega
      · rename_i hc
        have : ¬ min (b : Int) 2147483648 < min (a : Int) 2147483648 := fun hh => hc (.inr hh)
        omega
    · simp only [if_neg hj]
  have hf : ∀ j, (setN (setF (setN ct0 k (lst (ct0.n k) (min (a : Int) most))) 3) k (lst ((setF (setN ct0 k (lst (ct0.n k) (min (a : Int) most))) 3).n k) (min (b : Int) most))).f j = (wantC k a b).f j := by
    intro j
    simp only [setN, setF, wantC, ct0]
    by_cases hj : j = 3
    · simp [hj]
    · simp [hj]
  unfold ctV
  simp only [hn, hf]
end Go.Proofs.YtgplldjcopfjpaaDoor.Vh
end
section
set_option linter.unusedVariables false
set_option linter.unusedSimpArgs false
namespace Go.Proofs.YtgplldjcopfjpaaDoor.Vh
open Go.Vm Go.Vt
attribute [local congr] wi_congr wg_congr wgd_congr wb_congr wl_congr cf_congr
variable {L : FuncId → List V → V → Prop} {h : Heap}
theorem dec_one : ∀ n, n < 10 → Go.Lib.decDigits n = [UInt8.ofNat (48 + n)] := by decide +kernel
theorem number_low {n : Nat} (hn : n < 10) : Cf F L i_gatepostlaw08_number [.int .i64 n] h (Pu h (.str (Go.Lib.decDigits n))) := by
  refine run_gatepostlaw08_number ?_
  simp only [p_gatepostlaw08_number]
  
  rw [dec_one n hn]
  have c : decide (((n : Nat) : Int) < 10) = true := decide_eq_true (by omega)
  have hh : n = 0 ∨ n = 1 ∨ n = 2 ∨ n = 3 ∨ n = 4 ∨ n = 5 ∨ n = 6 ∨ n = 7 ∨ n = 8 ∨ n = 9 := by omega
  have w1 := wrap64 (x := (n : Int) + 1) (by omega) (by omega)
  have e1 : (n : Int) + 1 = ((n + 1 : Nat) : Int) := by omega
  rw [e1] at w1
  have i0 : (0 : Int) ≤ (n : Int) := by omega
  have i1 : (0 : Int) ≤ ((n + 1 : Nat) : Int) := by omega
  simp (maxSteps := 4000000) only [vm, vl, Arg.get, cells, stor, boundO, resultsV, resV, partK, loadV, Vm.part, fillC, splice, reduceIte, reduceCtorEq, Nat.reduceEqDiff, Nat.reduceAdd, Nat.reduceSub, Nat.reduceMul, Nat.reduceLeDiff, ne_eq, not_false_eq_true, Int.reduceEq, Int.reduceLT, Int.reduceLE, Int.reduceNeg, Int.reduceToNat, Int.reduceGT, Int.reduceGE, Nat.reduceLT, Nat.lt_add_one, Nat.zero_lt_succ, Nat.succ_pos, Nat.zero_le, beq_self_eq_true, c, e1, w1, i0, i1, Int.toNat_natCast]
  rcases hh with rfl | rfl | rfl | rfl | rfl | rfl | rfl | rfl | rfl | rfl
  all_goals exact ⟨by decide, by decide, rfl⟩
theorem number_step {n : Nat} (hn : 10 ≤ n) (hb : n < 10000000000) (ih : ∀ m, m < n → ∀ h, Cf F L i_gatepostlaw08_number [.int .i64 m] h (Pu h (.str (Go.Lib.decDigits m)))) : Cf F L i_gatepostlaw08_number [.int .i64 n] h (Pu h (.str (Go.Lib.decDigits n))) := by
  refine run_gatepostlaw08_number ?_
  simp only [p_gatepostlaw08_number]
  
  have c : decide (((n : Nat) : Int) < 10) = false := decide_eq_false (by omega)
  have q1 : binV .quo (.int .i64 n) (.int .i64 10) = some (.int .i64 ((n / 10 : Nat) : Int)) := by
    rw [bin_quo', if_neg (by decide), wquo (by omega) (by omega) (by omega)]
    rfl
  have q2 : binV .rem (.int .i64 n) (.int .i64 10) = some (.int .i64 ((n % 10 : Nat) : Int)) := by
    rw [bin_rem (by decide)]
    have : ((n : Nat) : Int).tmod 10 = ((n % 10 : Nat) : Int) := by rw [Int.tmod_eq_emod_of_nonneg (by omega)]; omega
    rw [this]
  have hl := dec_len 10 n (by omega)
  rw [dec_step hn] at hl ⊢
  have d1 := dec_one (n % 10) (Nat.mod_lt _ (by omega))
  have hs : binV .add (.str (Go.Lib.decDigits (n / 10))) (.str (Go.Lib.decDigits (n % 10))) = some (.str (Go.Lib.decDigits (n / 10) ++ [UInt8.ofNat (48 + n % 10)])) := by
    rw [d1]
    simp only [binV, binS]
    rw [if_pos]
    rw [List.length_append] at hl
    omega
  have i1 := ih (n / 10) (by omega)
  have i2 := ih (n % 10) (by omega)
  generalize Go.Lib.decDigits (n / 10) = A at *
  generalize Go.Lib.decDigits (n % 10) = B at *
  generalize n / 10 = x at *
  simp (maxSteps := 4000000) only [vm, vl, Arg.get, cells, stor, boundO, resultsV, resV, partK, loadV, Vm.part, fillC, splice, reduceIte, reduceCtorEq, Nat.reduceEqDiff, Nat.reduceAdd, Nat.reduceSub, Nat.reduceMul, Nat.reduceLeDiff, ne_eq, not_false_eq_true, Int.reduceEq, Int.reduceLT, Int.reduceLE, Int.reduceNeg, Int.reduceToNat, Int.reduceGT, Int.reduceGE, Nat.reduceLT, Nat.lt_add_one, Nat.zero_lt_succ, Nat.succ_pos, Nat.zero_le, beq_self_eq_true, c, k_gatepostlaw08_number_0, q1]
  refine Cf.pu (i1 _) fun u => ?_
  simp (maxSteps := 4000000) only [vm, vl, Arg.get, cells, stor, boundO, resultsV, resV, partK, loadV, Vm.part, fillC, splice, reduceIte, reduceCtorEq, Nat.reduceEqDiff, Nat.reduceAdd, Nat.reduceSub, Nat.reduceMul, Nat.reduceLeDiff, ne_eq, not_false_eq_true, Int.reduceEq, Int.reduceLT, Int.reduceLE, Int.reduceNeg, Int.reduceToNat, Int.reduceGT, Int.reduceGE, Nat.reduceLT, Nat.lt_add_one, Nat.zero_lt_succ, Nat.succ_pos, Nat.zero_le, beq_self_eq_true, q2]
  refine Cf.pu (i2 _) fun u2 => ?_
  simp (maxSteps := 4000000) only [vm, vl, Arg.get, cells, stor, boundO, resultsV, resV, partK, loadV, Vm.part, fillC, splice, reduceIte, reduceCtorEq, Nat.reduceEqDiff, Nat.reduceAdd, Nat.reduceSub, Nat.reduceMul, Nat.reduceLeDiff, ne_eq, not_false_eq_true, Int.reduceEq, Int.reduceLT, Int.reduceLE, Int.reduceNeg, Int.reduceToNat, Int.reduceGT, Int.reduceGE, Nat.reduceLT, Nat.lt_add_one, Nat.zero_lt_succ, Nat.succ_pos, Nat.zero_le, beq_self_eq_true, hs]
theorem number_ok : ∀ (n : Nat), n < 10000000000 → ∀ h, Cf F L i_gatepostlaw08_number [.int .i64 n] h (Pu h (.str (Go.Lib.decDigits n))) := by
  intro n
  induction n using Nat.strongRecOn with
  | ind n ih =>
    intro hb h
    by_cases hn : n < 10
    · exact number_low hn
    · exact number_step (by omega) hb fun m hm h => ih m hm (by omega) h
theorem bin_str {a b : Bs} (hl : a.length + b.length ≤ 9223372036854775807) : binV .add (.str a) (.str b) = some (.str (a ++ b)) := by
  simp only [binV, binS]; rw [if_pos hl]
theorem rem_6 (k : Int) : ∃ i : Nat, i < 6 ∧ binV .rem (.int .i64 k) (.int .i64 6) = some (.int .i64 (k.tmod 6)) ∧ IntKind.i64.wrap (k.tmod 6 + 6) = k.tmod 6 + 6 ∧ binV .rem (.int .i64 (k.tmod 6 + 6)) (.int .i64 6) = some (.int .i64 (i : Int)) := by
  have h1 : -6 < k.tmod 6 := Int.lt_tmod_of_pos k (by omega)
  have h2 : k.tmod 6 < 6 := Int.tmod_lt_of_pos k (by omega)
  have h3 := Int.tmod_lt_of_pos (k.tmod 6 + 6) (show (0 : Int) < 6 by omega)
  have h4 : 0 ≤ (k.tmod 6 + 6).tmod 6 := Int.tmod_nonneg 6 (by omega)
  refine ⟨((k.tmod 6 + 6).tmod 6).toNat, by omega, rfl, wrap64 (by omega) (by omega), ?_⟩
  rw [Int.toNat_of_nonneg h4]; rfl
theorem mn_three (a b : Int) : mnV [.int .i64 a, .int .i64 b, .int .i64 2147483648] = some (.int .i64 (min (min a b) most)) := by
  unfold most
  simp only [mnV]
  congr 2
  split <;> split <;> omega
theorem get_six {n : Nat → Int} {i : Nat} (hi : i < 6) : ([.int .i64 (n 0), .int .i64 (n 1), .int .i64 (n 2), .int .i64 (n 3), .int .i64 (n 4), .int .i64 (n 5)] : List V).getD i (.tup []) = .int .i64 (n i) := by
  match i, hi with
  | 0, _ => rfl
  | 1, _ => rfl
  | 2, _ => rfl
  | 3, _ => rfl
  | 4, _ => rfl
  | 5, _ => rfl
  | i + 6, h => omega
theorem get_name {i : Nat} (hi : i < 6) : (strs namesN).getD i (.tup []) = .str (namesN.getD i []) := by
  match i, hi with
  | 0, _ => rfl
  | 1, _ => rfl
  | 2, _ => rfl
  | 3, _ => rfl
  | 4, _ => rfl
  | 5, _ => rfl
  | i + 6, h => omega
theorem text_eq (nm A B : Bs) : nm ++ [61] ++ A ++ [44, 32, 80, 117, 98, 108, 105, 99, 32, 44] ++ nm ++ [61, 34] ++ B ++ [34] = textN nm A B := by
  simp [textN, pubT]
theorem wi_mn3 {a b : Int} {hh : Heap} {K : V → Heap → Prop} : wi F L (.mn [.c (.int .i64 a), .c (.int .i64 b), .c (.int .i64 2147483648)]) E0 hh K = K (.int .i64 (min (min a b) most)) hh := by
  rw [wi_mn]
  have : mnV (List.map (fun x => Arg.get E0 x) [.c (.int .i64 a), .c (.int .i64 b), .c (.int .i64 2147483648)]) = some (.int .i64 (min (min a b) most)) := mn_three a b
  rw [this]
theorem Numbers4_ok {k j : Nat} {M : Int} {hh : Heap} {e : Env} {n : Nat → Int} {X : List V} (hk : k < 6) (hn : ∀ j, n j = if j = k then M else -1) (e8 : e 8 = .int .i64 k) (e9 : e 9 = .ptr j 0) (e10 : e 10 = .bool true) (e11 : e 11 = .sl 1 .full [.int .i64 (n 0), .int .i64 (n 1), .int .i64 (n 2), .int .i64 (n 3), .int .i64 (n 4), .int .i64 (n 5)]) (e12 : e 12 = .int .i64 M) (e13 : e 13 = .int .i64 (0 : Nat))
    (g : hh[j]? = some (.box X)) (hX : X.length = 13) (x3 : X.getD 3 (.tup []) = .bool true) (x2 : X.getD 2 (.tup []) = .bool false) :
    Wl F L lc_gatepostlaw08_ControlNumbers_0 (q_gatepostlaw08_ControlNumbers_0 L (fun v _ => v = .bool true)) e hh := by
  
  refine l_gatepostlaw08_ControlNumbers_0 (fun q e h' => ∃ i : Nat, q = 6 - i ∧ i ≤ 6 ∧ e 8 = .int .i64 k ∧ e 9 = .ptr j 0 ∧ e 10 = .bool true ∧ e 11 = .sl 1 .full [.int .i64 (n 0), .int .i64 (n 1), .int .i64 (n 2), .int .i64 (n 3), .int .i64 (n 4), .int .i64 (n 5)] ∧ e 12 = .int .i64 M ∧ e 13 = .int .i64 i ∧ h' = hh) ?_ (n := 6) ⟨0, by simp, by omega, e8, e9, e10, e11, e12, e13, rfl⟩
  clear e8 e9 e10 e11 e12 e13
  rintro q e h' ⟨i, rfl, hi, e8, e9, e10, e11, e12, e13, rfl⟩
  simp only [b_gatepostlaw08_ControlNumbers_0]
  by_cases hi2 : i < 6
  · have c1 : decide (((i : Nat) : Int) < 6) = true := decide_eq_true (by omega)
    have w1 := wrap64 (x := (i : Int) + 1) (by omega) (by omega)
    have i0 : (0 : Int) ≤ (i : Int) := by omega
    have hg := get_six (n := n) hi2
    have hni := hn i
    generalize hls : ([.int .i64 (n 0), .int .i64 (n 1), .int .i64 (n 2), .int .i64 (n 3), .int .i64 (n 4), .int .i64 (n 5)] : List V) = ls at *
    have hll : ls.length = 6 := by rw [← hls]; rfl
    by_cases hik : i = k
    · have c2 : decide (((i : Nat) : Int) = ((k : Nat) : Int)) = true := decide_eq_true (by omega)
      rw [if_pos hik] at hni
      rw [hni] at hg
      simp (maxSteps := 4000000) only [vm, vl, Arg.get, cells, stor, boundO, resultsV, resV, partK, loadV, Vm.part, fillC, splice, reduceIte, reduceCtorEq, Nat.reduceEqDiff, Nat.reduceAdd, Nat.reduceSub, Nat.reduceMul, Nat.reduceLeDiff, ne_eq, not_false_eq_true, Int.reduceEq, Int.reduceLT, Int.reduceLE, Int.reduceNeg, Int.reduceToNat, Int.reduceGT, Int.reduceGE, Nat.reduceLT, Nat.lt_add_one, Nat.zero_lt_succ, Nat.succ_pos, Nat.zero_le, beq_self_eq_true, e8, e9, e10, e11, e12, e13, c1, c2, i0, hll, hi2, hg, w1, Int.toNat_natCast, k_gatepostlaw08_ControlNumbers_1, k_gatepostlaw08_ControlNumbers_2]
      exact ⟨6 - (i + 1), by omega, i + 1, rfl, hi2, rfl⟩
    · have c2 : decide (((i : Nat) : Int) = ((k : Nat) : Int)) = false := decide_eq_false (by omega)
      rw [if_neg hik] at hni
      rw [hni] at hg
      simp (maxSteps := 4000000) only [vm, vl, Arg.get, cells, stor, boundO, resultsV, resV, partK, loadV, Vm.part, fillC, splice, reduceIte, reduceCtorEq, Nat.reduceEqDiff, Nat.reduceAdd, Nat.reduceSub, Nat.reduceMul, Nat.reduceLeDiff, ne_eq, not_false_eq_true, Int.reduceEq, Int.reduceLT, Int.reduceLE, Int.reduceNeg, Int.reduceToNat, Int.reduceGT, Int.reduceGE, Nat.reduceLT, Nat.lt_add_one, Nat.zero_lt_succ, Nat.succ_pos, Nat.zero_le, beq_self_eq_true, e8, e9, e10, e11, e12, e13, c1, c2, i0, hll, hi2, hg, w1, Int.toNat_natCast, k_gatepostlaw08_ControlNumbers_1, k_gatepostlaw08_ControlNumbers_2]
      exact ⟨6 - (i + 1), by omega, i + 1, rfl, hi2, rfl⟩
  · have c1 : decide (((i : Nat) : Int) < 6) = false := decide_eq_false (by omega)
    have m3 : 4 ≤ X.length := by omega
    have m2 : 3 ≤ X.length := by omega
    simp (maxSteps := 4000000) only [vm, vl, Arg.get, cells, stor, boundO, resultsV, resV, partK, loadV, Vm.part, fillC, splice, reduceIte, reduceCtorEq, Nat.reduceEqDiff, Nat.reduceAdd, Nat.reduceSub, Nat.reduceMul, Nat.reduceLeDiff, ne_eq, not_false_eq_true, Int.reduceEq, Int.reduceLT, Int.reduceLE, Int.reduceNeg, Int.reduceToNat, Int.reduceGT, Int.reduceGE, Nat.reduceLT, Nat.lt_add_one, Nat.zero_lt_succ, Nat.succ_pos, Nat.zero_le, beq_self_eq_true, e9, e10, e13, c1, k_gatepostlaw08_ControlNumbers_0, g, x3, x2, m2, m3]
set_option maxHeartbeats 4000000 in
theorem Numbers3_ok {k A B : Nat} {hh : Heap} {n : Nat → Int} {a0 a1 a2 v18 v20 v21 v26 v27 v28 v30 v31 v32 v35 v36 v37 v38 v40 v41 v42 : V} (hk : k < 6) (hn : ∀ j, n j = if j = k then min (min (A : Int) B) most else -1) :
    k_gatepostlaw08_ControlNumbers_3 L (fun v _ => v = .bool true) a0 a1 a2 (.int .i64 A) (.int .i64 B) v18 v20 v21 (.int .i64 k) v26 v27 v28 v30 v31 v32 v35 v36 v37 v38 v40 v41 v42 (.tup [.agg [.bool false, .bool false, .bool false, .bool true, .bool false, .bool false, .bool false, .int .i64 (n 0), .int .i64 (n 1), .int .i64 (n 2), .int .i64 (n 3), .int .i64 (n 4), .int .i64 (n 5)], .bool true]) hh := by
  
  unfold k_gatepostlaw08_ControlNumbers_3
  have gx := fun i (hi : i < 6) => get_six (n := n) hi
  generalize hE : upd (upd (upd (upd _ 41 v41) 42 v42) 43 _) 23 _ = E1
  have E8 : E1 8 = .int .i64 k := by rw [← hE]; rfl
  clear hE
  generalize hZ : ([.bool false, .bool false, .bool false, .bool false, .bool false, .bool false, .bool false, .int .i64 0, .int .i64 0, .int .i64 0, .int .i64 0, .int .i64 0, .int .i64 0] : List V) = Z
  have hZ1 : Z.length = 13 := by rw [← hZ]; rfl
  have hZ2 : List.drop 13 Z = [] := List.drop_eq_nil_of_le (by omega)
  generalize hX : ([.bool false, .bool false, .bool false, .bool true, .bool false, .bool false, .bool false, .int .i64 (n 0), .int .i64 (n 1), .int .i64 (n 2), .int .i64 (n 3), .int .i64 (n 4), .int .i64 (n 5)] : List V) = X
  have hX1 : X.length = 13 := by rw [← hX]; rfl
  have hX2 : X.take 13 = X := List.take_of_length_le (by omega)
  have x7 : X.getD 7 (.tup []) = .int .i64 (n 0) := by rw [← hX]; rfl
  have x8 : X.getD 8 (.tup []) = .int .i64 (n 1) := by rw [← hX]; rfl
  have x9 : X.getD 9 (.tup []) = .int .i64 (n 2) := by rw [← hX]; rfl
  have x10 : X.getD 10 (.tup []) = .int .i64 (n 3) := by rw [← hX]; rfl
  have x11 : X.getD 11 (.tup []) = .int .i64 (n 4) := by rw [← hX]; rfl
  have x12 : X.getD 12 (.tup []) = .int .i64 (n 5) := by rw [← hX]; rfl
  have x3 : X.getD 3 (.tup []) = .bool true := by rw [← hX]; rfl
  have x2 : X.getD 2 (.tup []) = .bool false := by rw [← hX]; rfl
  clear hX
  simp (maxSteps := 4000000) only [vm, vl, Arg.get, cells, stor, boundO, resultsV, resV, partK, loadV, Vm.part, fillC, splice, reduceIte, reduceCtorEq, Nat.reduceEqDiff, Nat.reduceAdd, Nat.reduceSub, Nat.reduceMul, Nat.reduceLeDiff, ne_eq, not_false_eq_true, Int.reduceEq, Int.reduceLT, Int.reduceLE, Int.reduceNeg, Int.reduceToNat, Int.reduceGT, Int.reduceGE, Nat.reduceLT, Nat.lt_add_one, Nat.zero_lt_succ, Nat.succ_pos, Nat.zero_le, beq_self_eq_true, ↓wi_mn3, hZ1, hZ2, hX1, hX2, x7, x8, x9, x10, x11, x12, List.append_nil]
  exact Numbers4_ok hk hn E8 rfl rfl rfl rfl rfl (by rw [List.getElem?_append_right (Nat.le_refl _), Nat.sub_self]; rfl) hX1 x3 x2
theorem Numbers_ok (HI : IndexOk L) (HU : UnqOk L) {x y w : Int} : Cf F L i_gatepostlaw08_ControlNumbers [.int .i64 x, .int .i64 y, .int .i64 w] h (fun v _ => v = .bool true) := by
  refine run_gatepostlaw08_ControlNumbers ?_
  simp only [p_gatepostlaw08_ControlNumbers]
  
  obtain ⟨k, hk, r1, r2, r3⟩ := rem_6 w
  obtain ⟨x0, x1⟩ := andI_range x 8589934591 (by omega) (by omega)
  obtain ⟨y0, y1⟩ := andI_range y 8589934591 (by omega) (by omega)
  obtain ⟨n1, n2, n3, _⟩ := names_spec k hk
  have gn := get_name hk
  have gl : k < (strs namesN).length := hk
  have k0 : (0 : Int) ≤ (k : Int) := by omega
  have gs : strs namesN = [.str [109, 97, 120, 45, 97, 103, 101], .str [83, 45, 77, 65, 88, 65, 71, 69], .str [115, 116, 97, 108, 101, 45, 119, 104, 105, 108, 101, 45, 114, 101, 118, 97, 108, 105, 100, 97, 116, 101], .str [115, 116, 97, 108, 101, 45, 105, 102, 45, 101, 114, 114, 111, 114], .str [109, 105, 110, 45, 102, 114, 101, 115, 104], .str [109, 97, 120, 45, 115, 116, 97, 108, 101]] := rfl
  rw [gs] at gn
  simp (maxSteps := 4000000) only [vm, vl, Arg.get, cells, stor, boundO, resultsV, resV, partK, loadV, Vm.part, fillC, splice, reduceIte, reduceCtorEq, Nat.reduceEqDiff, Nat.reduceAdd, Nat.reduceSub, Nat.reduceMul, Nat.reduceLeDiff, ne_eq, not_false_eq_true, Int.reduceEq, Int.reduceLT, Int.reduceLE, Int.reduceNeg, Int.reduceToNat, Int.reduceGT, Int.reduceGE, Nat.reduceLT, Nat.lt_add_one, Nat.zero_lt_succ, Nat.succ_pos, Nat.zero_le, beq_self_eq_true, r1, r2, r3]
  generalize bitsI .and .i64 x 8589934591 = A' at *
  generalize bitsI .and .i64 y 8589934591 = B' at *
  obtain ⟨A, rfl⟩ := Int.eq_ofNat_of_zero_le x0
  obtain ⟨B, rfl⟩ := Int.eq_ofNat_of_zero_le y0
  have dA := dec_len 10 A (by omega)
  have dB := dec_len 10 B (by omega)
  obtain ⟨P1, P2⟩ := parse_text (a := A) (b := B) hk
  have te := text_eq (namesN.getD k []) (Go.Lib.decDigits A) (Go.Lib.decDigits B)
  have NA := number_ok (L := L) A (by omega)
  have NB := number_ok (L := L) B (by omega)
  generalize namesN.getD k [] = nm at *
  generalize Go.Lib.decDigits A = DA at *
  generalize Go.Lib.decDigits B = DB at *
  have f1 := bin_str (a := nm) (b := [61]) (by simp; omega)
  simp (maxSteps := 4000000) only [vm, vl, Arg.get, cells, stor, boundO, resultsV, resV, partK, loadV, Vm.part, fillC, splice, reduceIte, reduceCtorEq, Nat.reduceEqDiff, Nat.reduceAdd, Nat.reduceSub, Nat.reduceMul, Nat.reduceLeDiff, ne_eq, not_false_eq_true, Int.reduceEq, Int.reduceLT, Int.reduceLE, Int.reduceNeg, Int.reduceToNat, Int.reduceGT, Int.reduceGE, Nat.reduceLT, Nat.lt_add_one, Nat.zero_lt_succ, Nat.succ_pos, Nat.zero_le, beq_self_eq_true, k0, hk, gn, f1, Int.toNat_natCast]
  refine Cf.pu (NA _) fun u => ?_
  refine ⟨by simp (maxSteps := 4000000) only [vm, vl, Arg.get, cells, stor, boundO, resultsV, resV, partK, loadV, Vm.part, fillC, splice, reduceIte, reduceCtorEq, Nat.reduceEqDiff, Nat.reduceAdd, Nat.reduceSub, Nat.reduceMul, Nat.reduceLeDiff, ne_eq, not_false_eq_true, Int.reduceEq, Int.reduceLT, Int.reduceLE, Int.reduceNeg, Int.reduceToNat, Int.reduceGT, Int.reduceGE, Nat.reduceLT, Nat.lt_add_one, Nat.zero_lt_succ, Nat.succ_pos, Nat.zero_le, beq_self_eq_true], ?_⟩
  unfold k_gatepostlaw08_ControlNumbers_4
  obtain ⟨T1, hT1⟩ : ∃ T, T = nm ++ [61] := ⟨_, rfl⟩
  obtain ⟨T2, hT2⟩ : ∃ T, T = T1 ++ DA := ⟨_, rfl⟩
  obtain ⟨T3, hT3⟩ : ∃ T, T = T2 ++ [44, 32, 80, 117, 98, 108, 105, 99, 32, 44] := ⟨_, rfl⟩
  obtain ⟨T4, hT4⟩ : ∃ T, T = T3 ++ nm := ⟨_, rfl⟩
  obtain ⟨T5, hT5⟩ : ∃ T, T = T4 ++ [61, 34] := ⟨_, rfl⟩
  obtain ⟨T6, hT6⟩ : ∃ T, T = T5 ++ DB := ⟨_, rfl⟩
  have l1 : T1.length = nm.length + 1 := by rw [hT1]; simp
  have l2 : T2.length = nm.length + 1 + DA.length := by rw [hT2, List.length_append, l1]
  have l3 : T3.length = nm.length + 1 + DA.length + 10 := by rw [hT3, List.length_append, l2]; rfl
  have l4 : T4.length = nm.length + 1 + DA.length + 10 + nm.length := by rw [hT4, List.length_append, l3]
  have l5 : T5.length = nm.length + 1 + DA.length + 10 + nm.length + 2 := by rw [hT5, List.length_append, l4]; rfl
  have l6 : T6.length = nm.length + 1 + DA.length + 10 + nm.length + 2 + DB.length := by rw [hT6, List.length_append, l5]
  have g2 := bin_str (a := T1) (b := DA) (by omega)
  have g3 := bin_str (a := T2) (b := [44, 32, 80, 117, 98, 108, 105, 99, 32, 44]) (by simp; omega)
  have g4 := bin_str (a := T3) (b := nm) (by omega)
  have g5 := bin_str (a := T4) (b := [61, 34]) (by simp; omega)
  have g6 := bin_str (a := T5) (b := DB) (by omega)
  have g7 := bin_str (a := T6) (b := [34]) (by simp; omega)
  rw [← hT2] at g2
  rw [← hT3] at g3
  rw [← hT4] at g4
  rw [← hT5] at g5
  rw [← hT6] at g6
  rw [← hT1, ← hT2, ← hT3, ← hT4, ← hT5, ← hT6] at te
  rw [te] at g7
  have lt : (textN nm DA DB).length < 1000000 := by rw [← te, List.length_append, l6]; simp; omega
  have PP := fun h' => Parse_ok (L := L) (h := h') HI HU lt
  unfold parseCV at PP
  rw [P1, P2] at PP
  rw [← hT1]
  simp (maxSteps := 4000000) only [vm, vl, Arg.get, cells, stor, boundO, resultsV, resV, partK, loadV, Vm.part, fillC, splice, reduceIte, reduceCtorEq, Nat.reduceEqDiff, Nat.reduceAdd, Nat.reduceSub, Nat.reduceMul, Nat.reduceLeDiff, ne_eq, not_false_eq_true, Int.reduceEq, Int.reduceLT, Int.reduceLE, Int.reduceNeg, Int.reduceToNat, Int.reduceGT, Int.reduceGE, Nat.reduceLT, Nat.lt_add_one, Nat.zero_lt_succ, Nat.succ_pos, Nat.zero_le, beq_self_eq_true, k0, hk, gn, g2, g3, g4, g5, Int.toNat_natCast]
  refine Cf.pu (NB _) fun u2 => ?_
  refine ⟨by simp (maxSteps := 4000000) only [vm, vl, Arg.get, cells, stor, boundO, resultsV, resV, partK, loadV, Vm.part, fillC, splice, reduceIte, reduceCtorEq, Nat.reduceEqDiff, Nat.reduceAdd, Nat.reduceSub, Nat.reduceMul, Nat.reduceLeDiff, ne_eq, not_false_eq_true, Int.reduceEq, Int.reduceLT, Int.reduceLE, Int.reduceNeg, Int.reduceToNat, Int.reduceGT, Int.reduceGE, Nat.reduceLT, Nat.lt_add_one, Nat.zero_lt_succ, Nat.succ_pos, Nat.zero_le, beq_self_eq_true], ?_⟩
  simp (maxSteps := 4000000) only [vm, vl, Arg.get, cells, stor, boundO, resultsV, resV, partK, loadV, Vm.part, fillC, splice, reduceIte, reduceCtorEq, Nat.reduceEqDiff, Nat.reduceAdd, Nat.reduceSub, Nat.reduceMul, Nat.reduceLeDiff, ne_eq, not_false_eq_true, Int.reduceEq, Int.reduceLT, Int.reduceLE, Int.reduceNeg, Int.reduceToNat, Int.reduceGT, Int.reduceGE, Nat.reduceLT, Nat.lt_add_one, Nat.zero_lt_succ, Nat.succ_pos, Nat.zero_le, beq_self_eq_true, g6, g7]
  refine Cf.pu (PP _) fun u3 => ?_
  refine ⟨by simp (maxSteps := 4000000) only [vm, vl, Arg.get, cells, stor, boundO, resultsV, resV, partK, loadV, Vm.part, fillC, splice, reduceIte, reduceCtorEq, Nat.reduceEqDiff, Nat.reduceAdd, Nat.reduceSub, Nat.reduceMul, Nat.reduceLeDiff, ne_eq, not_false_eq_true, Int.reduceEq, Int.reduceLT, Int.reduceLE, Int.reduceNeg, Int.reduceToNat, Int.reduceGT, Int.reduceGE, Nat.reduceLT, Nat.lt_add_one, Nat.zero_lt_succ, Nat.succ_pos, Nat.zero_le, beq_self_eq_true], ?_⟩
  have hwant : ctV (wantC k A B) = [.bool false, .bool false, .bool false, .bool true, .bool false, .bool false, .bool false, .int .i64 ((wantC k A B).n 0), .int .i64 ((wantC k A B).n 1), .int .i64 ((wantC k A B).n 2), .int .i64 ((wantC k A B).n 3), .int .i64 ((wantC k A B).n 4), .int .i64 ((wantC k A B).n 5)] := rfl
  rw [hwant]
  exact Numbers3_ok hk fun j => rfl
def LC2 : FuncId → List V → V → Prop := fun f a v => LIndex f a v ∨ LUnq f a v
theorem lc2_at (w0 : World) : LibAt Tryd.prog w0 LC2 := fun f a v h => h.elim (index_at w0 f a v) (unq_at w0 f a v)
theorem ControlNumbers_row {x0 x1 x2 : V} (v0 : VPar [.l (.i .i64)] x0) (v1 : VPar [.l (.i .i64)] x1) (v2 : VPar [.l (.i .i64)] x2) (w : World) (vs : List Value) (hv : Rvs w.heap.size G0 w [x0, x1, x2] vs) :
    Calls Tryd.prog i_gatepostlaw08_ControlNumbers vs.toArray w fun e w' => e = .returned (.bool true) ∧ RowKit.Below w.heap.size w w' := by
  obtain ⟨a, rfl, _⟩ := v0
  obtain ⟨b, rfl, _⟩ := v1
  obtain ⟨c, rfl, _⟩ := v2
  exact calls_at hm hF (lc2_at w) (Numbers_ok (indexOk fun _ _ _ h => .inl h) (unqOk fun _ _ _ h => .inr h)) hv
end Go.Proofs.YtgplldjcopfjpaaDoor.Vh
end
