/- Several texts in one: VSplit3, VNum, VCtl1, VSplitN, VCtl2, VPairR, VCtl3, VCtl4, VCJoinP, VField, VFew, VRGet, VCtlOf, VJoin, VCTells, VCJoins. -/
import Derived.Test.YtgplldjcopfjpaaDoorPk7
import Derived.Test.YtgplldjcopfjpaaDoorPk8
import Derived.Test.YtgplldjcopfjpaaDoorPk5
import Derived.Test.YtgplldjcopfjpaaDoorPk4
import Derived.Test.YtgplldjcopfjpaaDoorPk6
section
set_option linter.unusedVariables false
set_option linter.unusedSimpArgs false
namespace Go.Proofs.YtgplldjcopfjpaaDoor.Vh
open Go.Vm Go.Vt
attribute [local congr] wi_congr wg_congr wgd_congr wb_congr wl_congr cf_congr
variable {L : FuncId → List V → V → Prop} {h : Heap}
theorem full_list (out : List Bs) : ListV 1 (fullV out) (strs out) := by
  unfold fullV ListV
  by_cases h : out = []
  · simp [h, strs]
  · simp [h, strs]
theorem splitG_none {s own : Bs} {q : Bool} {out : List Bs} (h : s = []) : splitG s own q out = if q then none else some (flush out own) := by subst h; rfl
/-- What Split comes to: a list, or none. -/
def SplitP (h : Heap) (o : Option (List Bs)) (v : V) (h' : Heap) : Prop := (∃ t, h' = h ++ t) ∧ ((o = none ∧ v = .tup [.nsl, .bool false]) ∨ ∃ out x, o = some out ∧ v = .tup [x, .bool true] ∧ ListV 1 x (strs out))
theorem SplitP.no {h h' : Heap} (hh : ∃ t, h' = h ++ t) : SplitP h none (.tup [.nsl, .bool false]) h' := ⟨hh, .inl ⟨rfl, rfl⟩⟩
end Go.Proofs.YtgplldjcopfjpaaDoor.Vh
end
section
set_option linter.unusedVariables false
set_option linter.unusedSimpArgs false
namespace Go.Proofs.YtgplldjcopfjpaaDoor.Vh
open Go.Vm Go.Vt
attribute [local congr] wi_congr wg_congr wgd_congr wb_congr wl_congr cf_congr
variable {L : FuncId → List V → V → Prop} {h : Heap}
theorem wquo {x c : Int} (h0 : 0 ≤ x) (hc : 0 < c) (h1 : x ≤ 9223372036854775807) : IntKind.i64.wrap (Int.tdiv x c) = x / c := by
  rw [Int.tdiv_eq_ediv_of_nonneg h0]
  have : 0 ≤ x / c := Int.ediv_nonneg h0 (by omega)
  have := Int.ediv_le_self c h0
  exact wrap64 (by omega) (by omega)
theorem bin_quo' {x y : Int} : binV .quo (.int .i64 x) (.int .i64 y) = if y = 0 then none else some (.int .i64 (IntKind.i64.wrap (x.tdiv y))) := by
  by_cases h : y = 0 <;> simp [binV, binI, h]
theorem dig_eq (c : UInt8) : digB c = (decide ((c.toNat : Int) ≥ 48) && decide ((c.toNat : Int) ≤ 57)) := byte_all (p := fun c => digB c = (decide ((c.toNat : Int) ≥ 48) && decide ((c.toNat : Int) ≤ 57))) (by decide +kernel) c
theorem dig_in {c : UInt8} (h : digB c = true) : 48 ≤ (c.toNat : Int) ∧ (c.toNat : Int) ≤ 57 := by
  rw [dig_eq, Bool.and_eq_true, decide_eq_true_eq, decide_eq_true_eq] at h; exact h
theorem dig_wrap (c : UInt8) : (decide (48 ≤ (c.toNat : Int)) && decide ((c.toNat : Int) ≤ 57)) = true → IntKind.u8.wrap ((c.toNat : Int) - 48) = (c.toNat : Int) - 48 :=
  byte_all (p := fun c => (decide (48 ≤ (c.toNat : Int)) && decide ((c.toNat : Int) ≤ 57)) = true → IntKind.u8.wrap ((c.toNat : Int) - 48) = (c.toNat : Int) - 48) (by decide +kernel) c
theorem numG_le : ∀ {s : Bs} {n most : Int}, s.all digB = true → 0 ≤ n → n ≤ most → 0 ≤ numG s n most ∧ numG s n most ≤ most
  | [], n, most, _, h0, h1 => ⟨h0, h1⟩
  | c :: r, n, most, ha, h0, h1 => by
    rw [List.all_cons, Bool.and_eq_true] at ha
    have hd := dig_in ha.1
    unfold numG
    split
    · omega
    · exact numG_le ha.2 (by omega) (by omega)
theorem numS_le (s : Bs) {most : Int} (h : 0 ≤ most) : 0 ≤ (numS s most).1 ∧ (numS s most).1 ≤ most := by
  unfold numS
  split
  · exact ⟨Int.le_refl _, h⟩
  · rename_i q
    simp only [Bool.or_eq_true, Bool.not_eq_true', not_or, Bool.not_eq_false] at q
    exact numG_le q.2 (Int.le_refl _) h
theorem Number1_ok {c : UInt8} : Cf F L i_token_Number_1 [byV c] h (Pu h (.bool (digB c))) := by
  refine run_token_Number_1 ?_
  simp only [p_token_Number_1]
  rw [dig_eq]
  by_cases a : (c.toNat : Int) ≥ 48
  · simp (maxSteps := 4000000) only [vm, vl, Arg.get, cells, stor, boundO, resultsV, resV, partK, loadV, Vm.part, fillC, splice, reduceIte, reduceCtorEq, Nat.reduceEqDiff, Nat.reduceAdd, Nat.reduceSub, Nat.reduceMul, Nat.reduceLeDiff, ne_eq, not_false_eq_true, Int.reduceEq, Int.reduceLT, Int.reduceLE, Int.reduceNeg, Int.reduceToNat, Int.reduceGT, Int.reduceGE, Nat.reduceLT, Nat.lt_add_one, Nat.zero_lt_succ, Nat.succ_pos, Nat.zero_le, beq_self_eq_true, a, decide_true, Bool.true_and]
  · simp (maxSteps := 4000000) only [vm, vl, Arg.get, cells, stor, boundO, resultsV, resV, partK, loadV, Vm.part, fillC, splice, reduceIte, reduceCtorEq, Nat.reduceEqDiff, Nat.reduceAdd, Nat.reduceSub, Nat.reduceMul, Nat.reduceLeDiff, ne_eq, not_false_eq_true, Int.reduceEq, Int.reduceLT, Int.reduceLE, Int.reduceNeg, Int.reduceToNat, Int.reduceGT, Int.reduceGE, Nat.reduceLT, Nat.lt_add_one, Nat.zero_lt_succ, Nat.succ_pos, Nat.zero_le, beq_self_eq_true, a, decide_false, Bool.false_and]
theorem num_pair {n : Int} {b : Bool} {x : Int × Bool} (h : x = (n, b)) : V.tup [.int .i64 x.1, .bool x.2] = .tup [.int .i64 n, .bool b] := by subst h; rfl
theorem Number_ok {s : Bs} {most : Int} (hs : s.length ≤ 9223372036854775806) (h0 : -4000000000000000000 ≤ most) (h1 : most ≤ 4000000000000000000) : Cf F L i_token_Number [.str s, .int .i64 most] h (Pu h (.tup [.int .i64 (numS s most).1, .bool (numS s most).2])) := by
  refine run_token_Number ?_
  simp only [p_token_Number]
  by_cases a : s = []
  · subst a
    rw [num_pair (show numS [] most = (0, false) from rfl)]
    have e1 : (([] : Bs) == []) = true := rfl
    simp (maxSteps := 4000000) only [vm, vl, Arg.get, cells, stor, boundO, resultsV, resV, partK, loadV, Vm.part, fillC, splice, reduceIte, reduceCtorEq, Nat.reduceEqDiff, Nat.reduceAdd, Nat.reduceSub, Nat.reduceMul, Nat.reduceLeDiff, ne_eq, not_false_eq_true, Int.reduceEq, Int.reduceLT, Int.reduceLE, Int.reduceNeg, Int.reduceToNat, Int.reduceGT, Int.reduceGE, Nat.reduceLT, Nat.lt_add_one, Nat.zero_lt_succ, Nat.succ_pos, Nat.zero_le, beq_self_eq_true, k_token_Number_1, k_token_Number_3, k_token_Number_4, k_token_Number_2, k_token_Number_0, e1]
  have a' : (s == []) = false := beq_eq_false_iff_ne.2 a
  have ae : s.isEmpty = false := by cases s; exact absurd rfl a; rfl
  by_cases b : most < 0
  · rw [num_pair (show numS s most = (0, false) by unfold numS; simp [b])]
    simp (maxSteps := 4000000) only [vm, vl, Arg.get, cells, stor, boundO, resultsV, resV, partK, loadV, Vm.part, fillC, splice, reduceIte, reduceCtorEq, Nat.reduceEqDiff, Nat.reduceAdd, Nat.reduceSub, Nat.reduceMul, Nat.reduceLeDiff, ne_eq, not_false_eq_true, Int.reduceEq, Int.reduceLT, Int.reduceLE, Int.reduceNeg, Int.reduceToNat, Int.reduceGT, Int.reduceGE, Nat.reduceLT, Nat.lt_add_one, Nat.zero_lt_succ, Nat.succ_pos, Nat.zero_le, beq_self_eq_true, k_token_Number_1, k_token_Number_3, k_token_Number_4, k_token_Number_2, k_token_Number_0, a', b, decide_true]
  cases hd : s.all digB with
  | false =>
    rw [num_pair (show numS s most = (0, false) by unfold numS; simp [hd])]
    simp (maxSteps := 4000000) only [vm, vl, Arg.get, cells, stor, boundO, resultsV, resV, partK, loadV, Vm.part, fillC, splice, reduceIte, reduceCtorEq, Nat.reduceEqDiff, Nat.reduceAdd, Nat.reduceSub, Nat.reduceMul, Nat.reduceLeDiff, ne_eq, not_false_eq_true, Int.reduceEq, Int.reduceLT, Int.reduceLE, Int.reduceNeg, Int.reduceToNat, Int.reduceGT, Int.reduceGE, Nat.reduceLT, Nat.lt_add_one, Nat.zero_lt_succ, Nat.succ_pos, Nat.zero_le, beq_self_eq_true, k_token_Number_1, k_token_Number_3, k_token_Number_4, k_token_Number_2, k_token_Number_0, a', b, decide_false]
    refine Cf.pu (all_ok (caps := []) (by omega) fun c h => Number1_ok) fun u => ?_
    simp (maxSteps := 4000000) only [vm, vl, Arg.get, cells, stor, boundO, resultsV, resV, partK, loadV, Vm.part, fillC, splice, reduceIte, reduceCtorEq, Nat.reduceEqDiff, Nat.reduceAdd, Nat.reduceSub, Nat.reduceMul, Nat.reduceLeDiff, ne_eq, not_false_eq_true, Int.reduceEq, Int.reduceLT, Int.reduceLE, Int.reduceNeg, Int.reduceToNat, Int.reduceGT, Int.reduceGE, Nat.reduceLT, Nat.lt_add_one, Nat.zero_lt_succ, Nat.succ_pos, Nat.zero_le, beq_self_eq_true, k_token_Number_1, k_token_Number_3, k_token_Number_4, k_token_Number_2, k_token_Number_0, hd, Bool.not_false]
  | true =>
    rw [num_pair (show numS s most = (numG s 0 most, true) by unfold numS; simp [hd, b, ae])]
    simp (maxSteps := 4000000) only [vm, vl, Arg.get, cells, stor, boundO, resultsV, resV, partK, loadV, Vm.part, fillC, splice, reduceIte, reduceCtorEq, Nat.reduceEqDiff, Nat.reduceAdd, Nat.reduceSub, Nat.reduceMul, Nat.reduceLeDiff, ne_eq, not_false_eq_true, Int.reduceEq, Int.reduceLT, Int.reduceLE, Int.reduceNeg, Int.reduceToNat, Int.reduceGT, Int.reduceGE, Nat.reduceLT, Nat.lt_add_one, Nat.zero_lt_succ, Nat.succ_pos, Nat.zero_le, beq_self_eq_true, k_token_Number_1, k_token_Number_3, k_token_Number_4, k_token_Number_2, k_token_Number_0, a', b, decide_false]
    refine Cf.pu (all_ok (caps := []) (by omega) fun c h => Number1_ok) fun u => ?_
    simp (maxSteps := 4000000) only [vm, vl, Arg.get, cells, stor, boundO, resultsV, resV, partK, loadV, Vm.part, fillC, splice, reduceIte, reduceCtorEq, Nat.reduceEqDiff, Nat.reduceAdd, Nat.reduceSub, Nat.reduceMul, Nat.reduceLeDiff, ne_eq, not_false_eq_true, Int.reduceEq, Int.reduceLT, Int.reduceLE, Int.reduceNeg, Int.reduceToNat, Int.reduceGT, Int.reduceGE, Nat.reduceLT, Nat.lt_add_one, Nat.zero_lt_succ, Nat.succ_pos, Nat.zero_le, beq_self_eq_true, k_token_Number_1, k_token_Number_3, k_token_Number_4, k_token_Number_2, k_token_Number_0, hd, Bool.not_true]
    refine l_token_Number_0 (fun n e h' => ∃ (i : Nat) (v : Int), n = s.length - i ∧ i ≤ s.length ∧ e 0 = .str s ∧ e 1 = .int .i64 most ∧ e 6 = .int .i64 v ∧ e 21 = .int .i64 s.length ∧ e 22 = .int .i64 i ∧ 0 ≤ v ∧ v ≤ most ∧ numG s 0 most = numG (s.drop i) v most ∧ ∃ t, h' = h ++ t) ?_ (n := s.length) ⟨0, 0, by simp, by simp, rfl, rfl, rfl, rfl, rfl, by omega, by omega, rfl, u, rfl⟩
    rintro n e h' ⟨i, v, rfl, hi, e0, e1, e6, e21, e22, v0, v1, hg, t, rfl⟩
    simp only [b_token_Number_0]
    rw [hg]
    rcases str_at hi with ⟨hn, rfl, hdr⟩ | ⟨c, hl, hl', hc, hdr⟩
    · rw [hdr]
      simp (maxSteps := 4000000) only [vm, vl, Arg.get, cells, stor, boundO, resultsV, resV, partK, loadV, Vm.part, fillC, splice, reduceIte, reduceCtorEq, Nat.reduceEqDiff, Nat.reduceAdd, Nat.reduceSub, Nat.reduceMul, Nat.reduceLeDiff, ne_eq, not_false_eq_true, Int.reduceEq, Int.reduceLT, Int.reduceLE, Int.reduceNeg, Int.reduceToNat, Int.reduceGT, Int.reduceGE, Nat.reduceLT, Nat.lt_add_one, Nat.zero_lt_succ, Nat.succ_pos, Nat.zero_le, beq_self_eq_true, k_token_Number_1, k_token_Number_3, k_token_Number_4, k_token_Number_2, k_token_Number_0, e0, e1, e6, e21, e22, hn, decide_false]
      rfl
    · have w := wrap64 (x := (i : Int) + 1) (by omega) (by omega)
      have dc : digB c = true := by
        rw [← hc]
        refine (List.all_eq_true.1 hd) _ ?_
        rw [List.getD_eq_getElem?_getD, List.getElem?_eq_getElem hl', Option.getD_some]; exact List.getElem_mem _
      have di := dig_in dc
      have dw := dig_wrap c (by simp [di])
      have d64 : IntKind.i64.wrap ((c.toNat : Int) - 48) = (c.toNat : Int) - 48 := wrap64 (by omega) (by omega)
      have eg : numG (c :: s.drop (i + 1)) v most = if (c.toNat : Int) - 48 > most ∨ v > (most - ((c.toNat : Int) - 48)) / 10 then most else numG (s.drop (i + 1)) (10 * v + ((c.toNat : Int) - 48)) most := rfl
      rw [hdr, eg]
      generalize hD : (c.toNat : Int) - 48 = D at *
      by_cases p : D > most
      · rw [if_pos (.inl p)]
        simp (maxSteps := 4000000) only [vm, vl, Arg.get, cells, stor, boundO, resultsV, resV, partK, loadV, Vm.part, fillC, splice, reduceIte, reduceCtorEq, Nat.reduceEqDiff, Nat.reduceAdd, Nat.reduceSub, Nat.reduceMul, Nat.reduceLeDiff, ne_eq, not_false_eq_true, Int.reduceEq, Int.reduceLT, Int.reduceLE, Int.reduceNeg, Int.reduceToNat, Int.reduceGT, Int.reduceGE, Nat.reduceLT, Nat.lt_add_one, Nat.zero_lt_succ, Nat.succ_pos, Nat.zero_le, beq_self_eq_true, k_token_Number_1, k_token_Number_3, k_token_Number_4, k_token_Number_2, k_token_Number_0, e0, e1, e6, e21, e22, hl, hl', hc, hD, dw, d64, p, decide_true]
      have w1 : IntKind.i64.wrap (most - D) = most - D := wrap64 (by omega) (by omega)
      have w2 : IntKind.i64.wrap ((most - D).tdiv 10) = (most - D) / 10 := wquo (by omega) (by omega) (by omega)
      by_cases q : v > (most - D) / 10
      · rw [if_pos (.inr q)]
        simp (maxSteps := 4000000) only [vm, vl, Arg.get, cells, stor, boundO, resultsV, resV, partK, loadV, Vm.part, fillC, splice, reduceIte, reduceCtorEq, Nat.reduceEqDiff, Nat.reduceAdd, Nat.reduceSub, Nat.reduceMul, Nat.reduceLeDiff, ne_eq, not_false_eq_true, Int.reduceEq, Int.reduceLT, Int.reduceLE, Int.reduceNeg, Int.reduceToNat, Int.reduceGT, Int.reduceGE, Nat.reduceLT, Nat.lt_add_one, Nat.zero_lt_succ, Nat.succ_pos, Nat.zero_le, beq_self_eq_true, k_token_Number_1, k_token_Number_3, k_token_Number_4, k_token_Number_2, k_token_Number_0, e0, e1, e6, e21, e22, hl, hl', hc, hD, dw, d64, p, q, w1, w2, bin_quo', decide_true, decide_false]
      · rw [if_neg (fun h => h.elim p q)]
        have w3 : IntKind.i64.wrap (10 * v) = 10 * v := wrap64 (by omega) (by omega)
        have w4 : IntKind.i64.wrap (10 * v + D) = 10 * v + D := wrap64 (by omega) (by omega)
        simp (maxSteps := 4000000) only [vm, vl, Arg.get, cells, stor, boundO, resultsV, resV, partK, loadV, Vm.part, fillC, splice, reduceIte, reduceCtorEq, Nat.reduceEqDiff, Nat.reduceAdd, Nat.reduceSub, Nat.reduceMul, Nat.reduceLeDiff, ne_eq, not_false_eq_true, Int.reduceEq, Int.reduceLT, Int.reduceLE, Int.reduceNeg, Int.reduceToNat, Int.reduceGT, Int.reduceGE, Nat.reduceLT, Nat.lt_add_one, Nat.zero_lt_succ, Nat.succ_pos, Nat.zero_le, beq_self_eq_true, k_token_Number_1, k_token_Number_3, k_token_Number_4, k_token_Number_2, k_token_Number_0, e0, e1, e6, e21, e22, hl, hl', hc, hD, dw, d64, p, q, w, w1, w2, w3, w4, bin_quo', decide_true, decide_false]
        exact ⟨s.length - (i + 1), by omega, i + 1, 10 * v + D, rfl, hl', rfl, rfl, by omega, by omega, rfl, _, rfl⟩
end Go.Proofs.YtgplldjcopfjpaaDoor.Vh
end
section
set_option linter.unusedVariables false
set_option linter.unusedSimpArgs false
namespace Go.Proofs.YtgplldjcopfjpaaDoor.Vh
open Go.Vm Go.Vt
attribute [local congr] wi_congr wg_congr wgd_congr wb_congr wl_congr cf_congr
variable {L : FuncId → List V → V → Prop} {h : Heap}
/-- Flags and numbers. -/
structure Ct where
  f : Nat → Bool
  n : Nat → Int
def ctV (c : Ct) : List V := [.bool (c.f 0), .bool (c.f 1), .bool (c.f 2), .bool (c.f 3), .bool (c.f 4), .bool (c.f 5), .bool (c.f 6), .int .i64 (c.n 0), .int .i64 (c.n 1), .int .i64 (c.n 2), .int .i64 (c.n 3), .int .i64 (c.n 4), .int .i64 (c.n 5)]
def ct0 : Ct := ⟨fun _ => false, fun _ => -1⟩
def setF (c : Ct) (i : Nat) : Ct := ⟨fun k => if k = i then true else c.f k, c.n⟩
def setN (c : Ct) (j : Nat) (v : Int) : Ct := ⟨c.f, fun k => if k = j then v else c.n k⟩
/-- What a name stands for. -/
inductive Rl where
  | no
  | flag (i : Nat)
  | num (j : Nat) (m b : Int)
def ruleT : List (Bs × Rl) := [([110, 111, 45, 115, 116, 111, 114, 101], .flag 0), ([110, 111, 45, 99, 97, 99, 104, 101], .flag 1), ([112, 114, 105, 118, 97, 116, 101], .flag 2), ([112, 117, 98, 108, 105, 99], .flag 3), ([109, 117, 115, 116, 45, 114, 101, 118, 97, 108, 105, 100, 97, 116, 101], .flag 4), ([112, 114, 111, 120, 121, 45, 114, 101, 118, 97, 108, 105, 100, 97, 116, 101], .flag 5), ([111, 110, 108, 121, 45, 105, 102, 45, 99, 97, 99, 104, 101, 100], .flag 6), ([109, 97, 120, 45, 97, 103, 101], .num 0 0 0), ([115, 45, 109, 97, 120, 97, 103, 101], .num 1 0 0), ([115, 116, 97, 108, 101, 45, 119, 104, 105, 108, 101, 45, 114, 101, 118, 97, 108, 105, 100, 97, 116, 101], .num 2 (-1) (-1)), ([115, 116, 97, 108, 101, 45, 105, 102, 45, 101, 114, 114, 111, 114], .num 3 (-1) (-1)), ([109, 105, 110, 45, 102, 114, 101, 115, 104], .num 4 (-1) (-1)), ([109, 97, 120, 45, 115, 116, 97, 108, 101], .num 5 2147483648 (-1))]
def ruleOf (nm : Bs) : Rl := (ruleT.lookup nm).getD .no
def valueS (text : Bs) (has : Bool) (m b : Int) : Int := if has then (if (numS text 2147483648).2 then (numS text 2147483648).1 else b) else m
/-- What an element does. -/
inductive Ac where
  | nop
  | flag (i : Nat)
  | num (j : Nat) (v : Int)
def actS (x : Bs) : Ac := match ruleOf (low (pairS x).1) with
  | .no => .nop
  | .flag i => .flag i
  | .num j m b => if valueS (pairS x).2.1 (pairS x).2.2.1 m b = -1 then .nop else .num j (valueS (pairS x).2.1 (pairS x).2.2.1 m b)
def lst (a v : Int) : Int := if a = -1 ∨ v < a then v else a
def applyA (c : Ct) : Ac → Ct
  | .nop => c
  | .flag i => setF c i
  | .num j v => setN c j (lst (c.n j) v)
def stepC (c : Ct) (x : Bs) : Ct := applyA c (actS x)
def parseC (s : Bs) : Ct × Bool := match split s with
  | none => (setF (setF ct0 0) 1, false)
  | some l => (l.foldl stepC ct0, true)
def parseCV (p : Ct × Bool) : V := .tup [.agg (ctV p.1), .bool p.2]
def flagF : List FuncId := [i_control_rules_3, i_control_rules_4, i_control_rules_5, i_control_rules_6, i_control_rules_7, i_control_rules_8, i_control_rules_9]
def numF : List FuncId := [i_control_rules_10, i_control_rules_11, i_control_rules_12, i_control_rules_13, i_control_rules_14, i_control_rules_15]
def ruleV : Rl → V
  | .no => .agg [.nfn, .nfn, .int .i64 0, .int .i64 0]
  | .flag i => .agg [.fn (flagF.getD i 0) [], .nfn, .int .i64 0, .int .i64 0]
  | .num j m b => .agg [.nfn, .fn (numF.getD j 0) [], .int .i64 m, .int .i64 b]
def ruleE : List (V × V) := ruleT.map fun p => (.str p.1, ruleV p.2)
theorem find_rule (nm : Bs) : ∀ (l : List (Bs × Rl)) (k : Nat), ∃ r, findE .s (.str nm) (l.map fun p => (V.str p.1, ruleV p.2)) k = some r ∧ (match l.lookup nm with | none => r = none | some a => ∃ i, r = some (i, ruleV a))
  | [], k => ⟨none, rfl, rfl⟩
  | (n, a) :: l, k => by
    by_cases hn : nm = n
    · subst hn
      refine ⟨some (k, ruleV a), ?_, ?_⟩
      · simp [findE, eqLeaf]
      · rw [List.lookup_cons, show (nm == nm) = true from beq_self_eq_true nm]; exact ⟨k, rfl⟩
    · obtain ⟨r, h1, h2⟩ := find_rule nm l (k + 1)
      have hb : (nm == n) = false := beq_eq_false_iff_ne.2 hn
      refine ⟨r, ?_, ?_⟩
      · rw [List.map_cons, findE]
        simp only [eqLeaf, hb, Option.bind_some, Bool.false_eq_true, if_false]
        exact h1
      · rw [List.lookup_cons, hb]; exact h2
theorem nothing_ok : Cf F L i_control_nothing [] h (fun v h' => v = .agg (ctV ct0) ∧ h' = h ++ [.box (ctV ct0)]) := by
  refine run_control_nothing ?_
  simp only [p_control_nothing]
  simp (maxSteps := 4000000) only [vm, vl, Arg.get, cells, stor, boundO, resultsV, resV, partK, loadV, Vm.part, fillC, splice, reduceIte, reduceCtorEq, Nat.reduceEqDiff, Nat.reduceAdd, Nat.reduceSub, Nat.reduceMul, Nat.reduceLeDiff, ne_eq, not_false_eq_true, Int.reduceEq, Int.reduceLT, Int.reduceLE, Int.reduceNeg, Int.reduceToNat, Int.reduceGT, Int.reduceGE, Nat.reduceLT, Nat.lt_add_one, Nat.zero_lt_succ, Nat.succ_pos, Nat.zero_le, beq_self_eq_true]
  exact ⟨rfl, rfl⟩
theorem value_ok {f g : V} {m b : Int} {text : Bs} {has : Bool} (hs : text.length ≤ 9223372036854775806) : Cf F L i__gatepost_control_rule__value [.agg [f, g, .int .i64 m, .int .i64 b], .str text, .bool has] h (Pu h (.int .i64 (valueS text has m b))) := by
  refine run__gatepost_control_rule__value ?_
  simp only [p__gatepost_control_rule__value]
  unfold valueS
  cases has with
  | false => simp (maxSteps := 4000000) only [vm, vl, Arg.get, cells, stor, boundO, resultsV, resV, partK, loadV, Vm.part, fillC, splice, reduceIte, reduceCtorEq, Nat.reduceEqDiff, Nat.reduceAdd, Nat.reduceSub, Nat.reduceMul, Nat.reduceLeDiff, ne_eq, not_false_eq_true, Int.reduceEq, Int.reduceLT, Int.reduceLE, Int.reduceNeg, Int.reduceToNat, Int.reduceGT, Int.reduceGE, Nat.reduceLT, Nat.lt_add_one, Nat.zero_lt_succ, Nat.succ_pos, Nat.zero_le, beq_self_eq_true, k__gatepost_control_rule__value_1, k__gatepost_control_rule__value_0, Bool.not_false]
  | true =>
    simp (maxSteps := 4000000) only [vm, vl, Arg.get, cells, stor, boundO, resultsV, resV, partK, loadV, Vm.part, fillC, splice, reduceIte, reduceCtorEq, Nat.reduceEqDiff, Nat.reduceAdd, Nat.reduceSub, Nat.reduceMul, Nat.reduceLeDiff, ne_eq, not_false_eq_true, Int.reduceEq, Int.reduceLT, Int.reduceLE, Int.reduceNeg, Int.reduceToNat, Int.reduceGT, Int.reduceGE, Nat.reduceLT, Nat.lt_add_one, Nat.zero_lt_succ, Nat.succ_pos, Nat.zero_le, beq_self_eq_true, k__gatepost_control_rule__value_1, k__gatepost_control_rule__value_0, Bool.not_true]
    refine Cf.pu (Number_ok hs (by decide) (by decide)) fun u => ?_
    cases hn : (numS text 2147483648).2 with
    | true => simp (maxSteps := 4000000) only [vm, vl, Arg.get, cells, stor, boundO, resultsV, resV, partK, loadV, Vm.part, fillC, splice, reduceIte, reduceCtorEq, Nat.reduceEqDiff, Nat.reduceAdd, Nat.reduceSub, Nat.reduceMul, Nat.reduceLeDiff, ne_eq, not_false_eq_true, Int.reduceEq, Int.reduceLT, Int.reduceLE, Int.reduceNeg, Int.reduceToNat, Int.reduceGT, Int.reduceGE, Nat.reduceLT, Nat.lt_add_one, Nat.zero_lt_succ, Nat.succ_pos, Nat.zero_le, beq_self_eq_true, k__gatepost_control_rule__value_1, k__gatepost_control_rule__value_0, hn]
    | false => simp (maxSteps := 4000000) only [vm, vl, Arg.get, cells, stor, boundO, resultsV, resV, partK, loadV, Vm.part, fillC, splice, reduceIte, reduceCtorEq, Nat.reduceEqDiff, Nat.reduceAdd, Nat.reduceSub, Nat.reduceMul, Nat.reduceLeDiff, ne_eq, not_false_eq_true, Int.reduceEq, Int.reduceLT, Int.reduceLE, Int.reduceNeg, Int.reduceToNat, Int.reduceGT, Int.reduceGE, Nat.reduceLT, Nat.lt_add_one, Nat.zero_lt_succ, Nat.succ_pos, Nat.zero_le, beq_self_eq_true, k__gatepost_control_rule__value_1, k__gatepost_control_rule__value_0, hn]
theorem flag0_ok {c : Ct} {p : Nat} {K : V → Heap → Prop} (hb : h[p]? = some (.box (ctV c))) (hk : K (.tup []) (h.set p (.box (ctV (setF c 0))))) : Cf F L i_control_rules_3 [.ptr p 0] h K := by
  have hb' := hb
  unfold ctV at hb'
  refine run_control_rules_3 ?_
  simp only [p_control_rules_3]
  simp (maxSteps := 4000000) only [vm, vl, Arg.get, cells, stor, boundO, resultsV, resV, partK, loadV, Vm.part, fillC, splice, reduceIte, reduceCtorEq, Nat.reduceEqDiff, Nat.reduceAdd, Nat.reduceSub, Nat.reduceMul, Nat.reduceLeDiff, ne_eq, not_false_eq_true, Int.reduceEq, Int.reduceLT, Int.reduceLE, Int.reduceNeg, Int.reduceToNat, Int.reduceGT, Int.reduceGE, Nat.reduceLT, Nat.lt_add_one, Nat.zero_lt_succ, Nat.succ_pos, Nat.zero_le, beq_self_eq_true, hb']
  exact hk
theorem flag1_ok {c : Ct} {p : Nat} {K : V → Heap → Prop} (hb : h[p]? = some (.box (ctV c))) (hk : K (.tup []) (h.set p (.box (ctV (setF c 1))))) : Cf F L i_control_rules_4 [.ptr p 0] h K := by
  have hb' := hb
  unfold ctV at hb'
  refine run_control_rules_4 ?_
  simp only [p_control_rules_4]
  simp (maxSteps := 4000000) only [vm, vl, Arg.get, cells, stor, boundO, resultsV, resV, partK, loadV, Vm.part, fillC, splice, reduceIte, reduceCtorEq, Nat.reduceEqDiff, Nat.reduceAdd, Nat.reduceSub, Nat.reduceMul, Nat.reduceLeDiff, ne_eq, not_false_eq_true, Int.reduceEq, Int.reduceLT, Int.reduceLE, Int.reduceNeg, Int.reduceToNat, Int.reduceGT, Int.reduceGE, Nat.reduceLT, Nat.lt_add_one, Nat.zero_lt_succ, Nat.succ_pos, Nat.zero_le, beq_self_eq_true, hb']
  exact hk
theorem flag2_ok {c : Ct} {p : Nat} {K : V → Heap → Prop} (hb : h[p]? = some (.box (ctV c))) (hk : K (.tup []) (h.set p (.box (ctV (setF c 2))))) : Cf F L i_control_rules_5 [.ptr p 0] h K := by
  have hb' := hb
  unfold ctV at hb'
  refine run_control_rules_5 ?_
  simp only [p_control_rules_5]
  simp (maxSteps := 4000000) only [vm, vl, Arg.get, cells, stor, boundO, resultsV, resV, partK, loadV, Vm.part, fillC, splice, reduceIte, reduceCtorEq, Nat.reduceEqDiff, Nat.reduceAdd, Nat.reduceSub, Nat.reduceMul, Nat.reduceLeDiff, ne_eq, not_false_eq_true, Int.reduceEq, Int.reduceLT, Int.reduceLE, Int.reduceNeg, Int.reduceToNat, Int.reduceGT, Int.reduceGE, Nat.reduceLT, Nat.lt_add_one, Nat.zero_lt_succ, Nat.succ_pos, Nat.zero_le, beq_self_eq_true, hb']
  exact hk
theorem flag3_ok {c : Ct} {p : Nat} {K : V → Heap → Prop} (hb : h[p]? = some (.box (ctV c))) (hk : K (.tup []) (h.set p (.box (ctV (setF c 3))))) : Cf F L i_control_rules_6 [.ptr p 0] h K := by
  have hb' := hb
  unfold ctV at hb'
  refine run_control_rules_6 ?_
  simp only [p_control_rules_6]
  simp (maxSteps := 4000000) only [vm, vl, Arg.get, cells, stor, boundO, resultsV, resV, partK, loadV, Vm.part, fillC, splice, reduceIte, reduceCtorEq, Nat.reduceEqDiff, Nat.reduceAdd, Nat.reduceSub, Nat.reduceMul, Nat.reduceLeDiff, ne_eq, not_false_eq_true, Int.reduceEq, Int.reduceLT, Int.reduceLE, Int.reduceNeg, Int.reduceToNat, Int.reduceGT, Int.reduceGE, Nat.reduceLT, Nat.lt_add_one, Nat.zero_lt_succ, Nat.succ_pos, Nat.zero_le, beq_self_eq_true, hb']
  exact hk
theorem flag4_ok {c : Ct} {p : Nat} {K : V → Heap → Prop} (hb : h[p]? = some (.box (ctV c))) (hk : K (.tup []) (h.set p (.box (ctV (setF c 4))))) : Cf F L i_control_rules_7 [.ptr p 0] h K := by
  have hb' := hb
  unfold ctV at hb'
  refine run_control_rules_7 ?_
  simp only [p_control_rules_7]
  simp (maxSteps := 4000000) only [vm, vl, Arg.get, cells, stor, boundO, resultsV, resV, partK, loadV, Vm.part, fillC, splice, reduceIte, reduceCtorEq, Nat.reduceEqDiff, Nat.reduceAdd, Nat.reduceSub, Nat.reduceMul, Nat.reduceLeDiff, ne_eq, not_false_eq_true, Int.reduceEq, Int.reduceLT, Int.reduceLE, Int.reduceNeg, Int.reduceToNat, Int.reduceGT, Int.reduceGE, Nat.reduceLT, Nat.lt_add_one, Nat.zero_lt_succ, Nat.succ_pos, Nat.zero_le, beq_self_eq_true, hb']
  exact hk
theorem flag5_ok {c : Ct} {p : Nat} {K : V → Heap → Prop} (hb : h[p]? = some (.box (ctV c))) (hk : K (.tup []) (h.set p (.box (ctV (setF c 5))))) : Cf F L i_control_rules_8 [.ptr p 0] h K := by
  have hb' := hb
  unfold ctV at hb'
  refine run_control_rules_8 ?_
  simp only [p_control_rules_8]
  simp (maxSteps := 4000000) only [vm, vl, Arg.get, cells, stor, boundO, resultsV, resV, partK, loadV, Vm.part, fillC, splice, reduceIte, reduceCtorEq, Nat.reduceEqDiff, Nat.reduceAdd, Nat.reduceSub, Nat.reduceMul, Nat.reduceLeDiff, ne_eq, not_false_eq_true, Int.reduceEq, Int.reduceLT, Int.reduceLE, Int.reduceNeg, Int.reduceToNat, Int.reduceGT, Int.reduceGE, Nat.reduceLT, Nat.lt_add_one, Nat.zero_lt_succ, Nat.succ_pos, Nat.zero_le, beq_self_eq_true, hb']
  exact hk
theorem flag6_ok {c : Ct} {p : Nat} {K : V → Heap → Prop} (hb : h[p]? = some (.box (ctV c))) (hk : K (.tup []) (h.set p (.box (ctV (setF c 6))))) : Cf F L i_control_rules_9 [.ptr p 0] h K := by
  have hb' := hb
  unfold ctV at hb'
  refine run_control_rules_9 ?_
  simp only [p_control_rules_9]
  simp (maxSteps := 4000000) only [vm, vl, Arg.get, cells, stor, boundO, resultsV, resV, partK, loadV, Vm.part, fillC, splice, reduceIte, reduceCtorEq, Nat.reduceEqDiff, Nat.reduceAdd, Nat.reduceSub, Nat.reduceMul, Nat.reduceLeDiff, ne_eq, not_false_eq_true, Int.reduceEq, Int.reduceLT, Int.reduceLE, Int.reduceNeg, Int.reduceToNat, Int.reduceGT, Int.reduceGE, Nat.reduceLT, Nat.lt_add_one, Nat.zero_lt_succ, Nat.succ_pos, Nat.zero_le, beq_self_eq_true, hb']
  exact hk
theorem num0_ok {p : Nat} : Cf F L i_control_rules_10 [.ptr p 0] h (fun v h' => v = .ptr p 7 ∧ h' = h) := by
  refine run_control_rules_10 ?_
  simp only [p_control_rules_10]
  simp (maxSteps := 4000000) only [vm, vl, Arg.get, cells, stor, boundO, resultsV, resV, partK, loadV, Vm.part, fillC, splice, reduceIte, reduceCtorEq, Nat.reduceEqDiff, Nat.reduceAdd, Nat.reduceSub, Nat.reduceMul, Nat.reduceLeDiff, ne_eq, not_false_eq_true, Int.reduceEq, Int.reduceLT, Int.reduceLE, Int.reduceNeg, Int.reduceToNat, Int.reduceGT, Int.reduceGE, Nat.reduceLT, Nat.lt_add_one, Nat.zero_lt_succ, Nat.succ_pos, Nat.zero_le, beq_self_eq_true]
theorem num1_ok {p : Nat} : Cf F L i_control_rules_11 [.ptr p 0] h (fun v h' => v = .ptr p 8 ∧ h' = h) := by
  refine run_control_rules_11 ?_
  simp only [p_control_rules_11]
  simp (maxSteps := 4000000) only [vm, vl, Arg.get, cells, stor, boundO, resultsV, resV, partK, loadV, Vm.part, fillC, splice, reduceIte, reduceCtorEq, Nat.reduceEqDiff, Nat.reduceAdd, Nat.reduceSub, Nat.reduceMul, Nat.reduceLeDiff, ne_eq, not_false_eq_true, Int.reduceEq, Int.reduceLT, Int.reduceLE, Int.reduceNeg, Int.reduceToNat, Int.reduceGT, Int.reduceGE, Nat.reduceLT, Nat.lt_add_one, Nat.zero_lt_succ, Nat.succ_pos, Nat.zero_le, beq_self_eq_true]
theorem num2_ok {p : Nat} : Cf F L i_control_rules_12 [.ptr p 0] h (fun v h' => v = .ptr p 9 ∧ h' = h) := by
  refine run_control_rules_12 ?_
  simp only [p_control_rules_12]
  simp (maxSteps := 4000000) only [vm, vl, Arg.get, cells, stor, boundO, resultsV, resV, partK, loadV, Vm.part, fillC, splice, reduceIte, reduceCtorEq, Nat.reduceEqDiff, Nat.reduceAdd, Nat.reduceSub, Nat.reduceMul, Nat.reduceLeDiff, ne_eq, not_false_eq_true, Int.reduceEq, Int.reduceLT, Int.reduceLE, Int.reduceNeg, Int.reduceToNat, Int.reduceGT, Int.reduceGE, Nat.reduceLT, Nat.lt_add_one, Nat.zero_lt_succ, Nat.succ_pos, Nat.zero_le, beq_self_eq_true]
theorem num3_ok {p : Nat} : Cf F L i_control_rules_13 [.ptr p 0] h (fun v h' => v = .ptr p 10 ∧ h' = h) := by
  refine run_control_rules_13 ?_
  simp only [p_control_rules_13]
  simp (maxSteps := 4000000) only [vm, vl, Arg.get, cells, stor, boundO, resultsV, resV, partK, loadV, Vm.part, fillC, splice, reduceIte, reduceCtorEq, Nat.reduceEqDiff, Nat.reduceAdd, Nat.reduceSub, Nat.reduceMul, Nat.reduceLeDiff, ne_eq, not_false_eq_true, Int.reduceEq, Int.reduceLT, Int.reduceLE, Int.reduceNeg, Int.reduceToNat, Int.reduceGT, Int.reduceGE, Nat.reduceLT, Nat.lt_add_one, Nat.zero_lt_succ, Nat.succ_pos, Nat.zero_le, beq_self_eq_true]
theorem num4_ok {p : Nat} : Cf F L i_control_rules_14 [.ptr p 0] h (fun v h' => v = .ptr p 11 ∧ h' = h) := by
  refine run_control_rules_14 ?_
  simp only [p_control_rules_14]
  simp (maxSteps := 4000000) only [vm, vl, Arg.get, cells, stor, boundO, resultsV, resV, partK, loadV, Vm.part, fillC, splice, reduceIte, reduceCtorEq, Nat.reduceEqDiff, Nat.reduceAdd, Nat.reduceSub, Nat.reduceMul, Nat.reduceLeDiff, ne_eq, not_false_eq_true, Int.reduceEq, Int.reduceLT, Int.reduceLE, Int.reduceNeg, Int.reduceToNat, Int.reduceGT, Int.reduceGE, Nat.reduceLT, Nat.lt_add_one, Nat.zero_lt_succ, Nat.succ_pos, Nat.zero_le, beq_self_eq_true]
theorem num5_ok {p : Nat} : Cf F L i_control_rules_15 [.ptr p 0] h (fun v h' => v = .ptr p 12 ∧ h' = h) := by
  refine run_control_rules_15 ?_
  simp only [p_control_rules_15]
  simp (maxSteps := 4000000) only [vm, vl, Arg.get, cells, stor, boundO, resultsV, resV, partK, loadV, Vm.part, fillC, splice, reduceIte, reduceCtorEq, Nat.reduceEqDiff, Nat.reduceAdd, Nat.reduceSub, Nat.reduceMul, Nat.reduceLeDiff, ne_eq, not_false_eq_true, Int.reduceEq, Int.reduceLT, Int.reduceLE, Int.reduceNeg, Int.reduceToNat, Int.reduceGT, Int.reduceGE, Nat.reduceLT, Nat.lt_add_one, Nat.zero_lt_succ, Nat.succ_pos, Nat.zero_le, beq_self_eq_true]
theorem flag_ok {c : Ct} {p i : Nat} {K : V → Heap → Prop} (hi : i < 7) (hb : h[p]? = some (.box (ctV c))) (hk : K (.tup []) (h.set p (.box (ctV (setF c i))))) : Cf F L (flagF.getD i 0) [.ptr p 0] h K := by
  match i, hi with
  | 0, _ => exact flag0_ok hb hk
  | 1, _ => exact flag1_ok hb hk
  | 2, _ => exact flag2_ok hb hk
  | 3, _ => exact flag3_ok hb hk
  | 4, _ => exact flag4_ok hb hk
  | 5, _ => exact flag5_ok hb hk
  | 6, _ => exact flag6_ok hb hk
theorem num_ok {p j : Nat} (hj : j < 6) : Cf F L (numF.getD j 0) [.ptr p 0] h (fun v h' => v = .ptr p (7 + j) ∧ h' = h) := by
  match j, hj with
  | 0, _ => exact num0_ok
  | 1, _ => exact num1_ok
  | 2, _ => exact num2_ok
  | 3, _ => exact num3_ok
  | 4, _ => exact num4_ok
  | 5, _ => exact num5_ok
theorem put_rule1 {es es' : List (V × V)} {name : Bs} {f : FuncId} {K : V → Heap → Prop} (he : mapsetE .s (.str name) (.agg [.fn f [], .nfn, .int .i64 0, .int .i64 0]) es = some es')
    (hk : K (.tup []) (h ++ [.map es', .box [.map h.length]])) : Cf F L i_control_rules_1 [.str name, .fn f [], .ptr (h.length + 1) 0] (h ++ [.map es, .box [.map h.length]]) K := by
  refine run_control_rules_1 ?_
  simp only [p_control_rules_1]
  simp (maxSteps := 4000000) only [vm, vl, Arg.get, cells, stor, boundO, resultsV, resV, partK, loadV, Vm.part, fillC, splice, reduceIte, reduceCtorEq, Nat.reduceEqDiff, Nat.reduceAdd, Nat.reduceSub, Nat.reduceMul, Nat.reduceLeDiff, ne_eq, not_false_eq_true, Int.reduceEq, Int.reduceLT, Int.reduceLE, Int.reduceNeg, Int.reduceToNat, Int.reduceGT, Int.reduceGE, Nat.reduceLT, Nat.lt_add_one, Nat.zero_lt_succ, Nat.succ_pos, Nat.zero_le, beq_self_eq_true, he]
  exact hk
theorem put_rule2 {es es' : List (V × V)} {name : Bs} {f : FuncId} {m b : Int} {K : V → Heap → Prop} (he : mapsetE .s (.str name) (.agg [.nfn, .fn f [], .int .i64 m, .int .i64 b]) es = some es')
    (hk : K (.tup []) (h ++ [.map es', .box [.map h.length]])) : Cf F L i_control_rules_2 [.str name, .int .i64 m, .int .i64 b, .fn f [], .ptr (h.length + 1) 0] (h ++ [.map es, .box [.map h.length]]) K := by
  refine run_control_rules_2 ?_
  simp only [p_control_rules_2]
  simp (maxSteps := 4000000) only [vm, vl, Arg.get, cells, stor, boundO, resultsV, resV, partK, loadV, Vm.part, fillC, splice, reduceIte, reduceCtorEq, Nat.reduceEqDiff, Nat.reduceAdd, Nat.reduceSub, Nat.reduceMul, Nat.reduceLeDiff, ne_eq, not_false_eq_true, Int.reduceEq, Int.reduceLT, Int.reduceLE, Int.reduceNeg, Int.reduceToNat, Int.reduceGT, Int.reduceGE, Nat.reduceLT, Nat.lt_add_one, Nat.zero_lt_succ, Nat.succ_pos, Nat.zero_le, beq_self_eq_true, he]
  exact hk
theorem rules_ok : Cf F L i_control_rules [] h (fun v h' => v = .map h.length ∧ h' = h ++ [.map ruleE, .box [.map h.length]]) := by
  refine run_control_rules ?_
  simp only [p_control_rules]
  simp (maxSteps := 4000000) only [vm, vl, Arg.get, cells, stor, boundO, resultsV, resV, partK, loadV, Vm.part, fillC, splice, reduceIte, reduceCtorEq, Nat.reduceEqDiff, Nat.reduceAdd, Nat.reduceSub, Nat.reduceMul, Nat.reduceLeDiff, ne_eq, not_false_eq_true, Int.reduceEq, Int.reduceLT, Int.reduceLE, Int.reduceNeg, Int.reduceToNat, Int.reduceGT, Int.reduceGE, Nat.reduceLT, Nat.lt_add_one, Nat.zero_lt_succ, Nat.succ_pos, Nat.zero_le, beq_self_eq_true]
  refine put_rule1 (es' := ruleE.take 1) rfl ?_
  try simp (maxSteps := 4000000) only [vm, vl, Arg.get, cells, stor, boundO, resultsV, resV, partK, loadV, Vm.part, fillC, splice, reduceIte, reduceCtorEq, Nat.reduceEqDiff, Nat.reduceAdd, Nat.reduceSub, Nat.reduceMul, Nat.reduceLeDiff, ne_eq, not_false_eq_true, Int.reduceEq, Int.reduceLT, Int.reduceLE, Int.reduceNeg, Int.reduceToNat, Int.reduceGT, Int.reduceGE, Nat.reduceLT, Nat.lt_add_one, Nat.zero_lt_succ, Nat.succ_pos, Nat.zero_le, beq_self_eq_true]
  refine put_rule1 (es' := ruleE.take 2) rfl ?_
  try simp (maxSteps := 4000000) only [vm, vl, Arg.get, cells, stor, boundO, resultsV, resV, partK, loadV, Vm.part, fillC, splice, reduceIte, reduceCtorEq, Nat.reduceEqDiff, Nat.reduceAdd, Nat.reduceSub, Nat.reduceMul, Nat.reduceLeDiff, ne_eq, not_false_eq_true, Int.reduceEq, Int.reduceLT, Int.reduceLE, Int.reduceNeg, Int.reduceToNat, Int.reduceGT, Int.reduceGE, Nat.reduceLT, Nat.lt_add_one, Nat.zero_lt_succ, Nat.succ_pos, Nat.zero_le, beq_self_eq_true]
  refine put_rule1 (es' := ruleE.take 3) rfl ?_
  try simp (maxSteps := 4000000) only [vm, vl, Arg.get, cells, stor, boundO, resultsV, resV, partK, loadV, Vm.part, fillC, splice, reduceIte, reduceCtorEq, Nat.reduceEqDiff, Nat.reduceAdd, Nat.reduceSub, Nat.reduceMul, Nat.reduceLeDiff, ne_eq, not_false_eq_true, Int.reduceEq, Int.reduceLT, Int.reduceLE, Int.reduceNeg, Int.reduceToNat, Int.reduceGT, Int.reduceGE, Nat.reduceLT, Nat.lt_add_one, Nat.zero_lt_succ, Nat.succ_pos, Nat.zero_le, beq_self_eq_true]
  refine put_rule1 (es' := ruleE.take 4) rfl ?_
  try simp (maxSteps := 4000000) only [vm, vl, Arg.get, cells, stor, boundO, resultsV, resV, partK, loadV, Vm.part, fillC, splice, reduceIte, reduceCtorEq, Nat.reduceEqDiff, Nat.reduceAdd, Nat.reduceSub, Nat.reduceMul, Nat.reduceLeDiff, ne_eq, not_false_eq_true, Int.reduceEq, Int.reduceLT, Int.reduceLE, Int.reduceNeg, Int.reduceToNat, Int.reduceGT, Int.reduceGE, Nat.reduceLT, Nat.lt_add_one, Nat.zero_lt_succ, Nat.succ_pos, Nat.zero_le, beq_self_eq_true]
  refine put_rule1 (es' := ruleE.take 5) rfl ?_
  try simp (maxSteps := 4000000) only [vm, vl, Arg.get, cells, stor, boundO, resultsV, resV, partK, loadV, Vm.part, fillC, splice, reduceIte, reduceCtorEq, Nat.reduceEqDiff, Nat.reduceAdd, Nat.reduceSub, Nat.reduceMul, Nat.reduceLeDiff, ne_eq, not_false_eq_true, Int.reduceEq, Int.reduceLT, Int.reduceLE, Int.reduceNeg, Int.reduceToNat, Int.reduceGT, Int.reduceGE, Nat.reduceLT, Nat.lt_add_one, Nat.zero_lt_succ, Nat.succ_pos, Nat.zero_le, beq_self_eq_true]
  refine put_rule1 (es' := ruleE.take 6) rfl ?_
  try simp (maxSteps := 4000000) only [vm, vl, Arg.get, cells, stor, boundO, resultsV, resV, partK, loadV, Vm.part, fillC, splice, reduceIte, reduceCtorEq, Nat.reduceEqDiff, Nat.reduceAdd, Nat.reduceSub, Nat.reduceMul, Nat.reduceLeDiff, ne_eq, not_false_eq_true, Int.reduceEq, Int.reduceLT, Int.reduceLE, Int.reduceNeg, Int.reduceToNat, Int.reduceGT, Int.reduceGE, Nat.reduceLT, Nat.lt_add_one, Nat.zero_lt_succ, Nat.succ_pos, Nat.zero_le, beq_self_eq_true]
  refine put_rule1 (es' := ruleE.take 7) rfl ?_
  try simp (maxSteps := 4000000) only [vm, vl, Arg.get, cells, stor, boundO, resultsV, resV, partK, loadV, Vm.part, fillC, splice, reduceIte, reduceCtorEq, Nat.reduceEqDiff, Nat.reduceAdd, Nat.reduceSub, Nat.reduceMul, Nat.reduceLeDiff, ne_eq, not_false_eq_true, Int.reduceEq, Int.reduceLT, Int.reduceLE, Int.reduceNeg, Int.reduceToNat, Int.reduceGT, Int.reduceGE, Nat.reduceLT, Nat.lt_add_one, Nat.zero_lt_succ, Nat.succ_pos, Nat.zero_le, beq_self_eq_true]
  refine put_rule2 (es' := ruleE.take 8) rfl ?_
  try simp (maxSteps := 4000000) only [vm, vl, Arg.get, cells, stor, boundO, resultsV, resV, partK, loadV, Vm.part, fillC, splice, reduceIte, reduceCtorEq, Nat.reduceEqDiff, Nat.reduceAdd, Nat.reduceSub, Nat.reduceMul, Nat.reduceLeDiff, ne_eq, not_false_eq_true, Int.reduceEq, Int.reduceLT, Int.reduceLE, Int.reduceNeg, Int.reduceToNat, Int.reduceGT, Int.reduceGE, Nat.reduceLT, Nat.lt_add_one, Nat.zero_lt_succ, Nat.succ_pos, Nat.zero_le, beq_self_eq_true]
  refine put_rule2 (es' := ruleE.take 9) rfl ?_
  try simp (maxSteps := 4000000) only [vm, vl, Arg.get, cells, stor, boundO, resultsV, resV, partK, loadV, Vm.part, fillC, splice, reduceIte, reduceCtorEq, Nat.reduceEqDiff, Nat.reduceAdd, Nat.reduceSub, Nat.reduceMul, Nat.reduceLeDiff, ne_eq, not_false_eq_true, Int.reduceEq, Int.reduceLT, Int.reduceLE, Int.reduceNeg, Int.reduceToNat, Int.reduceGT, Int.reduceGE, Nat.reduceLT, Nat.lt_add_one, Nat.zero_lt_succ, Nat.succ_pos, Nat.zero_le, beq_self_eq_true]
  refine put_rule2 (es' := ruleE.take 10) rfl ?_
  try simp (maxSteps := 4000000) only [vm, vl, Arg.get, cells, stor, boundO, resultsV, resV, partK, loadV, Vm.part, fillC, splice, reduceIte, reduceCtorEq, Nat.reduceEqDiff, Nat.reduceAdd, Nat.reduceSub, Nat.reduceMul, Nat.reduceLeDiff, ne_eq, not_false_eq_true, Int.reduceEq, Int.reduceLT, Int.reduceLE, Int.reduceNeg, Int.reduceToNat, Int.reduceGT, Int.reduceGE, Nat.reduceLT, Nat.lt_add_one, Nat.zero_lt_succ, Nat.succ_pos, Nat.zero_le, beq_self_eq_true]
  refine put_rule2 (es' := ruleE.take 11) rfl ?_
  try simp (maxSteps := 4000000) only [vm, vl, Arg.get, cells, stor, boundO, resultsV, resV, partK, loadV, Vm.part, fillC, splice, reduceIte, reduceCtorEq, Nat.reduceEqDiff, Nat.reduceAdd, Nat.reduceSub, Nat.reduceMul, Nat.reduceLeDiff, ne_eq, not_false_eq_true, Int.reduceEq, Int.reduceLT, Int.reduceLE, Int.reduceNeg, Int.reduceToNat, Int.reduceGT, Int.reduceGE, Nat.reduceLT, Nat.lt_add_one, Nat.zero_lt_succ, Nat.succ_pos, Nat.zero_le, beq_self_eq_true]
  refine put_rule2 (es' := ruleE.take 12) rfl ?_
  try simp (maxSteps := 4000000) only [vm, vl, Arg.get, cells, stor, boundO, resultsV, resV, partK, loadV, Vm.part, fillC, splice, reduceIte, reduceCtorEq, Nat.reduceEqDiff, Nat.reduceAdd, Nat.reduceSub, Nat.reduceMul, Nat.reduceLeDiff, ne_eq, not_false_eq_true, Int.reduceEq, Int.reduceLT, Int.reduceLE, Int.reduceNeg, Int.reduceToNat, Int.reduceGT, Int.reduceGE, Nat.reduceLT, Nat.lt_add_one, Nat.zero_lt_succ, Nat.succ_pos, Nat.zero_le, beq_self_eq_true]
  refine put_rule2 (es' := ruleE.take 13) rfl ?_
  try simp (maxSteps := 4000000) only [vm, vl, Arg.get, cells, stor, boundO, resultsV, resV, partK, loadV, Vm.part, fillC, splice, reduceIte, reduceCtorEq, Nat.reduceEqDiff, Nat.reduceAdd, Nat.reduceSub, Nat.reduceMul, Nat.reduceLeDiff, ne_eq, not_false_eq_true, Int.reduceEq, Int.reduceLT, Int.reduceLE, Int.reduceNeg, Int.reduceToNat, Int.reduceGT, Int.reduceGE, Nat.reduceLT, Nat.lt_add_one, Nat.zero_lt_succ, Nat.succ_pos, Nat.zero_le, beq_self_eq_true]
  rfl
end Go.Proofs.YtgplldjcopfjpaaDoor.Vh
end
section
set_option linter.unusedVariables false
set_option linter.unusedSimpArgs false
namespace Go.Proofs.YtgplldjcopfjpaaDoor.Vh
open Go.Vm Go.Vt
theorem trimL_len (s : Bs) : (trimL s).length ≤ s.length := (List.dropWhile_sublist _).length_le
theorem trimR_len : ∀ s : Bs, (trimR s).length ≤ s.length
  | [] => by simp [trimR]
  | c :: r => by
    have := trimR_len r
    unfold trimR
    split
    · split
      · simp
      · simp
    · rename_i h
      simp only [List.length_cons]; omega
theorem trim_len (s : Bs) : (trim s).length ≤ s.length := Nat.le_trans (trimL_len _) (trimR_len _)
theorem flush_mem {out : List Bs} {own x : Bs} (h : x ∈ flush out own) : x ∈ out ∨ x.length ≤ own.length := by
  unfold flush at h
  split at h
  · exact .inl h
  · rcases List.mem_append.1 h with h | h
    · exact .inl h
    · right; rw [List.mem_singleton.1 h]; exact trim_len _
theorem splitG_mem : ∀ {n : Nat} {s own : Bs} {q : Bool} {out l : List Bs}, s.length ≤ n → splitG s own q out = some l → ∀ x ∈ l, x ∈ out ∨ x.length ≤ own.length + s.length
  | n, [], own, q, out, l, hn, h, x, hx => by
    have e : splitG [] own q out = if q then none else some (flush out own) := rfl
    rw [e] at h
    split at h
    · cases h
    · injection h with h; subst h
      exact (flush_mem hx).imp_right fun h => by simpa using h
  | 0, c :: r, own, q, out, l, hn, h, x, hx => by simp at hn
  | n + 1, c :: r, own, q, out, l, hn, h, x, hx => by
    simp at hn
    rw [splitG_step] at h
    split at h
    · refine (splitG_mem hn h x hx).imp_right fun this => ?_; simp only [List.length_append, List.length_cons, List.length_nil] at this ⊢; omega
    split at h
    · cases r with
      | nil => cases h
      | cons d r =>
        refine (splitG_mem (n := n) (by simp at hn; omega) h x hx).imp_right fun this => ?_; simp only [List.length_append, List.length_cons, List.length_nil] at this ⊢; omega
    split at h
    · rcases splitG_mem hn h x hx with h1 | h1
      · refine (flush_mem h1).imp_right fun this => ?_; simp only [List.length_cons]; omega
      · right; simp only [List.length_cons, List.length_nil] at h1 ⊢; omega
    · refine (splitG_mem hn h x hx).imp_right fun this => ?_; simp only [List.length_append, List.length_cons, List.length_nil] at this ⊢; omega
theorem split_mem {s : Bs} {l : List Bs} (h : split s = some l) : ∀ x ∈ l, x.length ≤ s.length := by
  intro x hx
  have := splitG_mem (Nat.le_refl _) h x hx
  simpa using this
theorem list_at' {α : Type} {l : List α} {i : Nat} (d : α) (hi : i ≤ l.length) : (¬ (i : Int) < l.length ∧ i = l.length ∧ l.drop i = []) ∨ ((i : Int) < l.length ∧ i < l.length ∧ l.drop i = l.getD i d :: l.drop (i + 1) ∧ l.take (i + 1) = l.take i ++ [l.getD i d]) := by
  rcases Nat.lt_or_eq_of_le hi with h | h
  · right
    have e : l.getD i d = l[i] := by rw [List.getD_eq_getElem?_getD, List.getElem?_eq_getElem h]; rfl
    exact ⟨by omega, h, by rw [e]; exact List.drop_eq_getElem_cons h, by rw [e, List.take_add_one, List.getElem?_eq_getElem h]; rfl⟩
  · exact .inl ⟨by omega, h, by rw [h]; simp⟩
theorem splitG_len : ∀ {n : Nat} {s own : Bs} {q : Bool} {out l : List Bs}, s.length ≤ n → splitG s own q out = some l → l.length ≤ out.length + s.length + 1
  | 0, s, own, q, out, l, hn, h => by
    obtain rfl : s = [] := List.eq_nil_of_length_eq_zero (by omega)
    rw [splitG_none rfl] at h
    split at h
    · cases h
    · injection h with h; subst h
      have := flush_len out own; simp; omega
  | n + 1, [], own, q, out, l, hn, h => splitG_len (n := n) (by simp) h
  | n + 1, c :: r, own, q, out, l, hn, h => by
    simp at hn
    rw [splitG_step] at h
    split at h
    · have := splitG_len hn h; simp; omega
    split at h
    · cases r with
      | nil => cases h
      | cons d r =>
        have := splitG_len (n := n) (by simp at hn; omega) h; simp; omega
    split at h
    · have := splitG_len hn h
      have := flush_len out own; simp; omega
    · have := splitG_len hn h; simp; omega
end Go.Proofs.YtgplldjcopfjpaaDoor.Vh
end
section
set_option linter.unusedVariables false
set_option linter.unusedSimpArgs false
namespace Go.Proofs.YtgplldjcopfjpaaDoor.Vh
open Go.Vm Go.Vt
attribute [local congr] wi_congr wg_congr wgd_congr wb_congr wl_congr cf_congr
variable {L : FuncId → List V → V → Prop} {h : Heap}
theorem ruleT_spec (nm : Bs) : ruleOf nm = .no ∨ (∃ i, i < 7 ∧ ruleOf nm = .flag i) ∨ ∃ j m b, j < 6 ∧ ruleOf nm = .num j m b := by
  unfold ruleOf ruleT
  simp only [List.lookup]
  repeat' split
  all_goals simp
theorem ctV_len (c : Ct) : (ctV c).length = 13 := rfl
theorem ctV_num {c : Ct} {j : Nat} (hj : j < 6) : (ctV c).getD (7 + j) (.tup []) = .int .i64 (c.n j) := by
  match j, hj with
  | 0, _ => rfl
  | 1, _ => rfl
  | 2, _ => rfl
  | 3, _ => rfl
  | 4, _ => rfl
  | 5, _ => rfl
theorem ctV_put {c : Ct} {j : Nat} {v : Int} (hj : j < 6) : List.take (7 + j) (ctV c) ++ V.int .i64 v :: List.drop (7 + (j + 1)) (ctV c) = ctV (setN c j v) := by
  match j, hj with
  | 0, _ => rfl
  | 1, _ => rfl
  | 2, _ => rfl
  | 3, _ => rfl
  | 4, _ => rfl
  | 5, _ => rfl
/-- The least that is told. -/
theorem value_low (text : Bs) (has : Bool) {m b : Int} (hm : m = -1 ∨ 0 ≤ m) (hb : b = -1 ∨ 0 ≤ b) : valueS text has m b = -1 ∨ 0 ≤ valueS text has m b := by
  unfold valueS
  split
  · split
    · exact .inr (numS_le text (by decide)).1
    · exact hb
  · exact hm
theorem unqT_len : ∀ (n : Nat) (s bs : Bs), s.length ≤ n → (unqT s bs).1.length ≤ bs.length + s.length
  | _, [], bs, _ => by rw [unqT_end]; simp
  | 0, c :: r, bs, hn => by simp at hn
  | n + 1, c :: t, bs, hn => by
    simp at hn
    by_cases c34 : c = 34
    · subst c34
      rw [unqT_stop]; simp
    · by_cases c92 : c = 92
      · subst c92
        cases t with
        | nil => rw [unqT_esc0]; simp
        | cons d t =>
          rw [unqT_esc]
          simp at hn
          split
          · have := unqT_len n t (bs ++ [d]) (by omega)
            simp at this ⊢; omega
          · simp
      · rw [unqT_one c34 c92]
        split
        · have := unqT_len n t (bs ++ [c]) hn
          simp at this ⊢; omega
        · simp
theorem unqP_len (s : Bs) : (unqP s).1.length ≤ s.length := by
  unfold unqP
  split
  · have := unqT_len _ (s.drop 1) [] (Nat.le_refl _)
    rw [List.length_drop, List.length_nil] at this
    omega
  · simp
theorem pairS_len1 (s : Bs) : (pairS s).1.length ≤ s.length := by
  unfold pairS
  simp only
  split
  · split
    · split
      · rw [List.length_take]; omega
      · split
        · rw [List.length_take]; omega
        · simp
    · rw [List.length_take]; omega
  · simp
theorem pairS_len2 (s : Bs) : (pairS s).2.1.length ≤ s.length := by
  have h1 : (s.drop (pos 61 s + 1)).length ≤ s.length := by rw [List.length_drop]; omega
  have h2 := unqP_len (s.drop (pos 61 s + 1))
  unfold pairS
  simp only
  split
  · split
    · split
      · exact h1
      · split
        · exact Nat.le_trans h2 h1
        · simp
    · exact h1
  · simp
theorem find_case (nm : Bs) : ∃ r, findE .s (.str nm) ruleE 0 = some r ∧ ((r = none ∧ ruleOf nm = .no) ∨ ∃ i, r = some (i, ruleV (ruleOf nm))) := by
  obtain ⟨r, h1, h2⟩ := find_rule nm ruleT 0
  refine ⟨r, h1, ?_⟩
  unfold ruleOf
  cases hl : ruleT.lookup nm with
  | none => rw [hl] at h2; exact .inl ⟨h2, rfl⟩
  | some a => rw [hl] at h2; exact .inr h2
def ParI (h : Heap) (l : List Bs) (x : V) (n : Nat) (e : Env) (h' : Heap) : Prop :=
  ∃ (i : Nat) (c : Ct) (km : Nat) (R A : O) (t : Heap), n = l.length - i ∧ i ≤ l.length ∧ e 2 = .ptr h.length 0 ∧ e 4 = .ptr (h.length + 2) 0 ∧ e 7 = .map (h.length + (km + 3)) ∧ e 29 = x ∧ e 30 = .int .i64 l.length ∧ e 31 = .int .i64 i ∧
    (∃ cs, R = .box cs ∧ cs.length = 13) ∧ h' = h ++ (R :: A :: .box (ctV c) :: t) ∧ t[km]? = some (.map ruleE) ∧ l.foldl stepC ct0 = (l.drop i).foldl stepC c
theorem Parse_round {l : List Bs} {x : V} (HI : IndexOk L) (HU : UnqOk L) (hx : ListV 1 x (strs l)) (hl : l.length < 100000000) (hb : ∀ s ∈ l, s.length < 100000000) {n : Nat} {e : Env} {h' : Heap} (hI : ParI h l x n e h') :
    b_control_Parse_0 L (Pu h (parseCV (l.foldl stepC ct0, true))) (fun e' h' => ∃ m, m < n ∧ ParI h l x m e' h') e h' := by
  obtain ⟨i, c, km, R, A, t, rfl, hi, e2, e4, e7, e29, e30, e31, ⟨cs, rfl, hcs⟩, rfl, hk, hf⟩ := hI
  simp only [b_control_Parse_0]
  
  rcases list_at' [] hi with ⟨hn, rfl, hd⟩ | ⟨hl1, hl2, hd, _⟩
  · rw [hd] at hf
    have hcs1 : List.drop 13 cs = [] := List.drop_eq_nil_of_le (by omega)
    have hc13 := ctV_len c
    have ht13 : List.take 13 (ctV c) = ctV c := rfl
    simp (maxSteps := 4000000) only [vm, vl, Arg.get, cells, stor, boundO, resultsV, resV, partK, loadV, Vm.part, fillC, splice, reduceIte, reduceCtorEq, Nat.reduceEqDiff, Nat.reduceAdd, Nat.reduceSub, Nat.reduceMul, Nat.reduceLeDiff, ne_eq, not_false_eq_true, Int.reduceEq, Int.reduceLT, Int.reduceLE, Int.reduceNeg, Int.reduceToNat, Int.reduceGT, Int.reduceGE, Nat.reduceLT, Nat.lt_add_one, Nat.zero_lt_succ, Nat.succ_pos, Nat.zero_le, beq_self_eq_true, e2, e4, e30, e31, hn]
    unfold k_control_Parse_1
    simp (maxSteps := 4000000) only [vm, vl, Arg.get, cells, stor, boundO, resultsV, resV, partK, loadV, Vm.part, fillC, splice, reduceIte, reduceCtorEq, Nat.reduceEqDiff, Nat.reduceAdd, Nat.reduceSub, Nat.reduceMul, Nat.reduceLeDiff, ne_eq, not_false_eq_true, Int.reduceEq, Int.reduceLT, Int.reduceLE, Int.reduceNeg, Int.reduceToNat, Int.reduceGT, Int.reduceGE, Nat.reduceLT, Nat.lt_add_one, Nat.zero_lt_succ, Nat.succ_pos, Nat.zero_le, beq_self_eq_true, hcs, hc13, ht13, hcs1, List.append_nil]
    rw [hf]; rfl
  · obtain ⟨o, rfl⟩ : ∃ o, x = .sl 1 o (strs l) := by
      rcases hx with ⟨he, _⟩ | h
      · have := strs_len l
        rw [he] at this
        simp at this
        omega
      · exact h
    have hsl : i < (strs l).length := by rw [strs_len]; exact hl2
    have hi0 : (0 : Int) ≤ (i : Int) := by omega
    have g : (strs l).getD i (.tup []) = .str (l.getD i []) := by
      unfold strs
      rw [List.getD_eq_getElem?_getD, List.getD_eq_getElem?_getD, List.getElem?_map, List.getElem?_eq_getElem hl2]; rfl
    have hyb : (l.getD i []).length < 100000000 := by
      rw [List.getD_eq_getElem?_getD, List.getElem?_eq_getElem hl2]; exact hb _ (List.getElem_mem hl2)
    rw [hd, List.foldl_cons] at hf
    generalize l.getD i [] = y at *
    have w := wrap64 (x := (i : Int) + 1) (by omega) (by omega)
    have hplen : (pairS y).1.length ≤ y.length := pairS_len1 y
    have hplen2 : (pairS y).2.1.length ≤ y.length := pairS_len2 y
    simp (maxSteps := 4000000) only [vm, vl, Arg.get, cells, stor, boundO, resultsV, resV, partK, loadV, Vm.part, fillC, splice, reduceIte, reduceCtorEq, Nat.reduceEqDiff, Nat.reduceAdd, Nat.reduceSub, Nat.reduceMul, Nat.reduceLeDiff, ne_eq, not_false_eq_true, Int.reduceEq, Int.reduceLT, Int.reduceLE, Int.reduceNeg, Int.reduceToNat, Int.reduceGT, Int.reduceGE, Nat.reduceLT, Nat.lt_add_one, Nat.zero_lt_succ, Nat.succ_pos, Nat.zero_le, beq_self_eq_true, e2, e4, e7, e29, e30, e31, hl1]
    unfold k_control_Parse_2
    simp (maxSteps := 4000000) only [vm, vl, Arg.get, cells, stor, boundO, resultsV, resV, partK, loadV, Vm.part, fillC, splice, reduceIte, reduceCtorEq, Nat.reduceEqDiff, Nat.reduceAdd, Nat.reduceSub, Nat.reduceMul, Nat.reduceLeDiff, ne_eq, not_false_eq_true, Int.reduceEq, Int.reduceLT, Int.reduceLE, Int.reduceNeg, Int.reduceToNat, Int.reduceGT, Int.reduceGE, Nat.reduceLT, Nat.lt_add_one, Nat.zero_lt_succ, Nat.succ_pos, Nat.zero_le, beq_self_eq_true, hsl, hi0, g]
    refine Cf.pu (Pair_ok HI HU (by omega)) fun u1 => ?_
    unfold k_control_Parse_6
    simp (maxSteps := 4000000) only [vm, vl, Arg.get, cells, stor, boundO, resultsV, resV, partK, loadV, Vm.part, fillC, splice, reduceIte, reduceCtorEq, Nat.reduceEqDiff, Nat.reduceAdd, Nat.reduceSub, Nat.reduceMul, Nat.reduceLeDiff, ne_eq, not_false_eq_true, Int.reduceEq, Int.reduceLT, Int.reduceLE, Int.reduceNeg, Int.reduceToNat, Int.reduceGT, Int.reduceGE, Nat.reduceLT, Nat.lt_add_one, Nat.zero_lt_succ, Nat.succ_pos, Nat.zero_le, beq_self_eq_true, pairV]
    refine Cf.pu (Lower_ok (by omega)) fun u2 => ?_
    have hmap : (h ++ (O.box cs :: A :: O.box (ctV c) :: (t ++ u1)) ++ u2)[h.length + (km + 3)]? = some (.map ruleE) := by
      refine get_old ?_
      rw [get_new]; exact get_old hk
    obtain ⟨r, hr1, hr2⟩ := find_case (low (pairS y).1)
    simp only [hmap, hr1]
    have main : k_control_Parse_5 L (Pu h (parseCV (List.foldl stepC ct0 l, true)))
        (fun e' h' => ∃ m, m < l.length - i ∧ ParI h l (V.sl 1 o (strs l)) m e' h') (upd e 32 (V.bool true))
        (V.ptr (List.length h + 2) 0) (V.map (List.length h + (km + 3))) (V.int IntKind.i64 ↑i) (V.iptr [V.str y])
        (V.str y)
        (V.tup
          [V.str (pairS y).fst, V.str (pairS y).snd.fst, V.bool (pairS y).snd.snd.fst, V.bool (pairS y).snd.snd.snd])
        (V.str (pairS y).fst) (V.str (pairS y).snd.fst) (V.bool (pairS y).snd.snd.fst) (V.bool (pairS y).snd.snd.snd)
        (V.str (low (pairS y).fst)) (ruleV (ruleOf (low (pairS y).1)))
        (h ++ O.box cs :: A :: O.box (ctV c) :: (t ++ u1) ++ u2) := by
      have hfin : ∀ (c' : Ct) (e' : Env) (t' : Heap), (∃ u, t' = t ++ u) → stepC c y = c' → e' 2 = .ptr h.length 0 → e' 4 = .ptr (h.length + 2) 0 → e' 7 = .map (h.length + (km + 3)) → e' 29 = V.sl 1 o (strs l) → e' 30 = .int .i64 l.length → e' 31 = .int .i64 ((i : Int) + 1) →
          ∃ m, m < l.length - i ∧ ParI h l (V.sl 1 o (strs l)) m e' (h ++ (O.box cs :: A :: O.box (ctV c') :: t')) := by
        rintro c' e' t' ⟨u, rfl⟩ hs f2 f4 f7 f29 f30 f31
        rw [hs] at hf
        exact ⟨l.length - (i + 1), by omega, i + 1, c', km, _, A, t ++ u, rfl, hl2, f2, f4, f7, f29, f30, f31, ⟨cs, rfl, hcs⟩, rfl, get_old hk, hf⟩
      have ha : actS y = match ruleOf (low (pairS y).1) with
        | .no => .nop
        | .flag i => .flag i
        | .num j m b => if valueS (pairS y).2.1 (pairS y).2.2.1 m b = -1 then .nop else .num j (valueS (pairS y).2.1 (pairS y).2.2.1 m b) := rfl
      clear hmap hr1 hr2 hf
      generalize low (pairS y).1 = nm at *
      generalize (pairS y).1 = pn at *
      generalize (pairS y).2.1 = text at *
      generalize (pairS y).2.2.1 = has at *
      generalize (pairS y).2.2.2 = ok at *
      unfold k_control_Parse_5
      rcases ruleT_spec nm with hr | ⟨k, hk7, hr⟩ | ⟨j, m, b, hj, hr⟩
      · rw [hr] at ha ⊢
        have hs : stepC c y = c := by unfold stepC; rw [ha]; rfl
        unfold ruleV
        simp (maxSteps := 4000000) only [vm, vl, Arg.get, cells, stor, boundO, resultsV, resV, partK, loadV, Vm.part, fillC, splice, reduceIte, reduceCtorEq, Nat.reduceEqDiff, Nat.reduceAdd, Nat.reduceSub, Nat.reduceMul, Nat.reduceLeDiff, ne_eq, not_false_eq_true, Int.reduceEq, Int.reduceLT, Int.reduceLE, Int.reduceNeg, Int.reduceToNat, Int.reduceGT, Int.reduceGE, Nat.reduceLT, Nat.lt_add_one, Nat.zero_lt_succ, Nat.succ_pos, Nat.zero_le, beq_self_eq_true, k_control_Parse_3, w]
        exact hfin c _ _ ⟨_, rfl⟩ hs e2 e4 e7 e29 e30 rfl
      · rw [hr] at ha ⊢
        have hs : stepC c y = setF c k := by unfold stepC; rw [ha]; rfl
        unfold ruleV
        simp (maxSteps := 4000000) only [vm, vl, Arg.get, cells, stor, boundO, resultsV, resV, partK, loadV, Vm.part, fillC, splice, reduceIte, reduceCtorEq, Nat.reduceEqDiff, Nat.reduceAdd, Nat.reduceSub, Nat.reduceMul, Nat.reduceLeDiff, ne_eq, not_false_eq_true, Int.reduceEq, Int.reduceLT, Int.reduceLE, Int.reduceNeg, Int.reduceToNat, Int.reduceGT, Int.reduceGE, Nat.reduceLT, Nat.lt_add_one, Nat.zero_lt_succ, Nat.succ_pos, Nat.zero_le, beq_self_eq_true, k_control_Parse_3, w]
        refine flag_ok hk7 (c := c) (by rw [get_new]; rfl) ?_
        simp (maxSteps := 4000000) only [vm, vl, Arg.get, cells, stor, boundO, resultsV, resV, partK, loadV, Vm.part, fillC, splice, reduceIte, reduceCtorEq, Nat.reduceEqDiff, Nat.reduceAdd, Nat.reduceSub, Nat.reduceMul, Nat.reduceLeDiff, ne_eq, not_false_eq_true, Int.reduceEq, Int.reduceLT, Int.reduceLE, Int.reduceNeg, Int.reduceToNat, Int.reduceGT, Int.reduceGE, Nat.reduceLT, Nat.lt_add_one, Nat.zero_lt_succ, Nat.succ_pos, Nat.zero_le, beq_self_eq_true, k_control_Parse_3, w]
        exact hfin (setF c k) _ _ ⟨_, rfl⟩ hs e2 e4 e7 e29 e30 rfl
      · rw [hr] at ha ⊢
        have hc13 := ctV_len c
        have h13 : 7 + (j + 1) ≤ 13 := by omega
        have hnj := ctV_num (c := c) hj
        unfold ruleV
        simp (maxSteps := 4000000) only [vm, vl, Arg.get, cells, stor, boundO, resultsV, resV, partK, loadV, Vm.part, fillC, splice, reduceIte, reduceCtorEq, Nat.reduceEqDiff, Nat.reduceAdd, Nat.reduceSub, Nat.reduceMul, Nat.reduceLeDiff, ne_eq, not_false_eq_true, Int.reduceEq, Int.reduceLT, Int.reduceLE, Int.reduceNeg, Int.reduceToNat, Int.reduceGT, Int.reduceGE, Nat.reduceLT, Nat.lt_add_one, Nat.zero_lt_succ, Nat.succ_pos, Nat.zero_le, beq_self_eq_true, k_control_Parse_3, w]
        refine (num_ok hj).mono fun v h' hv => ?_
        obtain ⟨rfl, rfl⟩ := hv
        simp (maxSteps := 4000000) only [vm, vl, Arg.get, cells, stor, boundO, resultsV, resV, partK, loadV, Vm.part, fillC, splice, reduceIte, reduceCtorEq, Nat.reduceEqDiff, Nat.reduceAdd, Nat.reduceSub, Nat.reduceMul, Nat.reduceLeDiff, ne_eq, not_false_eq_true, Int.reduceEq, Int.reduceLT, Int.reduceLE, Int.reduceNeg, Int.reduceToNat, Int.reduceGT, Int.reduceGE, Nat.reduceLT, Nat.lt_add_one, Nat.zero_lt_succ, Nat.succ_pos, Nat.zero_le, beq_self_eq_true]
        refine Cf.pu (value_ok (by omega)) fun u3 => ?_
        unfold k_control_Parse_4
        have ha' : actS y = if valueS text has m b = -1 then .nop else .num j (valueS text has m b) := ha
        clear ha
        generalize hval : valueS text has m b = vv at *
        by_cases hv : vv = -1
        · have hs : stepC c y = c := by unfold stepC; rw [ha', if_pos hv]; rfl
          simp (maxSteps := 4000000) only [vm, vl, Arg.get, cells, stor, boundO, resultsV, resV, partK, loadV, Vm.part, fillC, splice, reduceIte, reduceCtorEq, Nat.reduceEqDiff, Nat.reduceAdd, Nat.reduceSub, Nat.reduceMul, Nat.reduceLeDiff, ne_eq, not_false_eq_true, Int.reduceEq, Int.reduceLT, Int.reduceLE, Int.reduceNeg, Int.reduceToNat, Int.reduceGT, Int.reduceGE, Nat.reduceLT, Nat.lt_add_one, Nat.zero_lt_succ, Nat.succ_pos, Nat.zero_le, beq_self_eq_true, hv, decide_true, Bool.not_true, k_control_Parse_3, w]
          exact hfin c _ _ ⟨_, rfl⟩ hs e2 e4 e7 e29 e30 rfl
        · rw [if_neg hv] at ha'
          have hs : stepC c y = setN c j (lst (c.n j) vv) := by unfold stepC; rw [ha']; rfl
          have hput := ctV_put (c := c) (j := j) (v := vv) hj
          by_cases h1 : c.n j = -1
          · have hl : lst (c.n j) vv = vv := if_pos (.inl h1)
            rw [hl] at hs
            simp (maxSteps := 4000000) only [vm, vl, Arg.get, cells, stor, boundO, resultsV, resV, partK, loadV, Vm.part, fillC, splice, reduceIte, reduceCtorEq, Nat.reduceEqDiff, Nat.reduceAdd, Nat.reduceSub, Nat.reduceMul, Nat.reduceLeDiff, ne_eq, not_false_eq_true, Int.reduceEq, Int.reduceLT, Int.reduceLE, Int.reduceNeg, Int.reduceToNat, Int.reduceGT, Int.reduceGE, Nat.reduceLT, Nat.lt_add_one, Nat.zero_lt_succ, Nat.succ_pos, Nat.zero_le, beq_self_eq_true, hv, decide_false, Bool.not_false, hc13, h13, hnj, h1, decide_true, hput, k_control_Parse_3, w]
            exact hfin (setN c j vv) _ _ ⟨_, rfl⟩ hs e2 e4 e7 e29 e30 rfl
          · by_cases h2 : vv < c.n j
            · have hl : lst (c.n j) vv = vv := if_pos (.inr h2)
              rw [hl] at hs
              simp (maxSteps := 4000000) only [vm, vl, Arg.get, cells, stor, boundO, resultsV, resV, partK, loadV, Vm.part, fillC, splice, reduceIte, reduceCtorEq, Nat.reduceEqDiff, Nat.reduceAdd, Nat.reduceSub, Nat.reduceMul, Nat.reduceLeDiff, ne_eq, not_false_eq_true, Int.reduceEq, Int.reduceLT, Int.reduceLE, Int.reduceNeg, Int.reduceToNat, Int.reduceGT, Int.reduceGE, Nat.reduceLT, Nat.lt_add_one, Nat.zero_lt_succ, Nat.succ_pos, Nat.zero_le, beq_self_eq_true, hv, decide_false, Bool.not_false, hc13, h13, hnj, h1, h2, decide_true, hput, k_control_Parse_3, w]
              exact hfin (setN c j vv) _ _ ⟨_, rfl⟩ hs e2 e4 e7 e29 e30 rfl
            · have hl : lst (c.n j) vv = c.n j := if_neg (by omega)
              have hss : setN c j (c.n j) = c := by
                unfold setN
                have : (fun k => if k = j then c.n j else c.n k) = c.n := funext fun k => by split <;> simp_all
                rw [this]
              rw [hl, hss] at hs
              simp (maxSteps := 4000000) only [vm, vl, Arg.get, cells, stor, boundO, resultsV, resV, partK, loadV, Vm.part, fillC, splice, reduceIte, reduceCtorEq, Nat.reduceEqDiff, Nat.reduceAdd, Nat.reduceSub, Nat.reduceMul, Nat.reduceLeDiff, ne_eq, not_false_eq_true, Int.reduceEq, Int.reduceLT, Int.reduceLE, Int.reduceNeg, Int.reduceToNat, Int.reduceGT, Int.reduceGE, Nat.reduceLT, Nat.lt_add_one, Nat.zero_lt_succ, Nat.succ_pos, Nat.zero_le, beq_self_eq_true, hv, decide_false, Bool.not_false, hc13, h13, hnj, h1, h2, k_control_Parse_3, w]
              exact hfin c _ _ ⟨_, rfl⟩ hs e2 e4 e7 e29 e30 rfl
    rcases hr2 with ⟨rfl, hr⟩ | ⟨k, rfl⟩
    · rw [hr] at main; exact main
    · exact main
theorem Parse_ok (HI : IndexOk L) (HU : UnqOk L) {s : Bs} (hs : s.length < 1000000) : Cf F L i_control_Parse [.str s] h (Pu h (parseCV (parseC s))) := by
  refine run_control_Parse ?_
  simp only [p_control_Parse]
  
  simp (maxSteps := 4000000) only [vm, vl, Arg.get, cells, stor, boundO, resultsV, resV, partK, loadV, Vm.part, fillC, splice, reduceIte, reduceCtorEq, Nat.reduceEqDiff, Nat.reduceAdd, Nat.reduceSub, Nat.reduceMul, Nat.reduceLeDiff, ne_eq, not_false_eq_true, Int.reduceEq, Int.reduceLT, Int.reduceLE, Int.reduceNeg, Int.reduceToNat, Int.reduceGT, Int.reduceGE, Nat.reduceLT, Nat.lt_add_one, Nat.zero_lt_succ, Nat.succ_pos, Nat.zero_le, beq_self_eq_true]
  refine (nothing_ok).mono fun v h' hv => ?_
  obtain ⟨rfl, rfl⟩ := hv
  have hc13 := ctV_len ct0
  have hd13 : List.drop 13 (ctV ct0) = [] := rfl
  simp (maxSteps := 4000000) only [vm, vl, Arg.get, cells, stor, boundO, resultsV, resV, partK, loadV, Vm.part, fillC, splice, reduceIte, reduceCtorEq, Nat.reduceEqDiff, Nat.reduceAdd, Nat.reduceSub, Nat.reduceMul, Nat.reduceLeDiff, ne_eq, not_false_eq_true, Int.reduceEq, Int.reduceLT, Int.reduceLE, Int.reduceNeg, Int.reduceToNat, Int.reduceGT, Int.reduceGE, Nat.reduceLT, Nat.lt_add_one, Nat.zero_lt_succ, Nat.succ_pos, Nat.zero_le, beq_self_eq_true, hc13]
  refine Cf.pu (Split_ok (by omega)) fun u1 => ?_
  unfold k_control_Parse_7 parseC
  cases hsp : split s with
  | none =>
    simp only [splitV]
    simp (maxSteps := 4000000) only [vm, vl, Arg.get, cells, stor, boundO, resultsV, resV, partK, loadV, Vm.part, fillC, splice, reduceIte, reduceCtorEq, Nat.reduceEqDiff, Nat.reduceAdd, Nat.reduceSub, Nat.reduceMul, Nat.reduceLeDiff, ne_eq, not_false_eq_true, Int.reduceEq, Int.reduceLT, Int.reduceLE, Int.reduceNeg, Int.reduceToNat, Int.reduceGT, Int.reduceGE, Nat.reduceLT, Nat.lt_add_one, Nat.zero_lt_succ, Nat.succ_pos, Nat.zero_le, beq_self_eq_true, ctV, Bool.not_false]
    rfl
  | some l =>
    simp only [splitV]
    simp (maxSteps := 4000000) only [vm, vl, Arg.get, cells, stor, boundO, resultsV, resV, partK, loadV, Vm.part, fillC, splice, reduceIte, reduceCtorEq, Nat.reduceEqDiff, Nat.reduceAdd, Nat.reduceSub, Nat.reduceMul, Nat.reduceLeDiff, ne_eq, not_false_eq_true, Int.reduceEq, Int.reduceLT, Int.reduceLE, Int.reduceNeg, Int.reduceToNat, Int.reduceGT, Int.reduceGE, Nat.reduceLT, Nat.lt_add_one, Nat.zero_lt_succ, Nat.succ_pos, Nat.zero_le, beq_self_eq_true, Bool.not_true]
    unfold k_control_Parse_0
    simp (maxSteps := 4000000) only [vm, vl, Arg.get, cells, stor, boundO, resultsV, resV, partK, loadV, Vm.part, fillC, splice, reduceIte, reduceCtorEq, Nat.reduceEqDiff, Nat.reduceAdd, Nat.reduceSub, Nat.reduceMul, Nat.reduceLeDiff, ne_eq, not_false_eq_true, Int.reduceEq, Int.reduceLT, Int.reduceLE, Int.reduceNeg, Int.reduceToNat, Int.reduceGT, Int.reduceGE, Nat.reduceLT, Nat.lt_add_one, Nat.zero_lt_succ, Nat.succ_pos, Nat.zero_le, beq_self_eq_true]
    refine (rules_ok).mono fun v h' hv => ?_
    obtain ⟨rfl, rfl⟩ := hv
    have hlen : l.length < 100000000 := by
      have := splitG_len (Nat.le_refl _) (show splitG s [] false [] = some l from hsp)
      simp at this; omega
    have hmem := split_mem hsp
    have hx := full_list l
    have hbs : ∀ x ∈ l, x.length < 100000000 := fun x hx => by have := hmem x hx; omega
    have fin : ∀ (e : Env), e 2 = .ptr h.length 0 → e 4 = .ptr (h.length + 2) 0 → e 7 = .map (h.length + (u1.length + 3)) → e 29 = fullV l → e 30 = .int .i64 l.length → e 31 = .int .i64 ((0 : Nat) : Int) →
        Wl F L lc_control_Parse_0 (q_control_Parse_0 L (Pu h (parseCV (List.foldl stepC ct0 l, true)))) e (h ++
        O.box
            [V.bool false, V.bool false, V.bool false, V.bool false, V.bool false, V.bool false, V.bool false,
              V.int IntKind.i64 0, V.int IntKind.i64 0, V.int IntKind.i64 0, V.int IntKind.i64 0, V.int IntKind.i64 0,
              V.int IntKind.i64 0] ::
          O.box (ctV ct0) ::
            O.box (ctV ct0 ++ []) :: (u1 ++ [O.map ruleE, O.box [V.map (List.length h + (List.length u1 + 3))]])) := by
      intro e f2 f4 f7 f29 f30 f31
      rw [List.append_nil]
      exact l_control_Parse_0 (ParI h l (fullV l)) (fun n e h' hI => Parse_round HI HU hx hlen hbs hI) (n := l.length) ⟨0, ct0, u1.length, _, _, _, by simp, by simp, f2, f4, f7, f29, f30, f31, ⟨_, rfl, rfl⟩, rfl, by rw [List.getElem?_append_right (Nat.le_refl _)]; simp, by simp⟩
    rcases hx with ⟨he, e⟩ | ⟨o, e⟩
    · have hl0 : l.length = 0 := by rw [← strs_len, he]; rfl
      rw [hl0] at fin
      rw [e] at fin ⊢
      simp (maxSteps := 4000000) only [vm, vl, Arg.get, cells, stor, boundO, resultsV, resV, partK, loadV, Vm.part, fillC, splice, reduceIte, reduceCtorEq, Nat.reduceEqDiff, Nat.reduceAdd, Nat.reduceSub, Nat.reduceMul, Nat.reduceLeDiff, ne_eq, not_false_eq_true, Int.reduceEq, Int.reduceLT, Int.reduceLE, Int.reduceNeg, Int.reduceToNat, Int.reduceGT, Int.reduceGE, Nat.reduceLT, Nat.lt_add_one, Nat.zero_lt_succ, Nat.succ_pos, Nat.zero_le, beq_self_eq_true]
      exact fin _ rfl rfl rfl rfl rfl rfl
    · rw [e] at fin ⊢
      have hsl := strs_len l
      simp (maxSteps := 4000000) only [vm, vl, Arg.get, cells, stor, boundO, resultsV, resV, partK, loadV, Vm.part, fillC, splice, reduceIte, reduceCtorEq, Nat.reduceEqDiff, Nat.reduceAdd, Nat.reduceSub, Nat.reduceMul, Nat.reduceLeDiff, ne_eq, not_false_eq_true, Int.reduceEq, Int.reduceLT, Int.reduceLE, Int.reduceNeg, Int.reduceToNat, Int.reduceGT, Int.reduceGE, Nat.reduceLT, Nat.lt_add_one, Nat.zero_lt_succ, Nat.succ_pos, Nat.zero_le, beq_self_eq_true, hsl]
      exact fin _ rfl rfl rfl rfl rfl rfl
end Go.Proofs.YtgplldjcopfjpaaDoor.Vh
end
section
set_option linter.unusedVariables false
set_option linter.unusedSimpArgs false
namespace Go.Proofs.YtgplldjcopfjpaaDoor.Vh
open Go.Vm Go.Vt
attribute [local congr] wi_congr wg_congr wgd_congr wb_congr wl_congr cf_congr
variable {L : FuncId → List V → V → Prop} {h : Heap}
end Go.Proofs.YtgplldjcopfjpaaDoor.Vh
end
section
set_option linter.unusedVariables false
set_option linter.unusedSimpArgs false
namespace Go.Proofs.YtgplldjcopfjpaaDoor.Vh
open Go.Vm Go.Vt
attribute [local congr] wi_congr wg_congr wgd_congr wb_congr wl_congr cf_congr
variable {L : FuncId → List V → V → Prop} {h : Heap}
theorem lst_low {a v : Int} (h1 : -1 ≤ a) (h2 : -1 ≤ v) : -1 ≤ lst a v := by unfold lst; split <;> omega
theorem act_low (c : Ct) (y : Bs) (h : ∀ j, -1 ≤ c.n j) : ∀ j, -1 ≤ (stepC c y).n j := by
  intro k
  unfold stepC
  have hv : ∀ j v, actS y = .num j v → -1 ≤ v := by
    intro j v hh
    unfold actS at hh
    split at hh
    · cases hh
    · cases hh
    · rename_i j m b hr
      have hmb : (m = -1 ∨ 0 ≤ m) ∧ (b = -1 ∨ 0 ≤ b) := by
        unfold ruleOf ruleT at hr
        simp only [List.lookup] at hr
        repeat' split at hr
        all_goals first | (cases hr; done) | (simp at hr; omega)
      have := value_low (pairS y).2.1 (pairS y).2.2.1 hmb.1 hmb.2
      split at hh
      · cases hh
      · injection hh with h1 h2; omega
  cases ha : actS y with
  | nop => exact h k
  | flag i => exact h k
  | num j v =>
    show -1 ≤ if k = j then lst (c.n j) v else c.n k
    split
    · exact lst_low (h j) (hv j v ha)
    · exact h k
end Go.Proofs.YtgplldjcopfjpaaDoor.Vh
end
section
set_option linter.unusedVariables false
set_option linter.unusedSimpArgs false
namespace Go.Proofs.YtgplldjcopfjpaaDoor.Vh
open Go.Vm Go.Vt
attribute [local congr] wi_congr wg_congr wgd_congr wb_congr wl_congr cf_congr
variable {L : FuncId → List V → V → Prop} {h : Heap}
theorem ct0_low : ∀ j, -1 ≤ ct0.n j := fun j => Int.le_refl _
end Go.Proofs.YtgplldjcopfjpaaDoor.Vh
end
section
set_option linter.unusedVariables false
set_option linter.unusedSimpArgs false
namespace Go.Proofs.YtgplldjcopfjpaaDoor.Vh
open Go.Vm Go.Vt
theorem flush_out (out own) : flush out own = out ++ flush [] own := by
  unfold flush; split <;> simp
theorem splitG_out : ∀ (n : Nat) (s own : Bs) (q : Bool) (out : List Bs), s.length ≤ n → splitG s own q out = (splitG s own q []).map fun l => out ++ l
  | _, [], own, q, out, _ => by
    show (if q then none else some (flush out own)) = Option.map _ (if q then none else some (flush [] own))
    cases q
    · simp only [Bool.false_eq_true, if_false, Option.map_some]; rw [flush_out]
    · rfl
  | 0, c :: r, own, q, out, h => by simp at h
  | n + 1, c :: r, own, q, out, h => by
    simp at h
    rw [splitG_step, splitG_step (out := [])]
    by_cases h1 : c = 34
    · rw [if_pos h1, if_pos h1]; exact splitG_out n r _ _ out h
    · rw [if_neg h1, if_neg h1]
      by_cases h2 : (q && c == 92) = true
      · rw [if_pos h2, if_pos h2]
        cases r with
        | nil => rfl
        | cons d r => simp at h; exact splitG_out n r _ _ out (by omega)
      · rw [if_neg h2, if_neg h2]
        by_cases h3 : (!q && c == 44) = true
        · rw [if_pos h3, if_pos h3, splitG_out n r _ _ (flush out own) h, splitG_out n r _ _ (flush [] own) h, flush_out]
          cases splitG r [] q [] <;> simp
        · rw [if_neg h3, if_neg h3]; exact splitG_out n r _ _ out h
/-- A text whose quotes end, and a comma behind it. -/
theorem splitG_app {p r : Bs} (hp : ∀ own out, splitG (p ++ r) own false out = splitG (p ++ r) [] false (flush out own)) : ∀ (n : Nat) (s own : Bs) (q : Bool) (out l : List Bs), s.length ≤ n → splitG s own q out = some l →
    splitG (s ++ (p ++ r)) own q out = splitG (p ++ r) [] false l
  | _, [], own, q, out, l, _, h => by
    cases q with
    | true => cases h
    | false =>
      have : some (flush out own) = some l := h
      injection this with this
      rw [List.nil_append, hp, this]
  | 0, c :: t, own, q, out, l, hn, h => by simp at hn
  | n + 1, c :: t, own, q, out, l, hn, h => by
    simp at hn
    rw [splitG_step] at h
    rw [List.cons_append, splitG_step]
    by_cases h1 : c = 34
    · rw [if_pos h1] at h ⊢; exact splitG_app hp n t _ _ out l hn h
    · rw [if_neg h1] at h ⊢
      by_cases h2 : (q && c == 92) = true
      · rw [if_pos h2] at h ⊢
        cases t with
        | nil => cases h
        | cons d t => simp at hn; exact splitG_app hp n t _ _ out l (by omega) h
      · rw [if_neg h2] at h ⊢
        by_cases h3 : (!q && c == 44) = true
        · rw [if_pos h3] at h ⊢; exact splitG_app hp n t _ _ _ l hn h
        · rw [if_neg h3] at h ⊢; exact splitG_app hp n t _ _ out l hn h
theorem splitG_pre : ∀ (n : Nat) (s own : Bs) (q : Bool) (out : List Bs), s.length ≤ n → splitG s (32 :: own) q out = splitG s own q out
  | _, [], own, q, out, _ => by
    show (if q then none else some (flush out (32 :: own))) = (if q then none else some (flush out own))
    unfold flush; rw [trim_pre rfl]
  | 0, c :: r, own, q, out, h => by simp at h
  | n + 1, c :: r, own, q, out, h => by
    simp at h
    rw [splitG_step, splitG_step (own := own)]
    by_cases h1 : c = 34
    · rw [if_pos h1, if_pos h1]; exact splitG_pre n r _ _ out h
    · rw [if_neg h1, if_neg h1]
      by_cases h2 : (q && c == 92) = true
      · rw [if_pos h2, if_pos h2]
        cases r with
        | nil => rfl
        | cons d r => simp at h; exact splitG_pre n r _ _ out (by omega)
      · rw [if_neg h2, if_neg h2]
        by_cases h3 : (!q && c == 44) = true
        · rw [if_pos h3, if_pos h3]; unfold flush; rw [trim_pre rfl]
        · rw [if_neg h3, if_neg h3]; exact splitG_pre n r _ _ out h
theorem split_comma {a b : Bs} {la lb : List Bs} (ha : split a = some la) (hb : split b = some lb) : split (a ++ [44] ++ b) = some (la ++ lb) := by
  have h1 := splitG_app (p := [44]) (r := b) (fun own out => by
    show splitG (44 :: b) own false out = splitG (44 :: b) [] false (flush out own)
    rw [splitG_comma, splitG_comma, flush_nil]) _ a [] false [] la (Nat.le_refl _) ha
  unfold split
  rw [List.append_assoc, h1]
  show splitG (44 :: b) [] false la = _
  rw [splitG_comma, flush_nil, splitG_out _ _ _ _ _ (Nat.le_refl _)]
  rw [show splitG b [] false [] = some lb from hb]; rfl
theorem split_commas {a b : Bs} {la lb : List Bs} (ha : split a = some la) (hb : split b = some lb) : split (b ++ [32, 44, 32] ++ a) = some (lb ++ la) := by
  have h1 := splitG_app (p := [32, 44, 32]) (r := a) (fun own out => by
    show splitG (32 :: 44 :: 32 :: a) own false out = splitG (32 :: 44 :: 32 :: a) [] false (flush out own)
    rw [splitG_byte (by decide) (by decide), splitG_comma, splitG_byte (c := 32) (own := []) (r := 44 :: 32 :: a) (by decide) (by decide), splitG_comma]
    congr 1
    unfold flush
    rw [trim_suf rfl]
    simp [trim, trimR, trimL, show blankB 32 = true from rfl]) _ b [] false [] lb (Nat.le_refl _) hb
  unfold split
  rw [List.append_assoc, h1]
  show splitG (32 :: 44 :: 32 :: a) [] false lb = _
  rw [splitG_byte (by decide) (by decide), splitG_comma, splitG_byte (by decide) (by decide)]
  show splitG a [32] false (flush lb [32]) = _
  have e : flush lb [32] = lb := by unfold flush; simp [trim, trimR, trimL, show blankB 32 = true from rfl]
  rw [e, splitG_pre _ _ _ _ _ (Nat.le_refl _), splitG_out _ _ _ _ _ (Nat.le_refl _)]
  rw [show splitG a [] false [] = some la from ha]; rfl
/-! What both say. -/
def lessS (a b : Int) : Int := if a < 0 ∨ (b ≥ 0 ∧ b < a) then b else a
def mergeC (c d : Ct) : Ct := ⟨fun i => c.f i || d.f i, fun j => lessS (c.n j) (d.n j)⟩
theorem lessS_comm {a b : Int} (h1 : -1 ≤ a) (h2 : -1 ≤ b) : lessS a b = lessS b a := by unfold lessS; split <;> split <;> omega
theorem lessS_lst {a b v : Int} (h1 : -1 ≤ a) (h2 : -1 ≤ b) (h3 : 0 ≤ v) : lst (lessS a b) v = lessS a (lst b v) := by
  unfold lessS lst; repeat' split
  all_goals omega
theorem act_pos {y : Bs} {j : Nat} {v : Int} (hh : actS y = .num j v) : 0 ≤ v := by
  unfold actS at hh
  split at hh
  · cases hh
  · cases hh
  · rename_i j m b hr
    have hmb : (m = -1 ∨ 0 ≤ m) ∧ (b = -1 ∨ 0 ≤ b) := by
      unfold ruleOf ruleT at hr
      simp only [List.lookup] at hr
      repeat' split at hr
      all_goals first | (cases hr; done) | (simp at hr; omega)
    have := value_low (pairS y).2.1 (pairS y).2.2.1 hmb.1 hmb.2
    split at hh
    · cases hh
    · rename_i hne
      injection hh with h1 h2; subst h2
      exact this.resolve_left hne
theorem step_merge {c d : Ct} (x : Bs) (hc : ∀ j, -1 ≤ c.n j) (hd : ∀ j, -1 ≤ d.n j) : stepC (mergeC c d) x = mergeC c (stepC d x) := by
  unfold stepC
  cases ha : actS x with
  | nop => rfl
  | flag i =>
    show Ct.mk _ _ = Ct.mk _ _
    congr 1
    funext k
    show (if k = i then true else (c.f k || d.f k)) = (c.f k || (if k = i then true else d.f k))
    split <;> simp
  | num j v =>
    show Ct.mk _ _ = Ct.mk _ _
    congr 1
    funext k
    show (if k = j then lst (lessS (c.n j) (d.n j)) v else lessS (c.n k) (d.n k)) = lessS (c.n k) (if k = j then lst (d.n j) v else d.n k)
    by_cases hk : k = j
    · subst hk; rw [if_pos rfl, if_pos rfl, lessS_lst (hc k) (hd k) (act_pos ha)]
    · rw [if_neg hk, if_neg hk]
theorem fold_low : ∀ (l : List Bs) (c : Ct), (∀ j, -1 ≤ c.n j) → ∀ j, -1 ≤ (l.foldl stepC c).n j
  | [], c, h => h
  | x :: l, c, h => fold_low l _ (act_low c x h)
theorem fold_merge : ∀ (l : List Bs) (c d : Ct), (∀ j, -1 ≤ c.n j) → (∀ j, -1 ≤ d.n j) → l.foldl stepC (mergeC c d) = mergeC c (l.foldl stepC d)
  | [], c, d, _, _ => rfl
  | x :: l, c, d, hc, hd => by
    rw [List.foldl_cons, List.foldl_cons, step_merge x hc hd, fold_merge l c _ hc (act_low d x hd)]
theorem merge_zero {c : Ct} (hc : ∀ j, -1 ≤ c.n j) : mergeC c ct0 = c := by
  show Ct.mk _ _ = c
  have h1 : (fun i => c.f i || ct0.f i) = c.f := funext fun i => by simp [ct0]
  have h2 : (fun j => lessS (c.n j) (ct0.n j)) = c.n := funext fun j => by
    have := hc j
    show lessS (c.n j) (-1) = _
    unfold lessS; split <;> omega
  rw [h1, h2]
theorem merge_comm {c d : Ct} (hc : ∀ j, -1 ≤ c.n j) (hd : ∀ j, -1 ≤ d.n j) : mergeC c d = mergeC d c := by
  show Ct.mk _ _ = Ct.mk _ _
  congr 1
  · funext i; exact Bool.or_comm _ _
  · funext j; exact lessS_comm (hc j) (hd j)
theorem parse_join {a b : Bs} (ha : (parseC a).2 = true) (hb : (parseC b).2 = true) : parseC (a ++ [44] ++ b) = (mergeC (parseC a).1 (parseC b).1, true) ∧ parseC (b ++ [32, 44, 32] ++ a) = (mergeC (parseC a).1 (parseC b).1, true) := by
  unfold parseC at ha hb ⊢
  cases hsa : split a with
  | none => rw [hsa] at ha; cases ha
  | some la =>
    cases hsb : split b with
    | none => rw [hsb] at hb; cases hb
    | some lb =>
      rw [split_comma hsa hsb, split_commas hsa hsb]
      have l0 := ct0_low
      have la0 := fold_low la ct0 l0
      have lb0 := fold_low lb ct0 l0
      constructor
      · show ((la ++ lb).foldl stepC ct0, true) = _
        rw [List.foldl_append]
        have := fold_merge lb (la.foldl stepC ct0) ct0 la0 l0
        rw [merge_zero la0] at this
        rw [this]
      · show ((lb ++ la).foldl stepC ct0, true) = _
        rw [List.foldl_append]
        have := fold_merge la (lb.foldl stepC ct0) ct0 lb0 l0
        rw [merge_zero lb0] at this
        rw [this, merge_comm lb0 la0]
end Go.Proofs.YtgplldjcopfjpaaDoor.Vh
end
section
set_option linter.unusedVariables false
set_option linter.unusedSimpArgs false
namespace Go.Proofs.YtgplldjcopfjpaaDoor.Vh
open Go.Vm Go.Vt
attribute [local congr] wi_congr wg_congr wgd_congr wb_congr wl_congr cf_congr
variable {L : FuncId → List V → V → Prop} {h : Heap}
/-- Texts with commas between. -/
def joinS (l : List Bs) : Bs := [44, 32].intercalate l
end Go.Proofs.YtgplldjcopfjpaaDoor.Vh
end
section
set_option linter.unusedVariables false
set_option linter.unusedSimpArgs false
namespace Go.Proofs.YtgplldjcopfjpaaDoor.Vh
open Go.Vm Go.Vt
attribute [local congr] wi_congr wg_congr wgd_congr wb_congr wl_congr cf_congr
variable {L : FuncId → List V → V → Prop} {h : Heap}
end Go.Proofs.YtgplldjcopfjpaaDoor.Vh
end
section
set_option linter.unusedVariables false
set_option linter.unusedSimpArgs false
namespace Go.Proofs.YtgplldjcopfjpaaDoor.Vh
open Go.Vm Go.Vt
attribute [local congr] wi_congr wg_congr wgd_congr wb_congr wl_congr cf_congr
variable {L : FuncId → List V → V → Prop} {h : Heap}
end Go.Proofs.YtgplldjcopfjpaaDoor.Vh
end
section
set_option linter.unusedVariables false
set_option linter.unusedSimpArgs false
namespace Go.Proofs.YtgplldjcopfjpaaDoor.Vh
open Go.Vm Go.Vt
attribute [local congr] wi_congr wg_congr wgd_congr wb_congr wl_congr cf_congr
variable {L : FuncId → List V → V → Prop} {h : Heap}
end Go.Proofs.YtgplldjcopfjpaaDoor.Vh
end
section
set_option linter.unusedVariables false
set_option linter.unusedSimpArgs false
namespace Go.Proofs.YtgplldjcopfjpaaDoor.Vh
open Go.Vm Go.Vt
theorem rv_texts {B : Nat} {G : Gh} {w : World} {x : V} {l : List Bs} {v : Value} (hx : ListV 1 x (strs l)) (h : Rv B G w x v) : (l = [] ∧ ∃ a cap, v = .slice a 0 cap) ∨ (l ≠ [] ∧ ∃ b o cap, v = .slice (some ⟨b, o, none⟩) l.length cap ∧ l.length ≤ cap ∧ ∀ (j : Nat) s, l[j]? = some s → w.cell? ⟨b, o + j, none⟩ = some (.string ⟨s.toArray⟩)) := by
  rcases hx with ⟨he, rfl⟩ | ⟨own, rfl⟩
  · have : l = [] := by simpa [strs] using he
    subst this
    cases h
    exact .inl ⟨rfl, _, _, rfl⟩
  · generalize he : strs l = es at h
    cases h with
    | sl vs hsz hsp hcap hc h1 hr hfull htip =>
      rename_i a cap
      subst he
      rcases List.eq_nil_or_concat l with rfl | hcc
      · exact .inl ⟨rfl, _, _, rfl⟩
      · have hne : l ≠ [] := by rintro rfl; obtain ⟨l', b, h⟩ := hcc; simp at h
        have ha := hsp (by simpa [strs] using hne)
        have hf : flat (strs l) = strs l := flat_ones (by intro e he; obtain ⟨s, _, rfl⟩ := List.mem_map.1 he; rfl)
        obtain ⟨ab, ao, asp⟩ := a
        simp only at ha; subst ha
        refine .inr ⟨hne, ab, ao, cap, by rw [strs_len], by rwa [strs_len] at hcap, fun j s hj => ?_⟩
        have hjl := (List.getElem?_eq_some_iff.1 hj).1
        have h2 := (hc j (by rw [hf, strs_len]; exact hjl)).2
        have h3 := hr j (.str s) (by rw [hf]; simp [strs, hj])
        simp only at h2
        generalize hv : vs j = vj at h2 h3
        cases h3
        exact h2
def LJoin : FuncId → List V → V → Prop := fun f args v => f = i_strings_Join ∧ ∃ (x : V) (l : List Bs), ListV 1 x (strs l) ∧ l.length ≤ 140737488355328 ∧ (joinS l).length ≤ 140737488355328 ∧ args = [x, .str [44, 32]] ∧ v = .str (joinS l)
theorem join_at (w0 : World) : LibAt Tryd.prog w0 LJoin := by
  rintro f args v ⟨rfl, x, l, hx, hl, hj, rfl, rfl⟩
  refine ⟨by kernel_rfl, good_below fun B G h w vs hr hb hv => ?_⟩
  obtain ⟨a, b, rfl, ha, hs⟩ := rvs_two hv
  cases hs
  rcases rv_texts hx ha with ⟨rfl, a', cap, rfl⟩ | ⟨hne, bk, o, cap, rfl, hcap, hc⟩
  · refine (Tryd.strings_Join_none a' cap _ w).mono fun e w' ⟨h1, h2⟩ => ?_
    subst h2
    exact ⟨_, h1, .str [], Go.RowKit.Below.refl ..⟩
  · have hlt : bk < w.heap.size := by
      obtain ⟨s, hs⟩ : ∃ s, l[0]? = some s := by
        cases l with
        | nil => exact absurd rfl hne
        | cons s _ => exact ⟨s, rfl⟩
      exact World.block_lt_of_cell? w _ (hc 0 s hs)
    have hm : (l.map fun s : Bs => (⟨s.toArray⟩ : ByteArray)).map (fun x => x.data.toList) = l := by rw [List.map_map]; exact List.map_id' l
    have := Tryd.strings_Join bk o cap (l.map fun s => ⟨s.toArray⟩) ⟨[44, 32].toArray⟩ w (by
        intro j x hx
        rw [List.getElem?_map] at hx
        obtain ⟨s, h1, rfl⟩ := Option.map_eq_some_iff.1 hx
        exact hc j s h1) hlt (by simpa using hl) (by simpa using hcap) (by rw [hm]; exact hj)
    rw [hm, List.length_map] at this
    exact this.mono fun e w' ⟨h1, h2⟩ => ⟨_, h1, .str _, h2⟩
end Go.Proofs.YtgplldjcopfjpaaDoor.Vh
end
section
set_option linter.unusedVariables false
set_option linter.unusedSimpArgs false
namespace Go.Proofs.YtgplldjcopfjpaaDoor.Vh
open Go.Vm Go.Vt
attribute [local congr] wi_congr wg_congr wgd_congr wb_congr wl_congr cf_congr
variable {L : FuncId → List V → V → Prop} {h : Heap}
theorem eq_ct (c : Ct) : eqV (.agg [.b, .b, .b, .b, .b, .b, .b, .i, .i, .i, .i, .i, .i]) (.agg (ctV c)) (.agg (ctV c)) = some true := by
  simp [eqV, eqLeaves, eqLeaf, ctV]
def LC : FuncId → List V → V → Prop := fun f a v => LJoin f a v ∨ LIndex f a v ∨ LUnq f a v
theorem lc_at (w0 : World) : LibAt Tryd.prog w0 LC := fun f a v h => h.elim (join_at w0 f a v) fun h => h.elim (index_at w0 f a v) (unq_at w0 f a v)
end Go.Proofs.YtgplldjcopfjpaaDoor.Vh
end
section
set_option linter.unusedVariables false
set_option linter.unusedSimpArgs false
namespace Go.Proofs.YtgplldjcopfjpaaDoor.Vh
open Go.Vm Go.Vt
attribute [local congr] wi_congr wg_congr wgd_congr wb_congr wl_congr cf_congr
variable {L : FuncId → List V → V → Prop} {h : Heap}
theorem less_ok {a b : Int} : Cf F L i_gatepostlaw08_less [.int .i64 a, .int .i64 b] h (fun v h' => v = .int .i64 (lessS a b) ∧ h' = h) := by
  refine run_gatepostlaw08_less ?_
  simp only [p_gatepostlaw08_less]
  unfold lessS
  by_cases h1 : a < 0
  · rw [if_pos (.inl h1)]
    simp (maxSteps := 4000000) only [vm, vl, Arg.get, cells, stor, boundO, resultsV, resV, partK, loadV, Vm.part, fillC, splice, reduceIte, reduceCtorEq, Nat.reduceEqDiff, Nat.reduceAdd, Nat.reduceSub, Nat.reduceMul, Nat.reduceLeDiff, ne_eq, not_false_eq_true, Int.reduceEq, Int.reduceLT, Int.reduceLE, Int.reduceNeg, Int.reduceToNat, Int.reduceGT, Int.reduceGE, Nat.reduceLT, Nat.lt_add_one, Nat.zero_lt_succ, Nat.succ_pos, Nat.zero_le, beq_self_eq_true, k_gatepostlaw08_less_0, h1, decide_true]
  · by_cases h2 : b ≥ 0
    · by_cases h3 : b < a
      · rw [if_pos (.inr ⟨h2, h3⟩)]
        simp (maxSteps := 4000000) only [vm, vl, Arg.get, cells, stor, boundO, resultsV, resV, partK, loadV, Vm.part, fillC, splice, reduceIte, reduceCtorEq, Nat.reduceEqDiff, Nat.reduceAdd, Nat.reduceSub, Nat.reduceMul, Nat.reduceLeDiff, ne_eq, not_false_eq_true, Int.reduceEq, Int.reduceLT, Int.reduceLE, Int.reduceNeg, Int.reduceToNat, Int.reduceGT, Int.reduceGE, Nat.reduceLT, Nat.lt_add_one, Nat.zero_lt_succ, Nat.succ_pos, Nat.zero_le, beq_self_eq_true, k_gatepostlaw08_less_0, h1, h2, h3, decide_true, decide_false]
      · rw [if_neg (by omega)]
        simp (maxSteps := 4000000) only [vm, vl, Arg.get, cells, stor, boundO, resultsV, resV, partK, loadV, Vm.part, fillC, splice, reduceIte, reduceCtorEq, Nat.reduceEqDiff, Nat.reduceAdd, Nat.reduceSub, Nat.reduceMul, Nat.reduceLeDiff, ne_eq, not_false_eq_true, Int.reduceEq, Int.reduceLT, Int.reduceLE, Int.reduceNeg, Int.reduceToNat, Int.reduceGT, Int.reduceGE, Nat.reduceLT, Nat.lt_add_one, Nat.zero_lt_succ, Nat.succ_pos, Nat.zero_le, beq_self_eq_true, k_gatepostlaw08_less_0, h1, h2, h3, decide_true, decide_false]
    · rw [if_neg (by omega)]
      simp (maxSteps := 4000000) only [vm, vl, Arg.get, cells, stor, boundO, resultsV, resV, partK, loadV, Vm.part, fillC, splice, reduceIte, reduceCtorEq, Nat.reduceEqDiff, Nat.reduceAdd, Nat.reduceSub, Nat.reduceMul, Nat.reduceLeDiff, ne_eq, not_false_eq_true, Int.reduceEq, Int.reduceLT, Int.reduceLE, Int.reduceNeg, Int.reduceToNat, Int.reduceGT, Int.reduceGE, Nat.reduceLT, Nat.lt_add_one, Nat.zero_lt_succ, Nat.succ_pos, Nat.zero_le, beq_self_eq_true, k_gatepostlaw08_less_0, h1, h2, decide_true, decide_false]
theorem ctV_le {c : Ct} {o : Nat} (h : o + 1 ≤ 13) : o + 1 ≤ (ctV c).length := h
/-- One of two flags. -/
theorem or_step {K : V → Heap → Prop} {p q o : Nat} {b d : Bool} {cs ds : List V} (hp : h[p]? = some (.box cs)) (hq : h[q]? = some (.box ds)) (l1 : o + 1 ≤ cs.length) (l2 : o + 1 ≤ ds.length)
    (e1 : cs.getD o (.tup []) = .bool b) (e2 : ds.getD o (.tup []) = .bool d) (hk : K (.bool (b || d)) h) :
    wi F L (.faddr o (.c (.ptr p 0))) E0 h fun v70 h' => Ext h h' ∧ wi F L (.load false 1 (.c v70)) E0 h' fun v71 h => Ext h' h ∧ wgd v71 false (wi F L (.faddr o (.c (.ptr q 0))) E0 h) h fun v73 h' =>
      wgd v71 false (wi F L (.load false 1 (.c v73)) E0 h') h' fun v74 h => wi F L (.pick (.c v71) (.c (.bool true)) (.c v74)) E0 h fun v75 h' => Ext h h' ∧ K v75 h' := by
  
  have z1 : 0 + o = o := by omega
  cases b with
  | true => simp (maxSteps := 4000000) only [vm, vl, Arg.get, cells, stor, boundO, resultsV, resV, partK, loadV, Vm.part, fillC, splice, reduceIte, reduceCtorEq, Nat.reduceEqDiff, Nat.reduceAdd, Nat.reduceSub, Nat.reduceMul, Nat.reduceLeDiff, ne_eq, not_false_eq_true, Int.reduceEq, Int.reduceLT, Int.reduceLE, Int.reduceNeg, Int.reduceToNat, Int.reduceGT, Int.reduceGE, Nat.reduceLT, Nat.lt_add_one, Nat.zero_lt_succ, Nat.succ_pos, Nat.zero_le, beq_self_eq_true, hp, l1, e1, z1]; exact hk
  | false => simp (maxSteps := 4000000) only [vm, vl, Arg.get, cells, stor, boundO, resultsV, resV, partK, loadV, Vm.part, fillC, splice, reduceIte, reduceCtorEq, Nat.reduceEqDiff, Nat.reduceAdd, Nat.reduceSub, Nat.reduceMul, Nat.reduceLeDiff, ne_eq, not_false_eq_true, Int.reduceEq, Int.reduceLT, Int.reduceLE, Int.reduceNeg, Int.reduceToNat, Int.reduceGT, Int.reduceGE, Nat.reduceLT, Nat.lt_add_one, Nat.zero_lt_succ, Nat.succ_pos, Nat.zero_le, beq_self_eq_true, hp, hq, l1, l2, e1, e2, z1]; exact hk
theorem less_step {K : V → Heap → Prop} {p q o : Nat} {a b : Int} {cs ds : List V} (hp : h[p]? = some (.box cs)) (hq : h[q]? = some (.box ds)) (l1 : o + 1 ≤ cs.length) (l2 : o + 1 ≤ ds.length)
    (e1 : cs.getD o (.tup []) = .int .i64 a) (e2 : ds.getD o (.tup []) = .int .i64 b) (hk : K (.int .i64 (lessS a b)) h) :
    wi F L (.faddr o (.c (.ptr p 0))) E0 h fun v70 h' => Ext h h' ∧ wi F L (.load false 1 (.c v70)) E0 h' fun v71 h => Ext h' h ∧ wi F L (.faddr o (.c (.ptr q 0))) E0 h fun v73 h' => Ext h h' ∧
      wi F L (.load false 1 (.c v73)) E0 h' fun v74 h => Ext h' h ∧ wi F L (.call i_gatepostlaw08_less [.c v71, .c v74]) E0 h fun v75 h' => Ext h h' ∧ K v75 h' := by
  
  have z1 : 0 + o = o := by omega
  simp (maxSteps := 4000000) only [vm, vl, Arg.get, cells, stor, boundO, resultsV, resV, partK, loadV, Vm.part, fillC, splice, reduceIte, reduceCtorEq, Nat.reduceEqDiff, Nat.reduceAdd, Nat.reduceSub, Nat.reduceMul, Nat.reduceLeDiff, ne_eq, not_false_eq_true, Int.reduceEq, Int.reduceLT, Int.reduceLE, Int.reduceNeg, Int.reduceToNat, Int.reduceGT, Int.reduceGE, Nat.reduceLT, Nat.lt_add_one, Nat.zero_lt_succ, Nat.succ_pos, Nat.zero_le, beq_self_eq_true, hp, hq, l1, l2, e1, e2, z1]
  refine (less_ok).mono fun v h' hv => ?_
  obtain ⟨rfl, rfl⟩ := hv
  simp (maxSteps := 4000000) only [vm, vl, Arg.get, cells, stor, boundO, resultsV, resV, partK, loadV, Vm.part, fillC, splice, reduceIte, reduceCtorEq, Nat.reduceEqDiff, Nat.reduceAdd, Nat.reduceSub, Nat.reduceMul, Nat.reduceLeDiff, ne_eq, not_false_eq_true, Int.reduceEq, Int.reduceLT, Int.reduceLE, Int.reduceNeg, Int.reduceToNat, Int.reduceGT, Int.reduceGE, Nat.reduceLT, Nat.lt_add_one, Nat.zero_lt_succ, Nat.succ_pos, Nat.zero_le, beq_self_eq_true]
  exact hk
set_option maxHeartbeats 2000000 in
theorem fill13 {b0 b1 b2 b3 b4 b5 b6 : Bool} {n0 n1 n2 n3 n4 n5 : Int} : fillC E0 [.bool false, .bool false, .bool false, .bool false, .bool false, .bool false, .bool false, .int .i64 0, .int .i64 0, .int .i64 0, .int .i64 0, .int .i64 0, .int .i64 0] [(0, 1, .c (.bool b0)), (1, 1, .c (.bool b1)), (2, 1, .c (.bool b2)), (3, 1, .c (.bool b3)), (4, 1, .c (.bool b4)), (5, 1, .c (.bool b5)), (6, 1, .c (.bool b6)), (7, 1, .c (.int .i64 n0)), (8, 1, .c (.int .i64 n1)), (9, 1, .c (.int .i64 n2)), (10, 1, .c (.int .i64 n3)), (11, 1, .c (.int .i64 n4)), (12, 1, .c (.int .i64 n5))] = some [.bool b0, .bool b1, .bool b2, .bool b3, .bool b4, .bool b5, .bool b6, .int .i64 n0, .int .i64 n1, .int .i64 n2, .int .i64 n3, .int .i64 n4, .int .i64 n5] := by
  simp [fillC, cells, stor, splice, Arg.get]
theorem Joins9_ok {p7 p9 p11 p13 : Nat} {c d : Ct} (h7 : h[p7]? = some (.box (ctV c))) (h9 : h[p9]? = some (.box (ctV d))) (h11 : h[p11]? = some (.box (ctV (mergeC c d)))) (h13 : h[p13]? = some (.box (ctV (mergeC c d)))) :
    k_gatepostlaw08_ControlJoins_9 L (fun v _ => v = .bool true) (.ptr p7 0) (.ptr p9 0) (.ptr p11 0) (.ptr p13 0) (.bool true) (.bool true) h := by
  unfold k_gatepostlaw08_ControlJoins_9
  refine or_step h7 h9 (ctV_le (by decide)) (ctV_le (by decide)) rfl rfl ?_
  refine or_step h7 h9 (ctV_le (by decide)) (ctV_le (by decide)) rfl rfl ?_
  refine or_step h7 h9 (ctV_le (by decide)) (ctV_le (by decide)) rfl rfl ?_
  refine or_step h7 h9 (ctV_le (by decide)) (ctV_le (by decide)) rfl rfl ?_
  refine or_step h7 h9 (ctV_le (by decide)) (ctV_le (by decide)) rfl rfl ?_
  refine or_step h7 h9 (ctV_le (by decide)) (ctV_le (by decide)) rfl rfl ?_
  refine or_step h7 h9 (ctV_le (by decide)) (ctV_le (by decide)) rfl rfl ?_
  refine less_step h7 h9 (ctV_le (by decide)) (ctV_le (by decide)) rfl rfl ?_
  unfold k_gatepostlaw08_ControlJoins_8
  refine less_step h7 h9 (ctV_le (by decide)) (ctV_le (by decide)) rfl rfl ?_
  unfold k_gatepostlaw08_ControlJoins_7
  refine less_step h7 h9 (ctV_le (by decide)) (ctV_le (by decide)) rfl rfl ?_
  unfold k_gatepostlaw08_ControlJoins_6
  refine less_step h7 h9 (ctV_le (by decide)) (ctV_le (by decide)) rfl rfl ?_
  unfold k_gatepostlaw08_ControlJoins_5
  refine less_step h7 h9 (ctV_le (by decide)) (ctV_le (by decide)) rfl rfl ?_
  unfold k_gatepostlaw08_ControlJoins_4
  refine less_step h7 h9 (ctV_le (by decide)) (ctV_le (by decide)) rfl rfl ?_
  unfold k_gatepostlaw08_ControlJoins_3
  
  rw [wi_build, fill13]
  rw [show ([.bool (c.f 0 || d.f 0), .bool (c.f 1 || d.f 1), .bool (c.f 2 || d.f 2), .bool (c.f 3 || d.f 3), .bool (c.f 4 || d.f 4), .bool (c.f 5 || d.f 5), .bool (c.f 6 || d.f 6), .int .i64 (lessS (c.n 0) (d.n 0)), .int .i64 (lessS (c.n 1) (d.n 1)), .int .i64 (lessS (c.n 2) (d.n 2)), .int .i64 (lessS (c.n 3) (d.n 3)), .int .i64 (lessS (c.n 4) (d.n 4)), .int .i64 (lessS (c.n 5) (d.n 5))] : List V) = ctV (mergeC c d) from rfl]
  have hm : ∀ o : O, (h ++ [o])[p11]? = some (.box (ctV (mergeC c d))) := fun o => get_old h11
  have hm2 : ∀ o : O, (h ++ [o])[p13]? = some (.box (ctV (mergeC c d))) := fun o => get_old h13
  generalize mergeC c d = m at *
  have hc13 := ctV_len m
  have ht13 : List.take 13 (ctV m) = ctV m := rfl
  have hd13 : List.drop 13 (ctV m) = [] := rfl
  simp (maxSteps := 4000000) only [vm, vl, Arg.get, cells, stor, boundO, resultsV, resV, partK, loadV, Vm.part, fillC, splice, reduceIte, reduceCtorEq, Nat.reduceEqDiff, Nat.reduceAdd, Nat.reduceSub, Nat.reduceMul, Nat.reduceLeDiff, ne_eq, not_false_eq_true, Int.reduceEq, Int.reduceLT, Int.reduceLE, Int.reduceNeg, Int.reduceToNat, Int.reduceGT, Int.reduceGE, Nat.reduceLT, Nat.lt_add_one, Nat.zero_lt_succ, Nat.succ_pos, Nat.zero_le, beq_self_eq_true, hc13, ht13, hm, hm2, List.append_nil, eq_ct]
theorem Joins1_ok (HI : IndexOk L) (HU : UnqOk L) {a b : Bs} (hl : a.length + b.length ≤ 2000) : k_gatepostlaw08_ControlJoins_1 L (fun v _ => v = .bool true) (.str a) (.str b) h := by
  unfold k_gatepostlaw08_ControlJoins_1
  
  simp (maxSteps := 4000000) only [vm, vl, Arg.get, cells, stor, boundO, resultsV, resV, partK, loadV, Vm.part, fillC, splice, reduceIte, reduceCtorEq, Nat.reduceEqDiff, Nat.reduceAdd, Nat.reduceSub, Nat.reduceMul, Nat.reduceLeDiff, ne_eq, not_false_eq_true, Int.reduceEq, Int.reduceLT, Int.reduceLE, Int.reduceNeg, Int.reduceToNat, Int.reduceGT, Int.reduceGE, Nat.reduceLT, Nat.lt_add_one, Nat.zero_lt_succ, Nat.succ_pos, Nat.zero_le, beq_self_eq_true]
  refine Cf.pu (Parse_ok HI HU (by omega)) fun u1 => ?_
  unfold k_gatepostlaw08_ControlJoins_13
  have hc13 := fun c => ctV_len c
  have hd13 : ∀ c, List.drop 13 (ctV c) = [] := fun _ => rfl
  simp (maxSteps := 4000000) only [vm, vl, Arg.get, cells, stor, boundO, resultsV, resV, partK, loadV, Vm.part, fillC, splice, reduceIte, reduceCtorEq, Nat.reduceEqDiff, Nat.reduceAdd, Nat.reduceSub, Nat.reduceMul, Nat.reduceLeDiff, ne_eq, not_false_eq_true, Int.reduceEq, Int.reduceLT, Int.reduceLE, Int.reduceNeg, Int.reduceToNat, Int.reduceGT, Int.reduceGE, Nat.reduceLT, Nat.lt_add_one, Nat.zero_lt_succ, Nat.succ_pos, Nat.zero_le, beq_self_eq_true, parseCV, hc13]
  refine Cf.pu (Parse_ok HI HU (by omega)) fun u2 => ?_
  unfold k_gatepostlaw08_ControlJoins_12
  have hj := fun ha hb => parse_join (a := a) (b := b) ha hb
  generalize hpa : parseC a = pa at *
  generalize hpb : parseC b = pb at *
  obtain ⟨c, o1⟩ := pa
  obtain ⟨d, o2⟩ := pb
  cases o1 with
  | false => simp (maxSteps := 4000000) only [vm, vl, Arg.get, cells, stor, boundO, resultsV, resV, partK, loadV, Vm.part, fillC, splice, reduceIte, reduceCtorEq, Nat.reduceEqDiff, Nat.reduceAdd, Nat.reduceSub, Nat.reduceMul, Nat.reduceLeDiff, ne_eq, not_false_eq_true, Int.reduceEq, Int.reduceLT, Int.reduceLE, Int.reduceNeg, Int.reduceToNat, Int.reduceGT, Int.reduceGE, Nat.reduceLT, Nat.lt_add_one, Nat.zero_lt_succ, Nat.succ_pos, Nat.zero_le, beq_self_eq_true, parseCV, hc13, Bool.not_false]
  | true =>
  cases o2 with
  | false => simp (maxSteps := 4000000) only [vm, vl, Arg.get, cells, stor, boundO, resultsV, resV, partK, loadV, Vm.part, fillC, splice, reduceIte, reduceCtorEq, Nat.reduceEqDiff, Nat.reduceAdd, Nat.reduceSub, Nat.reduceMul, Nat.reduceLeDiff, ne_eq, not_false_eq_true, Int.reduceEq, Int.reduceLT, Int.reduceLE, Int.reduceNeg, Int.reduceToNat, Int.reduceGT, Int.reduceGE, Nat.reduceLT, Nat.lt_add_one, Nat.zero_lt_succ, Nat.succ_pos, Nat.zero_le, beq_self_eq_true, parseCV, hc13, Bool.not_false, Bool.not_true]
  | true =>
  obtain ⟨j1, j2⟩ := hj rfl rfl
  simp (maxSteps := 4000000) only [vm, vl, Arg.get, cells, stor, boundO, resultsV, resV, partK, loadV, Vm.part, fillC, splice, reduceIte, reduceCtorEq, Nat.reduceEqDiff, Nat.reduceAdd, Nat.reduceSub, Nat.reduceMul, Nat.reduceLeDiff, ne_eq, not_false_eq_true, Int.reduceEq, Int.reduceLT, Int.reduceLE, Int.reduceNeg, Int.reduceToNat, Int.reduceGT, Int.reduceGE, Nat.reduceLT, Nat.lt_add_one, Nat.zero_lt_succ, Nat.succ_pos, Nat.zero_le, beq_self_eq_true, parseCV, hc13, hd13, Bool.not_true, List.append_nil]
  unfold k_gatepostlaw08_ControlJoins_2
  have b1 : binV .add (.str a) (.str [44]) = some (.str (a ++ [44])) := bin_sadd (by simp; omega)
  have b2 : binV .add (.str (a ++ [44])) (.str b) = some (.str (a ++ [44] ++ b)) := bin_sadd (by simp; omega)
  have b3 : binV .add (.str b) (.str [32, 44, 32]) = some (.str (b ++ [32, 44, 32])) := bin_sadd (by simp; omega)
  have b4 : binV .add (.str (b ++ [32, 44, 32])) (.str a) = some (.str (b ++ [32, 44, 32] ++ a)) := bin_sadd (by simp; omega)
  have lX : (a ++ [44] ++ b).length < 1000000 := by simp; omega
  have lY : (b ++ [32, 44, 32] ++ a).length < 1000000 := by simp; omega
  generalize a ++ [44] ++ b = X at *
  generalize b ++ [32, 44, 32] ++ a = Y at *
  simp (maxSteps := 4000000) only [vm, vl, Arg.get, cells, stor, boundO, resultsV, resV, partK, loadV, Vm.part, fillC, splice, reduceIte, reduceCtorEq, Nat.reduceEqDiff, Nat.reduceAdd, Nat.reduceSub, Nat.reduceMul, Nat.reduceLeDiff, ne_eq, not_false_eq_true, Int.reduceEq, Int.reduceLT, Int.reduceLE, Int.reduceNeg, Int.reduceToNat, Int.reduceGT, Int.reduceGE, Nat.reduceLT, Nat.lt_add_one, Nat.zero_lt_succ, Nat.succ_pos, Nat.zero_le, beq_self_eq_true, b1, b2]
  refine Cf.pu (Parse_ok HI HU lX) fun u3 => ?_
  rw [j1]
  unfold k_gatepostlaw08_ControlJoins_11
  simp (maxSteps := 4000000) only [vm, vl, Arg.get, cells, stor, boundO, resultsV, resV, partK, loadV, Vm.part, fillC, splice, reduceIte, reduceCtorEq, Nat.reduceEqDiff, Nat.reduceAdd, Nat.reduceSub, Nat.reduceMul, Nat.reduceLeDiff, ne_eq, not_false_eq_true, Int.reduceEq, Int.reduceLT, Int.reduceLE, Int.reduceNeg, Int.reduceToNat, Int.reduceGT, Int.reduceGE, Nat.reduceLT, Nat.lt_add_one, Nat.zero_lt_succ, Nat.succ_pos, Nat.zero_le, beq_self_eq_true, parseCV, hc13, hd13, b3, b4, List.append_nil]
  refine Cf.pu (Parse_ok HI HU lY) fun u4 => ?_
  rw [j2]
  unfold k_gatepostlaw08_ControlJoins_10
  simp (maxSteps := 4000000) only [vm, vl, Arg.get, cells, stor, boundO, resultsV, resV, partK, loadV, Vm.part, fillC, splice, reduceIte, reduceCtorEq, Nat.reduceEqDiff, Nat.reduceAdd, Nat.reduceSub, Nat.reduceMul, Nat.reduceLeDiff, ne_eq, not_false_eq_true, Int.reduceEq, Int.reduceLT, Int.reduceLE, Int.reduceNeg, Int.reduceToNat, Int.reduceGT, Int.reduceGE, Nat.reduceLT, Nat.lt_add_one, Nat.zero_lt_succ, Nat.succ_pos, Nat.zero_le, beq_self_eq_true, parseCV, hc13, hd13, List.append_nil]
  have q1 : ∀ (T : Heap), (h ++ (u1 ++ O.box (ctV c) :: T))[h.length + u1.length]? = some (.box (ctV c)) := fun T => by
    rw [get_new, List.getElem?_append_right (Nat.le_refl _), Nat.sub_self]; rfl
  have q2 : ∀ (k : Nat) (B : O) (T : Heap), (h ++ (u1 ++ B :: T))[h.length + (u1.length + (k + 1))]? = T[k]? := fun k B T => by
    rw [get_new, List.getElem?_append_right (by omega), show u1.length + (k + 1) - u1.length = k + 1 by omega, List.getElem?_cons_succ]
  have q3 : ∀ (k : Nat) (u : Heap) (B : O) (T : Heap), (u ++ B :: T)[u.length + (k + 1)]? = T[k]? := fun k u B T => by
    rw [List.getElem?_append_right (by omega), show u.length + (k + 1) - u.length = k + 1 by omega, List.getElem?_cons_succ]
  have q4 : ∀ (u : Heap) (B : O) (T : Heap), (u ++ B :: T)[u.length]? = some B := fun u B T => by
    rw [List.getElem?_append_right (Nat.le_refl _), Nat.sub_self]; rfl
  have h9 := Joins9_ok (L := L) (h := h ++ (u1 ++ O.box (ctV c) :: (u2 ++ O.box (ctV d) :: (u3 ++ O.box (ctV (mergeC c d)) :: (u4 ++ [O.box (ctV (mergeC c d))])))))
    (p7 := h.length + u1.length) (p9 := h.length + (u1.length + (u2.length + 1))) (p11 := h.length + (u1.length + (u2.length + (u3.length + 2)))) (p13 := h.length + (u1.length + (u2.length + (u3.length + (u4.length + 3))))) (c := c) (d := d)
    (q1 _) (by rw [q2 u2.length, q4]) (by
      rw [show u1.length + (u2.length + (u3.length + 2)) = u1.length + ((u2.length + (u3.length + 1)) + 1) by omega, q2, q3 u3.length, q4]) (by
      rw [show u1.length + (u2.length + (u3.length + (u4.length + 3))) = u1.length + ((u2.length + ((u3.length + (u4.length + 1)) + 1)) + 1) by omega, q2, q3 (u3.length + (u4.length + 1)), q3 u4.length, q4])
  exact h9
def jM3 : Bs := [110, 111, 45, 115, 116, 111, 114, 101, 44, 32, 109, 97, 120, 45, 97, 103, 101, 61, 51]
theorem jM3_f0 : (parseC jM3).1.f 0 = true := by decide +kernel
theorem jM3_n0 : (parseC jM3).1.n 0 = 3 := by decide +kernel
theorem jM3_ok : (parseC jM3).2 = true := by decide +kernel
theorem ControlJoins_ok (HI : IndexOk L) (HU : UnqOk L) {a b : Bs} (ha : a.length ≤ 140737488351232) (hb : b.length ≤ 140737488351232) : Cf F L i_gatepostlaw08_ControlJoins [.str a, .str b] h (fun v _ => v = .bool true) := by
  refine run_gatepostlaw08_ControlJoins ?_
  simp only [p_gatepostlaw08_ControlJoins]
  
  have w := wrap64 (x := (a.length : Int) + b.length) (by omega) (by omega)
  by_cases hl : (a.length : Int) + b.length > 2000
  · simp (maxSteps := 4000000) only [vm, vl, Arg.get, cells, stor, boundO, resultsV, resV, partK, loadV, Vm.part, fillC, splice, reduceIte, reduceCtorEq, Nat.reduceEqDiff, Nat.reduceAdd, Nat.reduceSub, Nat.reduceMul, Nat.reduceLeDiff, ne_eq, not_false_eq_true, Int.reduceEq, Int.reduceLT, Int.reduceLE, Int.reduceNeg, Int.reduceToNat, Int.reduceGT, Int.reduceGE, Nat.reduceLT, Nat.lt_add_one, Nat.zero_lt_succ, Nat.succ_pos, Nat.zero_le, beq_self_eq_true, w, hl, decide_true]
  · simp (maxSteps := 4000000) only [vm, vl, Arg.get, cells, stor, boundO, resultsV, resV, partK, loadV, Vm.part, fillC, splice, reduceIte, reduceCtorEq, Nat.reduceEqDiff, Nat.reduceAdd, Nat.reduceSub, Nat.reduceMul, Nat.reduceLeDiff, ne_eq, not_false_eq_true, Int.reduceEq, Int.reduceLT, Int.reduceLE, Int.reduceNeg, Int.reduceToNat, Int.reduceGT, Int.reduceGE, Nat.reduceLT, Nat.lt_add_one, Nat.zero_lt_succ, Nat.succ_pos, Nat.zero_le, beq_self_eq_true, w, hl, decide_false]
    unfold k_gatepostlaw08_ControlJoins_0
    simp (maxSteps := 4000000) only [vm, vl, Arg.get, cells, stor, boundO, resultsV, resV, partK, loadV, Vm.part, fillC, splice, reduceIte, reduceCtorEq, Nat.reduceEqDiff, Nat.reduceAdd, Nat.reduceSub, Nat.reduceMul, Nat.reduceLeDiff, ne_eq, not_false_eq_true, Int.reduceEq, Int.reduceLT, Int.reduceLE, Int.reduceNeg, Int.reduceToNat, Int.reduceGT, Int.reduceGE, Nat.reduceLT, Nat.lt_add_one, Nat.zero_lt_succ, Nat.succ_pos, Nat.zero_le, beq_self_eq_true]
    refine Cf.pu (Parse_ok HI HU (s := jM3) (by decide)) fun u1 => ?_
    unfold k_gatepostlaw08_ControlJoins_14
    have h0 := jM3_f0
    have h1 := jM3_n0
    have h2 := jM3_ok
    have hc13 := fun c => ctV_len c
    have hd13 : ∀ c, List.drop 13 (ctV c) = [] := fun _ => rfl
    generalize parseC jM3 = p at *
    obtain ⟨c, o⟩ := p
    simp only at h0 h1 h2
    subst h2
    have g0 : (ctV c).getD 0 (.tup []) = .bool true := by show V.bool (c.f 0) = _; rw [h0]
    have g7 : (ctV c).getD 7 (.tup []) = .int .i64 3 := by show V.int .i64 (c.n 0) = _; rw [h1]
    simp (maxSteps := 4000000) only [vm, vl, Arg.get, cells, stor, boundO, resultsV, resV, partK, loadV, Vm.part, fillC, splice, reduceIte, reduceCtorEq, Nat.reduceEqDiff, Nat.reduceAdd, Nat.reduceSub, Nat.reduceMul, Nat.reduceLeDiff, ne_eq, not_false_eq_true, Int.reduceEq, Int.reduceLT, Int.reduceLE, Int.reduceNeg, Int.reduceToNat, Int.reduceGT, Int.reduceGE, Nat.reduceLT, Nat.lt_add_one, Nat.zero_lt_succ, Nat.succ_pos, Nat.zero_le, beq_self_eq_true, parseCV, hc13, hd13, g0, g7, Bool.not_true, decide_true, List.append_nil]
    have := Joins1_ok (L := L) (h := h ++ (u1 ++ [O.box (ctV c)])) HI HU (a := a) (b := b) (by omega)
    exact this
theorem ControlJoins_row {x0 x1 : V} (v0 : VPar [.l .s] x0) (v1 : VPar [.l .s] x1) (w : World) (vs : List Value) (hv : Rvs w.heap.size G0 w [x0, x1] vs) :
    Calls Tryd.prog i_gatepostlaw08_ControlJoins vs.toArray w fun e w' => e = .returned (.bool true) ∧ RowKit.Below w.heap.size w w' := by
  obtain ⟨a, rfl, ha⟩ := v0
  obtain ⟨b, rfl, hb⟩ := v1
  exact calls_at Vh.hm hF (lc_at w) (ControlJoins_ok (indexOk fun _ _ _ h => .inr (.inl h)) (unqOk fun _ _ _ h => .inr (.inr h)) ha hb) hv
end Go.Proofs.YtgplldjcopfjpaaDoor.Vh
end
