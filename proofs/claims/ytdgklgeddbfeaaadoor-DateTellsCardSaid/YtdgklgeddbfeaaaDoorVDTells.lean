/- DateTells on the small machine. -/
import Derived.Test.YtdgklgeddbfeaaaDoorVRefPars
set_option linter.unusedVariables false
set_option linter.unusedSimpArgs false
namespace Go.Proofs.YtdgklgeddbfeaaaDoor.Vh
open Go.Vm Go.Vt
attribute [local congr] wi_congr wg_congr wgd_congr wb_congr wl_congr cf_congr
variable {L : FuncId → List V → V → Prop} {h : Heap}
theorem Format_any (HI : ItoaOk L) {sec : Int} (h1 : -9223372036854775808 ≤ sec) (h2 : sec ≤ 9223372036854775807) : Cf F L i_date_Format [.int .i64 sec] h (Pu h (.str (fmtS (if 0 ≤ sec ∧ sec / 86400 ≤ 2932896 then sec else 0)))) := by
  by_cases c : 0 ≤ sec ∧ sec / 86400 ≤ 2932896
  · rw [if_pos c]; exact Format_ok HI c.1 c.2 h2
  · rw [if_neg c]; exact Format_zero HI (by omega) h1 h2
theorem dateV_tup (o : Option Int) : ∃ (n : Int) (b : Bool), dateV o = .tup [.int .i64 n, .bool b] := by
  cases o <;> exact ⟨_, _, rfl⟩
theorem days_zero : daysS 1970 1 1 = 0 := by decide
theorem fmt_zero : fmtS 0 = [84, 104, 117, 44, 32, 48, 49, 32, 74, 97, 110, 32, 49, 57, 55, 48, 32, 48, 48, 58, 48, 48, 58, 48, 48, 32, 71, 77, 84] := by decide +kernel
theorem vsks_three {k1 k2 k3 : SK} {xs : List V} (h : VSKs [k1, k2, k3] xs) : ∃ x y z, xs = [x, y, z] ∧ VSK k1 x ∧ VSK k2 y ∧ VSK k3 z := by
  match xs, h with
  | [x, y, z], ⟨a, b, c, _⟩ => exact ⟨x, y, z, rfl, a, b, c⟩
  | [], h => exact h.elim
  | [_], ⟨_, h⟩ => exact h.elim
  | [_, _], ⟨_, _, h⟩ => exact h.elim
  | _ :: _ :: _ :: _ :: _, ⟨_, _, _, h⟩ => exact h.elim
theorem DateTells_ok (HI : ItoaOk L) {s : Bs} {n y m d : Int} (hl : s.length ≤ 140737488351232) (h1 : -9223372036854775808 ≤ n) (h2 : n ≤ 9223372036854775807) : Cf F L i_gatepostlaw02_DateTells [.str s, .int .i64 n, .agg [.int .i64 y, .int .i64 m, .int .i64 d]] h (fun v _ => v = .bool true) := by
  refine run_gatepostlaw02_DateTells ?_
  simp only [p_gatepostlaw02_DateTells]
  obtain ⟨a, b, e⟩ := dateV_tup (dateS s)
  have P1 : ∀ hh, Cf F L i_date_Parse [.str s] hh (Pu hh (.tup [.int .i64 a, .bool b])) := fun hh => by rw [← e]; exact DParse_ok (by omega)
  have P2 : ∀ hh, Cf F L i_gatepostref02_Parse [.str s] hh (Pu hh (.tup [.int .i64 a, .bool b])) := fun hh => by rw [← e]; exact RParse_ok (by omega)
  obtain ⟨f, hf⟩ : ∃ f, f = fmtS (if 0 ≤ n ∧ n / 86400 ≤ 2932896 then n else 0) := ⟨_, rfl⟩
  have F1 : ∀ hh, Cf F L i_date_Format [.int .i64 n] hh (Pu hh (.str f)) := fun hh => by rw [hf]; exact Format_any HI h1 h2
  have F2 : ∀ hh, Cf F L i_gatepostref02_Format [.int .i64 n] hh (Pu hh (.str f)) := fun hh => by rw [hf]; exact RFormat_ok
  have D0 : ∀ hh, Cf F L i_date_Days [.int .i64 1970, .int .i64 1, .int .i64 1] hh (Pu hh (.int .i64 0)) := fun hh => by
    have := Days_ok (L := L) (h := hh) (y := 1970) (m := 1) (d := 1)
    rwa [days_zero] at this
  have F0 : ∀ hh, Cf F L i_date_Format [.int .i64 0] hh (Pu hh (.str (fmtS 0))) := fun hh => Format_ok HI (by omega) (by omega) (by omega)
  have f0 : (fmtS 0 == [84, 104, 117, 44, 32, 48, 49, 32, 74, 97, 110, 32, 49, 57, 55, 48, 32, 48, 48, 58, 48, 48, 58, 48, 48, 32, 71, 77, 84]) = true := by rw [fmt_zero]; rfl
  generalize fmtS 0 = z at *
  have bb : (b == b) = true := by cases b <;> rfl
  simp (maxSteps := 4000000) only [vm, vl, Arg.get, cells, stor, boundO, resultsV, resV, partK, loadV, Vm.part, fillC, splice, reduceIte, reduceCtorEq, Nat.reduceEqDiff, Nat.reduceAdd, Nat.reduceSub, Nat.reduceMul, Nat.reduceLeDiff, ne_eq, not_false_eq_true, Int.reduceEq, Int.reduceLT, Int.reduceLE, Int.reduceNeg, Int.reduceToNat, Int.reduceGT, Int.reduceGE, Nat.reduceLT, Nat.lt_add_one, Nat.zero_lt_succ, Nat.succ_pos, Nat.zero_le, beq_self_eq_true]
  refine Cf.pu (P1 _) fun u1 => ?_
  simp (maxSteps := 4000000) only [vm, vl, Arg.get, cells, stor, boundO, resultsV, resV, partK, loadV, Vm.part, fillC, splice, reduceIte, reduceCtorEq, Nat.reduceEqDiff, Nat.reduceAdd, Nat.reduceSub, Nat.reduceMul, Nat.reduceLeDiff, ne_eq, not_false_eq_true, Int.reduceEq, Int.reduceLT, Int.reduceLE, Int.reduceNeg, Int.reduceToNat, Int.reduceGT, Int.reduceGE, Nat.reduceLT, Nat.lt_add_one, Nat.zero_lt_succ, Nat.succ_pos, Nat.zero_le, beq_self_eq_true]
  refine Cf.pu (P2 _) fun u2 => ?_
  simp (maxSteps := 4000000) only [vm, vl, Arg.get, cells, stor, boundO, resultsV, resV, partK, loadV, Vm.part, fillC, splice, reduceIte, reduceCtorEq, Nat.reduceEqDiff, Nat.reduceAdd, Nat.reduceSub, Nat.reduceMul, Nat.reduceLeDiff, ne_eq, not_false_eq_true, Int.reduceEq, Int.reduceLT, Int.reduceLE, Int.reduceNeg, Int.reduceToNat, Int.reduceGT, Int.reduceGE, Nat.reduceLT, Nat.lt_add_one, Nat.zero_lt_succ, Nat.succ_pos, Nat.zero_le, beq_self_eq_true]
  refine Cf.pu Civil_ok fun u3 => ?_
  unfold civV
  simp (maxSteps := 4000000) only [vm, vl, Arg.get, cells, stor, boundO, resultsV, resV, partK, loadV, Vm.part, fillC, splice, reduceIte, reduceCtorEq, Nat.reduceEqDiff, Nat.reduceAdd, Nat.reduceSub, Nat.reduceMul, Nat.reduceLeDiff, ne_eq, not_false_eq_true, Int.reduceEq, Int.reduceLT, Int.reduceLE, Int.reduceNeg, Int.reduceToNat, Int.reduceGT, Int.reduceGE, Nat.reduceLT, Nat.lt_add_one, Nat.zero_lt_succ, Nat.succ_pos, Nat.zero_le, beq_self_eq_true]
  refine Cf.pu RCivil_ok fun u4 => ?_
  unfold civV
  simp (maxSteps := 4000000) only [vm, vl, Arg.get, cells, stor, boundO, resultsV, resV, partK, loadV, Vm.part, fillC, splice, reduceIte, reduceCtorEq, Nat.reduceEqDiff, Nat.reduceAdd, Nat.reduceSub, Nat.reduceMul, Nat.reduceLeDiff, ne_eq, not_false_eq_true, Int.reduceEq, Int.reduceLT, Int.reduceLE, Int.reduceNeg, Int.reduceToNat, Int.reduceGT, Int.reduceGE, Nat.reduceLT, Nat.lt_add_one, Nat.zero_lt_succ, Nat.succ_pos, Nat.zero_le, beq_self_eq_true, eq_bool, bb, decide_true]
  refine Cf.pu Days_ok fun u5 => ?_
  simp (maxSteps := 4000000) only [vm, vl, Arg.get, cells, stor, boundO, resultsV, resV, partK, loadV, Vm.part, fillC, splice, reduceIte, reduceCtorEq, Nat.reduceEqDiff, Nat.reduceAdd, Nat.reduceSub, Nat.reduceMul, Nat.reduceLeDiff, ne_eq, not_false_eq_true, Int.reduceEq, Int.reduceLT, Int.reduceLE, Int.reduceNeg, Int.reduceToNat, Int.reduceGT, Int.reduceGE, Nat.reduceLT, Nat.lt_add_one, Nat.zero_lt_succ, Nat.succ_pos, Nat.zero_le, beq_self_eq_true, eq_bool, bb, decide_true]
  refine Cf.pu RDays_ok fun u6 => ?_
  simp (maxSteps := 4000000) only [vm, vl, Arg.get, cells, stor, boundO, resultsV, resV, partK, loadV, Vm.part, fillC, splice, reduceIte, reduceCtorEq, Nat.reduceEqDiff, Nat.reduceAdd, Nat.reduceSub, Nat.reduceMul, Nat.reduceLeDiff, ne_eq, not_false_eq_true, Int.reduceEq, Int.reduceLT, Int.reduceLE, Int.reduceNeg, Int.reduceToNat, Int.reduceGT, Int.reduceGE, Nat.reduceLT, Nat.lt_add_one, Nat.zero_lt_succ, Nat.succ_pos, Nat.zero_le, beq_self_eq_true, eq_bool, bb, decide_true]
  refine Cf.pu (F1 _) fun u7 => ?_
  simp (maxSteps := 4000000) only [vm, vl, Arg.get, cells, stor, boundO, resultsV, resV, partK, loadV, Vm.part, fillC, splice, reduceIte, reduceCtorEq, Nat.reduceEqDiff, Nat.reduceAdd, Nat.reduceSub, Nat.reduceMul, Nat.reduceLeDiff, ne_eq, not_false_eq_true, Int.reduceEq, Int.reduceLT, Int.reduceLE, Int.reduceNeg, Int.reduceToNat, Int.reduceGT, Int.reduceGE, Nat.reduceLT, Nat.lt_add_one, Nat.zero_lt_succ, Nat.succ_pos, Nat.zero_le, beq_self_eq_true, eq_bool, bb, decide_true]
  refine Cf.pu (F2 _) fun u8 => ?_
  simp (maxSteps := 4000000) only [vm, vl, Arg.get, cells, stor, boundO, resultsV, resV, partK, loadV, Vm.part, fillC, splice, reduceIte, reduceCtorEq, Nat.reduceEqDiff, Nat.reduceAdd, Nat.reduceSub, Nat.reduceMul, Nat.reduceLeDiff, ne_eq, not_false_eq_true, Int.reduceEq, Int.reduceLT, Int.reduceLE, Int.reduceNeg, Int.reduceToNat, Int.reduceGT, Int.reduceGE, Nat.reduceLT, Nat.lt_add_one, Nat.zero_lt_succ, Nat.succ_pos, Nat.zero_le, beq_self_eq_true, eq_bool, bb, decide_true]
  refine Cf.pu (D0 _) fun u9 => ?_
  simp (maxSteps := 4000000) only [vm, vl, Arg.get, cells, stor, boundO, resultsV, resV, partK, loadV, Vm.part, fillC, splice, reduceIte, reduceCtorEq, Nat.reduceEqDiff, Nat.reduceAdd, Nat.reduceSub, Nat.reduceMul, Nat.reduceLeDiff, ne_eq, not_false_eq_true, Int.reduceEq, Int.reduceLT, Int.reduceLE, Int.reduceNeg, Int.reduceToNat, Int.reduceGT, Int.reduceGE, Nat.reduceLT, Nat.lt_add_one, Nat.zero_lt_succ, Nat.succ_pos, Nat.zero_le, beq_self_eq_true, eq_bool, bb, decide_true]
  refine Cf.pu (F0 _) fun u10 => ?_
  simp (maxSteps := 4000000) only [vm, vl, Arg.get, cells, stor, boundO, resultsV, resV, partK, loadV, Vm.part, fillC, splice, reduceIte, reduceCtorEq, Nat.reduceEqDiff, Nat.reduceAdd, Nat.reduceSub, Nat.reduceMul, Nat.reduceLeDiff, ne_eq, not_false_eq_true, Int.reduceEq, Int.reduceLT, Int.reduceLE, Int.reduceNeg, Int.reduceToNat, Int.reduceGT, Int.reduceGE, Nat.reduceLT, Nat.lt_add_one, Nat.zero_lt_succ, Nat.succ_pos, Nat.zero_le, beq_self_eq_true, eq_bool, bb, decide_true, f0]
theorem DateTells_row {x0 x1 x2 : V} (v0 : VPar [.l .s] x0) (v1 : VPar [.l (.i .i64)] x1) (v2 : VPar [.l (.i .i64), .l (.i .i64), .l (.i .i64)] x2) (w : World) (ht : TabAt w) (vs : List Value) (hv : Rvs w.heap.size G0 w [x0, x1, x2] vs) :
    Calls Tryd.prog i_gatepostlaw02_DateTells vs.toArray w fun e w' => e = .returned (.bool true) ∧ RowKit.Below w.heap.size w w' := by
  obtain ⟨s, rfl, ha⟩ := v0
  obtain ⟨n, rfl, hn⟩ := v1
  obtain ⟨xs, rfl, hx⟩ := v2
  obtain ⟨x, y, z, rfl, h1, h2, h3⟩ := vsks_three hx
  obtain ⟨a, rfl, _⟩ := h1
  obtain ⟨b, rfl, _⟩ := h2
  obtain ⟨c, rfl, _⟩ := h3
  have hb : -9223372036854775808 ≤ n ∧ n ≤ 9223372036854775807 := by
    have := hn
    unfold Lit.wf at this
    rw [Bool.and_eq_true, decide_eq_true_eq, decide_eq_true_eq] at this
    exact this
  exact calls_at hm hF (itoa_at ht) (DateTells_ok (itoaOk fun _ _ _ h => h) ha hb.1 hb.2) hv
end Go.Proofs.YtdgklgeddbfeaaaDoor.Vh
