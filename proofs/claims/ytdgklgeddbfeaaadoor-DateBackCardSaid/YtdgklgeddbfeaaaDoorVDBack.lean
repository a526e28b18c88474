/- DateBack on the small machine. -/
import Derived.Test.YtdgklgeddbfeaaaDoorVBack2
set_option linter.unusedVariables false
set_option linter.unusedSimpArgs false
namespace Go.Proofs.YtdgklgeddbfeaaaDoor.Vh
open Go.Vm Go.Vt
attribute [local congr] wi_congr wg_congr wgd_congr wb_congr wl_congr cf_congr
variable {L : FuncId → List V → V → Prop} {h : Heap}
theorem DateBack_ok (HI : ItoaOk L) {n c : Int} : Cf F L i_gatepostlaw02_DateBack [.int .i64 n, .int .i64 c] h (fun v _ => v = .bool true) := by
  refine run_gatepostlaw02_DateBack ?_
  simp only [p_gatepostlaw02_DateBack]
  obtain ⟨b0, b1⟩ := andI_range n 137438953471 (by omega) (by omega)
  obtain ⟨c0, c1⟩ := andI_range c 4194303 (by omega) (by omega)
  generalize hA : bitsI .and .i64 n 137438953471 = A at *
  generalize hC : bitsI .and .i64 c 4194303 = C at *
  have t1 : C.tmod 2932896 = C % 2932896 := tmod_nn c0
  have t2 : 0 ≤ C % 2932896 := by omega
  have t3 : C % 2932896 < 2932896 := by omega
  generalize C % 2932896 = D at *
  have t4 : A.tmod 253402300800 = A % 253402300800 := tmod_nn b0
  have t5 : 0 ≤ A % 253402300800 := by omega
  have t6 : A % 253402300800 < 253402300800 := by omega
  generalize A % 253402300800 = B at *
  have w1 : IntKind.i64.wrap (D + 1) = D + 1 := wrap64 (by omega) (by omega)
  simp (maxSteps := 4000000) only [vm, vl, Arg.get, cells, stor, boundO, resultsV, resV, partK, loadV, Vm.part, fillC, splice, reduceIte, reduceCtorEq, Nat.reduceEqDiff, Nat.reduceAdd, Nat.reduceSub, Nat.reduceMul, Nat.reduceLeDiff, ne_eq, not_false_eq_true, Int.reduceEq, Int.reduceLT, Int.reduceLE, Int.reduceNeg, Int.reduceToNat, Int.reduceGT, Int.reduceGE, Nat.reduceLT, Nat.lt_add_one, Nat.zero_lt_succ, Nat.succ_pos, Nat.zero_le, beq_self_eq_true, hA, hC, bin_rem, t1, t4, w1]
  refine Cf.pu (Format_ok HI (by omega) (by omega) (by omega)) fun u1 => ?_
  try simp (maxSteps := 4000000) only [vm, vl, Arg.get, cells, stor, boundO, resultsV, resV, partK, loadV, Vm.part, fillC, splice, reduceIte, reduceCtorEq, Nat.reduceEqDiff, Nat.reduceAdd, Nat.reduceSub, Nat.reduceMul, Nat.reduceLeDiff, ne_eq, not_false_eq_true, Int.reduceEq, Int.reduceLT, Int.reduceLE, Int.reduceNeg, Int.reduceToNat, Int.reduceGT, Int.reduceGE, Nat.reduceLT, Nat.lt_add_one, Nat.zero_lt_succ, Nat.succ_pos, Nat.zero_le, beq_self_eq_true, hA, hC, bin_rem, t1, t4, w1]
  have l1 := fmt_len (sec := B) (by omega) (by omega)
  refine Cf.pu (DParse_ok (by omega)) fun u2 => ?_
  rw [date_fmt (by omega) (by omega)]
  try simp (maxSteps := 4000000) only [vm, vl, Arg.get, cells, stor, boundO, resultsV, resV, partK, loadV, Vm.part, fillC, splice, reduceIte, reduceCtorEq, Nat.reduceEqDiff, Nat.reduceAdd, Nat.reduceSub, Nat.reduceMul, Nat.reduceLeDiff, ne_eq, not_false_eq_true, Int.reduceEq, Int.reduceLT, Int.reduceLE, Int.reduceNeg, Int.reduceToNat, Int.reduceGT, Int.reduceGE, Nat.reduceLT, Nat.lt_add_one, Nat.zero_lt_succ, Nat.succ_pos, Nat.zero_le, beq_self_eq_true, hA, hC, bin_rem, t1, t4, w1, dateV]
  refine Cf.pu Civil_ok fun u3 => ?_
  obtain ⟨y, m, d, hc, y0, y1, m0, m1, d0, d1, _⟩ := civil_ok D (by omega) (by omega)
  have dl := dim_le y m
  obtain ⟨hd, hD, hn⟩ := civil_next (by omega) (by omega) hc
  have eA : civA D = (y, m, d) := by unfold civA; rw [if_pos (by omega)]; exact hc
  have eB : civA (D + 1) = civilS (D + 1) := by unfold civA; rw [if_pos (by omega)]
  rw [eA]
  try simp (maxSteps := 4000000) only [vm, vl, Arg.get, cells, stor, boundO, resultsV, resV, partK, loadV, Vm.part, fillC, splice, reduceIte, reduceCtorEq, Nat.reduceEqDiff, Nat.reduceAdd, Nat.reduceSub, Nat.reduceMul, Nat.reduceLeDiff, ne_eq, not_false_eq_true, Int.reduceEq, Int.reduceLT, Int.reduceLE, Int.reduceNeg, Int.reduceToNat, Int.reduceGT, Int.reduceGE, Nat.reduceLT, Nat.lt_add_one, Nat.zero_lt_succ, Nat.succ_pos, Nat.zero_le, beq_self_eq_true, hA, hC, bin_rem, t1, t4, w1, civV]
  refine Cf.pu Civil_ok fun u4 => ?_
  rw [eB]
  have z1 : IntKind.i64.wrap (d + 1) = d + 1 := wrap64 (by omega) (by omega)
  have z2 : IntKind.i64.wrap (m + 1) = m + 1 := wrap64 (by omega) (by omega)
  have z3 : IntKind.i64.wrap (y + 1) = y + 1 := wrap64 (by omega) (by omega)
  have n2 : ¬ (m + 1 = m) := by omega
  have n3 : ¬ (y + 1 = y) := by omega
  have n2' : (m + 1 == m) = false := beq_eq_false_iff_ne.2 n2
  have n3' : (y + 1 == y) = false := beq_eq_false_iff_ne.2 n3
  have dD : ∀ hh, Cf F L i_date_Days [.int .i64 y, .int .i64 m, .int .i64 d] hh (Pu hh (.int .i64 D)) := fun hh => by
    have := Days_ok (L := L) (h := hh) (y := y) (m := m) (d := d)
    rwa [hD] at this
  rcases hn with e | e | ⟨e, rfl, rfl⟩
  · rw [e]
    simp (maxSteps := 4000000) only [vm, vl, Arg.get, cells, stor, boundO, resultsV, resV, partK, loadV, Vm.part, fillC, splice, reduceIte, reduceCtorEq, Nat.reduceEqDiff, Nat.reduceAdd, Nat.reduceSub, Nat.reduceMul, Nat.reduceLeDiff, ne_eq, not_false_eq_true, Int.reduceEq, Int.reduceLT, Int.reduceLE, Int.reduceNeg, Int.reduceToNat, Int.reduceGT, Int.reduceGE, Nat.reduceLT, Nat.lt_add_one, Nat.zero_lt_succ, Nat.succ_pos, Nat.zero_le, beq_self_eq_true, civV, z1, z2, z3, n2, n3, n2', n3', decide_true, decide_false]
    refine Cf.pu (dD _) fun u5 => ?_
    simp (maxSteps := 4000000) only [vm, vl, Arg.get, cells, stor, boundO, resultsV, resV, partK, loadV, Vm.part, fillC, splice, reduceIte, reduceCtorEq, Nat.reduceEqDiff, Nat.reduceAdd, Nat.reduceSub, Nat.reduceMul, Nat.reduceLeDiff, ne_eq, not_false_eq_true, Int.reduceEq, Int.reduceLT, Int.reduceLE, Int.reduceNeg, Int.reduceToNat, Int.reduceGT, Int.reduceGE, Nat.reduceLT, Nat.lt_add_one, Nat.zero_lt_succ, Nat.succ_pos, Nat.zero_le, beq_self_eq_true, hd, decide_true]
  · rw [e]
    simp (maxSteps := 4000000) only [vm, vl, Arg.get, cells, stor, boundO, resultsV, resV, partK, loadV, Vm.part, fillC, splice, reduceIte, reduceCtorEq, Nat.reduceEqDiff, Nat.reduceAdd, Nat.reduceSub, Nat.reduceMul, Nat.reduceLeDiff, ne_eq, not_false_eq_true, Int.reduceEq, Int.reduceLT, Int.reduceLE, Int.reduceNeg, Int.reduceToNat, Int.reduceGT, Int.reduceGE, Nat.reduceLT, Nat.lt_add_one, Nat.zero_lt_succ, Nat.succ_pos, Nat.zero_le, beq_self_eq_true, civV, z1, z2, z3, n2, n3, n2', n3', decide_true, decide_false]
    refine Cf.pu (dD _) fun u5 => ?_
    simp (maxSteps := 4000000) only [vm, vl, Arg.get, cells, stor, boundO, resultsV, resV, partK, loadV, Vm.part, fillC, splice, reduceIte, reduceCtorEq, Nat.reduceEqDiff, Nat.reduceAdd, Nat.reduceSub, Nat.reduceMul, Nat.reduceLeDiff, ne_eq, not_false_eq_true, Int.reduceEq, Int.reduceLT, Int.reduceLE, Int.reduceNeg, Int.reduceToNat, Int.reduceGT, Int.reduceGE, Nat.reduceLT, Nat.lt_add_one, Nat.zero_lt_succ, Nat.succ_pos, Nat.zero_le, beq_self_eq_true, hd, decide_true]
  · rw [e]
    simp (maxSteps := 4000000) only [vm, vl, Arg.get, cells, stor, boundO, resultsV, resV, partK, loadV, Vm.part, fillC, splice, reduceIte, reduceCtorEq, Nat.reduceEqDiff, Nat.reduceAdd, Nat.reduceSub, Nat.reduceMul, Nat.reduceLeDiff, ne_eq, not_false_eq_true, Int.reduceEq, Int.reduceLT, Int.reduceLE, Int.reduceNeg, Int.reduceToNat, Int.reduceGT, Int.reduceGE, Nat.reduceLT, Nat.lt_add_one, Nat.zero_lt_succ, Nat.succ_pos, Nat.zero_le, beq_self_eq_true, civV, z1, z2, z3, n2, n3, n2', n3', decide_true, decide_false]
    refine Cf.pu (dD _) fun u5 => ?_
    simp (maxSteps := 4000000) only [vm, vl, Arg.get, cells, stor, boundO, resultsV, resV, partK, loadV, Vm.part, fillC, splice, reduceIte, reduceCtorEq, Nat.reduceEqDiff, Nat.reduceAdd, Nat.reduceSub, Nat.reduceMul, Nat.reduceLeDiff, ne_eq, not_false_eq_true, Int.reduceEq, Int.reduceLT, Int.reduceLE, Int.reduceNeg, Int.reduceToNat, Int.reduceGT, Int.reduceGE, Nat.reduceLT, Nat.lt_add_one, Nat.zero_lt_succ, Nat.succ_pos, Nat.zero_le, beq_self_eq_true, hd, decide_true]
theorem DateBack_row {x0 x1 : V} (v0 : VPar [.l (.i .i64)] x0) (v1 : VPar [.l (.i .i64)] x1) (w : World) (ht : TabAt w) (vs : List Value) (hv : Rvs w.heap.size G0 w [x0, x1] vs) :
    Calls Tryd.prog i_gatepostlaw02_DateBack vs.toArray w fun e w' => e = .returned (.bool true) ∧ RowKit.Below w.heap.size w w' := by
  obtain ⟨n, rfl, _⟩ := v0
  obtain ⟨c, rfl, _⟩ := v1
  exact calls_at hm hF (itoa_at ht) (DateBack_ok (itoaOk fun _ _ _ h => h)) hv
end Go.Proofs.YtdgklgeddbfeaaaDoor.Vh
