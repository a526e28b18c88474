/- DateWeeks on the small machine. -/
import Derived.Test.YtdgklgeddbfeaaaDoorVFormat
set_option linter.unusedVariables false
set_option linter.unusedSimpArgs false
namespace Go.Proofs.YtdgklgeddbfeaaaDoor.Vh
open Go.Vm Go.Vt
attribute [local congr] wi_congr wg_congr wgd_congr wb_congr wl_congr cf_congr
variable {L : FuncId → List V → V → Prop} {h : Heap}
theorem app_drop {a b : Bs} {n : Nat} (h : a.length = n) : (a ++ b).drop n = b := by rw [← h]; exact List.drop_left ..
theorem app_take {a b : Bs} {n : Nat} (h : a.length = n) : (a ++ b).take n = a := by rw [← h]; exact List.take_left ..
/-- A date's parts. -/
theorem fmt_parts {sec : Int} (h0 : 0 ≤ sec) (h1 : sec / 86400 ≤ 2932896) : ∃ dn ps : Bs, dn = (dayLs.getD ((sec / 86400 + 3) % 7).toNat []).take 3 ∧ dn.length = 3 ∧ ps.length = 14 ∧
    fmtS sec = dn ++ ps ++ (two (sec % 86400 / 3600).toNat ++ [58] ++ two (sec % 86400 / 60 % 60).toNat ++ [58] ++ two (sec % 86400 % 60).toNat) ++ [32, 71, 77, 84] := by
  obtain ⟨y, m, d, hc, y0, y1, m0, m1, d0, d1, _⟩ := civil_ok (sec / 86400) (by omega) h1
  refine ⟨_, [44, 32] ++ two d.toNat ++ [32] ++ monLs.getD (m - 1).toNat [] ++ [32] ++ (two (y.toNat / 100) ++ two (y.toNat % 100)) ++ [32], rfl, ?_, ?_, ?_⟩
  · exact (day3 ((sec / 86400 + 3) % 7).toNat (by omega)).2
  · have := mon3 (m - 1).toNat (by omega)
    simp only [List.length_append, this, two, List.length_cons, List.length_nil]
  · unfold fmtS
    simp only [hc, List.append_assoc]
theorem fmt_len {sec : Int} (h0 : 0 ≤ sec) (h1 : sec / 86400 ≤ 2932896) : (fmtS sec).length = 29 := by
  obtain ⟨dn, ps, _, e1, e2, e3⟩ := fmt_parts h0 h1
  rw [e3]
  simp only [List.length_append, e1, e2, two, List.length_cons, List.length_nil]
theorem fmt_day {sec : Int} (h0 : 0 ≤ sec) (h1 : sec / 86400 ≤ 2932896) : (fmtS sec).take 3 = (dayLs.getD ((sec / 86400 + 3) % 7).toNat []).take 3 := by
  obtain ⟨dn, ps, e0, e1, e2, e3⟩ := fmt_parts h0 h1
  rw [e3, ← e0, List.append_assoc, List.append_assoc, app_take e1]
theorem fmt_clock {sec : Int} (h0 : 0 ≤ sec) (h1 : sec / 86400 ≤ 2932896) : ((fmtS sec).take 25).drop 17 = two (sec % 86400 / 3600).toNat ++ [58] ++ two (sec % 86400 / 60 % 60).toNat ++ [58] ++ two (sec % 86400 % 60).toNat := by
  obtain ⟨dn, ps, e0, e1, e2, e3⟩ := fmt_parts h0 h1
  rw [e3]
  rw [app_take (n := 25) (by simp only [List.length_append, e1, e2, two, List.length_cons, List.length_nil]), app_drop (n := 17) (by simp only [List.length_append, e1, e2])]
theorem day_next : ∀ w, w < 7 → (dayLs.getD w []).take 3 ≠ (dayLs.getD ((w + 1) % 7) []).take 3 := by decide
theorem DateWeeks_ok (HI : ItoaOk L) {n c : Int} : Cf F L i_gatepostlaw02_DateWeeks [.int .i64 n, .int .i64 c] h (fun v _ => v = .bool true) := by
  refine run_gatepostlaw02_DateWeeks ?_
  simp only [p_gatepostlaw02_DateWeeks]
  obtain ⟨b0, b1⟩ := andI_range n 262143 (by omega) (by omega)
  obtain ⟨c0, c1⟩ := andI_range c 131071 (by omega) (by omega)
  generalize hA : bitsI .and .i64 n 262143 = A at *
  generalize hC : bitsI .and .i64 c 131071 = C at *
  have t1 : C.tmod 86400 = C % 86400 := tmod_nn c0
  have t2 : 0 ≤ C % 86400 := by omega
  have t3 : C % 86400 < 86400 := by omega
  generalize C % 86400 = D at *
  have w1 : IntKind.i64.wrap (86400 * A) = 86400 * A := wrap64 (by omega) (by omega)
  have w2 : IntKind.i64.wrap (A + 7) = A + 7 := wrap64 (by omega) (by omega)
  have w3 : IntKind.i64.wrap (86400 * (A + 7)) = 86400 * (A + 7) := wrap64 (by omega) (by omega)
  have w4 : IntKind.i64.wrap (86400 * (A + 7) + D) = 86400 * (A + 7) + D := wrap64 (by omega) (by omega)
  have w5 : IntKind.i64.wrap (A + 1) = A + 1 := wrap64 (by omega) (by omega)
  have w6 : IntKind.i64.wrap (86400 * (A + 1)) = 86400 * (A + 1) := wrap64 (by omega) (by omega)
  simp (maxSteps := 4000000) only [vm, vl, Arg.get, cells, stor, boundO, resultsV, resV, partK, loadV, Vm.part, fillC, splice, reduceIte, reduceCtorEq, Nat.reduceEqDiff, Nat.reduceAdd, Nat.reduceSub, Nat.reduceMul, Nat.reduceLeDiff, ne_eq, not_false_eq_true, Int.reduceEq, Int.reduceLT, Int.reduceLE, Int.reduceNeg, Int.reduceToNat, Int.reduceGT, Int.reduceGE, Nat.reduceLT, Nat.lt_add_one, Nat.zero_lt_succ, Nat.succ_pos, Nat.zero_le, beq_self_eq_true, hA, hC, bin_rem, t1, w1, w2, w3, w4, w5, w6]
  have q1 : 86400 * A / 86400 = A := by omega
  have q2 : (86400 * (A + 7) + D) / 86400 = A + 7 := by omega
  have q3 : 86400 * (A + 1) / 86400 = A + 1 := by omega
  have q4 : 86400 * A % 86400 = 0 := by omega
  have l1 := fmt_len (sec := 86400 * A) (by omega) (by omega)
  have l2 := fmt_len (sec := 86400 * (A + 7) + D) (by omega) (by omega)
  have l3 := fmt_len (sec := 86400 * (A + 1)) (by omega) (by omega)
  have d1 := fmt_day (sec := 86400 * A) (by omega) (by omega)
  have d2 := fmt_day (sec := 86400 * (A + 7) + D) (by omega) (by omega)
  have d3 := fmt_day (sec := 86400 * (A + 1)) (by omega) (by omega)
  have k1 := fmt_clock (sec := 86400 * A) (by omega) (by omega)
  rw [q1] at d1; rw [q2] at d2; rw [q3] at d3; rw [q4] at k1
  have k2 : two ((0 : Int) / 3600).toNat ++ [58] ++ two ((0 : Int) / 60 % 60).toNat ++ [58] ++ two ((0 : Int) % 60).toNat = [48, 48, 58, 48, 48, 58, 48, 48] := by decide
  rw [k2] at k1
  have f1 : (((fmtS (86400 * A)).take 3) == ((fmtS (86400 * (A + 7) + D)).take 3)) = true := by
    rw [d1, d2, show (A + 7 + 3) % 7 = (A + 3) % 7 by omega]; simp
  have f2 : (((fmtS (86400 * A)).take 3) == ((fmtS (86400 * (A + 1))).take 3)) = false := by
    rw [d1, d3, beq_eq_false_iff_ne]
    have := day_next ((A + 3) % 7).toNat (by omega)
    rw [show (((A + 3) % 7).toNat + 1) % 7 = ((A + 1 + 3) % 7).toNat by omega] at this
    exact this
  refine Cf.pu (Format_ok HI (by omega) (by omega) (by omega)) fun u1 => ?_
  try simp (maxSteps := 4000000) only [vm, vl, Arg.get, cells, stor, boundO, resultsV, resV, partK, loadV, Vm.part, fillC, splice, reduceIte, reduceCtorEq, Nat.reduceEqDiff, Nat.reduceAdd, Nat.reduceSub, Nat.reduceMul, Nat.reduceLeDiff, ne_eq, not_false_eq_true, Int.reduceEq, Int.reduceLT, Int.reduceLE, Int.reduceNeg, Int.reduceToNat, Int.reduceGT, Int.reduceGE, Nat.reduceLT, Nat.lt_add_one, Nat.zero_lt_succ, Nat.succ_pos, Nat.zero_le, beq_self_eq_true, hA, hC, bin_rem, t1, w1, w2, w3, w4, w5, w6]
  refine Cf.pu (Format_ok HI (by omega) (by omega) (by omega)) fun u2 => ?_
  try simp (maxSteps := 4000000) only [vm, vl, Arg.get, cells, stor, boundO, resultsV, resV, partK, loadV, Vm.part, fillC, splice, reduceIte, reduceCtorEq, Nat.reduceEqDiff, Nat.reduceAdd, Nat.reduceSub, Nat.reduceMul, Nat.reduceLeDiff, ne_eq, not_false_eq_true, Int.reduceEq, Int.reduceLT, Int.reduceLE, Int.reduceNeg, Int.reduceToNat, Int.reduceGT, Int.reduceGE, Nat.reduceLT, Nat.lt_add_one, Nat.zero_lt_succ, Nat.succ_pos, Nat.zero_le, beq_self_eq_true, hA, hC, bin_rem, t1, w1, w2, w3, w4, w5, w6]
  refine Cf.pu (Format_ok HI (by omega) (by omega) (by omega)) fun u3 => ?_
  generalize fmtS (86400 * A) = s1 at *
  generalize fmtS (86400 * (A + 7) + D) = s2 at *
  generalize fmtS (86400 * (A + 1)) = s3 at *
  have o1 : 3 ≤ s1.length := by omega
  have o2 : 3 ≤ s2.length := by omega
  have o3 : 3 ≤ s3.length := by omega
  have o4 : 25 ≤ s1.length := by omega
  simp (maxSteps := 4000000) only [vm, vl, Arg.get, cells, stor, boundO, resultsV, resV, partK, loadV, Vm.part, fillC, splice, reduceIte, reduceCtorEq, Nat.reduceEqDiff, Nat.reduceAdd, Nat.reduceSub, Nat.reduceMul, Nat.reduceLeDiff, ne_eq, not_false_eq_true, Int.reduceEq, Int.reduceLT, Int.reduceLE, Int.reduceNeg, Int.reduceToNat, Int.reduceGT, Int.reduceGE, Nat.reduceLT, Nat.lt_add_one, Nat.zero_lt_succ, Nat.succ_pos, Nat.zero_le, beq_self_eq_true, l1, l2, l3, f1, f2, k1, o1, o2, o3, o4, List.drop_zero, decide_true, Bool.not_false]
theorem DateWeeks_row {x0 x1 : V} (v0 : VPar [.l (.i .i64)] x0) (v1 : VPar [.l (.i .i64)] x1) (w : World) (ht : TabAt w) (vs : List Value) (hv : Rvs w.heap.size G0 w [x0, x1] vs) :
    Calls Tryd.prog i_gatepostlaw02_DateWeeks vs.toArray w fun e w' => e = .returned (.bool true) ∧ RowKit.Below w.heap.size w w' := by
  obtain ⟨n, rfl, _⟩ := v0
  obtain ⟨c, rfl, _⟩ := v1
  exact calls_at hm hF (itoa_at ht) (DateWeeks_ok (itoaOk fun _ _ _ h => h)) hv
end Go.Proofs.YtdgklgeddbfeaaaDoor.Vh
