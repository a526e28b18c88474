/- Package date's Civil and Days on the small machine. -/
import Derived.Test.YtdgklgeddbfeaaaDoorVh
import Derived.Test.YtdgklgeddbfeaaaDoorVCal
set_option linter.unusedVariables false
set_option linter.unusedSimpArgs false
namespace Go.Proofs.YtdgklgeddbfeaaaDoor.Vh
open Go.Vm
attribute [local congr] wi_congr wg_congr wgd_congr wb_congr wl_congr cf_congr
variable {L : FuncId → List V → V → Prop} {h : Heap}
theorem wdiv {x c : Int} (h0 : 0 ≤ x) (hc : 0 < c) (h1 : x ≤ 9223372036854775807) : IntKind.i64.wrap (Int.tdiv x c) = x / c := by
  rw [Int.tdiv_eq_ediv_of_nonneg h0]
  have h2 : x / c ≤ x := Int.ediv_le_self _ h0
  have h3 : 0 ≤ x / c := Int.ediv_nonneg h0 (Int.le_of_lt hc)
  exact wrap64 (by omega) (by omega)
theorem tmod_nn {x c : Int} (h0 : 0 ≤ x) : Int.tmod x c = x % c := Int.tmod_eq_emod_of_nonneg h0
theorem w_years (n : Int) (n0 : 0 ≤ n) (n1 : n < 146097) : IntKind.i64.wrap (Int.tdiv (IntKind.i64.wrap ((IntKind.i64.wrap ((IntKind.i64.wrap (n - (IntKind.i64.wrap (Int.tdiv n 1460)))) + (IntKind.i64.wrap (Int.tdiv n 36524)))) - (IntKind.i64.wrap (Int.tdiv n 146096)))) 365) = yearsS n := by
  rw [wdiv (x := n) (c := 1460) n0 (by omega) (by omega), wdiv (x := n) (c := 36524) n0 (by omega) (by omega), wdiv (x := n) (c := 146096) n0 (by omega) (by omega),
    wrap64 (x := n - n / 1460) (by omega) (by omega), wrap64 (x := n - n / 1460 + n / 36524) (by omega) (by omega), wrap64 (x := n - n / 1460 + n / 36524 - n / 146096) (by omega) (by omega),
    wdiv (x := n - n / 1460 + n / 36524 - n / 146096) (c := 365) (by omega) (by omega) (by omega)]
  rfl
theorem years_rest (n : Int) (n0 : 0 ≤ n) (n1 : n < 146097) : 0 ≤ yearsS n ∧ yearsS n ≤ 399 ∧ 0 ≤ restS n ∧ restS n ≤ 365 := by
  obtain ⟨B, Q, R, s, a1, a2, a3, a4, a5, a6, a7, a8, a9, hn2, hy2⟩ := years_ok n (yearsS n) n0 n1 rfl
  obtain ⟨p4, p100⟩ := years_parts B Q R a1 a2 a3 a4 a5 a6
  have hs : restS n = s := by unfold restS; rw [hy2, p4, p100]; omega
  rw [hs, hy2]
  omega
theorem w_rest (n : Int) (n0 : 0 ≤ n) (n1 : n < 146097) : IntKind.i64.wrap (n - (IntKind.i64.wrap ((IntKind.i64.wrap ((IntKind.i64.wrap (365 * yearsS n)) + (IntKind.i64.wrap (Int.tdiv (yearsS n) 4)))) - (IntKind.i64.wrap (Int.tdiv (yearsS n) 100))))) = restS n := by
  obtain ⟨y0, y1, _, _⟩ := years_rest n n0 n1
  unfold restS
  generalize yearsS n = y at *
  rw [wrap64 (x := 365 * y) (by omega) (by omega), wdiv (x := y) (c := 4) y0 (by omega) (by omega), wdiv (x := y) (c := 100) y0 (by omega) (by omega),
    wrap64 (x := 365 * y + y / 4) (by omega) (by omega), wrap64 (x := 365 * y + y / 4 - y / 100) (by omega) (by omega)]
  exact wrap64 (by omega) (by omega)
theorem w_mon (n : Int) (n0 : 0 ≤ n) (n1 : n < 146097) : IntKind.i64.wrap (Int.tdiv (IntKind.i64.wrap ((IntKind.i64.wrap (5 * restS n)) + 2)) 153) = monS n := by
  obtain ⟨_, _, s0, s1⟩ := years_rest n n0 n1
  unfold monS
  generalize restS n = s at *
  rw [wrap64 (x := 5 * s) (by omega) (by omega), wrap64 (x := 5 * s + 2) (by omega) (by omega)]
  exact wdiv (by omega) (by omega) (by omega)
theorem mon_range (n : Int) (n0 : 0 ≤ n) (n1 : n < 146097) : 0 ≤ monS n ∧ monS n ≤ 11 := by
  obtain ⟨_, _, s0, s1⟩ := years_rest n n0 n1
  obtain ⟨m0, m1, _, _⟩ := month_ok (restS n) (monS n) s0 s1 rfl
  exact ⟨m0, m1⟩
theorem w_day (n : Int) (n0 : 0 ≤ n) (n1 : n < 146097) : IntKind.i64.wrap ((IntKind.i64.wrap (restS n - (IntKind.i64.wrap (Int.tdiv (IntKind.i64.wrap ((IntKind.i64.wrap (153 * monS n)) + 2)) 5)))) + 1) = restS n - (153 * monS n + 2) / 5 + 1 := by
  obtain ⟨_, _, s0, s1⟩ := years_rest n n0 n1
  obtain ⟨m0, m1⟩ := mon_range n n0 n1
  generalize restS n = s at *
  generalize monS n = m at *
  rw [wrap64 (x := 153 * m) (by omega) (by omega), wrap64 (x := 153 * m + 2) (by omega) (by omega), wdiv (x := 153 * m + 2) (c := 5) (by omega) (by omega) (by omega),
    wrap64 (x := s - (153 * m + 2) / 5) (by omega) (by omega)]
  exact wrap64 (by omega) (by omega)
def daysS (y m d : Int) : Int := if 1970 ≤ y ∧ y ≤ 9999 ∧ 1 ≤ m ∧ m ≤ 12 ∧ 1 ≤ d ∧ d ≤ dim y m then numD y m d else -1
theorem dim_le (y m : Int) : dim y m ≤ 31 := by
  unfold dim
  split
  · split <;> omega
  · split <;> omega
theorem numY_le (Y M d : Int) (h0 : 1969 ≤ Y) (h1 : Y ≤ 9999) (m0 : 0 ≤ M) (m1 : M ≤ 11) (d0 : 1 ≤ d) (d1 : d ≤ 31) : 0 ≤ numY Y M d + 1000000 ∧ numY Y M d ≤ 4000000 := by
  unfold numY
  have e1 : 0 ≤ (Y % 400) / 100 := by omega
  have e2 : (Y % 400) / 100 ≤ 3 := by omega
  have e3 : 0 ≤ (Y % 400) / 4 := by omega
  have e4 : (Y % 400) / 4 ≤ 99 := by omega
  have e5 : 0 ≤ (153 * M + 2) / 5 := by omega
  have e6 : (153 * M + 2) / 5 ≤ 337 := by omega
  omega
theorem w_num (Y M d : Int) (h0 : 1969 ≤ Y) (h1 : Y ≤ 9999) (m0 : 0 ≤ M) (m1 : M ≤ 11) (d0 : 1 ≤ d) (d1 : d ≤ 31) :
    IntKind.i64.wrap ((IntKind.i64.wrap ((IntKind.i64.wrap ((IntKind.i64.wrap ((IntKind.i64.wrap ((IntKind.i64.wrap ((IntKind.i64.wrap ((IntKind.i64.wrap ((IntKind.i64.wrap (Int.tdiv Y 400)) * 146097)) + (IntKind.i64.wrap ((Int.tmod Y 400) * 365)))) + (IntKind.i64.wrap (Int.tdiv (Int.tmod Y 400) 4)))) - (IntKind.i64.wrap (Int.tdiv (Int.tmod Y 400) 100)))) + (IntKind.i64.wrap (Int.tdiv (IntKind.i64.wrap ((IntKind.i64.wrap (153 * M)) + 2)) 5)))) + d)) - 1)) - 719468) = numY Y M d := by
  rw [tmod_nn (x := Y) (by omega), wdiv (x := Y) (by omega) (by omega) (by omega)]
  unfold numY
  have e0 : 0 ≤ Y / 400 := by omega
  have e1 : Y / 400 ≤ 25 := by omega
  have r0 : 0 ≤ Y % 400 := by omega
  have r1 : Y % 400 ≤ 399 := by omega
  generalize Y / 400 = e at *
  generalize Y % 400 = r at *
  have q0 : 0 ≤ r / 4 := by omega
  have q1 : r / 4 ≤ 99 := by omega
  have c0 : 0 ≤ r / 100 := by omega
  have c1 : r / 100 ≤ 3 := by omega
  rw [wdiv (x := r) (c := 4) r0 (by omega) (by omega), wdiv (x := r) (c := 100) r0 (by omega) (by omega), wrap64 (x := 153 * M) (by omega) (by omega), wrap64 (x := 153 * M + 2) (by omega) (by omega), wdiv (x := 153 * M + 2) (c := 5) (by omega) (by omega) (by omega)]
  have v0 : 0 ≤ (153 * M + 2) / 5 := by omega
  have v1 : (153 * M + 2) / 5 ≤ 337 := by omega
  generalize r / 4 = q at *
  generalize r / 100 = c at *
  generalize (153 * M + 2) / 5 = v at *
  rw [wrap64 (x := e * 146097) (by omega) (by omega), wrap64 (x := r * 365) (by omega) (by omega), wrap64 (x := e * 146097 + r * 365) (by omega) (by omega), wrap64 (x := e * 146097 + r * 365 + q) (by omega) (by omega),
    wrap64 (x := e * 146097 + r * 365 + q - c) (by omega) (by omega), wrap64 (x := e * 146097 + r * 365 + q - c + v) (by omega) (by omega), wrap64 (x := e * 146097 + r * 365 + q - c + v + d) (by omega) (by omega), wrap64 (x := e * 146097 + r * 365 + q - c + v + d - 1) (by omega) (by omega)]
  exact wrap64 (by omega) (by omega)
theorem days_core (y m d n : Int) (hn : n = numD y m d) (hy0 : 1970 ≤ y) (hy1 : y ≤ 9999) (hm0 : 1 ≤ m) (hm1 : m ≤ 12) (hd0 : 1 ≤ d) (t : Int × Int × Int) (ht : t = if 0 ≤ n ∧ n ≤ 2932896 then civilS n else (0, 0, 0)) :
    (if t.1 = y then (if t.2.1 = m then (if t.2.2 = d then some n else some (-1)) else some (-1)) else some (-1)) = some (daysS y m d) := by
  unfold daysS
  by_cases hd : d ≤ dim y m
  · obtain ⟨c0, c1, c2⟩ := civil_num y m d hy0 hy1 hm0 hm1 hd0 hd
    rw [← hn] at c0 c1 c2
    rw [if_pos ⟨c0, c1⟩, c2] at ht
    subst ht
    rw [if_pos rfl, if_pos rfl, if_pos rfl, if_pos ⟨hy0, hy1, hm0, hm1, hd0, hd⟩, hn]
  · rw [if_neg (show ¬ (1970 ≤ y ∧ y ≤ 9999 ∧ 1 ≤ m ∧ m ≤ 12 ∧ 1 ≤ d ∧ d ≤ dim y m) from fun h => hd h.2.2.2.2.2)]
    by_cases hr : 0 ≤ n ∧ n ≤ 2932896
    · rw [if_pos hr] at ht
      obtain ⟨y', m', d', hc, _, _, _, _, _, hd', _⟩ := civil_ok n hr.1 hr.2
      rw [hc] at ht
      subst ht
      simp only
      by_cases e1 : y' = y
      · rw [if_pos e1]
        by_cases e2 : m' = m
        · rw [if_pos e2]
          subst e1 e2
          rw [if_neg (fun e3 => hd (by rw [← e3]; exact hd'))]
        · rw [if_neg e2]
      · rw [if_neg e1]
    · rw [if_neg hr] at ht
      subst ht
      simp only
      rw [if_neg (by omega)]
theorem bin_quo {x y : Int} : binV .quo (.int .i64 x) (.int .i64 y) = if y = 0 then none else some (.int .i64 (IntKind.i64.wrap (x.tdiv y))) := by
  by_cases h : y = 0 <;> simp [binV, binI, h]
theorem bin_rem {x y : Int} : binV .rem (.int .i64 x) (.int .i64 y) = if y = 0 then none else some (.int .i64 (x.tmod y)) := by
  by_cases h : y = 0 <;> simp [binV, binI, h]
def civV (t : Int × Int × Int) : V := .tup [.int .i64 t.1, .int .i64 t.2.1, .int .i64 t.2.2]
def civA (day : Int) : Int × Int × Int := if 0 ≤ day ∧ day ≤ 2932896 then civilS day else (0, 0, 0)
theorem Civil_ok {day : Int} : Cf F L i_date_Civil [.int .i64 day] h (Pu h (civV (civA day))) := by
  refine run_date_Civil ?_
  simp only [p_date_Civil]
  by_cases h0 : day < 0
  · have e : civA day = (0, 0, 0) := if_neg (by omega)
    rw [e]
    simp (maxSteps := 4000000) only [vm, vl, Arg.get, cells, stor, boundO, resultsV, resV, partK, loadV, Vm.part, fillC, splice, reduceIte, reduceCtorEq, Nat.reduceEqDiff, Nat.reduceAdd, Nat.reduceSub, Nat.reduceMul, Nat.reduceLeDiff, ne_eq, not_false_eq_true, Int.reduceEq, Int.reduceLT, Int.reduceLE, Int.reduceNeg, Int.reduceToNat, Int.reduceGT, Int.reduceGE, Nat.reduceLT, Nat.lt_add_one, Nat.zero_lt_succ, Nat.succ_pos, Nat.zero_le, beq_self_eq_true, k_date_Civil_1, k_date_Civil_0, h0, decide_true, civV]
  by_cases h1 : day > 2932896
  · have e : civA day = (0, 0, 0) := if_neg (by omega)
    rw [e]
    simp (maxSteps := 4000000) only [vm, vl, Arg.get, cells, stor, boundO, resultsV, resV, partK, loadV, Vm.part, fillC, splice, reduceIte, reduceCtorEq, Nat.reduceEqDiff, Nat.reduceAdd, Nat.reduceSub, Nat.reduceMul, Nat.reduceLeDiff, ne_eq, not_false_eq_true, Int.reduceEq, Int.reduceLT, Int.reduceLE, Int.reduceNeg, Int.reduceToNat, Int.reduceGT, Int.reduceGE, Nat.reduceLT, Nat.lt_add_one, Nat.zero_lt_succ, Nat.succ_pos, Nat.zero_le, beq_self_eq_true, k_date_Civil_1, k_date_Civil_0, h0, h1, decide_true, decide_false, civV]
  have e : civA day = civilS day := if_pos (by omega)
  rw [e]
  have f1 : IntKind.i64.wrap (day + 719468) = day + 719468 := wrap64 (by omega) (by omega)
  have f2 : IntKind.i64.wrap ((day + 719468).tdiv 146097) = (day + 719468) / 146097 := wdiv (by omega) (by omega) (by omega)
  have f3 : (day + 719468).tmod 146097 = (day + 719468) % 146097 := tmod_nn (by omega)
  unfold civilS
  have n0 : 0 ≤ (day + 719468) % 146097 := by omega
  have n1 : (day + 719468) % 146097 < 146097 := by omega
  have e0 : 0 ≤ (day + 719468) / 146097 := by omega
  have e1 : (day + 719468) / 146097 ≤ 100 := by omega
  have g1 := w_years _ n0 n1
  have g2 := w_rest _ n0 n1
  have g3 := w_mon _ n0 n1
  have g4 := w_day _ n0 n1
  obtain ⟨y0, y1, s0, s1⟩ := years_rest _ n0 n1
  obtain ⟨m0, m1⟩ := mon_range _ n0 n1
  have k1 : IntKind.i64.wrap (monS ((day + 719468) % 146097) + 3) = monS ((day + 719468) % 146097) + 3 := wrap64 (by omega) (by omega)
  have k2 : IntKind.i64.wrap (400 * ((day + 719468) / 146097)) = 400 * ((day + 719468) / 146097) := wrap64 (by omega) (by omega)
  have k3 : IntKind.i64.wrap (yearsS ((day + 719468) % 146097) + 400 * ((day + 719468) / 146097)) = yearsS ((day + 719468) % 146097) + 400 * ((day + 719468) / 146097) := wrap64 (by omega) (by omega)
  have k4 : IntKind.i64.wrap (yearsS ((day + 719468) % 146097) + 400 * ((day + 719468) / 146097) + 1) = yearsS ((day + 719468) % 146097) + 400 * ((day + 719468) / 146097) + 1 := wrap64 (by omega) (by omega)
  have k5 : IntKind.i64.wrap (monS ((day + 719468) % 146097) + 3 - 12) = monS ((day + 719468) % 146097) + 3 - 12 := wrap64 (by omega) (by omega)
  by_cases hm : monS ((day + 719468) % 146097) + 3 > 12
  · rw [if_pos hm]
    simp (maxSteps := 4000000) only [vm, vl, Arg.get, cells, stor, boundO, resultsV, resV, partK, loadV, Vm.part, fillC, splice, reduceIte, reduceCtorEq, Nat.reduceEqDiff, Nat.reduceAdd, Nat.reduceSub, Nat.reduceMul, Nat.reduceLeDiff, ne_eq, not_false_eq_true, Int.reduceEq, Int.reduceLT, Int.reduceLE, Int.reduceNeg, Int.reduceToNat, Int.reduceGT, Int.reduceGE, Nat.reduceLT, Nat.lt_add_one, Nat.zero_lt_succ, Nat.succ_pos, Nat.zero_le, beq_self_eq_true, k_date_Civil_1, k_date_Civil_0, h0, h1, decide_true, decide_false, bin_quo, bin_rem, f1, f2, f3, g1, g2, g3, g4, k1, k2, k3, k4, k5, hm, civV]
  · rw [if_neg hm]
    simp (maxSteps := 4000000) only [vm, vl, Arg.get, cells, stor, boundO, resultsV, resV, partK, loadV, Vm.part, fillC, splice, reduceIte, reduceCtorEq, Nat.reduceEqDiff, Nat.reduceAdd, Nat.reduceSub, Nat.reduceMul, Nat.reduceLeDiff, ne_eq, not_false_eq_true, Int.reduceEq, Int.reduceLT, Int.reduceLE, Int.reduceNeg, Int.reduceToNat, Int.reduceGT, Int.reduceGE, Nat.reduceLT, Nat.lt_add_one, Nat.zero_lt_succ, Nat.succ_pos, Nat.zero_le, beq_self_eq_true, k_date_Civil_1, k_date_Civil_0, h0, h1, decide_true, decide_false, bin_quo, bin_rem, f1, f2, f3, g1, g2, g3, g4, k1, k2, k3, k4, k5, hm, civV]
end Go.Proofs.YtdgklgeddbfeaaaDoor.Vh
