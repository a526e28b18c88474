/- Package date's reader on the small machine: month, clock, second. -/
import Derived.Test.YtdgklgeddbfeaaaDoorVReader
import Derived.Test.YtdgklgeddbfeaaaDoorVFormat
set_option linter.unusedVariables false
set_option linter.unusedSimpArgs false
namespace Go.Proofs.YtdgklgeddbfeaaaDoor.Vh
open Go.Vm Go.Vt
attribute [local congr] wi_congr wg_congr wgd_congr wb_congr wl_congr cf_congr
variable {L : FuncId → List V → V → Prop} {h : Heap}
/-- A text's first place in a list; the length where it is not. -/
def lpos (x : Bs) (l : List Bs) : Nat := (l.takeWhile (· != x)).length
theorem lpos_cons (x y : Bs) (r : List Bs) : lpos x (y :: r) = if y = x then 0 else lpos x r + 1 := by
  unfold lpos
  rw [List.takeWhile_cons]
  by_cases h : y = x <;> simp [h]
theorem lpos_at {x : Bs} : ∀ {l : List Bs} {i : Nat}, i < l.length → (∀ j, j < i → l.getD j [] ≠ x) → l.getD i [] = x → lpos x l = i
  | y :: r, 0, _, _, h => by rw [lpos_cons, if_pos (by simpa using h)]
  | y :: r, i + 1, hi, hj, h => by
    rw [lpos_cons, if_neg (by simpa using hj 0 (by omega)), lpos_at (by simpa using hi) (fun j hlt => by simpa using hj (j + 1) (by omega)) (by simpa using h)]
  | [], _, hi, _, _ => by simp at hi
theorem lpos_none {x : Bs} : ∀ {l : List Bs}, (∀ j, j < l.length → l.getD j [] ≠ x) → lpos x l = l.length
  | [], _ => rfl
  | y :: r, hj => by
    rw [lpos_cons, if_neg (by simpa using hj 0 (by simp)), lpos_none fun j hlt => by simpa using hj (j + 1) (by simpa using hlt)]; rfl
def monR (r : Rd) : Int × Rd := if lpos (takeR 3 r).1 monLs < 12 then ((lpos (takeR 3 r).1 monLs : Int) + 1, (takeR 3 r).2) else (0, ((takeR 3 r).2.1, false))
theorem month_ok' {id : Nat} {r : Rd} (hb : h[id]? = some (bx r)) (hl : r.1.length < 9223372036854775807) : Cf F L i___gatepost_date_reader__month [.ptr id 0] h (RdP h id (.int .i64 (monR r).1) (monR r).2) := by
  refine run___gatepost_date_reader__month ?_
  simp only [p___gatepost_date_reader__month]
  have hi := rd_len hb
  simp (maxSteps := 4000000) only [vm, vl, Arg.get, cells, stor, boundO, resultsV, resV, partK, loadV, Vm.part, fillC, splice, reduceIte, reduceCtorEq, Nat.reduceEqDiff, Nat.reduceAdd, Nat.reduceSub, Nat.reduceMul, Nat.reduceLeDiff, ne_eq, not_false_eq_true, Int.reduceEq, Int.reduceLT, Int.reduceLE, Int.reduceNeg, Int.reduceToNat, Int.reduceGT, Int.reduceGE, Nat.reduceLT, Nat.lt_add_one, Nat.zero_lt_succ, Nat.succ_pos, Nat.zero_le, beq_self_eq_true, k___gatepost_date_reader__month_0, k___gatepost_date_reader__month_2, k___gatepost_date_reader__month_1]
  refine Cf.rd (take_ok (n := 3) hb (by omega) hl) fun t => ?_
  unfold monR
  generalize takeR 3 r = q at *
  obtain ⟨s, r'⟩ := q
  simp only
  try simp (maxSteps := 4000000) only [vm, vl, Arg.get, cells, stor, boundO, resultsV, resV, partK, loadV, Vm.part, fillC, splice, reduceIte, reduceCtorEq, Nat.reduceEqDiff, Nat.reduceAdd, Nat.reduceSub, Nat.reduceMul, Nat.reduceLeDiff, ne_eq, not_false_eq_true, Int.reduceEq, Int.reduceLT, Int.reduceLE, Int.reduceNeg, Int.reduceToNat, Int.reduceGT, Int.reduceGE, Nat.reduceLT, Nat.lt_add_one, Nat.zero_lt_succ, Nat.succ_pos, Nat.zero_le, beq_self_eq_true, k___gatepost_date_reader__month_0, k___gatepost_date_reader__month_2, k___gatepost_date_reader__month_1]
  refine Cf.pu monthNames_ok fun t1 => ?_
  try simp (maxSteps := 4000000) only [vm, vl, Arg.get, cells, stor, boundO, resultsV, resV, partK, loadV, Vm.part, fillC, splice, reduceIte, reduceCtorEq, Nat.reduceEqDiff, Nat.reduceAdd, Nat.reduceSub, Nat.reduceMul, Nat.reduceLeDiff, ne_eq, not_false_eq_true, Int.reduceEq, Int.reduceLT, Int.reduceLE, Int.reduceNeg, Int.reduceToNat, Int.reduceGT, Int.reduceGE, Nat.reduceLT, Nat.lt_add_one, Nat.zero_lt_succ, Nat.succ_pos, Nat.zero_le, beq_self_eq_true, k___gatepost_date_reader__month_0, k___gatepost_date_reader__month_2, k___gatepost_date_reader__month_1]
  refine l___gatepost_date_reader__month_0 (fun n e h' => ∃ i, n = 12 - i ∧ i ≤ 12 ∧ e 0 = .ptr id 0 ∧ e 3 = .str s ∧ e 8 = .agg (monLs.map .str) ∧ e 9 = .int .i64 i ∧ (∃ t, h' = h.set id (bx r') ++ t) ∧ ∀ j, j < i → monLs.getD j [] ≠ s) ?_ (n := 12) ⟨0, by simp, by simp, rfl, rfl, rfl, rfl, ⟨_, rfl⟩, by simp⟩
  rintro n e h' ⟨i, rfl, hil, e0, e3, e8, e9, ⟨t2, rfl⟩, hj⟩
  simp only [b___gatepost_date_reader__month_0]
  have hb2 : (h.set id (bx r') ++ t2)[id]? = some (O.box [.str r'.1, .bool r'.2]) := rd_at hi
  have z2 : (monLs.map V.str).length = 12 := rfl
  rcases Nat.lt_or_eq_of_le hil with hlt | rfl
  · have hl12 : (i : Int) < 12 := by omega
    have i0 : (0 : Int) ≤ i := by omega
    have i11 : i ≤ 11 := by omega
    have r2 : (monLs.map V.str).getD i (.tup []) = .str (monLs.getD i []) := aggstr_at hlt
    have w := wrap64 (x := (i : Int) + 1) (by omega) (by omega)
    generalize hmv : monLs.map V.str = mvs at *
    by_cases hx : monLs.getD i [] = s
    · have hp : lpos s monLs = i := lpos_at hlt hj hx
      have d : (monLs.getD i [] == s) = true := by simpa using hx
      rw [hp, if_pos hlt]
      simp (maxSteps := 4000000) only [vm, vl, Arg.get, cells, stor, boundO, resultsV, resV, partK, loadV, Vm.part, fillC, splice, reduceIte, reduceCtorEq, Nat.reduceEqDiff, Nat.reduceAdd, Nat.reduceSub, Nat.reduceMul, Nat.reduceLeDiff, ne_eq, not_false_eq_true, Int.reduceEq, Int.reduceLT, Int.reduceLE, Int.reduceNeg, Int.reduceToNat, Int.reduceGT, Int.reduceGE, Nat.reduceLT, Nat.lt_add_one, Nat.zero_lt_succ, Nat.succ_pos, Nat.zero_le, beq_self_eq_true, k___gatepost_date_reader__month_0, k___gatepost_date_reader__month_2, k___gatepost_date_reader__month_1, e0, e3, e8, e9, hl12, i0, i11, z2, r2, w, d, Int.toNat_natCast]
      exact ⟨rfl, t2, rfl⟩
    · have d : (monLs.getD i [] == s) = false := by simpa using hx
      simp (maxSteps := 4000000) only [vm, vl, Arg.get, cells, stor, boundO, resultsV, resV, partK, loadV, Vm.part, fillC, splice, reduceIte, reduceCtorEq, Nat.reduceEqDiff, Nat.reduceAdd, Nat.reduceSub, Nat.reduceMul, Nat.reduceLeDiff, ne_eq, not_false_eq_true, Int.reduceEq, Int.reduceLT, Int.reduceLE, Int.reduceNeg, Int.reduceToNat, Int.reduceGT, Int.reduceGE, Nat.reduceLT, Nat.lt_add_one, Nat.zero_lt_succ, Nat.succ_pos, Nat.zero_le, beq_self_eq_true, k___gatepost_date_reader__month_0, k___gatepost_date_reader__month_2, k___gatepost_date_reader__month_1, e0, e3, e8, e9, hl12, i0, i11, z2, r2, w, d, Int.toNat_natCast]
      refine ⟨12 - (i + 1), by omega, i + 1, rfl, hlt, rfl, ⟨t2, rfl⟩, ?_⟩
      intro j hj'
      rcases Nat.lt_or_ge j i with h1 | h1
      · exact hj j h1
      · have : j = i := by omega
        subst this; exact hx
  · have hp : lpos s monLs = 12 := lpos_none hj
    rw [hp, if_neg (by omega)]
    have hn : ¬ (((12 : Nat) : Int) < 12) := by omega
    simp (maxSteps := 4000000) only [vm, vl, Arg.get, cells, stor, boundO, resultsV, resV, partK, loadV, Vm.part, fillC, splice, reduceIte, reduceCtorEq, Nat.reduceEqDiff, Nat.reduceAdd, Nat.reduceSub, Nat.reduceMul, Nat.reduceLeDiff, ne_eq, not_false_eq_true, Int.reduceEq, Int.reduceLT, Int.reduceLE, Int.reduceNeg, Int.reduceToNat, Int.reduceGT, Int.reduceGE, Nat.reduceLT, Nat.lt_add_one, Nat.zero_lt_succ, Nat.succ_pos, Nat.zero_le, beq_self_eq_true, k___gatepost_date_reader__month_0, k___gatepost_date_reader__month_2, k___gatepost_date_reader__month_1, e0, e3, e8, e9, hn, hb2]
    refine ⟨rfl, t2, ?_⟩
    rw [rd_set hi]; rfl
theorem takeR_rest (n : Nat) (r : Rd) : (takeR n r).2.1.length ≤ r.1.length := by
  unfold takeR; split
  · simp
  · simp only [List.length_drop]; omega
theorem needR_rest (p : Bs) (r : Rd) : (needR p r).1.length ≤ r.1.length := by
  have := takeR_rest p.length r
  unfold needR; split <;> exact this
theorem numR_rest (n : Nat) (r : Rd) : (numR n r).2.1.length ≤ r.1.length := takeR_rest n r
theorem numR_le {n : Nat} (hn : n ≤ 4) (r : Rd) : 0 ≤ (numR n r).1 ∧ (numR n r).1 ≤ 283305 := numV_le (Nat.le_trans (takeR_len n r) hn)
theorem monR_rest (r : Rd) : (monR r).2.1.length ≤ r.1.length := by
  have := takeR_rest 3 r
  unfold monR; split <;> exact this
theorem daysS_range (y m d : Int) : -1 ≤ daysS y m d ∧ daysS y m d ≤ 2932896 := by
  unfold daysS
  split
  · rename_i h
    obtain ⟨h1, h2, _⟩ := civil_num y m d h.1 h.2.1 h.2.2.1 h.2.2.2.1 h.2.2.2.2.1 h.2.2.2.2.2
    omega
  · omega
def secR (r : Rd) (w y m d c : Int) : V := if r.2 = true ∧ r.1 = [] ∧ 0 ≤ daysS y m d ∧ (daysS y m d + 3) % 7 = w then .tup [.int .i64 (daysS y m d * 86400 + c), .bool true] else .tup [.int .i64 0, .bool false]
theorem second_ok {id : Nat} {r : Rd} {w y m d c : Int} (hb : h[id]? = some (bx r)) (c0 : 0 ≤ c) (c1 : c ≤ 100000000000) : Cf F L i___gatepost_date_reader__second [.ptr id 0, .int .i64 w, .int .i64 y, .int .i64 m, .int .i64 d, .int .i64 c] h (Pu h (secR r w y m d c)) := by
  refine run___gatepost_date_reader__second ?_
  simp only [p___gatepost_date_reader__second]
  refine Cf.pu Days_ok fun t => ?_
  obtain ⟨d0, d1⟩ := daysS_range y m d
  unfold secR
  generalize daysS y m d = n at *
  obtain ⟨s, ok⟩ := r
  have hb' : (h ++ t)[id]? = some (O.box [.str s, .bool ok]) := get_old hb
  cases ok with
  | false =>
    rw [if_neg (by rintro ⟨h, _⟩; cases h)]
    simp (maxSteps := 4000000) only [vm, vl, Arg.get, cells, stor, boundO, resultsV, resV, partK, loadV, Vm.part, fillC, splice, reduceIte, reduceCtorEq, Nat.reduceEqDiff, Nat.reduceAdd, Nat.reduceSub, Nat.reduceMul, Nat.reduceLeDiff, ne_eq, not_false_eq_true, Int.reduceEq, Int.reduceLT, Int.reduceLE, Int.reduceNeg, Int.reduceToNat, Int.reduceGT, Int.reduceGE, Nat.reduceLT, Nat.lt_add_one, Nat.zero_lt_succ, Nat.succ_pos, Nat.zero_le, beq_self_eq_true, k___gatepost_date_reader__second_0, hb', Bool.not_false]
  | true =>
  by_cases hs : s = []
  · subst hs
    have ds : (([] : Bs) == []) = true := rfl
    by_cases n0 : n < 0
    · rw [if_neg (by rintro ⟨_, _, h, _⟩; omega)]
      simp (maxSteps := 4000000) only [vm, vl, Arg.get, cells, stor, boundO, resultsV, resV, partK, loadV, Vm.part, fillC, splice, reduceIte, reduceCtorEq, Nat.reduceEqDiff, Nat.reduceAdd, Nat.reduceSub, Nat.reduceMul, Nat.reduceLeDiff, ne_eq, not_false_eq_true, Int.reduceEq, Int.reduceLT, Int.reduceLE, Int.reduceNeg, Int.reduceToNat, Int.reduceGT, Int.reduceGE, Nat.reduceLT, Nat.lt_add_one, Nat.zero_lt_succ, Nat.succ_pos, Nat.zero_le, beq_self_eq_true, k___gatepost_date_reader__second_0, hb', Bool.not_true, ds, n0, decide_true]
    · have w1 : IntKind.i64.wrap (n + 3) = n + 3 := wrap64 (by omega) (by omega)
      have q1 : (n + 3).tmod 7 = (n + 3) % 7 := tmod_nn (by omega)
      have w2 : IntKind.i64.wrap (n * 86400) = n * 86400 := wrap64 (by omega) (by omega)
      have w3 : IntKind.i64.wrap (n * 86400 + c) = n * 86400 + c := wrap64 (by omega) (by omega)
      by_cases hw : (n + 3) % 7 = w
      · rw [if_pos ⟨rfl, rfl, by omega, hw⟩]
        simp (maxSteps := 4000000) only [vm, vl, Arg.get, cells, stor, boundO, resultsV, resV, partK, loadV, Vm.part, fillC, splice, reduceIte, reduceCtorEq, Nat.reduceEqDiff, Nat.reduceAdd, Nat.reduceSub, Nat.reduceMul, Nat.reduceLeDiff, ne_eq, not_false_eq_true, Int.reduceEq, Int.reduceLT, Int.reduceLE, Int.reduceNeg, Int.reduceToNat, Int.reduceGT, Int.reduceGE, Nat.reduceLT, Nat.lt_add_one, Nat.zero_lt_succ, Nat.succ_pos, Nat.zero_le, beq_self_eq_true, k___gatepost_date_reader__second_0, hb', Bool.not_true, ds, n0, decide_false, decide_true, w1, q1, bin_rem, hw, w2, w3]
      · rw [if_neg (by rintro ⟨_, _, _, h⟩; exact hw h)]
        simp (maxSteps := 4000000) only [vm, vl, Arg.get, cells, stor, boundO, resultsV, resV, partK, loadV, Vm.part, fillC, splice, reduceIte, reduceCtorEq, Nat.reduceEqDiff, Nat.reduceAdd, Nat.reduceSub, Nat.reduceMul, Nat.reduceLeDiff, ne_eq, not_false_eq_true, Int.reduceEq, Int.reduceLT, Int.reduceLE, Int.reduceNeg, Int.reduceToNat, Int.reduceGT, Int.reduceGE, Nat.reduceLT, Nat.lt_add_one, Nat.zero_lt_succ, Nat.succ_pos, Nat.zero_le, beq_self_eq_true, k___gatepost_date_reader__second_0, hb', Bool.not_true, Bool.not_false, ds, n0, decide_false, w1, q1, bin_rem, hw]
  · have ds : (s == []) = false := by simpa using hs
    rw [if_neg (by rintro ⟨_, h, _⟩; exact hs h)]
    simp (maxSteps := 4000000) only [vm, vl, Arg.get, cells, stor, boundO, resultsV, resV, partK, loadV, Vm.part, fillC, splice, reduceIte, reduceCtorEq, Nat.reduceEqDiff, Nat.reduceAdd, Nat.reduceSub, Nat.reduceMul, Nat.reduceLeDiff, ne_eq, not_false_eq_true, Int.reduceEq, Int.reduceLT, Int.reduceLE, Int.reduceNeg, Int.reduceToNat, Int.reduceGT, Int.reduceGE, Nat.reduceLT, Nat.lt_add_one, Nat.zero_lt_succ, Nat.succ_pos, Nat.zero_le, beq_self_eq_true, k___gatepost_date_reader__second_0, hb', Bool.not_true, Bool.not_false, ds]
def clkR (r : Rd) : Int × Rd :=
  let q1 := numR 2 r; let r2 := needR [58] q1.2; let q3 := numR 2 r2; let r4 := needR [58] q3.2; let q5 := numR 2 r4
  (q1.1 * 3600 + q3.1 * 60 + min q5.1 59, if q1.1 ≥ 24 ∨ q3.1 ≥ 60 ∨ q5.1 > 60 then (q5.2.1, false) else q5.2)
theorem clock_ok {id : Nat} {r : Rd} (hb : h[id]? = some (bx r)) (hl : r.1.length < 9223372036854775807) : Cf F L i___gatepost_date_reader__clock [.ptr id 0] h (RdP h id (.int .i64 (clkR r).1) (clkR r).2) := by
  refine run___gatepost_date_reader__clock ?_
  simp only [p___gatepost_date_reader__clock]
  have hi := rd_len hb
  have l1 := numR_rest 2 r
  have b1 := numR_le (n := 2) (by omega) r
  refine Cf.rd (number_ok (n := 2) hb (by omega) hl) fun t1 => ?_
  unfold clkR
  generalize numR 2 r = q1 at *
  have l2 := needR_rest [58] q1.2
  refine Cf.rd (need_ok (p := [58]) (rd_at hi) (by simp) (by omega)) fun t2 => ?_
  rw [rd_set hi]
  simp only
  generalize needR [58] q1.2 = r2 at *
  have l3 := numR_rest 2 r2
  have b3 := numR_le (n := 2) (by omega) r2
  rw [List.append_assoc]
  refine Cf.rd (number_ok (n := 2) (rd_at hi) (by omega) (by omega)) fun t3 => ?_
  rw [rd_set hi]
  generalize numR 2 r2 = q3 at *
  have l4 := needR_rest [58] q3.2
  rw [List.append_assoc]
  refine Cf.rd (need_ok (p := [58]) (rd_at hi) (by simp) (by omega)) fun t4 => ?_
  rw [rd_set hi]
  generalize needR [58] q3.2 = r4 at *
  have l5 := numR_rest 2 r4
  have b5 := numR_le (n := 2) (by omega) r4
  rw [List.append_assoc]
  refine Cf.rd (number_ok (n := 2) (rd_at hi) (by omega) (by omega)) fun t5 => ?_
  rw [rd_set hi]
  generalize numR 2 r4 = q5 at *
  obtain ⟨a, x1⟩ := q1; obtain ⟨m, x3⟩ := q3; obtain ⟨c, x5⟩ := q5
  simp only at *
  have w1 : IntKind.i64.wrap (a * 3600) = a * 3600 := wrap64 (by omega) (by omega)
  have w2 : IntKind.i64.wrap (m * 60) = m * 60 := wrap64 (by omega) (by omega)
  have w3 : IntKind.i64.wrap (a * 3600 + m * 60) = a * 3600 + m * 60 := wrap64 (by omega) (by omega)
  have w4 : IntKind.i64.wrap (a * 3600 + m * 60 + min c 59) = a * 3600 + m * 60 + min c 59 := wrap64 (by omega) (by omega)
  have hb2 : ∀ t, (h.set id (bx x5) ++ t)[id]? = some (O.box [.str x5.1, .bool x5.2]) := fun t => rd_at hi
  have fin : ∀ t : Heap, ∃ t', (h.set id (bx x5) ++ t).set id (O.box [.str x5.1, .bool false]) = h.set id (bx (x5.1, false)) ++ t' := fun t => ⟨t, rd_set hi⟩
  by_cases h1 : a ≥ 24
  · rw [if_pos (.inl h1)]
    simp (maxSteps := 4000000) only [vm, vl, Arg.get, cells, stor, boundO, resultsV, resV, partK, loadV, Vm.part, fillC, splice, reduceIte, reduceCtorEq, Nat.reduceEqDiff, Nat.reduceAdd, Nat.reduceSub, Nat.reduceMul, Nat.reduceLeDiff, ne_eq, not_false_eq_true, Int.reduceEq, Int.reduceLT, Int.reduceLE, Int.reduceNeg, Int.reduceToNat, Int.reduceGT, Int.reduceGE, Nat.reduceLT, Nat.lt_add_one, Nat.zero_lt_succ, Nat.succ_pos, Nat.zero_le, beq_self_eq_true, k___gatepost_date_reader__clock_0, h1, decide_true, hb2, w1, w2, w3, w4]
    exact ⟨rfl, fin _⟩
  · by_cases h2 : m ≥ 60
    · rw [if_pos (.inr (.inl h2))]
      simp (maxSteps := 4000000) only [vm, vl, Arg.get, cells, stor, boundO, resultsV, resV, partK, loadV, Vm.part, fillC, splice, reduceIte, reduceCtorEq, Nat.reduceEqDiff, Nat.reduceAdd, Nat.reduceSub, Nat.reduceMul, Nat.reduceLeDiff, ne_eq, not_false_eq_true, Int.reduceEq, Int.reduceLT, Int.reduceLE, Int.reduceNeg, Int.reduceToNat, Int.reduceGT, Int.reduceGE, Nat.reduceLT, Nat.lt_add_one, Nat.zero_lt_succ, Nat.succ_pos, Nat.zero_le, beq_self_eq_true, k___gatepost_date_reader__clock_0, h1, h2, decide_true, decide_false, hb2, w1, w2, w3, w4]
      exact ⟨rfl, fin _⟩
    · by_cases h3 : c > 60
      · rw [if_pos (.inr (.inr h3))]
        simp (maxSteps := 4000000) only [vm, vl, Arg.get, cells, stor, boundO, resultsV, resV, partK, loadV, Vm.part, fillC, splice, reduceIte, reduceCtorEq, Nat.reduceEqDiff, Nat.reduceAdd, Nat.reduceSub, Nat.reduceMul, Nat.reduceLeDiff, ne_eq, not_false_eq_true, Int.reduceEq, Int.reduceLT, Int.reduceLE, Int.reduceNeg, Int.reduceToNat, Int.reduceGT, Int.reduceGE, Nat.reduceLT, Nat.lt_add_one, Nat.zero_lt_succ, Nat.succ_pos, Nat.zero_le, beq_self_eq_true, k___gatepost_date_reader__clock_0, h1, h2, h3, decide_true, decide_false, hb2, w1, w2, w3, w4]
        exact ⟨rfl, fin _⟩
      · rw [if_neg (by rintro (h | h | h) <;> omega)]
        simp (maxSteps := 4000000) only [vm, vl, Arg.get, cells, stor, boundO, resultsV, resV, partK, loadV, Vm.part, fillC, splice, reduceIte, reduceCtorEq, Nat.reduceEqDiff, Nat.reduceAdd, Nat.reduceSub, Nat.reduceMul, Nat.reduceLeDiff, ne_eq, not_false_eq_true, Int.reduceEq, Int.reduceLT, Int.reduceLE, Int.reduceNeg, Int.reduceToNat, Int.reduceGT, Int.reduceGE, Nat.reduceLT, Nat.lt_add_one, Nat.zero_lt_succ, Nat.succ_pos, Nat.zero_le, beq_self_eq_true, k___gatepost_date_reader__clock_0, h1, h2, h3, decide_true, decide_false, hb2, w1, w2, w3, w4]
        exact ⟨rfl, _, rfl⟩
end Go.Proofs.YtdgklgeddbfeaaaDoor.Vh
