/- The reference's find, number, clock, second, two, Format on the small machine. -/
import Derived.Test.YtdgklgeddbfeaaaDoorVRefDate
import Derived.Test.YtdgklgeddbfeaaaDoorVBack2
set_option linter.unusedVariables false
set_option linter.unusedSimpArgs false
namespace Go.Proofs.YtdgklgeddbfeaaaDoor.Vh
open Go.Vm Go.Vt
attribute [local congr] wi_congr wg_congr wgd_congr wb_congr wl_congr cf_congr
variable {L : FuncId → List V → V → Prop} {h : Heap}
def shLs : List Bs := [[77, 111, 110], [84, 117, 101], [87, 101, 100], [84, 104, 117], [70, 114, 105], [83, 97, 116], [83, 117, 110]]
theorem short_ok : Cf F L i_gatepostref02_short [] h (Pu h (.sl 1 .full (shLs.map .str))) := by
  refine run_gatepostref02_short ?_
  simp only [p_gatepostref02_short]
  simp (maxSteps := 4000000) only [vm, vl, Arg.get, cells, stor, reduceIte, List.all_cons, List.all_nil, List.map_cons, List.map_nil, Bool.and_true, Bool.and_self, List.length_cons, List.length_nil, Nat.reduceAdd, decide_true]
  rfl
theorem months_ok : Cf F L i_gatepostref02_months [] h (Pu h (.sl 1 .full (monLs.map .str))) := by
  refine run_gatepostref02_months ?_
  simp only [p_gatepostref02_months]
  simp (maxSteps := 4000000) only [vm, vl, Arg.get, cells, stor, reduceIte, List.all_cons, List.all_nil, List.map_cons, List.map_nil, Bool.and_true, Bool.and_self, List.length_cons, List.length_nil, Nat.reduceAdd, decide_true]
  rfl
def findI (l : List Bs) (s : Bs) : Int := if lpos s l < l.length then (lpos s l : Int) else -1
theorem strs_at {K : V → Heap → Prop} {e : Env} {hh : Heap} {l : List Bs} {o : Own} {i : Nat} (hi : i < l.length) : wi F L (.ixaSl 1 (.c (.sl 1 o (l.map .str))) (.c (.int .i64 i))) e hh K = K (.iptr [.str (l.getD i [])]) hh := by
  rw [ListV.at (es := l.map V.str) (.inr ⟨_, rfl⟩) (by simpa using hi), aggstr_at hi]; rfl
theorem strs_len {K : V → Heap → Prop} {e : Env} {hh : Heap} {l : List Bs} {o : Own} : wi F L (.len 1 (.c (.sl 1 o (l.map .str)))) e hh K = K (.int .i64 l.length) hh := by
  rw [ListV.len (es := l.map V.str) (.inr ⟨_, rfl⟩), List.length_map]
theorem find_ok {l : List Bs} {s : Bs} {o : Own} (hl : l.length ≤ 100) : Cf F L i_gatepostref02_find [.sl 1 o (l.map .str), .str s] h (Pu h (.int .i64 (findI l s))) := by
  refine run_gatepostref02_find ?_
  simp only [p_gatepostref02_find]
  refine l_gatepostref02_find_0 (fun n e h' => ∃ j : Nat, n = l.length - j ∧ j ≤ l.length ∧ e 0 = .sl 1 o (l.map .str) ∧ e 1 = .str s ∧ e 5 = .int .i64 j ∧ h' = h ∧ ∀ i, i < j → l.getD i [] ≠ s) ?_ (n := l.length) ⟨0, by simp, by omega, rfl, rfl, rfl, rfl, by simp⟩
  rintro n e h' ⟨j, rfl, hj, e0, e1, e5, rfl, hn⟩
  simp only [b_gatepostref02_find_0]
  have ln : ∀ (K : V → Heap → Prop) (e : Env) hh, wi F L (.len 1 (.c (.sl 1 o (l.map .str)))) e hh K = K (.int .i64 l.length) hh := fun K e hh => strs_len (L := L)
  by_cases c : j < l.length
  · have c' : (j : Int) < l.length := by omega
    have at_ : ∀ (K : V → Heap → Prop) (e : Env) hh, wi F L (.ixaSl 1 (.c (.sl 1 o (l.map .str))) (.c (.int .i64 j))) e hh K = K (.iptr [.str (l.getD j [])]) hh := fun K e hh => strs_at (L := L) c
    have w1 : IntKind.i64.wrap ((j : Int) + 1) = ((j + 1 : Nat) : Int) := by rw [wrap64 (by omega) (by omega)]; omega
    by_cases q : l.getD j [] = s
    · have ep : findI l s = j := by unfold findI; rw [lpos_at c hn q, if_pos c]
      have q' : (l.getD j [] == s) = true := beq_iff_eq.2 q
      generalize (l.map V.str) = LL at *
      generalize l.getD j [] = X1 at *
      simp (maxSteps := 4000000) only [vm, vl, Arg.get, cells, stor, boundO, resultsV, resV, partK, loadV, Vm.part, fillC, splice, reduceIte, reduceCtorEq, Nat.reduceEqDiff, Nat.reduceAdd, Nat.reduceSub, Nat.reduceMul, Nat.reduceLeDiff, ne_eq, not_false_eq_true, Int.reduceEq, Int.reduceLT, Int.reduceLE, Int.reduceNeg, Int.reduceToNat, Int.reduceGT, Int.reduceGE, Nat.reduceLT, Nat.lt_add_one, Nat.zero_lt_succ, Nat.succ_pos, Nat.zero_le, beq_self_eq_true, k_gatepostref02_find_0, k_gatepostref02_find_2, k_gatepostref02_find_1, e0, e1, e5, ln, c', at_, q', decide_true, ep]
    · have q' : (l.getD j [] == s) = false := by simpa using q
      have nx : ∀ i, i < j + 1 → l.getD i [] ≠ s := fun i hi => by
        rcases Nat.lt_or_ge i j with h | h
        · exact hn i h
        · rw [show i = j by omega]; exact q
      generalize (l.map V.str) = LL at *
      generalize l.getD j [] = X1 at *
      simp (maxSteps := 4000000) only [vm, vl, Arg.get, cells, stor, boundO, resultsV, resV, partK, loadV, Vm.part, fillC, splice, reduceIte, reduceCtorEq, Nat.reduceEqDiff, Nat.reduceAdd, Nat.reduceSub, Nat.reduceMul, Nat.reduceLeDiff, ne_eq, not_false_eq_true, Int.reduceEq, Int.reduceLT, Int.reduceLE, Int.reduceNeg, Int.reduceToNat, Int.reduceGT, Int.reduceGE, Nat.reduceLT, Nat.lt_add_one, Nat.zero_lt_succ, Nat.succ_pos, Nat.zero_le, beq_self_eq_true, k_gatepostref02_find_0, k_gatepostref02_find_2, k_gatepostref02_find_1, e0, e1, e5, ln, c', at_, q', decide_true, w1]
      exact ⟨l.length - (j + 1), by omega, j + 1, rfl, by omega, rfl, nx⟩
  · have c' : ¬ (j : Int) < l.length := by omega
    have ep : findI l s = -1 := by
      unfold findI; rw [lpos_none (fun i hi => hn i (by omega)), if_neg (by omega)]
    generalize (l.map V.str) = LL at *
    simp (maxSteps := 4000000) only [vm, vl, Arg.get, cells, stor, boundO, resultsV, resV, partK, loadV, Vm.part, fillC, splice, reduceIte, reduceCtorEq, Nat.reduceEqDiff, Nat.reduceAdd, Nat.reduceSub, Nat.reduceMul, Nat.reduceLeDiff, ne_eq, not_false_eq_true, Int.reduceEq, Int.reduceLT, Int.reduceLE, Int.reduceNeg, Int.reduceToNat, Int.reduceGT, Int.reduceGE, Nat.reduceLT, Nat.lt_add_one, Nat.zero_lt_succ, Nat.succ_pos, Nat.zero_le, beq_self_eq_true, k_gatepostref02_find_0, k_gatepostref02_find_2, k_gatepostref02_find_1, e0, e1, e5, ln, c', decide_false, ep]
def numN (s : Bs) : Int := if s.all isDig then numV s else -1
theorem numN_ok {s : Bs} (hl : s.length ≤ 4) : Cf F L i_gatepostref02_number [.str s] h (Pu h (.int .i64 (numN s))) := by
  refine run_gatepostref02_number ?_
  simp only [p_gatepostref02_number]
  refine l_gatepostref02_number_0 (fun n e h' => ∃ j : Nat, n = s.length - j ∧ j ≤ s.length ∧ e 0 = .str s ∧ e 3 = .int .i64 (numV (s.take j)) ∧ e 4 = .int .i64 j ∧ h' = h ∧ (s.take j).all isDig = true) ?_ (n := s.length) ⟨0, by simp, by omega, rfl, rfl, rfl, rfl, by simp⟩
  rintro n e h' ⟨j, rfl, hj, e0, e3, e4, rfl, hn⟩
  simp only [b_gatepostref02_number_0]
  by_cases c : j < s.length
  · have c' : (j : Int) < s.length := by omega
    have w1 : IntKind.i64.wrap ((j : Int) + 1) = ((j + 1 : Nat) : Int) := by rw [wrap64 (by omega) (by omega)]; omega
    have tk : s.take (j + 1) = s.take j ++ [s.getD j 0] := by
      rw [List.take_add_one, List.getD_eq_getElem?_getD, List.getElem?_eq_getElem c]; rfl
    have nv := numV_snoc (s.take j) (s.getD j 0)
    have bv := numV_le (s := s.take j) (by simp; omega)
    have dr := dgt_range (s.getD j 0)
    have dw := dgt_wrap (s.getD j 0)
    have w2 : IntKind.i64.wrap (numV (s.take j) * 10) = numV (s.take j) * 10 := wrap64 (by omega) (by omega)
    have w3 : IntKind.i64.wrap (numV (s.take j) * 10 + dgt (s.getD j 0)) = numV (s.take (j + 1)) := by rw [wrap64 (by omega) (by omega), tk, nv]; omega
    have w4 : IntKind.i64.wrap (dgt (s.getD j 0)) = dgt (s.getD j 0) := wrap64 (by omega) (by omega)
    by_cases d : isDig (s.getD j 0) = true
    · have dd := d
      unfold isDig at dd
      rw [decide_eq_true_eq] at dd
      have d1 : ¬ ((s.getD j 0).toNat : Int) < 48 := by omega
      have d2 : ¬ ((s.getD j 0).toNat : Int) > 57 := by omega
      have al : (s.take (j + 1)).all isDig = true := by rw [tk, List.all_append, hn, List.all_cons, List.all_nil, d]; rfl
      generalize hnv1 : numV (s.take (j + 1)) = nv1 at *
      generalize numV (s.take j) = nv0 at *
      simp (maxSteps := 4000000) only [vm, vl, Arg.get, cells, stor, boundO, resultsV, resV, partK, loadV, Vm.part, fillC, splice, reduceIte, reduceCtorEq, Nat.reduceEqDiff, Nat.reduceAdd, Nat.reduceSub, Nat.reduceMul, Nat.reduceLeDiff, ne_eq, not_false_eq_true, Int.reduceEq, Int.reduceLT, Int.reduceLE, Int.reduceNeg, Int.reduceToNat, Int.reduceGT, Int.reduceGE, Nat.reduceLT, Nat.lt_add_one, Nat.zero_lt_succ, Nat.succ_pos, Nat.zero_le, beq_self_eq_true, k_gatepostref02_number_0, k_gatepostref02_number_2, k_gatepostref02_number_3, k_gatepostref02_number_1, e0, e3, e4, c', c, w1, w2, w3, w4, d1, d2, dw, decide_true, decide_false, Bool.not_true]
      exact ⟨s.length - (j + 1), by omega, j + 1, rfl, by omega, by rw [hnv1], rfl, al⟩
    · have ep : numN s = -1 := by
        unfold numN
        rw [if_neg]
        intro h
        rw [List.all_eq_true] at h
        exact d (h _ (by rw [List.getD_eq_getElem?_getD, List.getElem?_eq_getElem c]; simp))
      unfold isDig at d
      rw [decide_eq_true_eq] at d
      by_cases d1 : ((s.getD j 0).toNat : Int) < 48
      · simp (maxSteps := 4000000) only [vm, vl, Arg.get, cells, stor, boundO, resultsV, resV, partK, loadV, Vm.part, fillC, splice, reduceIte, reduceCtorEq, Nat.reduceEqDiff, Nat.reduceAdd, Nat.reduceSub, Nat.reduceMul, Nat.reduceLeDiff, ne_eq, not_false_eq_true, Int.reduceEq, Int.reduceLT, Int.reduceLE, Int.reduceNeg, Int.reduceToNat, Int.reduceGT, Int.reduceGE, Nat.reduceLT, Nat.lt_add_one, Nat.zero_lt_succ, Nat.succ_pos, Nat.zero_le, beq_self_eq_true, k_gatepostref02_number_0, k_gatepostref02_number_2, k_gatepostref02_number_3, k_gatepostref02_number_1, e0, e3, e4, c', c, d1, decide_true, decide_false, Bool.not_true, ep]
      · have d2 : ((s.getD j 0).toNat : Int) > 57 := by omega
        simp (maxSteps := 4000000) only [vm, vl, Arg.get, cells, stor, boundO, resultsV, resV, partK, loadV, Vm.part, fillC, splice, reduceIte, reduceCtorEq, Nat.reduceEqDiff, Nat.reduceAdd, Nat.reduceSub, Nat.reduceMul, Nat.reduceLeDiff, ne_eq, not_false_eq_true, Int.reduceEq, Int.reduceLT, Int.reduceLE, Int.reduceNeg, Int.reduceToNat, Int.reduceGT, Int.reduceGE, Nat.reduceLT, Nat.lt_add_one, Nat.zero_lt_succ, Nat.succ_pos, Nat.zero_le, beq_self_eq_true, k_gatepostref02_number_0, k_gatepostref02_number_2, k_gatepostref02_number_3, k_gatepostref02_number_1, e0, e3, e4, c', c, d1, d2, decide_true, decide_false, Bool.not_true, ep]
  · have c' : ¬ (j : Int) < s.length := by omega
    have : j = s.length := by omega
    subst this
    rw [List.take_length] at hn e3
    have ep : numN s = numV s := by unfold numN; rw [if_pos hn]
    simp (maxSteps := 4000000) only [vm, vl, Arg.get, cells, stor, boundO, resultsV, resV, partK, loadV, Vm.part, fillC, splice, reduceIte, reduceCtorEq, Nat.reduceEqDiff, Nat.reduceAdd, Nat.reduceSub, Nat.reduceMul, Nat.reduceLeDiff, ne_eq, not_false_eq_true, Int.reduceEq, Int.reduceLT, Int.reduceLE, Int.reduceNeg, Int.reduceToNat, Int.reduceGT, Int.reduceGE, Nat.reduceLT, Nat.lt_add_one, Nat.zero_lt_succ, Nat.succ_pos, Nat.zero_le, beq_self_eq_true, k_gatepostref02_number_0, k_gatepostref02_number_2, k_gatepostref02_number_3, k_gatepostref02_number_1, e0, e3, e4, c', decide_false, ep]
theorem numN_le {s : Bs} (hl : s.length ≤ 4) : -1 ≤ numN s ∧ numN s ≤ 283305 := by
  have := numV_le hl
  unfold numN; split <;> omega
def clkN (s : Bs) : Int :=
  if s.length = 8 ∧ s.getD 2 0 = 58 ∧ s.getD 5 0 = 58 ∧ 0 ≤ numN (s.take 2) ∧ numN (s.take 2) ≤ 23 ∧ 0 ≤ numN ((s.take 5).drop 3) ∧ numN ((s.take 5).drop 3) ≤ 59 ∧ 0 ≤ numN (s.drop 6) ∧ numN (s.drop 6) ≤ 60 then
    numN (s.take 2) * 3600 + numN ((s.take 5).drop 3) * 60 + min (numN (s.drop 6)) 59
  else -1
theorem clkN_le (s : Bs) : -1 ≤ clkN s ∧ clkN s ≤ 86399 := by unfold clkN; split <;> omega
theorem clkN_no {s : Bs} {t : Heap} (h1 : ¬ (s.length = 8 ∧ s.getD 2 0 = 58 ∧ s.getD 5 0 = 58 ∧ 0 ≤ numN (s.take 2) ∧ numN (s.take 2) ≤ 23 ∧ 0 ≤ numN ((s.take 5).drop 3) ∧ numN ((s.take 5).drop 3) ≤ 59 ∧ 0 ≤ numN (s.drop 6) ∧ numN (s.drop 6) ≤ 60)) : clkN s = -1 := if_neg h1
theorem u8_ne {a b : UInt8} (h : ¬ a = b) : ¬ ((a.toNat : Int) = (b.toNat : Int)) := fun e => h (UInt8.toNat_inj.1 (by omega))
theorem clkN_ok {s : Bs} (hl : s.length ≤ 100) : Cf F L i_gatepostref02_clock [.str s] h (Pu h (.int .i64 (clkN s))) := by
  refine run_gatepostref02_clock ?_
  simp only [p_gatepostref02_clock]
  by_cases a1 : s.length = 8
  case neg =>
    have c1 : ¬ (s.length : Int) = 8 := by omega
    rw [show clkN s = -1 from if_neg fun h => a1 h.1]
    simp (maxSteps := 4000000) only [vm, vl, Arg.get, cells, stor, boundO, resultsV, resV, partK, loadV, Vm.part, fillC, splice, reduceIte, reduceCtorEq, Nat.reduceEqDiff, Nat.reduceAdd, Nat.reduceSub, Nat.reduceMul, Nat.reduceLeDiff, ne_eq, not_false_eq_true, Int.reduceEq, Int.reduceLT, Int.reduceLE, Int.reduceNeg, Int.reduceToNat, Int.reduceGT, Int.reduceGE, Nat.reduceLT, Nat.lt_add_one, Nat.zero_lt_succ, Nat.succ_pos, Nat.zero_le, beq_self_eq_true, k_gatepostref02_clock_2, k_gatepostref02_clock_1, k_gatepostref02_clock_0, c1, decide_false, decide_true, Bool.not_true, Bool.not_false]
  have c1 : (s.length : Int) = 8 := by omega
  have o1 : 2 < s.length := by omega
  have o2 : 5 < s.length := by omega
  have o3 : 2 ≤ s.length := by omega
  have o4 : 5 ≤ s.length := by omega
  have o5 : 6 ≤ s.length := by omega
  by_cases a2 : s.getD 2 0 = 58
  case neg =>
    have c2 : ¬ ((s.getD 2 0).toNat : Int) = 58 := u8_ne a2
    rw [show clkN s = -1 from if_neg fun h => a2 h.2.1]
    simp (maxSteps := 4000000) only [vm, vl, Arg.get, cells, stor, boundO, resultsV, resV, partK, loadV, Vm.part, fillC, splice, reduceIte, reduceCtorEq, Nat.reduceEqDiff, Nat.reduceAdd, Nat.reduceSub, Nat.reduceMul, Nat.reduceLeDiff, ne_eq, not_false_eq_true, Int.reduceEq, Int.reduceLT, Int.reduceLE, Int.reduceNeg, Int.reduceToNat, Int.reduceGT, Int.reduceGE, Nat.reduceLT, Nat.lt_add_one, Nat.zero_lt_succ, Nat.succ_pos, Nat.zero_le, beq_self_eq_true, k_gatepostref02_clock_2, k_gatepostref02_clock_1, k_gatepostref02_clock_0, c1, c2, o1, o2, decide_false, decide_true, Bool.not_true, Bool.not_false]
  have c2 : ((s.getD 2 0).toNat : Int) = 58 := by rw [a2]; rfl
  by_cases a3 : s.getD 5 0 = 58
  case neg =>
    have c3 : ¬ ((s.getD 5 0).toNat : Int) = 58 := u8_ne a3
    rw [show clkN s = -1 from if_neg fun h => a3 h.2.2.1]
    simp (maxSteps := 4000000) only [vm, vl, Arg.get, cells, stor, boundO, resultsV, resV, partK, loadV, Vm.part, fillC, splice, reduceIte, reduceCtorEq, Nat.reduceEqDiff, Nat.reduceAdd, Nat.reduceSub, Nat.reduceMul, Nat.reduceLeDiff, ne_eq, not_false_eq_true, Int.reduceEq, Int.reduceLT, Int.reduceLE, Int.reduceNeg, Int.reduceToNat, Int.reduceGT, Int.reduceGE, Nat.reduceLT, Nat.lt_add_one, Nat.zero_lt_succ, Nat.succ_pos, Nat.zero_le, beq_self_eq_true, k_gatepostref02_clock_2, k_gatepostref02_clock_1, k_gatepostref02_clock_0, c1, c2, c3, o1, o2, decide_false, decide_true, Bool.not_true, Bool.not_false]
  have c3 : ((s.getD 5 0).toNat : Int) = 58 := by rw [a3]; rfl
  have N1 : ∀ hh, Cf F L i_gatepostref02_number [.str (s.take 2)] hh (Pu hh (.int .i64 (numN (s.take 2)))) := fun hh => numN_ok (by rw [List.length_take]; omega)
  have N2 : ∀ hh, Cf F L i_gatepostref02_number [.str ((s.take 5).drop 3)] hh (Pu hh (.int .i64 (numN ((s.take 5).drop 3)))) := fun hh => numN_ok (by rw [List.length_drop, List.length_take]; omega)
  have N3 : ∀ hh, Cf F L i_gatepostref02_number [.str (s.drop 6)] hh (Pu hh (.int .i64 (numN (s.drop 6)))) := fun hh => numN_ok (by rw [List.length_drop]; omega)
  have e : clkN s = if 0 ≤ numN (s.take 2) ∧ numN (s.take 2) ≤ 23 ∧ 0 ≤ numN ((s.take 5).drop 3) ∧ numN ((s.take 5).drop 3) ≤ 59 ∧ 0 ≤ numN (s.drop 6) ∧ numN (s.drop 6) ≤ 60 then numN (s.take 2) * 3600 + numN ((s.take 5).drop 3) * 60 + min (numN (s.drop 6)) 59 else -1 := by
    unfold clkN; simp only [a1, a2, a3, true_and]
  rw [e]
  generalize numN (s.take 2) = A at *
  generalize numN ((s.take 5).drop 3) = B at *
  generalize numN (s.drop 6) = C at *
  simp (maxSteps := 4000000) only [vm, vl, Arg.get, cells, stor, boundO, resultsV, resV, partK, loadV, Vm.part, fillC, splice, reduceIte, reduceCtorEq, Nat.reduceEqDiff, Nat.reduceAdd, Nat.reduceSub, Nat.reduceMul, Nat.reduceLeDiff, ne_eq, not_false_eq_true, Int.reduceEq, Int.reduceLT, Int.reduceLE, Int.reduceNeg, Int.reduceToNat, Int.reduceGT, Int.reduceGE, Nat.reduceLT, Nat.lt_add_one, Nat.zero_lt_succ, Nat.succ_pos, Nat.zero_le, beq_self_eq_true, k_gatepostref02_clock_2, k_gatepostref02_clock_1, k_gatepostref02_clock_0, List.take_length, c1, c2, c3, o1, o2, o3, o4, o5, decide_false, decide_true, Bool.not_true, Bool.not_false]
  refine Cf.pu (N1 _) fun t1 => ?_
  simp (maxSteps := 4000000) only [vm, vl, Arg.get, cells, stor, boundO, resultsV, resV, partK, loadV, Vm.part, fillC, splice, reduceIte, reduceCtorEq, Nat.reduceEqDiff, Nat.reduceAdd, Nat.reduceSub, Nat.reduceMul, Nat.reduceLeDiff, ne_eq, not_false_eq_true, Int.reduceEq, Int.reduceLT, Int.reduceLE, Int.reduceNeg, Int.reduceToNat, Int.reduceGT, Int.reduceGE, Nat.reduceLT, Nat.lt_add_one, Nat.zero_lt_succ, Nat.succ_pos, Nat.zero_le, beq_self_eq_true, k_gatepostref02_clock_2, k_gatepostref02_clock_1, k_gatepostref02_clock_0, List.take_length, c1, c2, c3, o1, o2, o3, o4, o5, decide_false, decide_true, Bool.not_true, Bool.not_false]
  refine Cf.pu (N2 _) fun t2 => ?_
  simp (maxSteps := 4000000) only [vm, vl, Arg.get, cells, stor, boundO, resultsV, resV, partK, loadV, Vm.part, fillC, splice, reduceIte, reduceCtorEq, Nat.reduceEqDiff, Nat.reduceAdd, Nat.reduceSub, Nat.reduceMul, Nat.reduceLeDiff, ne_eq, not_false_eq_true, Int.reduceEq, Int.reduceLT, Int.reduceLE, Int.reduceNeg, Int.reduceToNat, Int.reduceGT, Int.reduceGE, Nat.reduceLT, Nat.lt_add_one, Nat.zero_lt_succ, Nat.succ_pos, Nat.zero_le, beq_self_eq_true, k_gatepostref02_clock_2, k_gatepostref02_clock_1, k_gatepostref02_clock_0, List.take_length, c1, c2, c3, o1, o2, o3, o4, o5, decide_false, decide_true, Bool.not_true, Bool.not_false]
  refine Cf.pu (N3 _) fun t3 => ?_
  by_cases k1 : A < 0
  · rw [if_neg (by omega)]
    simp (maxSteps := 4000000) only [vm, vl, Arg.get, cells, stor, boundO, resultsV, resV, partK, loadV, Vm.part, fillC, splice, reduceIte, reduceCtorEq, Nat.reduceEqDiff, Nat.reduceAdd, Nat.reduceSub, Nat.reduceMul, Nat.reduceLeDiff, ne_eq, not_false_eq_true, Int.reduceEq, Int.reduceLT, Int.reduceLE, Int.reduceNeg, Int.reduceToNat, Int.reduceGT, Int.reduceGE, Nat.reduceLT, Nat.lt_add_one, Nat.zero_lt_succ, Nat.succ_pos, Nat.zero_le, beq_self_eq_true, k_gatepostref02_clock_2, k_gatepostref02_clock_1, k_gatepostref02_clock_0, k1, decide_true]
  by_cases k2 : A > 23
  · rw [if_neg (by omega)]
    simp (maxSteps := 4000000) only [vm, vl, Arg.get, cells, stor, boundO, resultsV, resV, partK, loadV, Vm.part, fillC, splice, reduceIte, reduceCtorEq, Nat.reduceEqDiff, Nat.reduceAdd, Nat.reduceSub, Nat.reduceMul, Nat.reduceLeDiff, ne_eq, not_false_eq_true, Int.reduceEq, Int.reduceLT, Int.reduceLE, Int.reduceNeg, Int.reduceToNat, Int.reduceGT, Int.reduceGE, Nat.reduceLT, Nat.lt_add_one, Nat.zero_lt_succ, Nat.succ_pos, Nat.zero_le, beq_self_eq_true, k_gatepostref02_clock_2, k_gatepostref02_clock_1, k_gatepostref02_clock_0, k1, k2, decide_true, decide_false]
  by_cases k3 : B < 0
  · rw [if_neg (by omega)]
    simp (maxSteps := 4000000) only [vm, vl, Arg.get, cells, stor, boundO, resultsV, resV, partK, loadV, Vm.part, fillC, splice, reduceIte, reduceCtorEq, Nat.reduceEqDiff, Nat.reduceAdd, Nat.reduceSub, Nat.reduceMul, Nat.reduceLeDiff, ne_eq, not_false_eq_true, Int.reduceEq, Int.reduceLT, Int.reduceLE, Int.reduceNeg, Int.reduceToNat, Int.reduceGT, Int.reduceGE, Nat.reduceLT, Nat.lt_add_one, Nat.zero_lt_succ, Nat.succ_pos, Nat.zero_le, beq_self_eq_true, k_gatepostref02_clock_2, k_gatepostref02_clock_1, k_gatepostref02_clock_0, k1, k2, k3, decide_true, decide_false]
  by_cases k4 : B > 59
  · rw [if_neg (by omega)]
    simp (maxSteps := 4000000) only [vm, vl, Arg.get, cells, stor, boundO, resultsV, resV, partK, loadV, Vm.part, fillC, splice, reduceIte, reduceCtorEq, Nat.reduceEqDiff, Nat.reduceAdd, Nat.reduceSub, Nat.reduceMul, Nat.reduceLeDiff, ne_eq, not_false_eq_true, Int.reduceEq, Int.reduceLT, Int.reduceLE, Int.reduceNeg, Int.reduceToNat, Int.reduceGT, Int.reduceGE, Nat.reduceLT, Nat.lt_add_one, Nat.zero_lt_succ, Nat.succ_pos, Nat.zero_le, beq_self_eq_true, k_gatepostref02_clock_2, k_gatepostref02_clock_1, k_gatepostref02_clock_0, k1, k2, k3, k4, decide_true, decide_false]
  by_cases k5 : C < 0
  · rw [if_neg (by omega)]
    simp (maxSteps := 4000000) only [vm, vl, Arg.get, cells, stor, boundO, resultsV, resV, partK, loadV, Vm.part, fillC, splice, reduceIte, reduceCtorEq, Nat.reduceEqDiff, Nat.reduceAdd, Nat.reduceSub, Nat.reduceMul, Nat.reduceLeDiff, ne_eq, not_false_eq_true, Int.reduceEq, Int.reduceLT, Int.reduceLE, Int.reduceNeg, Int.reduceToNat, Int.reduceGT, Int.reduceGE, Nat.reduceLT, Nat.lt_add_one, Nat.zero_lt_succ, Nat.succ_pos, Nat.zero_le, beq_self_eq_true, k_gatepostref02_clock_2, k_gatepostref02_clock_1, k_gatepostref02_clock_0, k1, k2, k3, k4, k5, decide_true, decide_false]
  by_cases k6 : C > 60
  · rw [if_neg (by omega)]
    simp (maxSteps := 4000000) only [vm, vl, Arg.get, cells, stor, boundO, resultsV, resV, partK, loadV, Vm.part, fillC, splice, reduceIte, reduceCtorEq, Nat.reduceEqDiff, Nat.reduceAdd, Nat.reduceSub, Nat.reduceMul, Nat.reduceLeDiff, ne_eq, not_false_eq_true, Int.reduceEq, Int.reduceLT, Int.reduceLE, Int.reduceNeg, Int.reduceToNat, Int.reduceGT, Int.reduceGE, Nat.reduceLT, Nat.lt_add_one, Nat.zero_lt_succ, Nat.succ_pos, Nat.zero_le, beq_self_eq_true, k_gatepostref02_clock_2, k_gatepostref02_clock_1, k_gatepostref02_clock_0, k1, k2, k3, k4, k5, k6, decide_true, decide_false]
  rw [if_pos (by omega)]
  have w1 : IntKind.i64.wrap (A * 3600) = A * 3600 := wrap64 (by omega) (by omega)
  have w2 : IntKind.i64.wrap (B * 60) = B * 60 := wrap64 (by omega) (by omega)
  have w3 : IntKind.i64.wrap (A * 3600 + B * 60) = A * 3600 + B * 60 := wrap64 (by omega) (by omega)
  by_cases k7 : C = 60
  · subst k7
    have w4 : IntKind.i64.wrap (A * 3600 + B * 60 + 59) = A * 3600 + B * 60 + 59 := wrap64 (by omega) (by omega)
    simp (maxSteps := 4000000) only [vm, vl, Arg.get, cells, stor, boundO, resultsV, resV, partK, loadV, Vm.part, fillC, splice, reduceIte, reduceCtorEq, Nat.reduceEqDiff, Nat.reduceAdd, Nat.reduceSub, Nat.reduceMul, Nat.reduceLeDiff, ne_eq, not_false_eq_true, Int.reduceEq, Int.reduceLT, Int.reduceLE, Int.reduceNeg, Int.reduceToNat, Int.reduceGT, Int.reduceGE, Nat.reduceLT, Nat.lt_add_one, Nat.zero_lt_succ, Nat.succ_pos, Nat.zero_le, beq_self_eq_true, k_gatepostref02_clock_2, k_gatepostref02_clock_1, k_gatepostref02_clock_0, k1, k2, k3, k4, k5, k6, decide_true, decide_false, w1, w2, w3, w4]
    rfl
  · have w4 : IntKind.i64.wrap (A * 3600 + B * 60 + C) = A * 3600 + B * 60 + C := wrap64 (by omega) (by omega)
    have mm : min C 59 = C := by omega
    simp (maxSteps := 4000000) only [vm, vl, Arg.get, cells, stor, boundO, resultsV, resV, partK, loadV, Vm.part, fillC, splice, reduceIte, reduceCtorEq, Nat.reduceEqDiff, Nat.reduceAdd, Nat.reduceSub, Nat.reduceMul, Nat.reduceLeDiff, ne_eq, not_false_eq_true, Int.reduceEq, Int.reduceLT, Int.reduceLE, Int.reduceNeg, Int.reduceToNat, Int.reduceGT, Int.reduceGE, Nat.reduceLT, Nat.lt_add_one, Nat.zero_lt_succ, Nat.succ_pos, Nat.zero_le, beq_self_eq_true, k_gatepostref02_clock_2, k_gatepostref02_clock_1, k_gatepostref02_clock_0, k1, k2, k3, k4, k5, k6, k7, decide_true, decide_false, w1, w2, w3, w4, mm]
def secN (w y m d c : Int) : V := if 0 ≤ daysS y m d ∧ 0 ≤ c ∧ w = (daysS y m d + 3) % 7 then .tup [.int .i64 (daysS y m d * 86400 + c), .bool true] else .tup [.int .i64 0, .bool false]
theorem secN_ok {w y m d c : Int} (hc : c ≤ 86399) : Cf F L i_gatepostref02_second [.int .i64 w, .int .i64 y, .int .i64 m, .int .i64 d, .int .i64 c] h (Pu h (secN w y m d c)) := by
  refine run_gatepostref02_second ?_
  simp only [p_gatepostref02_second]
  refine Cf.pu RDays_ok fun t => ?_
  have dr := daysS_range y m d
  unfold secN
  generalize daysS y m d = n at *
  by_cases a1 : n < 0
  · rw [if_neg (by omega)]
    simp (maxSteps := 4000000) only [vm, vl, Arg.get, cells, stor, boundO, resultsV, resV, partK, loadV, Vm.part, fillC, splice, reduceIte, reduceCtorEq, Nat.reduceEqDiff, Nat.reduceAdd, Nat.reduceSub, Nat.reduceMul, Nat.reduceLeDiff, ne_eq, not_false_eq_true, Int.reduceEq, Int.reduceLT, Int.reduceLE, Int.reduceNeg, Int.reduceToNat, Int.reduceGT, Int.reduceGE, Nat.reduceLT, Nat.lt_add_one, Nat.zero_lt_succ, Nat.succ_pos, Nat.zero_le, beq_self_eq_true, k_gatepostref02_second_0, a1, decide_true, decide_false, Bool.not_true, Bool.not_false]
  by_cases a2 : c < 0
  · rw [if_neg (by omega)]
    simp (maxSteps := 4000000) only [vm, vl, Arg.get, cells, stor, boundO, resultsV, resV, partK, loadV, Vm.part, fillC, splice, reduceIte, reduceCtorEq, Nat.reduceEqDiff, Nat.reduceAdd, Nat.reduceSub, Nat.reduceMul, Nat.reduceLeDiff, ne_eq, not_false_eq_true, Int.reduceEq, Int.reduceLT, Int.reduceLE, Int.reduceNeg, Int.reduceToNat, Int.reduceGT, Int.reduceGE, Nat.reduceLT, Nat.lt_add_one, Nat.zero_lt_succ, Nat.succ_pos, Nat.zero_le, beq_self_eq_true, k_gatepostref02_second_0, a1, a2, decide_true, decide_false, Bool.not_true, Bool.not_false]
  have w1 : IntKind.i64.wrap (n + 3) = n + 3 := wrap64 (by omega) (by omega)
  have t1 : (n + 3).tmod 7 = (n + 3) % 7 := tmod_nn (by omega)
  by_cases a3 : w = (n + 3) % 7
  · rw [if_pos (by omega)]
    have w2 : IntKind.i64.wrap (n * 86400) = n * 86400 := wrap64 (by omega) (by omega)
    have w3 : IntKind.i64.wrap (n * 86400 + c) = n * 86400 + c := wrap64 (by omega) (by omega)
    simp (maxSteps := 4000000) only [vm, vl, Arg.get, cells, stor, boundO, resultsV, resV, partK, loadV, Vm.part, fillC, splice, reduceIte, reduceCtorEq, Nat.reduceEqDiff, Nat.reduceAdd, Nat.reduceSub, Nat.reduceMul, Nat.reduceLeDiff, ne_eq, not_false_eq_true, Int.reduceEq, Int.reduceLT, Int.reduceLE, Int.reduceNeg, Int.reduceToNat, Int.reduceGT, Int.reduceGE, Nat.reduceLT, Nat.lt_add_one, Nat.zero_lt_succ, Nat.succ_pos, Nat.zero_le, beq_self_eq_true, k_gatepostref02_second_0, a1, a2, a3, bin_rem, w1, t1, w2, w3, decide_true, decide_false, Bool.not_true, Bool.not_false]
  · rw [if_neg (by omega)]
    simp (maxSteps := 4000000) only [vm, vl, Arg.get, cells, stor, boundO, resultsV, resV, partK, loadV, Vm.part, fillC, splice, reduceIte, reduceCtorEq, Nat.reduceEqDiff, Nat.reduceAdd, Nat.reduceSub, Nat.reduceMul, Nat.reduceLeDiff, ne_eq, not_false_eq_true, Int.reduceEq, Int.reduceLT, Int.reduceLE, Int.reduceNeg, Int.reduceToNat, Int.reduceGT, Int.reduceGE, Nat.reduceLT, Nat.lt_add_one, Nat.zero_lt_succ, Nat.succ_pos, Nat.zero_le, beq_self_eq_true, k_gatepostref02_second_0, a1, a2, a3, bin_rem, w1, t1, decide_true, decide_false, Bool.not_true, Bool.not_false]
theorem two_cut : ∀ k, k < 10 → (([48, 49, 50, 51, 52, 53, 54, 55, 56, 57] : Bs).take (k + 1)).drop k = [UInt8.ofNat (48 + k)] := by decide +kernel
theorem Rtwo_ok {n : Nat} (hn : n < 100) : Cf F L i_gatepostref02_two [.int .i64 n] h (Pu h (.str (two n))) := by
  refine run_gatepostref02_two ?_
  simp only [p_gatepostref02_two]
  have q1 : IntKind.i64.wrap ((n : Int).tdiv 10) = (n / 10 : Nat) := by rw [wdiv (by omega) (by omega) (by omega)]; omega
  have q2 : (n : Int).tmod 10 = (n % 10 : Nat) := by rw [tmod_nn (by omega)]; omega
  have w1 : IntKind.i64.wrap (((n / 10 : Nat) : Int) + 1) = ((n / 10 + 1 : Nat) : Int) := by rw [wrap64 (by omega) (by omega)]; omega
  have w2 : IntKind.i64.wrap (((n % 10 : Nat) : Int) + 1) = ((n % 10 + 1 : Nat) : Int) := by rw [wrap64 (by omega) (by omega)]; omega
  have c1 := two_cut (n / 10) (by omega)
  have c2 := two_cut (n % 10) (by omega)
  have ha : n / 10 < 10 := by omega
  have hb : n % 10 < 10 := by omega
  have e : two n = [UInt8.ofNat (48 + n / 10)] ++ [UInt8.ofNat (48 + n % 10)] := rfl
  rw [e]
  have b1 : binV .add (.str [UInt8.ofNat (48 + n / 10)]) (.str [UInt8.ofNat (48 + n % 10)]) = some (.str ([UInt8.ofNat (48 + n / 10)] ++ [UInt8.ofNat (48 + n % 10)])) := bin_sadd (by show 1 + 1 ≤ _; omega)
  generalize n / 10 = a at *
  generalize n % 10 = b at *
  have l1 : a ≤ a + 1 := by omega
  have l2 : b ≤ b + 1 := by omega
  have l3 : a + 1 ≤ 10 := by omega
  have l4 : b + 1 ≤ 10 := by omega
  generalize [UInt8.ofNat (48 + a)] = X at *
  generalize [UInt8.ofNat (48 + b)] = Y at *
  have LD : ([48, 49, 50, 51, 52, 53, 54, 55, 56, 57] : Bs).length = 10 := rfl
  generalize ([48, 49, 50, 51, 52, 53, 54, 55, 56, 57] : Bs) = D at *
  simp (maxSteps := 4000000) only [vm, vl, Arg.get, cells, stor, boundO, resultsV, resV, partK, loadV, Vm.part, fillC, splice, reduceIte, reduceCtorEq, Nat.reduceEqDiff, Nat.reduceAdd, Nat.reduceSub, Nat.reduceMul, Nat.reduceLeDiff, ne_eq, not_false_eq_true, Int.reduceEq, Int.reduceLT, Int.reduceLE, Int.reduceNeg, Int.reduceToNat, Int.reduceGT, Int.reduceGE, Nat.reduceLT, Nat.lt_add_one, Nat.zero_lt_succ, Nat.succ_pos, Nat.zero_le, beq_self_eq_true, bin_quo, bin_rem, q1, q2, w1, w2, LD, l1, l2, l3, l4, c1, c2, b1]
end Go.Proofs.YtdgklgeddbfeaaaDoor.Vh
