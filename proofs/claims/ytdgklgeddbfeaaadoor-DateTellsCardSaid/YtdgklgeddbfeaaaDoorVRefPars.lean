/- The reference's Parse on the small machine. -/
import Derived.Test.YtdgklgeddbfeaaaDoorVRefAll
set_option linter.unusedVariables false
set_option linter.unusedSimpArgs false
namespace Go.Proofs.YtdgklgeddbfeaaaDoor.Vh
open Go.Vm Go.Vt
attribute [local congr] wi_congr wg_congr wgd_congr wb_congr wl_congr cf_congr
variable {L : FuncId → List V → V → Prop} {h : Heap}
theorem findI_le {l : List Bs} {a : Bs} (h : l.length ≤ 100) : -1 ≤ findI l a ∧ findI l a ≤ 100 := by unfold findI; split <;> omega
theorem secN_tup {w y m d c : Int} : ∃ (n : Int) (b : Bool), secN w y m d c = .tup [.int .i64 n, .bool b] := by unfold secN; split <;> exact ⟨_, _, rfl⟩
theorem old7_ok {u0 : Heap} {e : Env} {N0 : Env → Heap → Prop} {w : Nat} {t : Bs} {y : Int} (hl : t.length = 24) (hw : w < 7) (hy : y = yrN (numN ((t.take 11).drop 9))) : k_gatepostref02_Parse_7 L (Pu h (fold w t)) N0 e (.int .i64 w) (.str t) (.int .i64 y) (h ++ u0) := by
  
  unfold k_gatepostref02_Parse_7 fold
  have o1 : 8 ≤ t.length := by omega
  have o2 : 4 ≤ t.length := by omega
  have o3 : 20 ≤ t.length := by omega
  have f1 := findI_le (l := monLs) (a := (t.take 8).drop 5) (by decide)
  have w1 : IntKind.i64.wrap (findI monLs ((t.take 8).drop 5) + 1) = findI monLs ((t.take 8).drop 5) + 1 := wrap64 (by omega) (by omega)
  have l1 : ((t.take 4).drop 2).length ≤ 4 := by rw [seg_len (by omega)]; omega
  have l2 : ((t.take 20).drop 12).length ≤ 100 := by rw [seg_len (by omega)]; omega
  obtain ⟨n, b, et⟩ := secN_tup (w := w) (y := y) (m := findI monLs ((t.take 8).drop 5) + 1) (d := numN ((t.take 4).drop 2)) (c := clkN ((t.take 20).drop 12))
  have S : ∀ hh, Cf F L i_gatepostref02_second [.int .i64 w, .int .i64 y, .int .i64 (findI monLs ((t.take 8).drop 5) + 1), .int .i64 (numN ((t.take 4).drop 2)), .int .i64 (clkN ((t.take 20).drop 12))] hh (Pu hh (.tup [.int .i64 n, .bool b])) := fun hh => by rw [← et]; exact secN_ok (clkN_le _).2
  rw [← hy, et]
  simp (maxSteps := 4000000) only [vm, vl, Arg.get, cells, stor, boundO, resultsV, resV, partK, loadV, Vm.part, fillC, splice, reduceIte, reduceCtorEq, Nat.reduceEqDiff, Nat.reduceAdd, Nat.reduceSub, Nat.reduceMul, Nat.reduceLeDiff, ne_eq, not_false_eq_true, Int.reduceEq, Int.reduceLT, Int.reduceLE, Int.reduceNeg, Int.reduceToNat, Int.reduceGT, Int.reduceGE, Nat.reduceLT, Nat.lt_add_one, Nat.zero_lt_succ, Nat.succ_pos, Nat.zero_le, beq_self_eq_true, o1, o2, o3]
  refine Cf.pu months_ok fun u1 => ?_
  simp (maxSteps := 4000000) only [vm, vl, Arg.get, cells, stor, boundO, resultsV, resV, partK, loadV, Vm.part, fillC, splice, reduceIte, reduceCtorEq, Nat.reduceEqDiff, Nat.reduceAdd, Nat.reduceSub, Nat.reduceMul, Nat.reduceLeDiff, ne_eq, not_false_eq_true, Int.reduceEq, Int.reduceLT, Int.reduceLE, Int.reduceNeg, Int.reduceToNat, Int.reduceGT, Int.reduceGE, Nat.reduceLT, Nat.lt_add_one, Nat.zero_lt_succ, Nat.succ_pos, Nat.zero_le, beq_self_eq_true, o1, o2, o3]
  refine Cf.pu (find_ok (by decide)) fun u2 => ?_
  simp (maxSteps := 4000000) only [vm, vl, Arg.get, cells, stor, boundO, resultsV, resV, partK, loadV, Vm.part, fillC, splice, reduceIte, reduceCtorEq, Nat.reduceEqDiff, Nat.reduceAdd, Nat.reduceSub, Nat.reduceMul, Nat.reduceLeDiff, ne_eq, not_false_eq_true, Int.reduceEq, Int.reduceLT, Int.reduceLE, Int.reduceNeg, Int.reduceToNat, Int.reduceGT, Int.reduceGE, Nat.reduceLT, Nat.lt_add_one, Nat.zero_lt_succ, Nat.succ_pos, Nat.zero_le, beq_self_eq_true, o1, o2, o3, w1]
  refine Cf.pu (numN_ok l1) fun u3 => ?_
  simp (maxSteps := 4000000) only [vm, vl, Arg.get, cells, stor, boundO, resultsV, resV, partK, loadV, Vm.part, fillC, splice, reduceIte, reduceCtorEq, Nat.reduceEqDiff, Nat.reduceAdd, Nat.reduceSub, Nat.reduceMul, Nat.reduceLeDiff, ne_eq, not_false_eq_true, Int.reduceEq, Int.reduceLT, Int.reduceLE, Int.reduceNeg, Int.reduceToNat, Int.reduceGT, Int.reduceGE, Nat.reduceLT, Nat.lt_add_one, Nat.zero_lt_succ, Nat.succ_pos, Nat.zero_le, beq_self_eq_true, o1, o2, o3, w1]
  refine Cf.pu (clkN_ok l2) fun u4 => ?_
  simp (maxSteps := 4000000) only [vm, vl, Arg.get, cells, stor, boundO, resultsV, resV, partK, loadV, Vm.part, fillC, splice, reduceIte, reduceCtorEq, Nat.reduceEqDiff, Nat.reduceAdd, Nat.reduceSub, Nat.reduceMul, Nat.reduceLeDiff, ne_eq, not_false_eq_true, Int.reduceEq, Int.reduceLT, Int.reduceLE, Int.reduceNeg, Int.reduceToNat, Int.reduceGT, Int.reduceGE, Nat.reduceLT, Nat.lt_add_one, Nat.zero_lt_succ, Nat.succ_pos, Nat.zero_le, beq_self_eq_true, o1, o2, o3, w1]
  refine Cf.pu (S _) fun u5 => ?_
  simp (maxSteps := 4000000) only [vm, vl, Arg.get, cells, stor, boundO, resultsV, resV, partK, loadV, Vm.part, fillC, splice, reduceIte, reduceCtorEq, Nat.reduceEqDiff, Nat.reduceAdd, Nat.reduceSub, Nat.reduceMul, Nat.reduceLeDiff, ne_eq, not_false_eq_true, Int.reduceEq, Int.reduceLT, Int.reduceLE, Int.reduceNeg, Int.reduceToNat, Int.reduceGT, Int.reduceGE, Nat.reduceLT, Nat.lt_add_one, Nat.zero_lt_succ, Nat.succ_pos, Nat.zero_le, beq_self_eq_true]
theorem old6_ok {u0 : Heap} {e : Env} {N0 : Env → Heap → Prop} {w : Nat} {t : Bs} (hl : t.length = 24) (hw : w < 7) : k_gatepostref02_Parse_6 L (Pu h (fold w t)) N0 e (.int .i64 w) (.str t) (h ++ u0) := by
  
  unfold k_gatepostref02_Parse_6
  have o1 : 11 ≤ t.length := by omega
  have l1 : ((t.take 11).drop 9).length ≤ 4 := by rw [seg_len (by omega)]; omega
  have nl := numN_le l1
  have P := fun e y hy u => old7_ok (L := L) (h := h) (u0 := u) (N0 := N0) (e := e) (w := w) (t := t) (y := y) hl hw hy
  simp (maxSteps := 4000000) only [vm, vl, Arg.get, cells, stor, boundO, resultsV, resV, partK, loadV, Vm.part, fillC, splice, reduceIte, reduceCtorEq, Nat.reduceEqDiff, Nat.reduceAdd, Nat.reduceSub, Nat.reduceMul, Nat.reduceLeDiff, ne_eq, not_false_eq_true, Int.reduceEq, Int.reduceLT, Int.reduceLE, Int.reduceNeg, Int.reduceToNat, Int.reduceGT, Int.reduceGE, Nat.reduceLT, Nat.lt_add_one, Nat.zero_lt_succ, Nat.succ_pos, Nat.zero_le, beq_self_eq_true, o1]
  refine Cf.pu (numN_ok l1) fun u1 => ?_
  have w1 : IntKind.i64.wrap (numN ((t.take 11).drop 9) + 1900) = numN ((t.take 11).drop 9) + 1900 := wrap64 (by omega) (by omega)
  have w2 : IntKind.i64.wrap (numN ((t.take 11).drop 9) + 2000) = numN ((t.take 11).drop 9) + 2000 := wrap64 (by omega) (by omega)
  by_cases a : numN ((t.take 11).drop 9) ≥ 70
  · simp (maxSteps := 4000000) only [vm, vl, Arg.get, cells, stor, boundO, resultsV, resV, partK, loadV, Vm.part, fillC, splice, reduceIte, reduceCtorEq, Nat.reduceEqDiff, Nat.reduceAdd, Nat.reduceSub, Nat.reduceMul, Nat.reduceLeDiff, ne_eq, not_false_eq_true, Int.reduceEq, Int.reduceLT, Int.reduceLE, Int.reduceNeg, Int.reduceToNat, Int.reduceGT, Int.reduceGE, Nat.reduceLT, Nat.lt_add_one, Nat.zero_lt_succ, Nat.succ_pos, Nat.zero_le, beq_self_eq_true, a, decide_true, w1]
    exact P _ _ (by unfold yrN; rw [if_pos a]) _
  by_cases b : numN ((t.take 11).drop 9) ≥ 0
  · simp (maxSteps := 4000000) only [vm, vl, Arg.get, cells, stor, boundO, resultsV, resV, partK, loadV, Vm.part, fillC, splice, reduceIte, reduceCtorEq, Nat.reduceEqDiff, Nat.reduceAdd, Nat.reduceSub, Nat.reduceMul, Nat.reduceLeDiff, ne_eq, not_false_eq_true, Int.reduceEq, Int.reduceLT, Int.reduceLE, Int.reduceNeg, Int.reduceToNat, Int.reduceGT, Int.reduceGE, Nat.reduceLT, Nat.lt_add_one, Nat.zero_lt_succ, Nat.succ_pos, Nat.zero_le, beq_self_eq_true, a, b, decide_true, decide_false, w2]
    exact P _ _ (by unfold yrN; rw [if_neg a, if_pos b]) _
  · simp (maxSteps := 4000000) only [vm, vl, Arg.get, cells, stor, boundO, resultsV, resV, partK, loadV, Vm.part, fillC, splice, reduceIte, reduceCtorEq, Nat.reduceEqDiff, Nat.reduceAdd, Nat.reduceSub, Nat.reduceMul, Nat.reduceLeDiff, ne_eq, not_false_eq_true, Int.reduceEq, Int.reduceLT, Int.reduceLE, Int.reduceNeg, Int.reduceToNat, Int.reduceGT, Int.reduceGE, Nat.reduceLT, Nat.lt_add_one, Nat.zero_lt_succ, Nat.succ_pos, Nat.zero_le, beq_self_eq_true, a, b, decide_true, decide_false]
    exact P _ _ (by unfold yrN; rw [if_neg a, if_neg b]) _
theorem old5_ok {u0 : Heap} {e : Env} {N0 : Env → Heap → Prop} {w : Nat} {s : Bs} (hw : w < 7) (hc : cO s w) : k_gatepostref02_Parse_5 L (Pu h (dateV (dateS s))) N0 e (.str s) (.int .i64 w) (.int .i64 (dayLs.getD w []).length) (h ++ u0) := by
  
  unfold k_gatepostref02_Parse_5
  obtain ⟨r1, r2⟩ := refO hw hc
  obtain ⟨c1, c2⟩ := hc
  have ll := long_len w hw
  have o1 : (dayLs.getD w []).length ≤ s.length := by omega
  have lt : (s.drop (dayLs.getD w []).length).length = 24 := by rw [List.length_drop]; omega
  generalize dateV (dateS s) = R at *
  generalize hnw : (dayLs.getD w []).length = nw at *
  generalize ht : s.drop nw = t at *
  have P := fun e u => old6_ok (L := L) (h := h) (u0 := u) (N0 := N0) (e := e) (w := w) (t := t) lt hw
  have q1 : 2 ≤ t.length := by omega
  have q2 : 4 < t.length := by omega
  have q3 : 8 < t.length := by omega
  have q4 : 11 < t.length := by omega
  have q5 : 20 ≤ t.length := by omega
  by_cases a1 : t.take 2 = [44, 32]
  case neg =>
    have b1 : (t.take 2 == [44, 32]) = false := beq_eq_false_iff_ne.2 a1
    rw [← r2 (fun h => a1 h.1)]
    simp (maxSteps := 4000000) only [vm, vl, Arg.get, cells, stor, boundO, resultsV, resV, partK, loadV, Vm.part, fillC, splice, reduceIte, reduceCtorEq, Nat.reduceEqDiff, Nat.reduceAdd, Nat.reduceSub, Nat.reduceMul, Nat.reduceLeDiff, ne_eq, not_false_eq_true, Int.reduceEq, Int.reduceLT, Int.reduceLE, Int.reduceNeg, Int.reduceToNat, Int.reduceGT, Int.reduceGE, Nat.reduceLT, Nat.lt_add_one, Nat.zero_lt_succ, Nat.succ_pos, Nat.zero_le, beq_self_eq_true, List.take_length, ht, o1, q1, b1, Bool.not_false]
    rfl
  have b1 : (t.take 2 == [44, 32]) = true := beq_iff_eq.2 a1
  by_cases a2 : t.getD 4 0 = 45
  case neg =>
    have b2 : ¬ ((t.getD 4 0).toNat : Int) = 45 := u8_ne a2
    rw [← r2 (fun h => a2 h.2.1)]
    simp (maxSteps := 4000000) only [vm, vl, Arg.get, cells, stor, boundO, resultsV, resV, partK, loadV, Vm.part, fillC, splice, reduceIte, reduceCtorEq, Nat.reduceEqDiff, Nat.reduceAdd, Nat.reduceSub, Nat.reduceMul, Nat.reduceLeDiff, ne_eq, not_false_eq_true, Int.reduceEq, Int.reduceLT, Int.reduceLE, Int.reduceNeg, Int.reduceToNat, Int.reduceGT, Int.reduceGE, Nat.reduceLT, Nat.lt_add_one, Nat.zero_lt_succ, Nat.succ_pos, Nat.zero_le, beq_self_eq_true, List.take_length, ht, o1, q1, q2, b1, b2, Bool.not_false, Bool.not_true, decide_false]
    rfl
  have b2 : ((t.getD 4 0).toNat : Int) = 45 := by rw [a2]; rfl
  by_cases a3 : t.getD 8 0 = 45
  case neg =>
    have b3 : ¬ ((t.getD 8 0).toNat : Int) = 45 := u8_ne a3
    rw [← r2 (fun h => a3 h.2.2.1)]
    simp (maxSteps := 4000000) only [vm, vl, Arg.get, cells, stor, boundO, resultsV, resV, partK, loadV, Vm.part, fillC, splice, reduceIte, reduceCtorEq, Nat.reduceEqDiff, Nat.reduceAdd, Nat.reduceSub, Nat.reduceMul, Nat.reduceLeDiff, ne_eq, not_false_eq_true, Int.reduceEq, Int.reduceLT, Int.reduceLE, Int.reduceNeg, Int.reduceToNat, Int.reduceGT, Int.reduceGE, Nat.reduceLT, Nat.lt_add_one, Nat.zero_lt_succ, Nat.succ_pos, Nat.zero_le, beq_self_eq_true, List.take_length, ht, o1, q1, q2, q3, b1, b2, b3, Bool.not_false, Bool.not_true, decide_false, decide_true]
    rfl
  have b3 : ((t.getD 8 0).toNat : Int) = 45 := by rw [a3]; rfl
  by_cases a4 : t.getD 11 0 = 32
  case neg =>
    have b4 : ¬ ((t.getD 11 0).toNat : Int) = 32 := u8_ne a4
    rw [← r2 (fun h => a4 h.2.2.2.1)]
    simp (maxSteps := 4000000) only [vm, vl, Arg.get, cells, stor, boundO, resultsV, resV, partK, loadV, Vm.part, fillC, splice, reduceIte, reduceCtorEq, Nat.reduceEqDiff, Nat.reduceAdd, Nat.reduceSub, Nat.reduceMul, Nat.reduceLeDiff, ne_eq, not_false_eq_true, Int.reduceEq, Int.reduceLT, Int.reduceLE, Int.reduceNeg, Int.reduceToNat, Int.reduceGT, Int.reduceGE, Nat.reduceLT, Nat.lt_add_one, Nat.zero_lt_succ, Nat.succ_pos, Nat.zero_le, beq_self_eq_true, List.take_length, ht, o1, q1, q2, q3, q4, b1, b2, b3, b4, Bool.not_false, Bool.not_true, decide_false, decide_true]
    rfl
  have b4 : ((t.getD 11 0).toNat : Int) = 32 := by rw [a4]; rfl
  by_cases a5 : t.drop 20 = [32, 71, 77, 84]
  case neg =>
    have b5 : (t.drop 20 == [32, 71, 77, 84]) = false := beq_eq_false_iff_ne.2 a5
    rw [← r2 (fun h => a5 h.2.2.2.2)]
    simp (maxSteps := 4000000) only [vm, vl, Arg.get, cells, stor, boundO, resultsV, resV, partK, loadV, Vm.part, fillC, splice, reduceIte, reduceCtorEq, Nat.reduceEqDiff, Nat.reduceAdd, Nat.reduceSub, Nat.reduceMul, Nat.reduceLeDiff, ne_eq, not_false_eq_true, Int.reduceEq, Int.reduceLT, Int.reduceLE, Int.reduceNeg, Int.reduceToNat, Int.reduceGT, Int.reduceGE, Nat.reduceLT, Nat.lt_add_one, Nat.zero_lt_succ, Nat.succ_pos, Nat.zero_le, beq_self_eq_true, List.take_length, ht, o1, q1, q2, q3, q4, q5, b1, b2, b3, b4, b5, Bool.not_false, Bool.not_true, decide_false, decide_true]
    rfl
  have b5 : (t.drop 20 == [32, 71, 77, 84]) = true := beq_iff_eq.2 a5
  rw [r1 ⟨a1, a2, a3, a4, a5⟩] at P
  simp (maxSteps := 4000000) only [vm, vl, Arg.get, cells, stor, boundO, resultsV, resV, partK, loadV, Vm.part, fillC, splice, reduceIte, reduceCtorEq, Nat.reduceEqDiff, Nat.reduceAdd, Nat.reduceSub, Nat.reduceMul, Nat.reduceLeDiff, ne_eq, not_false_eq_true, Int.reduceEq, Int.reduceLT, Int.reduceLE, Int.reduceNeg, Int.reduceToNat, Int.reduceGT, Int.reduceGE, Nat.reduceLT, Nat.lt_add_one, Nat.zero_lt_succ, Nat.succ_pos, Nat.zero_le, beq_self_eq_true, List.take_length, ht, o1, q1, q2, q3, q4, q5, b1, b2, b3, b4, b5, Bool.not_false, Bool.not_true, decide_false, decide_true]
  exact P _ _
theorem loop_ok {u0 : Heap} {e : Env} {s : Bs} (hl : s.length < 9223372036854775807) (e0 : e 0 = .str s) (hN : (∀ w, w < 7 → ¬ cO s w) → failV = dateV (dateS s)) : k_gatepostref02_Parse_1 L (Pu h (dateV (dateS s))) e (h ++ u0) := by
  
  unfold k_gatepostref02_Parse_1
  have eL : ([.str [77, 111, 110, 100, 97, 121], .str [84, 117, 101, 115, 100, 97, 121], .str [87, 101, 100, 110, 101, 115, 100, 97, 121], .str [84, 104, 117, 114, 115, 100, 97, 121], .str [70, 114, 105, 100, 97, 121], .str [83, 97, 116, 117, 114, 100, 97, 121], .str [83, 117, 110, 100, 97, 121]] : List V) = dayLs.map .str := rfl
  simp (maxSteps := 4000000) only [vm, vl, Arg.get, cells, stor, reduceIte, List.all_cons, List.all_nil, List.map_cons, List.map_nil, Bool.and_true, Bool.and_self, List.length_cons, List.length_nil, Nat.reduceAdd, decide_true]
  refine l_gatepostref02_Parse_0 (fun n e h' => ∃ j : Nat, n = 7 - j ∧ j ≤ 7 ∧ e 0 = .str s ∧ e 5 = .sl 1 .full (dayLs.map .str) ∧ e 6 = .int .i64 j ∧ (∃ u, h' = h ++ u) ∧ ∀ i, i < j → ¬ cO s i) ?_ (n := 7) ⟨0, rfl, by omega, e0, rfl, rfl, ⟨u0, rfl⟩, by simp⟩
  rintro n e h' ⟨j, rfl, hj, e0, e5, e6, ⟨u, rfl⟩, hn⟩
  simp only [b_gatepostref02_Parse_0]
  by_cases h7 : j < 7
  · have h7' : (j : Int) < 7 := by omega
    have r1 : (dayLs.map V.str).getD j (.tup []) = .str (dayLs.getD j []) := aggstr_at h7
    have z1 : (dayLs.map V.str).length = 7 := rfl
    have i0 : (0 : Int) ≤ j := by omega
    have w1 : IntKind.i64.wrap ((j : Int) + 1) = ((j + 1 : Nat) : Int) := by rw [wrap64 (by omega) (by omega)]; omega
    have ll := long_len j h7
    have w2 : IntKind.i64.wrap (((dayLs.getD j []).length : Int) + 24) = ((dayLs.getD j []).length + 24 : Nat) := by rw [wrap64 (by omega) (by omega)]; omega
    have nx : ¬ cO s j → ∀ i, i < j + 1 → ¬ cO s i := fun hc i hi => by
      rcases Nat.lt_or_ge i j with h | h
      · exact hn i h
      · rw [show i = j by omega]; exact hc
    by_cases hc : cO s j
    · have P := fun e N0 u => old5_ok (L := L) (h := h) (u0 := u) (N0 := N0) (e := e) h7 hc
      obtain ⟨c1, c2⟩ := hc
      have c1' : (s.length : Int) = ((dayLs.getD j []).length + 24 : Nat) := by omega
      have c2' : (s.take (dayLs.getD j []).length == dayLs.getD j []) = true := beq_iff_eq.2 c2
      have o1 : (dayLs.getD j []).length ≤ s.length := by omega
      generalize (dayLs.map V.str) = LL at *
      generalize dayLs.getD j [] = X1 at *
      simp (maxSteps := 4000000) only [vm, vl, Arg.get, cells, stor, boundO, resultsV, resV, partK, loadV, Vm.part, fillC, splice, reduceIte, reduceCtorEq, Nat.reduceEqDiff, Nat.reduceAdd, Nat.reduceSub, Nat.reduceMul, Nat.reduceLeDiff, ne_eq, not_false_eq_true, Int.reduceEq, Int.reduceLT, Int.reduceLE, Int.reduceNeg, Int.reduceToNat, Int.reduceGT, Int.reduceGE, Nat.reduceLT, Nat.lt_add_one, Nat.zero_lt_succ, Nat.succ_pos, Nat.zero_le, beq_self_eq_true, e0, e5, e6, h7', h7, r1, z1, i0, decide_true, k_gatepostref02_Parse_3, w2, c1', c2', o1, Bool.not_true]
      exact P _ _ _
    · by_cases c1 : s.length = (dayLs.getD j []).length + 24
      · have c2 : ¬ s.take (dayLs.getD j []).length = dayLs.getD j [] := fun e => hc ⟨c1, e⟩
        have c1' : (s.length : Int) = ((dayLs.getD j []).length + 24 : Nat) := by omega
        have c2' : (s.take (dayLs.getD j []).length == dayLs.getD j []) = false := beq_eq_false_iff_ne.2 c2
        have o1 : (dayLs.getD j []).length ≤ s.length := by omega
        generalize (dayLs.map V.str) = LL at *
        generalize dayLs.getD j [] = X1 at *
        simp (maxSteps := 4000000) only [vm, vl, Arg.get, cells, stor, boundO, resultsV, resV, partK, loadV, Vm.part, fillC, splice, reduceIte, reduceCtorEq, Nat.reduceEqDiff, Nat.reduceAdd, Nat.reduceSub, Nat.reduceMul, Nat.reduceLeDiff, ne_eq, not_false_eq_true, Int.reduceEq, Int.reduceLT, Int.reduceLE, Int.reduceNeg, Int.reduceToNat, Int.reduceGT, Int.reduceGE, Nat.reduceLT, Nat.lt_add_one, Nat.zero_lt_succ, Nat.succ_pos, Nat.zero_le, beq_self_eq_true, e0, e5, e6, h7', h7, r1, z1, i0, decide_true, k_gatepostref02_Parse_3, k_gatepostref02_Parse_4, w1, w2, c1', c2', o1, Bool.not_true, Bool.not_false]
        exact ⟨7 - (j + 1), by omega, j + 1, rfl, by omega, rfl, ⟨_, rfl⟩, nx hc⟩
      · have c1' : ¬ (s.length : Int) = ((dayLs.getD j []).length + 24 : Nat) := by omega
        generalize (dayLs.map V.str) = LL at *
        generalize dayLs.getD j [] = X1 at *
        simp (maxSteps := 4000000) only [vm, vl, Arg.get, cells, stor, boundO, resultsV, resV, partK, loadV, Vm.part, fillC, splice, reduceIte, reduceCtorEq, Nat.reduceEqDiff, Nat.reduceAdd, Nat.reduceSub, Nat.reduceMul, Nat.reduceLeDiff, ne_eq, not_false_eq_true, Int.reduceEq, Int.reduceLT, Int.reduceLE, Int.reduceNeg, Int.reduceToNat, Int.reduceGT, Int.reduceGE, Nat.reduceLT, Nat.lt_add_one, Nat.zero_lt_succ, Nat.succ_pos, Nat.zero_le, beq_self_eq_true, e0, e5, e6, h7', h7, r1, z1, i0, decide_true, decide_false, k_gatepostref02_Parse_3, k_gatepostref02_Parse_4, w1, w2, c1', Bool.not_true, Bool.not_false]
        exact ⟨7 - (j + 1), by omega, j + 1, rfl, by omega, rfl, ⟨_, rfl⟩, nx hc⟩
  · have h7' : ¬ (j : Int) < 7 := by omega
    rw [← hN (fun w hw => hn w (by omega))]
    simp (maxSteps := 4000000) only [vm, vl, Arg.get, cells, stor, boundO, resultsV, resV, partK, loadV, Vm.part, fillC, splice, reduceIte, reduceCtorEq, Nat.reduceEqDiff, Nat.reduceAdd, Nat.reduceSub, Nat.reduceMul, Nat.reduceLeDiff, ne_eq, not_false_eq_true, Int.reduceEq, Int.reduceLT, Int.reduceLE, Int.reduceNeg, Int.reduceToNat, Int.reduceGT, Int.reduceGE, Nat.reduceLT, Nat.lt_add_one, Nat.zero_lt_succ, Nat.succ_pos, Nat.zero_le, beq_self_eq_true, e0, e5, e6, h7', decide_false, k_gatepostref02_Parse_2]
    rfl
theorem p8_ok {u0 : Heap} {e : Env} {s : Bs} (hl : s.length = 24) : k_gatepostref02_Parse_8 L (Pu h (f24 s)) e (.str s) (.str (dayP s)) (h ++ u0) := by
  
  unfold k_gatepostref02_Parse_8 f24
  have o1 : 3 ≤ s.length := by omega
  have o2 : 20 ≤ s.length := by omega
  have o3 : 7 ≤ s.length := by omega
  have o4 : 19 ≤ s.length := by omega
  have f0 := findI_le (l := shLs) (a := s.take 3) (by decide)
  have f1 := findI_le (l := monLs) (a := (s.take 7).drop 4) (by decide)
  have w1 : IntKind.i64.wrap (findI monLs ((s.take 7).drop 4) + 1) = findI monLs ((s.take 7).drop 4) + 1 := wrap64 (by omega) (by omega)
  have l1 : (s.drop 20).length ≤ 4 := by rw [List.length_drop]; omega
  have l2 : (dayP s).length ≤ 4 := by
    have : ((s.take 10).drop 8).length = 2 := seg_len (by omega)
    unfold dayP; split
    · rw [List.length_drop]; omega
    · omega
  have l3 : ((s.take 19).drop 11).length ≤ 100 := by rw [seg_len (by omega)]; omega
  obtain ⟨n, b, et⟩ := secN_tup (w := findI shLs (s.take 3)) (y := numN (s.drop 20)) (m := findI monLs ((s.take 7).drop 4) + 1) (d := numN (dayP s)) (c := clkN ((s.take 19).drop 11))
  have S : ∀ hh, Cf F L i_gatepostref02_second [.int .i64 (findI shLs (s.take 3)), .int .i64 (numN (s.drop 20)), .int .i64 (findI monLs ((s.take 7).drop 4) + 1), .int .i64 (numN (dayP s)), .int .i64 (clkN ((s.take 19).drop 11))] hh (Pu hh (.tup [.int .i64 n, .bool b])) := fun hh => by rw [← et]; exact secN_ok (clkN_le _).2
  rw [et]
  simp (maxSteps := 4000000) only [vm, vl, Arg.get, cells, stor, boundO, resultsV, resV, partK, loadV, Vm.part, fillC, splice, reduceIte, reduceCtorEq, Nat.reduceEqDiff, Nat.reduceAdd, Nat.reduceSub, Nat.reduceMul, Nat.reduceLeDiff, ne_eq, not_false_eq_true, Int.reduceEq, Int.reduceLT, Int.reduceLE, Int.reduceNeg, Int.reduceToNat, Int.reduceGT, Int.reduceGE, Nat.reduceLT, Nat.lt_add_one, Nat.zero_lt_succ, Nat.succ_pos, Nat.zero_le, beq_self_eq_true, List.take_length, o1, o2, o3, o4]
  refine Cf.pu short_ok fun u1 => ?_
  simp (maxSteps := 4000000) only [vm, vl, Arg.get, cells, stor, boundO, resultsV, resV, partK, loadV, Vm.part, fillC, splice, reduceIte, reduceCtorEq, Nat.reduceEqDiff, Nat.reduceAdd, Nat.reduceSub, Nat.reduceMul, Nat.reduceLeDiff, ne_eq, not_false_eq_true, Int.reduceEq, Int.reduceLT, Int.reduceLE, Int.reduceNeg, Int.reduceToNat, Int.reduceGT, Int.reduceGE, Nat.reduceLT, Nat.lt_add_one, Nat.zero_lt_succ, Nat.succ_pos, Nat.zero_le, beq_self_eq_true, List.take_length, o1, o2, o3, o4, w1]
  refine Cf.pu (find_ok (by decide)) fun u2 => ?_
  simp (maxSteps := 4000000) only [vm, vl, Arg.get, cells, stor, boundO, resultsV, resV, partK, loadV, Vm.part, fillC, splice, reduceIte, reduceCtorEq, Nat.reduceEqDiff, Nat.reduceAdd, Nat.reduceSub, Nat.reduceMul, Nat.reduceLeDiff, ne_eq, not_false_eq_true, Int.reduceEq, Int.reduceLT, Int.reduceLE, Int.reduceNeg, Int.reduceToNat, Int.reduceGT, Int.reduceGE, Nat.reduceLT, Nat.lt_add_one, Nat.zero_lt_succ, Nat.succ_pos, Nat.zero_le, beq_self_eq_true, List.take_length, o1, o2, o3, o4, w1]
  refine Cf.pu (numN_ok l1) fun u3 => ?_
  simp (maxSteps := 4000000) only [vm, vl, Arg.get, cells, stor, boundO, resultsV, resV, partK, loadV, Vm.part, fillC, splice, reduceIte, reduceCtorEq, Nat.reduceEqDiff, Nat.reduceAdd, Nat.reduceSub, Nat.reduceMul, Nat.reduceLeDiff, ne_eq, not_false_eq_true, Int.reduceEq, Int.reduceLT, Int.reduceLE, Int.reduceNeg, Int.reduceToNat, Int.reduceGT, Int.reduceGE, Nat.reduceLT, Nat.lt_add_one, Nat.zero_lt_succ, Nat.succ_pos, Nat.zero_le, beq_self_eq_true, List.take_length, o1, o2, o3, o4, w1]
  refine Cf.pu months_ok fun u4 => ?_
  simp (maxSteps := 4000000) only [vm, vl, Arg.get, cells, stor, boundO, resultsV, resV, partK, loadV, Vm.part, fillC, splice, reduceIte, reduceCtorEq, Nat.reduceEqDiff, Nat.reduceAdd, Nat.reduceSub, Nat.reduceMul, Nat.reduceLeDiff, ne_eq, not_false_eq_true, Int.reduceEq, Int.reduceLT, Int.reduceLE, Int.reduceNeg, Int.reduceToNat, Int.reduceGT, Int.reduceGE, Nat.reduceLT, Nat.lt_add_one, Nat.zero_lt_succ, Nat.succ_pos, Nat.zero_le, beq_self_eq_true, List.take_length, o1, o2, o3, o4, w1]
  refine Cf.pu (find_ok (by decide)) fun u5 => ?_
  simp (maxSteps := 4000000) only [vm, vl, Arg.get, cells, stor, boundO, resultsV, resV, partK, loadV, Vm.part, fillC, splice, reduceIte, reduceCtorEq, Nat.reduceEqDiff, Nat.reduceAdd, Nat.reduceSub, Nat.reduceMul, Nat.reduceLeDiff, ne_eq, not_false_eq_true, Int.reduceEq, Int.reduceLT, Int.reduceLE, Int.reduceNeg, Int.reduceToNat, Int.reduceGT, Int.reduceGE, Nat.reduceLT, Nat.lt_add_one, Nat.zero_lt_succ, Nat.succ_pos, Nat.zero_le, beq_self_eq_true, List.take_length, o1, o2, o3, o4, w1]
  refine Cf.pu (numN_ok l2) fun u6 => ?_
  simp (maxSteps := 4000000) only [vm, vl, Arg.get, cells, stor, boundO, resultsV, resV, partK, loadV, Vm.part, fillC, splice, reduceIte, reduceCtorEq, Nat.reduceEqDiff, Nat.reduceAdd, Nat.reduceSub, Nat.reduceMul, Nat.reduceLeDiff, ne_eq, not_false_eq_true, Int.reduceEq, Int.reduceLT, Int.reduceLE, Int.reduceNeg, Int.reduceToNat, Int.reduceGT, Int.reduceGE, Nat.reduceLT, Nat.lt_add_one, Nat.zero_lt_succ, Nat.succ_pos, Nat.zero_le, beq_self_eq_true, List.take_length, o1, o2, o3, o4, w1]
  refine Cf.pu (clkN_ok l3) fun u7 => ?_
  simp (maxSteps := 4000000) only [vm, vl, Arg.get, cells, stor, boundO, resultsV, resV, partK, loadV, Vm.part, fillC, splice, reduceIte, reduceCtorEq, Nat.reduceEqDiff, Nat.reduceAdd, Nat.reduceSub, Nat.reduceMul, Nat.reduceLeDiff, ne_eq, not_false_eq_true, Int.reduceEq, Int.reduceLT, Int.reduceLE, Int.reduceNeg, Int.reduceToNat, Int.reduceGT, Int.reduceGE, Nat.reduceLT, Nat.lt_add_one, Nat.zero_lt_succ, Nat.succ_pos, Nat.zero_le, beq_self_eq_true, List.take_length, o1, o2, o3, o4, w1]
  refine Cf.pu (S _) fun u8 => ?_
  simp (maxSteps := 4000000) only [vm, vl, Arg.get, cells, stor, boundO, resultsV, resV, partK, loadV, Vm.part, fillC, splice, reduceIte, reduceCtorEq, Nat.reduceEqDiff, Nat.reduceAdd, Nat.reduceSub, Nat.reduceMul, Nat.reduceLeDiff, ne_eq, not_false_eq_true, Int.reduceEq, Int.reduceLT, Int.reduceLE, Int.reduceNeg, Int.reduceToNat, Int.reduceGT, Int.reduceGE, Nat.reduceLT, Nat.lt_add_one, Nat.zero_lt_succ, Nat.succ_pos, Nat.zero_le, beq_self_eq_true]
theorem p0_ok {e : Env} {s : Bs} (hl : s.length < 9223372036854775807) (e0 : e 0 = .str s) (h29 : ¬ c29 s) : k_gatepostref02_Parse_0 L (Pu h (dateV (dateS s))) e (.str s) h := by
  
  unfold k_gatepostref02_Parse_0
  have P := fun e e0 h24 => loop_ok (L := L) (h := h) (u0 := []) (e := e) hl e0 (fun hw => refN h29 h24 hw)
  simp only [List.append_nil] at P
  by_cases a0 : s.length = 24
  case neg =>
    have b0 : ¬ (s.length : Int) = 24 := by omega
    simp (maxSteps := 4000000) only [vm, vl, Arg.get, cells, stor, boundO, resultsV, resV, partK, loadV, Vm.part, fillC, splice, reduceIte, reduceCtorEq, Nat.reduceEqDiff, Nat.reduceAdd, Nat.reduceSub, Nat.reduceMul, Nat.reduceLeDiff, ne_eq, not_false_eq_true, Int.reduceEq, Int.reduceLT, Int.reduceLE, Int.reduceNeg, Int.reduceToNat, Int.reduceGT, Int.reduceGE, Nat.reduceLT, Nat.lt_add_one, Nat.zero_lt_succ, Nat.succ_pos, Nat.zero_le, beq_self_eq_true, b0, decide_false]
    exact P _ (by simp [upd, e0]) (fun c => a0 c.1)
  have b0 : (s.length : Int) = 24 := by omega
  have o1 : 3 < s.length := by omega
  by_cases a1 : s.getD 3 0 = 32
  case neg =>
    have b1 : ¬ ((s.getD 3 0).toNat : Int) = 32 := u8_ne a1
    simp (maxSteps := 4000000) only [vm, vl, Arg.get, cells, stor, boundO, resultsV, resV, partK, loadV, Vm.part, fillC, splice, reduceIte, reduceCtorEq, Nat.reduceEqDiff, Nat.reduceAdd, Nat.reduceSub, Nat.reduceMul, Nat.reduceLeDiff, ne_eq, not_false_eq_true, Int.reduceEq, Int.reduceLT, Int.reduceLE, Int.reduceNeg, Int.reduceToNat, Int.reduceGT, Int.reduceGE, Nat.reduceLT, Nat.lt_add_one, Nat.zero_lt_succ, Nat.succ_pos, Nat.zero_le, beq_self_eq_true, b0, o1, b1, decide_false, decide_true]
    exact P _ (by simp [upd, e0]) (fun c => a1 c.2.1)
  have b1 : ((s.getD 3 0).toNat : Int) = 32 := by rw [a1]; rfl
  have o2 : 7 < s.length := by omega
  by_cases a2 : s.getD 7 0 = 32
  case neg =>
    have b2 : ¬ ((s.getD 7 0).toNat : Int) = 32 := u8_ne a2
    simp (maxSteps := 4000000) only [vm, vl, Arg.get, cells, stor, boundO, resultsV, resV, partK, loadV, Vm.part, fillC, splice, reduceIte, reduceCtorEq, Nat.reduceEqDiff, Nat.reduceAdd, Nat.reduceSub, Nat.reduceMul, Nat.reduceLeDiff, ne_eq, not_false_eq_true, Int.reduceEq, Int.reduceLT, Int.reduceLE, Int.reduceNeg, Int.reduceToNat, Int.reduceGT, Int.reduceGE, Nat.reduceLT, Nat.lt_add_one, Nat.zero_lt_succ, Nat.succ_pos, Nat.zero_le, beq_self_eq_true, b0, o1, b1, o2, b2, decide_false, decide_true]
    exact P _ (by simp [upd, e0]) (fun c => a2 c.2.2.1)
  have b2 : ((s.getD 7 0).toNat : Int) = 32 := by rw [a2]; rfl
  have o3 : 10 < s.length := by omega
  by_cases a3 : s.getD 10 0 = 32
  case neg =>
    have b3 : ¬ ((s.getD 10 0).toNat : Int) = 32 := u8_ne a3
    simp (maxSteps := 4000000) only [vm, vl, Arg.get, cells, stor, boundO, resultsV, resV, partK, loadV, Vm.part, fillC, splice, reduceIte, reduceCtorEq, Nat.reduceEqDiff, Nat.reduceAdd, Nat.reduceSub, Nat.reduceMul, Nat.reduceLeDiff, ne_eq, not_false_eq_true, Int.reduceEq, Int.reduceLT, Int.reduceLE, Int.reduceNeg, Int.reduceToNat, Int.reduceGT, Int.reduceGE, Nat.reduceLT, Nat.lt_add_one, Nat.zero_lt_succ, Nat.succ_pos, Nat.zero_le, beq_self_eq_true, b0, o1, b1, o2, b2, o3, b3, decide_false, decide_true]
    exact P _ (by simp [upd, e0]) (fun c => a3 c.2.2.2.1)
  have b3 : ((s.getD 10 0).toNat : Int) = 32 := by rw [a3]; rfl
  have o4 : 19 < s.length := by omega
  by_cases a4 : s.getD 19 0 = 32
  case neg =>
    have b4 : ¬ ((s.getD 19 0).toNat : Int) = 32 := u8_ne a4
    simp (maxSteps := 4000000) only [vm, vl, Arg.get, cells, stor, boundO, resultsV, resV, partK, loadV, Vm.part, fillC, splice, reduceIte, reduceCtorEq, Nat.reduceEqDiff, Nat.reduceAdd, Nat.reduceSub, Nat.reduceMul, Nat.reduceLeDiff, ne_eq, not_false_eq_true, Int.reduceEq, Int.reduceLT, Int.reduceLE, Int.reduceNeg, Int.reduceToNat, Int.reduceGT, Int.reduceGE, Nat.reduceLT, Nat.lt_add_one, Nat.zero_lt_succ, Nat.succ_pos, Nat.zero_le, beq_self_eq_true, b0, o1, b1, o2, b2, o3, b3, o4, b4, decide_false, decide_true]
    exact P _ (by simp [upd, e0]) (fun c => a4 c.2.2.2.2)
  have b4 : ((s.getD 19 0).toNat : Int) = 32 := by rw [a4]; rfl
  rw [← ref24 ⟨a0, a1, a2, a3, a4⟩]
  have o5 : 10 ≤ s.length := by omega
  have ld : ((s.take 10).drop 8).length = 2 := seg_len (by omega)
  have o6 : 0 < ((s.take 10).drop 8).length := by omega
  have o7 : 1 ≤ ((s.take 10).drop 8).length := by omega
  have P8 := fun e => p8_ok (L := L) (h := h) (u0 := []) (e := e) (s := s) a0
  simp only [List.append_nil] at P8
  by_cases d : ((s.take 10).drop 8).getD 0 0 = 32
  · have d' : ((((s.take 10).drop 8).getD 0 0).toNat : Int) = 32 := by rw [d]; rfl
    have ed : dayP s = ((s.take 10).drop 8).drop 1 := by unfold dayP; rw [if_pos d]
    rw [ed] at P8
    generalize hD : (s.take 10).drop 8 = D at *
    simp (maxSteps := 4000000) only [vm, vl, Arg.get, cells, stor, boundO, resultsV, resV, partK, loadV, Vm.part, fillC, splice, reduceIte, reduceCtorEq, Nat.reduceEqDiff, Nat.reduceAdd, Nat.reduceSub, Nat.reduceMul, Nat.reduceLeDiff, ne_eq, not_false_eq_true, Int.reduceEq, Int.reduceLT, Int.reduceLE, Int.reduceNeg, Int.reduceToNat, Int.reduceGT, Int.reduceGE, Nat.reduceLT, Nat.lt_add_one, Nat.zero_lt_succ, Nat.succ_pos, Nat.zero_le, beq_self_eq_true, b0, o1, b1, o2, b2, o3, b3, o4, b4, o5, o6, o7, hD, d', List.take_length, decide_false, decide_true]
    exact P8 _
  · have d' : ¬ ((((s.take 10).drop 8).getD 0 0).toNat : Int) = 32 := u8_ne d
    have ed : dayP s = (s.take 10).drop 8 := by unfold dayP; rw [if_neg d]
    rw [ed] at P8
    generalize hD : (s.take 10).drop 8 = D at *
    simp (maxSteps := 4000000) only [vm, vl, Arg.get, cells, stor, boundO, resultsV, resV, partK, loadV, Vm.part, fillC, splice, reduceIte, reduceCtorEq, Nat.reduceEqDiff, Nat.reduceAdd, Nat.reduceSub, Nat.reduceMul, Nat.reduceLeDiff, ne_eq, not_false_eq_true, Int.reduceEq, Int.reduceLT, Int.reduceLE, Int.reduceNeg, Int.reduceToNat, Int.reduceGT, Int.reduceGE, Nat.reduceLT, Nat.lt_add_one, Nat.zero_lt_succ, Nat.succ_pos, Nat.zero_le, beq_self_eq_true, b0, o1, b1, o2, b2, o3, b3, o4, b4, o5, o6, o7, hD, d', List.take_length, decide_false, decide_true]
    exact P8 _
theorem RParseN_ok {s : Bs} (hl : s.length < 9223372036854775807) (hc : ¬ c29 s) : Cf F L i_gatepostref02_Parse [.str s] h (Pu h (dateV (dateS s))) := by
  refine run_gatepostref02_Parse ?_
  simp only [p_gatepostref02_Parse]
  
  have P := fun e e0 h29 => p0_ok (L := L) (h := h) (e := e) hl e0 h29
  by_cases a0 : s.length = 29
  case neg =>
    have b0 : ¬ (s.length : Int) = 29 := by omega
    simp (maxSteps := 4000000) only [vm, vl, Arg.get, cells, stor, boundO, resultsV, resV, partK, loadV, Vm.part, fillC, splice, reduceIte, reduceCtorEq, Nat.reduceEqDiff, Nat.reduceAdd, Nat.reduceSub, Nat.reduceMul, Nat.reduceLeDiff, ne_eq, not_false_eq_true, Int.reduceEq, Int.reduceLT, Int.reduceLE, Int.reduceNeg, Int.reduceToNat, Int.reduceGT, Int.reduceGE, Nat.reduceLT, Nat.lt_add_one, Nat.zero_lt_succ, Nat.succ_pos, Nat.zero_le, beq_self_eq_true, b0, decide_false]
    exact P _ (by simp [upd, enterE]) (fun c => a0 c.1)
  have b0 : (s.length : Int) = 29 := by omega
  have o1 : 5 ≤ s.length := by omega
  have o2 : 7 < s.length := by omega
  have o3 : 11 < s.length := by omega
  have o4 : 16 < s.length := by omega
  have o5 : 25 ≤ s.length := by omega
  by_cases a1 : (s.take 5).drop 3 = [44, 32]
  case neg =>
    have b1 : ((s.take 5).drop 3 == [44, 32]) = false := beq_eq_false_iff_ne.2 a1
    simp (maxSteps := 4000000) only [vm, vl, Arg.get, cells, stor, boundO, resultsV, resV, partK, loadV, Vm.part, fillC, splice, reduceIte, reduceCtorEq, Nat.reduceEqDiff, Nat.reduceAdd, Nat.reduceSub, Nat.reduceMul, Nat.reduceLeDiff, ne_eq, not_false_eq_true, Int.reduceEq, Int.reduceLT, Int.reduceLE, Int.reduceNeg, Int.reduceToNat, Int.reduceGT, Int.reduceGE, Nat.reduceLT, Nat.lt_add_one, Nat.zero_lt_succ, Nat.succ_pos, Nat.zero_le, beq_self_eq_true, b0, o1, o2, o3, o4, o5, List.take_length, b1, decide_false, decide_true]
    exact P _ (by simp [upd, enterE]) (fun c => a1 c.2.1)
  have b1 : ((s.take 5).drop 3 == [44, 32]) = true := beq_iff_eq.2 a1
  by_cases a2 : s.getD 7 0 = 32
  case neg =>
    have b2 : ¬ ((s.getD 7 0).toNat : Int) = 32 := u8_ne a2
    simp (maxSteps := 4000000) only [vm, vl, Arg.get, cells, stor, boundO, resultsV, resV, partK, loadV, Vm.part, fillC, splice, reduceIte, reduceCtorEq, Nat.reduceEqDiff, Nat.reduceAdd, Nat.reduceSub, Nat.reduceMul, Nat.reduceLeDiff, ne_eq, not_false_eq_true, Int.reduceEq, Int.reduceLT, Int.reduceLE, Int.reduceNeg, Int.reduceToNat, Int.reduceGT, Int.reduceGE, Nat.reduceLT, Nat.lt_add_one, Nat.zero_lt_succ, Nat.succ_pos, Nat.zero_le, beq_self_eq_true, b0, o1, o2, o3, o4, o5, List.take_length, b1, b2, decide_false, decide_true]
    exact P _ (by simp [upd, enterE]) (fun c => a2 c.2.2.1)
  have b2 : ((s.getD 7 0).toNat : Int) = 32 := by rw [a2]; rfl
  by_cases a3 : s.getD 11 0 = 32
  case neg =>
    have b3 : ¬ ((s.getD 11 0).toNat : Int) = 32 := u8_ne a3
    simp (maxSteps := 4000000) only [vm, vl, Arg.get, cells, stor, boundO, resultsV, resV, partK, loadV, Vm.part, fillC, splice, reduceIte, reduceCtorEq, Nat.reduceEqDiff, Nat.reduceAdd, Nat.reduceSub, Nat.reduceMul, Nat.reduceLeDiff, ne_eq, not_false_eq_true, Int.reduceEq, Int.reduceLT, Int.reduceLE, Int.reduceNeg, Int.reduceToNat, Int.reduceGT, Int.reduceGE, Nat.reduceLT, Nat.lt_add_one, Nat.zero_lt_succ, Nat.succ_pos, Nat.zero_le, beq_self_eq_true, b0, o1, o2, o3, o4, o5, List.take_length, b1, b2, b3, decide_false, decide_true]
    exact P _ (by simp [upd, enterE]) (fun c => a3 c.2.2.2.1)
  have b3 : ((s.getD 11 0).toNat : Int) = 32 := by rw [a3]; rfl
  by_cases a4 : s.getD 16 0 = 32
  case neg =>
    have b4 : ¬ ((s.getD 16 0).toNat : Int) = 32 := u8_ne a4
    simp (maxSteps := 4000000) only [vm, vl, Arg.get, cells, stor, boundO, resultsV, resV, partK, loadV, Vm.part, fillC, splice, reduceIte, reduceCtorEq, Nat.reduceEqDiff, Nat.reduceAdd, Nat.reduceSub, Nat.reduceMul, Nat.reduceLeDiff, ne_eq, not_false_eq_true, Int.reduceEq, Int.reduceLT, Int.reduceLE, Int.reduceNeg, Int.reduceToNat, Int.reduceGT, Int.reduceGE, Nat.reduceLT, Nat.lt_add_one, Nat.zero_lt_succ, Nat.succ_pos, Nat.zero_le, beq_self_eq_true, b0, o1, o2, o3, o4, o5, List.take_length, b1, b2, b3, b4, decide_false, decide_true]
    exact P _ (by simp [upd, enterE]) (fun c => a4 c.2.2.2.2.1)
  have b4 : ((s.getD 16 0).toNat : Int) = 32 := by rw [a4]; rfl
  by_cases a5 : s.drop 25 = [32, 71, 77, 84]
  case neg =>
    have b5 : (s.drop 25 == [32, 71, 77, 84]) = false := beq_eq_false_iff_ne.2 a5
    simp (maxSteps := 4000000) only [vm, vl, Arg.get, cells, stor, boundO, resultsV, resV, partK, loadV, Vm.part, fillC, splice, reduceIte, reduceCtorEq, Nat.reduceEqDiff, Nat.reduceAdd, Nat.reduceSub, Nat.reduceMul, Nat.reduceLeDiff, ne_eq, not_false_eq_true, Int.reduceEq, Int.reduceLT, Int.reduceLE, Int.reduceNeg, Int.reduceToNat, Int.reduceGT, Int.reduceGE, Nat.reduceLT, Nat.lt_add_one, Nat.zero_lt_succ, Nat.succ_pos, Nat.zero_le, beq_self_eq_true, b0, o1, o2, o3, o4, o5, List.take_length, b1, b2, b3, b4, b5, decide_false, decide_true]
    exact P _ (by simp [upd, enterE]) (fun c => a5 c.2.2.2.2.2)
  have b5 : (s.drop 25 == [32, 71, 77, 84]) = true := beq_iff_eq.2 a5
  exact absurd ⟨a0, a1, a2, a3, a4, a5⟩ hc
theorem RParse29_ok {s : Bs} (hc : c29 s) : Cf F L i_gatepostref02_Parse [.str s] h (Pu h (f29 s)) := by
  refine run_gatepostref02_Parse ?_
  simp only [p_gatepostref02_Parse]
  
  obtain ⟨a0, a1, a2, a3, a4, a5⟩ := hc
  have b0 : (s.length : Int) = 29 := by omega
  have o1 : 5 ≤ s.length := by omega
  have o2 : 7 < s.length := by omega
  have o3 : 11 < s.length := by omega
  have o4 : 16 < s.length := by omega
  have o5 : 25 ≤ s.length := by omega
  have b1 : ((s.take 5).drop 3 == [44, 32]) = true := beq_iff_eq.2 a1
  have b2 : ((s.getD 7 0).toNat : Int) = 32 := by rw [a2]; rfl
  have b3 : ((s.getD 11 0).toNat : Int) = 32 := by rw [a3]; rfl
  have b4 : ((s.getD 16 0).toNat : Int) = 32 := by rw [a4]; rfl
  have b5 : (s.drop 25 == [32, 71, 77, 84]) = true := beq_iff_eq.2 a5
  unfold f29
  have q1 : 3 ≤ s.length := by omega
  have q2 : 16 ≤ s.length := by omega
  have q3 : 11 ≤ s.length := by omega
  have q4 : 7 ≤ s.length := by omega
  have f0 := findI_le (l := shLs) (a := s.take 3) (by decide)
  have f1 := findI_le (l := monLs) (a := (s.take 11).drop 8) (by decide)
  have w1 : IntKind.i64.wrap (findI monLs ((s.take 11).drop 8) + 1) = findI monLs ((s.take 11).drop 8) + 1 := wrap64 (by omega) (by omega)
  have l1 : ((s.take 16).drop 12).length ≤ 4 := by rw [seg_len (by omega)]; omega
  have l2 : ((s.take 7).drop 5).length ≤ 4 := by rw [seg_len (by omega)]; omega
  have l3 : ((s.take 25).drop 17).length ≤ 100 := by rw [seg_len (by omega)]; omega
  obtain ⟨n, b, et⟩ := secN_tup (w := findI shLs (s.take 3)) (y := numN ((s.take 16).drop 12)) (m := findI monLs ((s.take 11).drop 8) + 1) (d := numN ((s.take 7).drop 5)) (c := clkN ((s.take 25).drop 17))
  have S : ∀ hh, Cf F L i_gatepostref02_second [.int .i64 (findI shLs (s.take 3)), .int .i64 (numN ((s.take 16).drop 12)), .int .i64 (findI monLs ((s.take 11).drop 8) + 1), .int .i64 (numN ((s.take 7).drop 5)), .int .i64 (clkN ((s.take 25).drop 17))] hh (Pu hh (.tup [.int .i64 n, .bool b])) := fun hh => by rw [← et]; exact secN_ok (clkN_le _).2
  rw [et]
  simp (maxSteps := 4000000) only [vm, vl, Arg.get, cells, stor, boundO, resultsV, resV, partK, loadV, Vm.part, fillC, splice, reduceIte, reduceCtorEq, Nat.reduceEqDiff, Nat.reduceAdd, Nat.reduceSub, Nat.reduceMul, Nat.reduceLeDiff, ne_eq, not_false_eq_true, Int.reduceEq, Int.reduceLT, Int.reduceLE, Int.reduceNeg, Int.reduceToNat, Int.reduceGT, Int.reduceGE, Nat.reduceLT, Nat.lt_add_one, Nat.zero_lt_succ, Nat.succ_pos, Nat.zero_le, beq_self_eq_true, b0, o1, o2, o3, o4, o5, List.take_length, b1, b2, b3, b4, b5, q1, q2, q3, q4, w1, decide_true]
  refine Cf.pu short_ok fun u1 => ?_
  simp (maxSteps := 4000000) only [vm, vl, Arg.get, cells, stor, boundO, resultsV, resV, partK, loadV, Vm.part, fillC, splice, reduceIte, reduceCtorEq, Nat.reduceEqDiff, Nat.reduceAdd, Nat.reduceSub, Nat.reduceMul, Nat.reduceLeDiff, ne_eq, not_false_eq_true, Int.reduceEq, Int.reduceLT, Int.reduceLE, Int.reduceNeg, Int.reduceToNat, Int.reduceGT, Int.reduceGE, Nat.reduceLT, Nat.lt_add_one, Nat.zero_lt_succ, Nat.succ_pos, Nat.zero_le, beq_self_eq_true, b0, o1, o2, o3, o4, o5, List.take_length, b1, b2, b3, b4, b5, q1, q2, q3, q4, w1, decide_true]
  refine Cf.pu (find_ok (by decide)) fun u2 => ?_
  simp (maxSteps := 4000000) only [vm, vl, Arg.get, cells, stor, boundO, resultsV, resV, partK, loadV, Vm.part, fillC, splice, reduceIte, reduceCtorEq, Nat.reduceEqDiff, Nat.reduceAdd, Nat.reduceSub, Nat.reduceMul, Nat.reduceLeDiff, ne_eq, not_false_eq_true, Int.reduceEq, Int.reduceLT, Int.reduceLE, Int.reduceNeg, Int.reduceToNat, Int.reduceGT, Int.reduceGE, Nat.reduceLT, Nat.lt_add_one, Nat.zero_lt_succ, Nat.succ_pos, Nat.zero_le, beq_self_eq_true, b0, o1, o2, o3, o4, o5, List.take_length, b1, b2, b3, b4, b5, q1, q2, q3, q4, w1, decide_true]
  refine Cf.pu (numN_ok l1) fun u3 => ?_
  simp (maxSteps := 4000000) only [vm, vl, Arg.get, cells, stor, boundO, resultsV, resV, partK, loadV, Vm.part, fillC, splice, reduceIte, reduceCtorEq, Nat.reduceEqDiff, Nat.reduceAdd, Nat.reduceSub, Nat.reduceMul, Nat.reduceLeDiff, ne_eq, not_false_eq_true, Int.reduceEq, Int.reduceLT, Int.reduceLE, Int.reduceNeg, Int.reduceToNat, Int.reduceGT, Int.reduceGE, Nat.reduceLT, Nat.lt_add_one, Nat.zero_lt_succ, Nat.succ_pos, Nat.zero_le, beq_self_eq_true, b0, o1, o2, o3, o4, o5, List.take_length, b1, b2, b3, b4, b5, q1, q2, q3, q4, w1, decide_true]
  refine Cf.pu months_ok fun u4 => ?_
  simp (maxSteps := 4000000) only [vm, vl, Arg.get, cells, stor, boundO, resultsV, resV, partK, loadV, Vm.part, fillC, splice, reduceIte, reduceCtorEq, Nat.reduceEqDiff, Nat.reduceAdd, Nat.reduceSub, Nat.reduceMul, Nat.reduceLeDiff, ne_eq, not_false_eq_true, Int.reduceEq, Int.reduceLT, Int.reduceLE, Int.reduceNeg, Int.reduceToNat, Int.reduceGT, Int.reduceGE, Nat.reduceLT, Nat.lt_add_one, Nat.zero_lt_succ, Nat.succ_pos, Nat.zero_le, beq_self_eq_true, b0, o1, o2, o3, o4, o5, List.take_length, b1, b2, b3, b4, b5, q1, q2, q3, q4, w1, decide_true]
  refine Cf.pu (find_ok (by decide)) fun u5 => ?_
  simp (maxSteps := 4000000) only [vm, vl, Arg.get, cells, stor, boundO, resultsV, resV, partK, loadV, Vm.part, fillC, splice, reduceIte, reduceCtorEq, Nat.reduceEqDiff, Nat.reduceAdd, Nat.reduceSub, Nat.reduceMul, Nat.reduceLeDiff, ne_eq, not_false_eq_true, Int.reduceEq, Int.reduceLT, Int.reduceLE, Int.reduceNeg, Int.reduceToNat, Int.reduceGT, Int.reduceGE, Nat.reduceLT, Nat.lt_add_one, Nat.zero_lt_succ, Nat.succ_pos, Nat.zero_le, beq_self_eq_true, b0, o1, o2, o3, o4, o5, List.take_length, b1, b2, b3, b4, b5, q1, q2, q3, q4, w1, decide_true]
  refine Cf.pu (numN_ok l2) fun u6 => ?_
  simp (maxSteps := 4000000) only [vm, vl, Arg.get, cells, stor, boundO, resultsV, resV, partK, loadV, Vm.part, fillC, splice, reduceIte, reduceCtorEq, Nat.reduceEqDiff, Nat.reduceAdd, Nat.reduceSub, Nat.reduceMul, Nat.reduceLeDiff, ne_eq, not_false_eq_true, Int.reduceEq, Int.reduceLT, Int.reduceLE, Int.reduceNeg, Int.reduceToNat, Int.reduceGT, Int.reduceGE, Nat.reduceLT, Nat.lt_add_one, Nat.zero_lt_succ, Nat.succ_pos, Nat.zero_le, beq_self_eq_true, b0, o1, o2, o3, o4, o5, List.take_length, b1, b2, b3, b4, b5, q1, q2, q3, q4, w1, decide_true]
  refine Cf.pu (clkN_ok l3) fun u7 => ?_
  simp (maxSteps := 4000000) only [vm, vl, Arg.get, cells, stor, boundO, resultsV, resV, partK, loadV, Vm.part, fillC, splice, reduceIte, reduceCtorEq, Nat.reduceEqDiff, Nat.reduceAdd, Nat.reduceSub, Nat.reduceMul, Nat.reduceLeDiff, ne_eq, not_false_eq_true, Int.reduceEq, Int.reduceLT, Int.reduceLE, Int.reduceNeg, Int.reduceToNat, Int.reduceGT, Int.reduceGE, Nat.reduceLT, Nat.lt_add_one, Nat.zero_lt_succ, Nat.succ_pos, Nat.zero_le, beq_self_eq_true, b0, o1, o2, o3, o4, o5, List.take_length, b1, b2, b3, b4, b5, q1, q2, q3, q4, w1, decide_true]
  refine Cf.pu (S _) fun u8 => ?_
  simp (maxSteps := 4000000) only [vm, vl, Arg.get, cells, stor, boundO, resultsV, resV, partK, loadV, Vm.part, fillC, splice, reduceIte, reduceCtorEq, Nat.reduceEqDiff, Nat.reduceAdd, Nat.reduceSub, Nat.reduceMul, Nat.reduceLeDiff, ne_eq, not_false_eq_true, Int.reduceEq, Int.reduceLT, Int.reduceLE, Int.reduceNeg, Int.reduceToNat, Int.reduceGT, Int.reduceGE, Nat.reduceLT, Nat.lt_add_one, Nat.zero_lt_succ, Nat.succ_pos, Nat.zero_le, beq_self_eq_true, b0, o1, o2, o3, o4, o5, List.take_length, b1, b2, b3, b4, b5, q1, q2, q3, q4, w1, decide_true]
theorem RParse_ok {s : Bs} (hl : s.length < 9223372036854775807) : Cf F L i_gatepostref02_Parse [.str s] h (Pu h (dateV (dateS s))) := by
  by_cases hc : c29 s
  · rw [← ref29 hc]; exact RParse29_ok hc
  · exact RParseN_ok hl hc
end Go.Proofs.YtdgklgeddbfeaaaDoor.Vh
