/- strings.Trim at blanks, token.Trim and token.Value on the small machine. -/
import Derived.Test.YtfihnnebffkbfaaDoorVTok1
set_option linter.unusedVariables false
set_option linter.unusedSimpArgs false
namespace Go.Proofs.YtfihnnebffkbfaaDoor.Vh
open Go.Vm Go.Vt
attribute [local congr] wi_congr wg_congr wgd_congr wb_congr wl_congr cf_congr
variable {L : FuncId → List V → V → Prop} {h : Heap}
theorem splice_set {cs : List V} {i : Nat} {x : V} (hi : i < cs.length) : cs.take i ++ x :: cs.drop (i + 1) = cs.set i x := by
  rw [List.set_eq_take_append_cons_drop, if_pos hi]
/-- The table of blanks. -/
def blankT : List V := ((List.replicate 256 (V.bool false)).set 32 (.bool true)).set 9 (.bool true)
def blankAt : Nat → List V
  | 0 => List.replicate 256 (.bool false)
  | 1 => (List.replicate 256 (V.bool false)).set 32 (.bool true)
  | _ => blankT
theorem blankAt_len : ∀ i, (blankAt i).length = 256
  | 0 => List.length_replicate ..
  | 1 => by simp only [blankAt, List.length_set, List.length_replicate]
  | i + 2 => by simp only [blankAt, blankT, List.length_set, List.length_replicate]
theorem blankT_at (c : UInt8) : blankT.getD c.toNat (.tup []) = .bool (blankB c) := by
  have : ∀ n : Fin 256, blankT.getD (UInt8.ofNat n.val).toNat (.tup []) = .bool (blankB (UInt8.ofNat n.val)) := by
    intro n
    have h : (blankT.map fun | .bool b => b | _ => false) = (List.range 256).map fun n => blankB (UInt8.ofNat n) := by decide +kernel
    have h2 : ∀ v ∈ blankT, ∃ b, v = V.bool b := by
      intro v hv
      unfold blankT at hv
      rcases List.mem_or_eq_of_mem_set hv with hv | rfl
      · rcases List.mem_or_eq_of_mem_set hv with hv | rfl
        · exact ⟨false, (List.mem_replicate.1 hv).2⟩
        · exact ⟨true, rfl⟩
      · exact ⟨true, rfl⟩
    have hl : n.val < blankT.length := by simp only [blankT, List.length_set, List.length_replicate]; exact n.isLt
    have e : (UInt8.ofNat n.val).toNat = n.val := by simp
    obtain ⟨b, hb⟩ := h2 blankT[n.val] (List.getElem_mem _)
    rw [e, List.getD_eq_getElem?_getD, List.getElem?_eq_getElem hl, Option.getD_some, hb]
    have h3 := congrArg (fun l => l[n.val]?) h
    simp only [List.getElem?_map, List.getElem?_eq_getElem hl, Option.map_some, hb, List.getElem?_range n.isLt] at h3
    injection h3 with h3
    rw [h3]
  have := this ⟨c.toNat, c.toNat_lt⟩
  simpa using this
theorem asciiSet_ok : Cf F L i_strings_makeASCIISet [.str [32, 9]] h (Pu h (.tup [.agg blankT, .bool true])) := by
  refine run_strings_makeASCIISet ?_
  simp only [p_strings_makeASCIISet]
  simp (maxSteps := 4000000) only [vm, vl, Arg.get, cells, stor, boundO, resultsV, resV, partK, loadV, Vm.part, fillC, splice, reduceIte, reduceCtorEq, Nat.reduceEqDiff, Nat.reduceAdd, Nat.reduceSub, Nat.reduceMul, Nat.reduceLeDiff, ne_eq, not_false_eq_true, Int.reduceEq, Int.reduceLT, Int.reduceLE, Int.reduceNeg, Int.reduceToNat, Int.reduceGT, Int.reduceGE, Nat.reduceLT, Nat.lt_add_one, Nat.zero_lt_succ, Nat.succ_pos, Nat.zero_le, beq_self_eq_true, k_strings_makeASCIISet_0, k_strings_makeASCIISet_2, k_strings_makeASCIISet_3, k_strings_makeASCIISet_1]
  refine l_strings_makeASCIISet_0 (fun n e h' => ∃ i, n = 2 - i ∧ i ≤ 2 ∧ e 0 = .str [32, 9] ∧ e 2 = .ptr h.length 0 ∧ e 3 = .bool false ∧ e 4 = .int .i64 i ∧ h' = h ++ [.box (blankAt i)]) ?_ (n := 2) ⟨0, by simp, by simp, rfl, rfl, rfl, rfl, rfl⟩
  rintro n e h' ⟨i, rfl, hi, e0, e2, e3, e4, rfl⟩
  simp only [b_strings_makeASCIISet_0]
  have u1 : UInt8.toNat 32 = 32 := rfl
  have u2 : UInt8.toNat 9 = 9 := rfl
  have w1 : IntKind.i64.wrap (0 + 1) = 1 := by decide
  have w2 : IntKind.i64.wrap (1 + 1) = 2 := by decide
  have p0 := blankAt_len 0
  have p1 := blankAt_len 1
  have p2 := blankAt_len 2
  have q0 : (blankAt 0).take 32 ++ .bool true :: (blankAt 0).drop 33 = blankAt 1 := splice_set (by rw [p0]; omega)
  have q1 : (blankAt 1).take 9 ++ .bool true :: (blankAt 1).drop 10 = blankAt 2 := splice_set (by rw [p1]; omega)
  match i, hi with
  | 0, _ =>
    simp (maxSteps := 4000000) only [vm, vl, Arg.get, cells, stor, boundO, resultsV, resV, partK, loadV, Vm.part, fillC, splice, reduceIte, reduceCtorEq, Nat.reduceEqDiff, Nat.reduceAdd, Nat.reduceSub, Nat.reduceMul, Nat.reduceLeDiff, ne_eq, not_false_eq_true, Int.reduceEq, Int.reduceLT, Int.reduceLE, Int.reduceNeg, Int.reduceToNat, Int.reduceGT, Int.reduceGE, Nat.reduceLT, Nat.lt_add_one, Nat.zero_lt_succ, Nat.succ_pos, Nat.zero_le, beq_self_eq_true, k_strings_makeASCIISet_0, k_strings_makeASCIISet_2, k_strings_makeASCIISet_3, k_strings_makeASCIISet_1, e0, e2, e3, e4, blankAt_len, u1, w1, q0, Int.natCast_zero, Int.cast_ofNat_Int]
    (repeat' ((first | refine wg_casep (fun _ => ?_) (fun _ => ?_) | refine wg_casen (fun _ => ?_) (fun _ => ?_) | refine wg_case (fun _ => ?_) (fun _ => ?_) | refine wgd_casep (fun _ => ?_) (fun _ => ?_) | refine wgd_casen (fun _ => ?_) (fun _ => ?_) | refine wgd_case (fun _ => ?_) (fun _ => ?_) | refine wb_casep (fun _ => ?_) (fun _ => ?_) | refine wb_casen (fun _ => ?_) (fun _ => ?_) | refine wb_case (fun _ => ?_) (fun _ => ?_)) <;> try simp (maxSteps := 4000000) only [vm, vl, Arg.get, cells, stor, boundO, resultsV, resV, partK, loadV, Vm.part, fillC, splice, reduceIte, reduceCtorEq, Nat.reduceEqDiff, Nat.reduceAdd, Nat.reduceSub, Nat.reduceMul, Nat.reduceLeDiff, ne_eq, not_false_eq_true, Int.reduceEq, Int.reduceLT, Int.reduceLE, Int.reduceNeg, Int.reduceToNat, Int.reduceGT, Int.reduceGE, Nat.reduceLT, Nat.lt_add_one, Nat.zero_lt_succ, Nat.succ_pos, Nat.zero_le, beq_self_eq_true, k_strings_makeASCIISet_0, k_strings_makeASCIISet_2, k_strings_makeASCIISet_3, k_strings_makeASCIISet_1, *]))
    exact ⟨1, by omega, 1, rfl, by omega, rfl, rfl⟩
  | 1, _ =>
    simp (maxSteps := 4000000) only [vm, vl, Arg.get, cells, stor, boundO, resultsV, resV, partK, loadV, Vm.part, fillC, splice, reduceIte, reduceCtorEq, Nat.reduceEqDiff, Nat.reduceAdd, Nat.reduceSub, Nat.reduceMul, Nat.reduceLeDiff, ne_eq, not_false_eq_true, Int.reduceEq, Int.reduceLT, Int.reduceLE, Int.reduceNeg, Int.reduceToNat, Int.reduceGT, Int.reduceGE, Nat.reduceLT, Nat.lt_add_one, Nat.zero_lt_succ, Nat.succ_pos, Nat.zero_le, beq_self_eq_true, k_strings_makeASCIISet_0, k_strings_makeASCIISet_2, k_strings_makeASCIISet_3, k_strings_makeASCIISet_1, e0, e2, e3, e4, blankAt_len, u2, w2, q1, Int.natCast_one]
    (repeat' ((first | refine wg_casep (fun _ => ?_) (fun _ => ?_) | refine wg_casen (fun _ => ?_) (fun _ => ?_) | refine wg_case (fun _ => ?_) (fun _ => ?_) | refine wgd_casep (fun _ => ?_) (fun _ => ?_) | refine wgd_casen (fun _ => ?_) (fun _ => ?_) | refine wgd_case (fun _ => ?_) (fun _ => ?_) | refine wb_casep (fun _ => ?_) (fun _ => ?_) | refine wb_casen (fun _ => ?_) (fun _ => ?_) | refine wb_case (fun _ => ?_) (fun _ => ?_)) <;> try simp (maxSteps := 4000000) only [vm, vl, Arg.get, cells, stor, boundO, resultsV, resV, partK, loadV, Vm.part, fillC, splice, reduceIte, reduceCtorEq, Nat.reduceEqDiff, Nat.reduceAdd, Nat.reduceSub, Nat.reduceMul, Nat.reduceLeDiff, ne_eq, not_false_eq_true, Int.reduceEq, Int.reduceLT, Int.reduceLE, Int.reduceNeg, Int.reduceToNat, Int.reduceGT, Int.reduceGE, Nat.reduceLT, Nat.lt_add_one, Nat.zero_lt_succ, Nat.succ_pos, Nat.zero_le, beq_self_eq_true, k_strings_makeASCIISet_0, k_strings_makeASCIISet_2, k_strings_makeASCIISet_3, k_strings_makeASCIISet_1, *]))
    exact ⟨0, by omega, 2, rfl, by omega, rfl, rfl⟩
  | 2, _ =>
    have z1 : List.take 256 (blankAt 2) = blankAt 2 := List.take_of_length_le (by rw [p2]; omega)
    have z2 : List.drop 256 (blankAt 2) = [] := List.drop_eq_nil_of_le (by rw [p2]; omega)
    simp (maxSteps := 4000000) only [vm, vl, Arg.get, cells, stor, boundO, resultsV, resV, partK, loadV, Vm.part, fillC, splice, reduceIte, reduceCtorEq, Nat.reduceEqDiff, Nat.reduceAdd, Nat.reduceSub, Nat.reduceMul, Nat.reduceLeDiff, ne_eq, not_false_eq_true, Int.reduceEq, Int.reduceLT, Int.reduceLE, Int.reduceNeg, Int.reduceToNat, Int.reduceGT, Int.reduceGE, Nat.reduceLT, Nat.lt_add_one, Nat.zero_lt_succ, Nat.succ_pos, Nat.zero_le, beq_self_eq_true, k_strings_makeASCIISet_0, k_strings_makeASCIISet_2, k_strings_makeASCIISet_3, k_strings_makeASCIISet_1, e0, e2, e3, e4, p2, z1, z2, List.append_nil]
    (repeat' ((first | refine wg_casep (fun _ => ?_) (fun _ => ?_) | refine wg_casen (fun _ => ?_) (fun _ => ?_) | refine wg_case (fun _ => ?_) (fun _ => ?_) | refine wgd_casep (fun _ => ?_) (fun _ => ?_) | refine wgd_casen (fun _ => ?_) (fun _ => ?_) | refine wgd_case (fun _ => ?_) (fun _ => ?_) | refine wb_casep (fun _ => ?_) (fun _ => ?_) | refine wb_casen (fun _ => ?_) (fun _ => ?_) | refine wb_case (fun _ => ?_) (fun _ => ?_)) <;> try simp (maxSteps := 4000000) only [vm, vl, Arg.get, cells, stor, boundO, resultsV, resV, partK, loadV, Vm.part, fillC, splice, reduceIte, reduceCtorEq, Nat.reduceEqDiff, Nat.reduceAdd, Nat.reduceSub, Nat.reduceMul, Nat.reduceLeDiff, ne_eq, not_false_eq_true, Int.reduceEq, Int.reduceLT, Int.reduceLE, Int.reduceNeg, Int.reduceToNat, Int.reduceGT, Int.reduceGE, Nat.reduceLT, Nat.lt_add_one, Nat.zero_lt_succ, Nat.succ_pos, Nat.zero_le, beq_self_eq_true, k_strings_makeASCIISet_0, k_strings_makeASCIISet_2, k_strings_makeASCIISet_3, k_strings_makeASCIISet_1, *]))
    rfl
theorem contains_ok {c : UInt8} {id : Nat} (hb : h[id]? = some (.box blankT)) : Cf F L i___strings_asciiSet__contains [.ptr id 0, byV c] h (Pu h (.bool (blankB c))) := by
  refine run___strings_asciiSet__contains ?_
  simp only [p___strings_asciiSet__contains]
  have h1 : (c.toNat : Int) < 256 := by have := c.toNat_lt; omega
  have h2 : blankT.length = 256 := blankAt_len 2
  have h3 : c.toNat + 1 ≤ 256 := by have := c.toNat_lt; omega
  simp (maxSteps := 4000000) only [vm, vl, Arg.get, cells, stor, boundO, resultsV, resV, partK, loadV, Vm.part, fillC, splice, reduceIte, reduceCtorEq, Nat.reduceEqDiff, Nat.reduceAdd, Nat.reduceSub, Nat.reduceMul, Nat.reduceLeDiff, ne_eq, not_false_eq_true, Int.reduceEq, Int.reduceLT, Int.reduceLE, Int.reduceNeg, Int.reduceToNat, Int.reduceGT, Int.reduceGE, Nat.reduceLT, Nat.lt_add_one, Nat.zero_lt_succ, Nat.succ_pos, Nat.zero_le, beq_self_eq_true, hb, blankT_at, h1, h2, h3]
/-- One byte off the right end. -/
theorem last_at {s : Bs} {n : Nat} (h : s.length = n + 1) : ∃ t c, s = t ++ [c] ∧ t.length = n ∧ s.getD n 0 = c ∧ s.take n = t := by
  have hne : s ≠ [] := by intro he; rw [he] at h; cases h
  obtain ⟨t, c, rfl⟩ : ∃ t c, s = t ++ [c] := ⟨s.dropLast, s.getLast hne, (List.dropLast_concat_getLast hne).symm⟩
  have hl : t.length = n := by simpa using h
  exact ⟨t, c, rfl, hl, by rw [List.getD_eq_getElem?_getD, List.getElem?_append_right (by omega)]; simp [hl], by rw [← hl]; simp⟩
theorem rightASCII_ok {s : Bs} {id : Nat} (hs : s.length < 9223372036854775807) (hb : h[id]? = some (.box blankT)) : Cf F L i_strings_trimRightASCII [.str s, .ptr id 0] h (Pu h (.str (trimR s))) := by
  refine run_strings_trimRightASCII ?_
  simp only [p_strings_trimRightASCII]
  refine l_strings_trimRightASCII_0 (fun n e h' => ∃ r : Bs, n = r.length ∧ e 0 = .str r ∧ e 1 = .ptr id 0 ∧ (∃ t, h' = h ++ t) ∧ r.length ≤ s.length ∧ trimR r = trimR s) ?_ (n := s.length) ⟨s, rfl, rfl, rfl, ⟨[], by simp⟩, by omega, rfl⟩
  rintro n e h' ⟨r, rfl, e0, e1, ⟨t, rfl⟩, hl, hr⟩
  simp only [b_strings_trimRightASCII_0]
  rw [← hr]
  cases hn : r.length with
  | zero =>
    obtain rfl : r = [] := List.eq_nil_of_length_eq_zero hn
    simp (maxSteps := 4000000) only [vm, vl, Arg.get, cells, stor, boundO, resultsV, resV, partK, loadV, Vm.part, fillC, splice, reduceIte, reduceCtorEq, Nat.reduceEqDiff, Nat.reduceAdd, Nat.reduceSub, Nat.reduceMul, Nat.reduceLeDiff, ne_eq, not_false_eq_true, Int.reduceEq, Int.reduceLT, Int.reduceLE, Int.reduceNeg, Int.reduceToNat, Int.reduceGT, Int.reduceGE, Nat.reduceLT, Nat.lt_add_one, Nat.zero_lt_succ, Nat.succ_pos, Nat.zero_le, beq_self_eq_true, k_strings_trimRightASCII_0, k_strings_trimRightASCII_2, k_strings_trimRightASCII_1, e0, e1]
    rfl
  | succ n =>
    obtain ⟨q, c, rfl, hq, hc, ht⟩ := last_at hn
    have w : IntKind.i64.wrap (((n + 1 : Nat) : Int) - 1) = n := by rw [wrap64 (by omega) (by omega)]; omega
    have g0 : ((n + 1 : Nat) : Int) > 0 := by omega
    have hb' : (h ++ t)[id]? = some (.box blankT) := get_old hb
    simp (maxSteps := 4000000) only [vm, vl, Arg.get, cells, stor, boundO, resultsV, resV, partK, loadV, Vm.part, fillC, splice, reduceIte, reduceCtorEq, Nat.reduceEqDiff, Nat.reduceAdd, Nat.reduceSub, Nat.reduceMul, Nat.reduceLeDiff, ne_eq, not_false_eq_true, Int.reduceEq, Int.reduceLT, Int.reduceLE, Int.reduceNeg, Int.reduceToNat, Int.reduceGT, Int.reduceGE, Nat.reduceLT, Nat.lt_add_one, Nat.zero_lt_succ, Nat.succ_pos, Nat.zero_le, beq_self_eq_true, k_strings_trimRightASCII_0, k_strings_trimRightASCII_2, k_strings_trimRightASCII_1, e0, e1, hn, w, g0, hc, ht]
    (repeat' ((first | refine wg_casep (fun _ => ?_) (fun _ => ?_) | refine wg_casen (fun _ => ?_) (fun _ => ?_) | refine wg_case (fun _ => ?_) (fun _ => ?_) | refine wgd_casep (fun _ => ?_) (fun _ => ?_) | refine wgd_casen (fun _ => ?_) (fun _ => ?_) | refine wgd_case (fun _ => ?_) (fun _ => ?_) | refine wb_casep (fun _ => ?_) (fun _ => ?_) | refine wb_casen (fun _ => ?_) (fun _ => ?_) | refine wb_case (fun _ => ?_) (fun _ => ?_) | refine Cf.pu (contains_ok hb') (fun _ => ?_)) <;> try simp (maxSteps := 4000000) only [vm, vl, Arg.get, cells, stor, boundO, resultsV, resV, partK, loadV, Vm.part, fillC, splice, reduceIte, reduceCtorEq, Nat.reduceEqDiff, Nat.reduceAdd, Nat.reduceSub, Nat.reduceMul, Nat.reduceLeDiff, ne_eq, not_false_eq_true, Int.reduceEq, Int.reduceLT, Int.reduceLE, Int.reduceNeg, Int.reduceToNat, Int.reduceGT, Int.reduceGE, Nat.reduceLT, Nat.lt_add_one, Nat.zero_lt_succ, Nat.succ_pos, Nat.zero_le, beq_self_eq_true, k_strings_trimRightASCII_0, k_strings_trimRightASCII_2, k_strings_trimRightASCII_1, *]))
    · rename_i hp
      simp at hp
      rw [← hr, trimR_full hp]
    · rename_i hp
      simp at hp
      exact ⟨by omega, q.length, by omega, q, rfl, rfl, ⟨_, rfl⟩, by rw [hn] at hl; omega, by rw [← hr, trimR_blank hp]⟩
theorem leftASCII_ok {s : Bs} {id : Nat} (hs : s.length < 9223372036854775807) (hb : h[id]? = some (.box blankT)) : Cf F L i_strings_trimLeftASCII [.str s, .ptr id 0] h (Pu h (.str (trimL s))) := by
  refine run_strings_trimLeftASCII ?_
  simp only [p_strings_trimLeftASCII]
  refine l_strings_trimLeftASCII_0 (fun n e h' => ∃ r : Bs, n = r.length ∧ e 0 = .str r ∧ e 1 = .ptr id 0 ∧ (∃ t, h' = h ++ t) ∧ r.length ≤ s.length ∧ trimL r = trimL s) ?_ (n := s.length) ⟨s, rfl, rfl, rfl, ⟨[], by simp⟩, by omega, rfl⟩
  rintro n e h' ⟨r, rfl, e0, e1, ⟨t, rfl⟩, hl, hr⟩
  simp only [b_strings_trimLeftASCII_0]
  rw [← hr]
  cases r with
  | nil =>
    simp (maxSteps := 4000000) only [vm, vl, Arg.get, cells, stor, boundO, resultsV, resV, partK, loadV, Vm.part, fillC, splice, reduceIte, reduceCtorEq, Nat.reduceEqDiff, Nat.reduceAdd, Nat.reduceSub, Nat.reduceMul, Nat.reduceLeDiff, ne_eq, not_false_eq_true, Int.reduceEq, Int.reduceLT, Int.reduceLE, Int.reduceNeg, Int.reduceToNat, Int.reduceGT, Int.reduceGE, Nat.reduceLT, Nat.lt_add_one, Nat.zero_lt_succ, Nat.succ_pos, Nat.zero_le, beq_self_eq_true, k_strings_trimLeftASCII_0, k_strings_trimLeftASCII_2, k_strings_trimLeftASCII_1, e0, e1]
    rfl
  | cons c q =>
    have g0 : (((c :: q).length : Nat) : Int) > 0 := by simp
    have g1 : 1 ≤ (c :: q).length := by simp
    have g2 : List.take (c :: q).length (c :: q) = c :: q := List.take_of_length_le (Nat.le_refl _)
    have g3 : 0 < (c :: q).length := by simp
    have hb' : (h ++ t)[id]? = some (.box blankT) := get_old hb
    simp only [List.length_cons] at g0 g1 g2 g3
    simp (maxSteps := 4000000) only [vm, vl, Arg.get, cells, stor, boundO, resultsV, resV, partK, loadV, Vm.part, fillC, splice, reduceIte, reduceCtorEq, Nat.reduceEqDiff, Nat.reduceAdd, Nat.reduceSub, Nat.reduceMul, Nat.reduceLeDiff, ne_eq, not_false_eq_true, Int.reduceEq, Int.reduceLT, Int.reduceLE, Int.reduceNeg, Int.reduceToNat, Int.reduceGT, Int.reduceGE, Nat.reduceLT, Nat.lt_add_one, Nat.zero_lt_succ, Nat.succ_pos, Nat.zero_le, beq_self_eq_true, k_strings_trimLeftASCII_0, k_strings_trimLeftASCII_2, k_strings_trimLeftASCII_1, e0, e1, g0, g1, g2, g3]
    (repeat' ((first | refine wg_casep (fun _ => ?_) (fun _ => ?_) | refine wg_casen (fun _ => ?_) (fun _ => ?_) | refine wg_case (fun _ => ?_) (fun _ => ?_) | refine wgd_casep (fun _ => ?_) (fun _ => ?_) | refine wgd_casen (fun _ => ?_) (fun _ => ?_) | refine wgd_case (fun _ => ?_) (fun _ => ?_) | refine wb_casep (fun _ => ?_) (fun _ => ?_) | refine wb_casen (fun _ => ?_) (fun _ => ?_) | refine wb_case (fun _ => ?_) (fun _ => ?_) | refine Cf.pu (contains_ok hb') (fun _ => ?_)) <;> try simp (maxSteps := 4000000) only [vm, vl, Arg.get, cells, stor, boundO, resultsV, resV, partK, loadV, Vm.part, fillC, splice, reduceIte, reduceCtorEq, Nat.reduceEqDiff, Nat.reduceAdd, Nat.reduceSub, Nat.reduceMul, Nat.reduceLeDiff, ne_eq, not_false_eq_true, Int.reduceEq, Int.reduceLT, Int.reduceLE, Int.reduceNeg, Int.reduceToNat, Int.reduceGT, Int.reduceGE, Nat.reduceLT, Nat.lt_add_one, Nat.zero_lt_succ, Nat.succ_pos, Nat.zero_le, beq_self_eq_true, k_strings_trimLeftASCII_0, k_strings_trimLeftASCII_2, k_strings_trimLeftASCII_1, *]))
    · rename_i hp
      simp at hp
      rw [← hr, trimL_full hp]
    · rename_i hp
      simp at hp
      exact ⟨q.length, by omega, q, rfl, rfl, ⟨_, rfl⟩, by simp at hl; omega, by rw [← hr, trimL_blank hp]⟩
theorem stringsTrim_ok {s : Bs} (hs : s.length < 9223372036854775807) : Cf F L i_strings_Trim [.str s, .str [32, 9]] h (Pu h (.str (trim s))) := by
  refine run_strings_Trim ?_
  simp only [p_strings_Trim]
  have q1 : (([32, 9] : Bs) == []) = false := rfl
  cases s with
  | nil =>
    have q2 : (([] : Bs) == []) = true := rfl
    simp (maxSteps := 4000000) only [vm, vl, Arg.get, cells, stor, boundO, resultsV, resV, partK, loadV, Vm.part, fillC, splice, reduceIte, reduceCtorEq, Nat.reduceEqDiff, Nat.reduceAdd, Nat.reduceSub, Nat.reduceMul, Nat.reduceLeDiff, ne_eq, not_false_eq_true, Int.reduceEq, Int.reduceLT, Int.reduceLE, Int.reduceNeg, Int.reduceToNat, Int.reduceGT, Int.reduceGE, Nat.reduceLT, Nat.lt_add_one, Nat.zero_lt_succ, Nat.succ_pos, Nat.zero_le, beq_self_eq_true, k_strings_Trim_2, k_strings_Trim_1, k_strings_Trim_0, q1, q2]
    rfl
  | cons c r =>
    have q2 : ((c :: r : Bs) == []) = false := rfl
    have l1 : blankT.length = 256 := blankAt_len 2
    have l2 : List.take 256 blankT = blankT := List.take_of_length_le (by omega)
    have l3 : ∀ q, List.drop (0 + 256) (List.replicate 256 q : List V) = [] := fun q => List.drop_eq_nil_of_le (by rw [List.length_replicate]; omega)
    simp (maxSteps := 4000000) only [vm, vl, Arg.get, cells, stor, boundO, resultsV, resV, partK, loadV, Vm.part, fillC, splice, reduceIte, reduceCtorEq, Nat.reduceEqDiff, Nat.reduceAdd, Nat.reduceSub, Nat.reduceMul, Nat.reduceLeDiff, ne_eq, not_false_eq_true, Int.reduceEq, Int.reduceLT, Int.reduceLE, Int.reduceNeg, Int.reduceToNat, Int.reduceGT, Int.reduceGE, Nat.reduceLT, Nat.lt_add_one, Nat.zero_lt_succ, Nat.succ_pos, Nat.zero_le, beq_self_eq_true, k_strings_Trim_2, k_strings_Trim_1, k_strings_Trim_0, q1, q2]
    (repeat' ((first | refine wg_casep (fun _ => ?_) (fun _ => ?_) | refine wg_casen (fun _ => ?_) (fun _ => ?_) | refine wg_case (fun _ => ?_) (fun _ => ?_) | refine wgd_casep (fun _ => ?_) (fun _ => ?_) | refine wgd_casen (fun _ => ?_) (fun _ => ?_) | refine wgd_case (fun _ => ?_) (fun _ => ?_) | refine wb_casep (fun _ => ?_) (fun _ => ?_) | refine wb_casen (fun _ => ?_) (fun _ => ?_) | refine wb_case (fun _ => ?_) (fun _ => ?_) | refine Cf.pu asciiSet_ok (fun _ => ?_)) <;> try simp (maxSteps := 4000000) only [vm, vl, Arg.get, cells, stor, boundO, resultsV, resV, partK, loadV, Vm.part, fillC, splice, reduceIte, reduceCtorEq, Nat.reduceEqDiff, Nat.reduceAdd, Nat.reduceSub, Nat.reduceMul, Nat.reduceLeDiff, ne_eq, not_false_eq_true, Int.reduceEq, Int.reduceLT, Int.reduceLE, Int.reduceNeg, Int.reduceToNat, Int.reduceGT, Int.reduceGE, Nat.reduceLT, Nat.lt_add_one, Nat.zero_lt_succ, Nat.succ_pos, Nat.zero_le, beq_self_eq_true, k_strings_Trim_2, k_strings_Trim_1, k_strings_Trim_0, *]))
    rename_i t
    refine ⟨by rw [List.length_replicate]; omega, ?_⟩
    have hb : (h ++ (t ++ [O.box (blankT ++ [])]))[h.length + t.length]? = some (.box blankT) := by
      rw [List.append_nil, ← List.append_assoc, List.getElem?_append_right (by simp)]
      simp
    refine Cf.pu (rightASCII_ok hs hb) fun t' => ?_
    refine Cf.pu (leftASCII_ok (Nat.lt_of_le_of_lt (trimR_length _) hs) (get_old hb)) fun t'' => ?_
    exact ⟨rfl, _, by rw [List.append_assoc, List.append_assoc]⟩
theorem Trim_ok {s : Bs} (hs : s.length < 9223372036854775807) : Cf F L i_token_Trim [.str s] h (Pu h (.str (trim s))) := by
  refine run_token_Trim ?_
  simp only [p_token_Trim]
  simp (maxSteps := 4000000) only [vm, vl, Arg.get, cells, stor, boundO, resultsV, resV, partK, loadV, Vm.part, fillC, splice, reduceIte, reduceCtorEq, Nat.reduceEqDiff, Nat.reduceAdd, Nat.reduceSub, Nat.reduceMul, Nat.reduceLeDiff, ne_eq, not_false_eq_true, Int.reduceEq, Int.reduceLT, Int.reduceLE, Int.reduceNeg, Int.reduceToNat, Int.reduceGT, Int.reduceGE, Nat.reduceLT, Nat.lt_add_one, Nat.zero_lt_succ, Nat.succ_pos, Nat.zero_le, beq_self_eq_true]
  (repeat' ((first | refine wg_casep (fun _ => ?_) (fun _ => ?_) | refine wg_casen (fun _ => ?_) (fun _ => ?_) | refine wg_case (fun _ => ?_) (fun _ => ?_) | refine wgd_casep (fun _ => ?_) (fun _ => ?_) | refine wgd_casen (fun _ => ?_) (fun _ => ?_) | refine wgd_case (fun _ => ?_) (fun _ => ?_) | refine wb_casep (fun _ => ?_) (fun _ => ?_) | refine wb_casen (fun _ => ?_) (fun _ => ?_) | refine wb_case (fun _ => ?_) (fun _ => ?_) | refine Cf.pu (stringsTrim_ok hs) (fun _ => ?_)) <;> try simp (maxSteps := 4000000) only [vm, vl, Arg.get, cells, stor, boundO, resultsV, resV, partK, loadV, Vm.part, fillC, splice, reduceIte, reduceCtorEq, Nat.reduceEqDiff, Nat.reduceAdd, Nat.reduceSub, Nat.reduceMul, Nat.reduceLeDiff, ne_eq, not_false_eq_true, Int.reduceEq, Int.reduceLT, Int.reduceLE, Int.reduceNeg, Int.reduceToNat, Int.reduceGT, Int.reduceGE, Nat.reduceLT, Nat.lt_add_one, Nat.zero_lt_succ, Nat.succ_pos, Nat.zero_le, beq_self_eq_true, *]))
end Go.Proofs.YtfihnnebffkbfaaDoor.Vh
