/- The reference's Parse and Pick on the small machine; RangesTells. -/
import Derived.Test.YtlnhcdafagpfhaaDoorVRTells
set_option linter.unusedVariables false
set_option linter.unusedSimpArgs false
namespace Go.Proofs.YtlnhcdafagpfhaaDoor.Vh
open Go.Vm Go.Vt
attribute [local congr] wi_congr wg_congr wgd_congr wb_congr wl_congr cf_congr
variable {L : FuncId → List V → V → Prop} {h : Heap}
theorem ritems_ok {l : List Bs} {x : V} {e : Env} {u : Heap} (hx : ListV 1 x (strs l)) (e4 : e 4 = x) (h0 : l.length ≠ 0) (h32 : l.length ≤ 32) (hz : ∀ y ∈ l, y.length ≤ 9223372036854775000) :
    k_gatepostref14_Parse_1 L (ParsP h (itemsR l)) e (h ++ u) := by
  
  unfold k_gatepostref14_Parse_1
  have l1 := fun {K : V → Heap → Prop} {h : Heap} => hx.len (F := F) (L := L) (e := E0) (K := K) (h := h)
  simp only [strs_len] at l1
  refine l_gatepostref14_Parse_0 (fun n e h' => ∃ i, n = l.length - i ∧ i ≤ l.length ∧ e 4 = x ∧ e 7 = .int .i64 i ∧ (l.take i).all okW = true ∧ Grow 2 h h' (e 6) (wants ((l.take i).map oneW))) ?_ (n := l.length) ⟨0, by simp, by simp, by simp [upd, e4], rfl, rfl, .nil⟩
  rintro n e h' ⟨i, rfl, hi, e4, e7, ha, G⟩
  simp only [b_gatepostref14_Parse_0]
  generalize e6 : e 6 = x6 at *
  rcases list_at' [] hi with ⟨hn, rfl, hd⟩ | ⟨hl1, hl2, hd, htk⟩
  · rw [List.take_length] at G ha
    have ei : itemsR l = some (l.map oneW) := by unfold itemsR; rw [if_neg (by omega), if_pos ha]
    rw [ei]
    simp (maxSteps := 4000000) only [vm, vl, Arg.get, cells, stor, boundO, resultsV, resV, partK, loadV, Vm.part, fillC, splice, reduceIte, reduceCtorEq, Nat.reduceEqDiff, Nat.reduceAdd, Nat.reduceSub, Nat.reduceMul, Nat.reduceLeDiff, ne_eq, not_false_eq_true, Int.reduceEq, Int.reduceLT, Int.reduceLE, Int.reduceNeg, Int.reduceToNat, Int.reduceGT, Int.reduceGE, Nat.reduceLT, Nat.lt_add_one, Nat.zero_lt_succ, Nat.succ_pos, Nat.zero_le, beq_self_eq_true, k_gatepostref14_Parse_2, k_gatepostref14_Parse_4, k_gatepostref14_Parse_5, k_gatepostref14_Parse_3, k_gatepostref14_Parse_1, k_gatepostref14_Parse_0, e4, e6, e7, l1, hn, decide_false]
    exact .yes G.1 (by simpa using h32) G.list
  · have w := wrap64 (x := (i : Int) + 1) (by omega) (by omega)
    have i1 := fun {K : V → Heap → Prop} {h : Heap} => hx.at (F := F) (L := L) (e := E0) (K := K) (h := h) (i := i) (by rw [strs_len]; exact hl2)
    have a1 : (strs l).getD i (.tup []) = .str (l.getD i []) := by
      unfold strs; simp [List.getD_eq_getElem?_getD, List.getElem?_eq_getElem hl2]
    have hmem : l.getD i [] ∈ l := by
      rw [List.getD_eq_getElem?_getD, List.getElem?_eq_getElem hl2]; exact List.getElem_mem _
    obtain ⟨⟨t0, rfl⟩, _⟩ := id G
    generalize hf : l.getD i [] = f at *
    have On := fun hh => rone_ok (L := L) (h := hh) (hz f hmem)
    obtain ⟨a, b, eo, ea⟩ := rone_tup f
    rw [eo] at On
    simp (maxSteps := 4000000) only [vm, vl, Arg.get, cells, stor, boundO, resultsV, resV, partK, loadV, Vm.part, fillC, splice, reduceIte, reduceCtorEq, Nat.reduceEqDiff, Nat.reduceAdd, Nat.reduceSub, Nat.reduceMul, Nat.reduceLeDiff, ne_eq, not_false_eq_true, Int.reduceEq, Int.reduceLT, Int.reduceLE, Int.reduceNeg, Int.reduceToNat, Int.reduceGT, Int.reduceGE, Nat.reduceLT, Nat.lt_add_one, Nat.zero_lt_succ, Nat.succ_pos, Nat.zero_le, beq_self_eq_true, k_gatepostref14_Parse_2, k_gatepostref14_Parse_4, k_gatepostref14_Parse_5, k_gatepostref14_Parse_3, k_gatepostref14_Parse_1, k_gatepostref14_Parse_0, e4, e6, e7, l1, hl1, decide_true, i1, a1]
    refine Cf.pu (On _) fun t1 => ?_
    cases hp : okW f with
    | false =>
      have ei : itemsR l = none := by
        unfold itemsR
        rw [if_neg (by omega), if_neg]
        intro h
        have := List.all_eq_true.1 h f hmem
        rw [hp] at this; cases this
      rw [ei]
      simp (maxSteps := 4000000) only [vm, vl, Arg.get, cells, stor, boundO, resultsV, resV, partK, loadV, Vm.part, fillC, splice, reduceIte, reduceCtorEq, Nat.reduceEqDiff, Nat.reduceAdd, Nat.reduceSub, Nat.reduceMul, Nat.reduceLeDiff, ne_eq, not_false_eq_true, Int.reduceEq, Int.reduceLT, Int.reduceLE, Int.reduceNeg, Int.reduceToNat, Int.reduceGT, Int.reduceGE, Nat.reduceLT, Nat.lt_add_one, Nat.zero_lt_succ, Nat.succ_pos, Nat.zero_le, beq_self_eq_true, k_gatepostref14_Parse_2, k_gatepostref14_Parse_4, k_gatepostref14_Parse_5, k_gatepostref14_Parse_3, k_gatepostref14_Parse_1, k_gatepostref14_Parse_0, hp, Bool.not_false]
      exact .no ⟨_, rfl⟩
    | true =>
      have eab := ea hp
      have G2 := G.more (t := t1 ++ [O.box [.int .i64 a, .int .i64 b]])
      obtain ⟨x', h'', ha', G3⟩ := G2.app (bytes := 16) (y := .agg [.int .i64 a, .int .i64 b]) (by rw [wants_len, List.length_map, List.length_take]; omega)
      rw [show V.agg [.int .i64 a, .int .i64 b] = .agg [.int .i64 (oneW f).1, .int .i64 (oneW f).2] by rw [← eab], wants_app, show (l.take i).map oneW ++ [oneW f] = (l.take (i + 1)).map oneW by rw [htk]; simp] at G3
      simp only [List.append_assoc, List.cons_append, List.nil_append] at ha'
      simp (maxSteps := 4000000) only [vm, vl, Arg.get, cells, stor, boundO, resultsV, resV, partK, loadV, Vm.part, fillC, splice, reduceIte, reduceCtorEq, Nat.reduceEqDiff, Nat.reduceAdd, Nat.reduceSub, Nat.reduceMul, Nat.reduceLeDiff, ne_eq, not_false_eq_true, Int.reduceEq, Int.reduceLT, Int.reduceLE, Int.reduceNeg, Int.reduceToNat, Int.reduceGT, Int.reduceGE, Nat.reduceLT, Nat.lt_add_one, Nat.zero_lt_succ, Nat.succ_pos, Nat.zero_le, beq_self_eq_true, k_gatepostref14_Parse_2, k_gatepostref14_Parse_4, k_gatepostref14_Parse_5, k_gatepostref14_Parse_3, k_gatepostref14_Parse_1, k_gatepostref14_Parse_0, hp, Bool.not_true, w, ha']
      refine ⟨l.length - (i + 1), by omega, i + 1, rfl, hl2, rfl, ?_, G3⟩
      rw [htk, List.all_append, ha]; simp [hp]
theorem rParse_ok {s : Bs} (hs : s.length < 1000000000) : Cf F L i_gatepostref14_Parse [.str s] h (ParsP h (parseR s)) := by
  refine run_gatepostref14_Parse ?_
  simp only [p_gatepostref14_Parse]
  
  unfold parseR
  by_cases a1 : s.length < 6
  · have b1 : (s.length : Int) < 6 := by omega
    rw [if_pos a1]
    simp (maxSteps := 4000000) only [vm, vl, Arg.get, cells, stor, boundO, resultsV, resV, partK, loadV, Vm.part, fillC, splice, reduceIte, reduceCtorEq, Nat.reduceEqDiff, Nat.reduceAdd, Nat.reduceSub, Nat.reduceMul, Nat.reduceLeDiff, ne_eq, not_false_eq_true, Int.reduceEq, Int.reduceLT, Int.reduceLE, Int.reduceNeg, Int.reduceToNat, Int.reduceGT, Int.reduceGE, Nat.reduceLT, Nat.lt_add_one, Nat.zero_lt_succ, Nat.succ_pos, Nat.zero_le, beq_self_eq_true, b1, decide_true]
    exact .no ⟨[], by simp⟩
  have b1 : ¬ (s.length : Int) < 6 := by omega
  have o1 : 6 ≤ s.length := by omega
  rw [if_neg a1]
  have S := fun hh => rLower_ok (L := L) (h := hh) (s := s.take 6) (by rw [List.length_take]; omega)
  simp (maxSteps := 4000000) only [vm, vl, Arg.get, cells, stor, boundO, resultsV, resV, partK, loadV, Vm.part, fillC, splice, reduceIte, reduceCtorEq, Nat.reduceEqDiff, Nat.reduceAdd, Nat.reduceSub, Nat.reduceMul, Nat.reduceLeDiff, ne_eq, not_false_eq_true, Int.reduceEq, Int.reduceLT, Int.reduceLE, Int.reduceNeg, Int.reduceToNat, Int.reduceGT, Int.reduceGE, Nat.reduceLT, Nat.lt_add_one, Nat.zero_lt_succ, Nat.succ_pos, Nat.zero_le, beq_self_eq_true, b1, o1, decide_false]
  refine Cf.pu (S _) fun u1 => ?_
  by_cases a2 : low (s.take 6) = [98, 121, 116, 101, 115, 61]
  case neg =>
    have b2 : (low (s.take 6) == [98, 121, 116, 101, 115, 61]) = false := beq_eq_false_iff_ne.2 a2
    rw [if_neg a2]
    simp (maxSteps := 4000000) only [vm, vl, Arg.get, cells, stor, boundO, resultsV, resV, partK, loadV, Vm.part, fillC, splice, reduceIte, reduceCtorEq, Nat.reduceEqDiff, Nat.reduceAdd, Nat.reduceSub, Nat.reduceMul, Nat.reduceLeDiff, ne_eq, not_false_eq_true, Int.reduceEq, Int.reduceLT, Int.reduceLE, Int.reduceNeg, Int.reduceToNat, Int.reduceGT, Int.reduceGE, Nat.reduceLT, Nat.lt_add_one, Nat.zero_lt_succ, Nat.succ_pos, Nat.zero_le, beq_self_eq_true, b2, Bool.not_false]
    exact .no ⟨_, rfl⟩
  have b2 : (low (s.take 6) == [98, 121, 116, 101, 115, 61]) = true := beq_iff_eq.2 a2
  rw [if_pos a2]
  have lr : (s.drop 6).length < 1000000000 := by rw [List.length_drop]; omega
  have SP := fun hh => rSplit_ok (L := L) (h := hh) lr
  simp (maxSteps := 4000000) only [vm, vl, Arg.get, cells, stor, boundO, resultsV, resV, partK, loadV, Vm.part, fillC, splice, reduceIte, reduceCtorEq, Nat.reduceEqDiff, Nat.reduceAdd, Nat.reduceSub, Nat.reduceMul, Nat.reduceLeDiff, ne_eq, not_false_eq_true, Int.reduceEq, Int.reduceLT, Int.reduceLE, Int.reduceNeg, Int.reduceToNat, Int.reduceGT, Int.reduceGE, Nat.reduceLT, Nat.lt_add_one, Nat.zero_lt_succ, Nat.succ_pos, Nat.zero_le, beq_self_eq_true, b2, Bool.not_true, k_gatepostref14_Parse_0, List.take_length, o1]
  refine (SP _).mono fun v h' hp => ?_
  obtain ⟨⟨u2, rfl⟩, ⟨es, rfl⟩ | ⟨l, x, es, rfl, hl⟩⟩ := hp
  · rw [es, show itemsO none = none from rfl]
    simp (maxSteps := 4000000) only [vm, vl, Arg.get, cells, stor, boundO, resultsV, resV, partK, loadV, Vm.part, fillC, splice, reduceIte, reduceCtorEq, Nat.reduceEqDiff, Nat.reduceAdd, Nat.reduceSub, Nat.reduceMul, Nat.reduceLeDiff, ne_eq, not_false_eq_true, Int.reduceEq, Int.reduceLT, Int.reduceLE, Int.reduceNeg, Int.reduceToNat, Int.reduceGT, Int.reduceGE, Nat.reduceLT, Nat.lt_add_one, Nat.zero_lt_succ, Nat.succ_pos, Nat.zero_le, beq_self_eq_true, Bool.not_false]
    exact .no ⟨_, rfl⟩
  · rw [es, show itemsO (some l) = itemsR l from rfl]
    have ln := splitG_len (Nat.le_refl _) es
    simp only [List.length_nil] at ln
    have I := fun e u e4 h0 h32 => ritems_ok (L := L) (h := h) (e := e) (u := u) hl e4 h0 h32 (fun y hy => Nat.le_trans (split_mem es y hy) (by omega))
    have hnil : l.length = 0 → itemsR l = none := fun h => if_pos (.inl h)
    rcases hl with ⟨he, rfl⟩ | ⟨o, rfl⟩
    · have cn : l.length = 0 := by rw [← strs_len l, he]; rfl
      have z0 : ((0 : Nat) : Int) < 1 := by decide
      rw [hnil cn]
      simp (maxSteps := 4000000) only [vm, vl, Arg.get, cells, stor, boundO, resultsV, resV, partK, loadV, Vm.part, fillC, splice, reduceIte, reduceCtorEq, Nat.reduceEqDiff, Nat.reduceAdd, Nat.reduceSub, Nat.reduceMul, Nat.reduceLeDiff, ne_eq, not_false_eq_true, Int.reduceEq, Int.reduceLT, Int.reduceLE, Int.reduceNeg, Int.reduceToNat, Int.reduceGT, Int.reduceGE, Nat.reduceLT, Nat.lt_add_one, Nat.zero_lt_succ, Nat.succ_pos, Nat.zero_le, beq_self_eq_true, z0, decide_true, Bool.not_true]
      exact .no ⟨_, rfl⟩
    have ml : (strs l).length = l.length := strs_len l
    generalize strs l = LL at *
    by_cases c0 : l.length = 0
    · have c0' : (l.length : Int) < 1 := by omega
      rw [hnil c0]
      simp (maxSteps := 4000000) only [vm, vl, Arg.get, cells, stor, boundO, resultsV, resV, partK, loadV, Vm.part, fillC, splice, reduceIte, reduceCtorEq, Nat.reduceEqDiff, Nat.reduceAdd, Nat.reduceSub, Nat.reduceMul, Nat.reduceLeDiff, ne_eq, not_false_eq_true, Int.reduceEq, Int.reduceLT, Int.reduceLE, Int.reduceNeg, Int.reduceToNat, Int.reduceGT, Int.reduceGE, Nat.reduceLT, Nat.lt_add_one, Nat.zero_lt_succ, Nat.succ_pos, Nat.zero_le, beq_self_eq_true, ml, c0', decide_true, Bool.not_true]
      exact .no ⟨_, rfl⟩
    have c0' : ¬ (l.length : Int) < 1 := by omega
    by_cases c1 : l.length > 32
    · have c1' : (l.length : Int) > 32 := by omega
      rw [show itemsR l = none from if_pos (.inr c1)]
      simp (maxSteps := 4000000) only [vm, vl, Arg.get, cells, stor, boundO, resultsV, resV, partK, loadV, Vm.part, fillC, splice, reduceIte, reduceCtorEq, Nat.reduceEqDiff, Nat.reduceAdd, Nat.reduceSub, Nat.reduceMul, Nat.reduceLeDiff, ne_eq, not_false_eq_true, Int.reduceEq, Int.reduceLT, Int.reduceLE, Int.reduceNeg, Int.reduceToNat, Int.reduceGT, Int.reduceGE, Nat.reduceLT, Nat.lt_add_one, Nat.zero_lt_succ, Nat.succ_pos, Nat.zero_le, beq_self_eq_true, ml, c0', c1', decide_true, decide_false, Bool.not_true]
      exact .no ⟨_, rfl⟩
    have c1' : ¬ (l.length : Int) > 32 := by omega
    simp (maxSteps := 4000000) only [vm, vl, Arg.get, cells, stor, boundO, resultsV, resV, partK, loadV, Vm.part, fillC, splice, reduceIte, reduceCtorEq, Nat.reduceEqDiff, Nat.reduceAdd, Nat.reduceSub, Nat.reduceMul, Nat.reduceLeDiff, ne_eq, not_false_eq_true, Int.reduceEq, Int.reduceLT, Int.reduceLE, Int.reduceNeg, Int.reduceToNat, Int.reduceGT, Int.reduceGE, Nat.reduceLT, Nat.lt_add_one, Nat.zero_lt_succ, Nat.succ_pos, Nat.zero_le, beq_self_eq_true, ml, c0', c1', decide_true, decide_false, Bool.not_true]
    exact I _ _ (by simp [upd]) c0 (by omega)
def lastP (l : List (Int × Int)) : Int × Int := l.getLast?.getD (0, 0)
theorem rpickE_ok {l : List (Int × Int)} {h u : Heap} {t1 : Nat} {id : Nat} (hb : (h ++ O.box [.int .i64 0, .int .i64 0] :: u)[id]? = some (.box [.int .i64 (lastP l).1, .int .i64 (lastP l).2])) : k_gatepostref14_Pick_1 L (Pu h (pickV (endP l))) (.ptr h.length 0) (.int .i64 l.length) (.ptr id 0) (h ++ O.box [.int .i64 0, .int .i64 0] :: u) := by
  
  unfold k_gatepostref14_Pick_1
  match l with
  | [] =>
    have wl : (([] : List (Int × Int)).length : Int) = 0 := rfl
    simp (maxSteps := 4000000) only [vm, vl, Arg.get, cells, stor, boundO, resultsV, resV, partK, loadV, Vm.part, fillC, splice, reduceIte, reduceCtorEq, Nat.reduceEqDiff, Nat.reduceAdd, Nat.reduceSub, Nat.reduceMul, Nat.reduceLeDiff, ne_eq, not_false_eq_true, Int.reduceEq, Int.reduceLT, Int.reduceLE, Int.reduceNeg, Int.reduceToNat, Int.reduceGT, Int.reduceGE, Nat.reduceLT, Nat.lt_add_one, Nat.zero_lt_succ, Nat.succ_pos, Nat.zero_le, beq_self_eq_true, wl, decide_true, endP, pickV]
  | [p] =>
    have wl : (([p] : List (Int × Int)).length : Int) = 1 := rfl
    have wg : ¬ (1 : Int) > 1 := by omega
    have lp : lastP [p] = p := rfl
    rw [lp] at hb
    simp (maxSteps := 4000000) only [vm, vl, Arg.get, cells, stor, boundO, resultsV, resV, partK, loadV, Vm.part, fillC, splice, reduceIte, reduceCtorEq, Nat.reduceEqDiff, Nat.reduceAdd, Nat.reduceSub, Nat.reduceMul, Nat.reduceLeDiff, ne_eq, not_false_eq_true, Int.reduceEq, Int.reduceLT, Int.reduceLE, Int.reduceNeg, Int.reduceToNat, Int.reduceGT, Int.reduceGE, Nat.reduceLT, Nat.lt_add_one, Nat.zero_lt_succ, Nat.succ_pos, Nat.zero_le, beq_self_eq_true, wl, wg, decide_true, decide_false, hb, k_gatepostref14_Pick_2, k_gatepostref14_Pick_3, endP, pickV]
  | p :: q :: r =>
    have wl0 : ¬ (((p :: q :: r).length : Nat) : Int) = 0 := by simp only [List.length_cons]; omega
    have wl1 : (((p :: q :: r).length : Nat) : Int) > 1 := by simp only [List.length_cons]; omega
    generalize (((p :: q :: r).length : Nat) : Int) = N at *
    simp (maxSteps := 4000000) only [vm, vl, Arg.get, cells, stor, boundO, resultsV, resV, partK, loadV, Vm.part, fillC, splice, reduceIte, reduceCtorEq, Nat.reduceEqDiff, Nat.reduceAdd, Nat.reduceSub, Nat.reduceMul, Nat.reduceLeDiff, ne_eq, not_false_eq_true, Int.reduceEq, Int.reduceLT, Int.reduceLE, Int.reduceNeg, Int.reduceToNat, Int.reduceGT, Int.reduceGE, Nat.reduceLT, Nat.lt_add_one, Nat.zero_lt_succ, Nat.succ_pos, Nat.zero_le, beq_self_eq_true, wl0, wl1, decide_true, decide_false, k_gatepostref14_Pick_2, endP, pickV]
theorem last_app (l : List (Int × Int)) (p : Int × Int) : lastP (l ++ [p]) = p := by unfold lastP; simp
theorem rPick_ok {s : Bs} {long : Int} (hs : s.length < 1000000000) : Cf F L i_gatepostref14_Pick [.str s, .int .i64 long] h (Pu h (pickV (pickR (parseR s) long))) := by
  refine run_gatepostref14_Pick ?_
  simp only [p_gatepostref14_Pick]
  
  simp (maxSteps := 4000000) only [vm, vl, Arg.get, cells, stor, boundO, resultsV, resV, partK, loadV, Vm.part, fillC, splice, reduceIte, reduceCtorEq, Nat.reduceEqDiff, Nat.reduceAdd, Nat.reduceSub, Nat.reduceMul, Nat.reduceLeDiff, ne_eq, not_false_eq_true, Int.reduceEq, Int.reduceLT, Int.reduceLE, Int.reduceNeg, Int.reduceToNat, Int.reduceGT, Int.reduceGE, Nat.reduceLT, Nat.lt_add_one, Nat.zero_lt_succ, Nat.succ_pos, Nat.zero_le, beq_self_eq_true]
  refine (rParse_ok hs).mono fun v h' hp => ?_
  obtain ⟨⟨t, rfl⟩, ⟨e, rfl⟩ | ⟨ws, x, e, hn, rfl, hl⟩⟩ := hp
  · rw [e]
    simp (maxSteps := 4000000) only [vm, vl, Arg.get, cells, stor, boundO, resultsV, resV, partK, loadV, Vm.part, fillC, splice, reduceIte, reduceCtorEq, Nat.reduceEqDiff, Nat.reduceAdd, Nat.reduceSub, Nat.reduceMul, Nat.reduceLeDiff, ne_eq, not_false_eq_true, Int.reduceEq, Int.reduceLT, Int.reduceLE, Int.reduceNeg, Int.reduceToNat, Int.reduceGT, Int.reduceGE, Nat.reduceLT, Nat.lt_add_one, Nat.zero_lt_succ, Nat.succ_pos, Nat.zero_le, beq_self_eq_true, Bool.not_false, pickR, pickV]
  · rw [e]
    by_cases a1 : long < 0
    · rw [show pickR (some ws) long = ((0, 0), 0) from if_pos (.inl a1)]
      simp (maxSteps := 4000000) only [vm, vl, Arg.get, cells, stor, boundO, resultsV, resV, partK, loadV, Vm.part, fillC, splice, reduceIte, reduceCtorEq, Nat.reduceEqDiff, Nat.reduceAdd, Nat.reduceSub, Nat.reduceMul, Nat.reduceLeDiff, ne_eq, not_false_eq_true, Int.reduceEq, Int.reduceLT, Int.reduceLE, Int.reduceNeg, Int.reduceToNat, Int.reduceGT, Int.reduceGE, Nat.reduceLT, Nat.lt_add_one, Nat.zero_lt_succ, Nat.succ_pos, Nat.zero_le, beq_self_eq_true, Bool.not_true, a1, decide_true, pickV]
    by_cases a2 : long > 1048576
    · rw [show pickR (some ws) long = ((0, 0), 0) from if_pos (.inr a2)]
      simp (maxSteps := 4000000) only [vm, vl, Arg.get, cells, stor, boundO, resultsV, resV, partK, loadV, Vm.part, fillC, splice, reduceIte, reduceCtorEq, Nat.reduceEqDiff, Nat.reduceAdd, Nat.reduceSub, Nat.reduceMul, Nat.reduceLeDiff, ne_eq, not_false_eq_true, Int.reduceEq, Int.reduceLT, Int.reduceLE, Int.reduceNeg, Int.reduceToNat, Int.reduceGT, Int.reduceGE, Nat.reduceLT, Nat.lt_add_one, Nat.zero_lt_succ, Nat.succ_pos, Nat.zero_le, beq_self_eq_true, Bool.not_true, a1, a2, decide_true, decide_false, pickV]
    rw [show pickR (some ws) long = endP (picks long ws) from if_neg (fun h => h.elim a1 a2)]
    have l1 := fun {K : V → Heap → Prop} {h : Heap} => hl.len (F := F) (L := L) (e := E0) (K := K) (h := h)
    simp only [wants_len] at l1
    simp (maxSteps := 4000000) only [vm, vl, Arg.get, cells, stor, boundO, resultsV, resV, partK, loadV, Vm.part, fillC, splice, reduceIte, reduceCtorEq, Nat.reduceEqDiff, Nat.reduceAdd, Nat.reduceSub, Nat.reduceMul, Nat.reduceLeDiff, ne_eq, not_false_eq_true, Int.reduceEq, Int.reduceLT, Int.reduceLE, Int.reduceNeg, Int.reduceToNat, Int.reduceGT, Int.reduceGE, Nat.reduceLT, Nat.lt_add_one, Nat.zero_lt_succ, Nat.succ_pos, Nat.zero_le, beq_self_eq_true, Bool.not_true, a1, a2, decide_true, decide_false, k_gatepostref14_Pick_0]
    refine l_gatepostref14_Pick_0 (fun n e h' => ∃ i, n = ws.length - i ∧ i ≤ ws.length ∧ e 1 = .int .i64 long ∧ e 4 = .ptr h.length 0 ∧ e 6 = x ∧ e 8 = .int .i64 (picks long (ws.take i)).length ∧ e 9 = .ptr (h.length + (t.length + 1)) 0 ∧ e 10 = .int .i64 i ∧ ∃ u, h' = h ++ (O.box [.int .i64 0, .int .i64 0] :: (t ++ (O.box [.int .i64 (lastP (picks long (ws.take i))).1, .int .i64 (lastP (picks long (ws.take i))).2] :: u)))) ?_ (n := ws.length) ⟨0, by simp, by simp, rfl, rfl, rfl, rfl, rfl, rfl, [], rfl⟩
    rintro n e h' ⟨i, rfl, hi, e1, e4, e6, e8, e9, e10, u, rfl⟩
    simp only [b_gatepostref14_Pick_0]
    have pl : (picks long (ws.take i)).length ≤ 32 := Nat.le_trans (List.length_filterMap_le _ _) (by rw [List.length_take]; omega)
    rcases list_at' (0, 0) hi with ⟨hn', rfl, hd⟩ | ⟨hl1, hl2, hd, htk⟩
    · rw [List.take_length] at e8
      rw [List.take_length]
      have R := fun u hb => rpickE_ok (L := L) (l := picks long ws) (h := h) (u := u) (t1 := 0) (id := h.length + (t.length + 1)) hb
      generalize picks long ws = pk at *
      simp (maxSteps := 4000000) only [vm, vl, Arg.get, cells, stor, boundO, resultsV, resV, partK, loadV, Vm.part, fillC, splice, reduceIte, reduceCtorEq, Nat.reduceEqDiff, Nat.reduceAdd, Nat.reduceSub, Nat.reduceMul, Nat.reduceLeDiff, ne_eq, not_false_eq_true, Int.reduceEq, Int.reduceLT, Int.reduceLE, Int.reduceNeg, Int.reduceToNat, Int.reduceGT, Int.reduceGE, Nat.reduceLT, Nat.lt_add_one, Nat.zero_lt_succ, Nat.succ_pos, Nat.zero_le, beq_self_eq_true, e1, e4, e6, e8, e9, e10, l1, hn', decide_false]
      exact R _ (by simp (maxSteps := 4000000) only [vm, vl, Arg.get, cells, stor, boundO, resultsV, resV, partK, loadV, Vm.part, fillC, splice, reduceIte, reduceCtorEq, Nat.reduceEqDiff, Nat.reduceAdd, Nat.reduceSub, Nat.reduceMul, Nat.reduceLeDiff, ne_eq, not_false_eq_true, Int.reduceEq, Int.reduceLT, Int.reduceLE, Int.reduceNeg, Int.reduceToNat, Int.reduceGT, Int.reduceGE, Nat.reduceLT, Nat.lt_add_one, Nat.zero_lt_succ, Nat.succ_pos, Nat.zero_le, beq_self_eq_true])
    · have w := wrap64 (x := (i : Int) + 1) (by omega) (by omega)
      have i1 := fun {K : V → Heap → Prop} {h : Heap} => hl.at (F := F) (L := L) (e := E0) (K := K) (h := h) (i := i) (by rw [wants_len]; exact hl2)
      have a3 := wants_at hl2
      generalize hf : ws.getD i (0, 0) = f at *
      obtain ⟨p, q⟩ := f
      simp only at a3
      have Rs := fun hh => rResolve_ok (L := L) (h := hh) (f := p) (t := q) (long := long)
      have pt : picks long (ws.take (i + 1)) = picks long (ws.take i) ++ (match resS p q long with
        | some y => [y]
        | none => []) := by
        rw [htk]; unfold picks; rw [List.filterMap_append]
        congr 1
        simp only [List.filterMap_cons, List.filterMap_nil]
        cases resS p q long <;> rfl
      generalize picks long (ws.take i) = pk at *
      generalize hpk : picks long (ws.take (i + 1)) = pk1 at *
      have w2 : IntKind.i64.wrap ((pk.length : Int) + 1) = ((pk.length + 1 : Nat) : Int) := by rw [wrap64 (by omega) (by omega)]; omega
      simp (maxSteps := 4000000) only [vm, vl, Arg.get, cells, stor, boundO, resultsV, resV, partK, loadV, Vm.part, fillC, splice, reduceIte, reduceCtorEq, Nat.reduceEqDiff, Nat.reduceAdd, Nat.reduceSub, Nat.reduceMul, Nat.reduceLeDiff, ne_eq, not_false_eq_true, Int.reduceEq, Int.reduceLT, Int.reduceLE, Int.reduceNeg, Int.reduceToNat, Int.reduceGT, Int.reduceGE, Nat.reduceLT, Nat.lt_add_one, Nat.zero_lt_succ, Nat.succ_pos, Nat.zero_le, beq_self_eq_true, e1, e4, e6, e8, e9, e10, l1, hl1, decide_true, k_gatepostref14_Pick_4, i1, a3]
      refine Cf.pu (Rs _) fun t1 => ?_
      rcases res_tup p q long with ⟨r1, r2⟩ | ⟨a, b, r1, r2⟩
      · rw [r2]
        rw [r1] at pt
        have pe : pk1 = pk := by rw [pt, List.append_nil]
        subst pe
        simp (maxSteps := 4000000) only [vm, vl, Arg.get, cells, stor, boundO, resultsV, resV, partK, loadV, Vm.part, fillC, splice, reduceIte, reduceCtorEq, Nat.reduceEqDiff, Nat.reduceAdd, Nat.reduceSub, Nat.reduceMul, Nat.reduceLeDiff, ne_eq, not_false_eq_true, Int.reduceEq, Int.reduceLT, Int.reduceLE, Int.reduceNeg, Int.reduceToNat, Int.reduceGT, Int.reduceGE, Nat.reduceLT, Nat.lt_add_one, Nat.zero_lt_succ, Nat.succ_pos, Nat.zero_le, beq_self_eq_true, k_gatepostref14_Pick_5, w]
        refine ⟨ws.length - (i + 1), by omega, i + 1, rfl, hl2, ?_⟩
        rw [hpk]
        exact ⟨e1, e4, e6, e8, e9, rfl, _, rfl⟩
      · rw [r2]
        rw [r1] at pt
        simp only at pt
        have ll : lastP pk1 = (a, b) := by rw [pt]; exact last_app _ _
        have pn : pk1.length = pk.length + 1 := by rw [pt]; simp
        simp (maxSteps := 4000000) only [vm, vl, Arg.get, cells, stor, boundO, resultsV, resV, partK, loadV, Vm.part, fillC, splice, reduceIte, reduceCtorEq, Nat.reduceEqDiff, Nat.reduceAdd, Nat.reduceSub, Nat.reduceMul, Nat.reduceLeDiff, ne_eq, not_false_eq_true, Int.reduceEq, Int.reduceLT, Int.reduceLE, Int.reduceNeg, Int.reduceToNat, Int.reduceGT, Int.reduceGE, Nat.reduceLT, Nat.lt_add_one, Nat.zero_lt_succ, Nat.succ_pos, Nat.zero_le, beq_self_eq_true, k_gatepostref14_Pick_5, w, w2]
        refine ⟨ws.length - (i + 1), by omega, i + 1, rfl, hl2, ?_⟩
        rw [hpk, ll, pn]
        exact ⟨e1, e4, e6, rfl, e9, rfl, _, rfl⟩
theorem tells_one : parseR [98, 121, 116, 101, 115, 61, 48, 45, 49] = some [(0, 1)] := by decide +kernel
theorem tells_pick : pickR (some [(0, 1)]) 10 = ((0, 2), 1) := by decide +kernel
theorem tells2_ok (HI : IndexOk L) {s : Bs} {a b long : Int} {id : Nat} {h : Heap} (hs : s.length < 1000000000) (hb : h[id]? = some (.box [.int .i64 a, .int .i64 b])) : k_gatepostlaw14_RangesTells_2 L (fun v _ => v = .bool true) (.str s) (.int .i64 long) (.ptr id 0) h := by
  
  unfold k_gatepostlaw14_RangesTells_2
  have hi := (List.getElem?_eq_some_iff.1 hb).1
  have hb' : ∀ l : Heap, (h ++ l)[id]? = some (.box [.int .i64 a, .int .i64 b]) := fun l => by rw [List.getElem?_append_left hi, hb]
  have q0 : ∀ (a b c d : Int), eqV (.agg [.i, .i]) (.agg [.int .i64 a, .int .i64 b]) (.agg [.int .i64 c, .int .i64 d]) = some (decide (a = c) && decide (b = d)) := fun _ _ _ _ => eq_ints
  have rt : ∃ (x y : Int) (k : Bool), resV' (resS a b long) = .tup [.agg [.int .i64 x, .int .i64 y], .bool k] := by
    rcases res_tup a b long with ⟨_, e⟩ | ⟨x, y, _, e⟩
    · exact ⟨_, _, _, e⟩
    · exact ⟨_, _, _, e⟩
  obtain ⟨x, y, k, er⟩ := rt
  have R1 : ∀ hh, Cf F L i_ranges_Resolve [.agg [.int .i64 a, .int .i64 b], .int .i64 long] hh (Pu hh (.tup [.agg [.int .i64 x, .int .i64 y], .bool k])) := fun hh => by rw [← er]; exact Resolve_ok
  have R2 : ∀ hh, Cf F L i_gatepostref14_Resolve [.agg [.int .i64 a, .int .i64 b], .int .i64 long] hh (Pu hh (.tup [.agg [.int .i64 x, .int .i64 y], .bool k])) := fun hh => by rw [← er]; exact rResolve_ok
  have P1 := fun hh => Pick_ok (L := L) (h := hh) HI (s := s) (long := long) hs
  have P2 := fun hh => rPick_ok (L := L) (h := hh) (s := s) (long := long) hs
  generalize pickR (parseR s) long = pk at *
  obtain ⟨⟨p1, p2⟩, p3⟩ := pk
  have P3 : ∀ hh, Cf F L i_ranges_Pick [.str [98, 121, 116, 101, 115, 61, 48, 45, 49], .int .i64 10] hh (Pu hh (pickV ((0, 2), 1))) := fun hh => by
    have := Pick_ok (L := L) (h := hh) HI (s := [98, 121, 116, 101, 115, 61, 48, 45, 49]) (long := 10) (by simp)
    rwa [tells_one, tells_pick] at this
  have bb : (k == k) = true := by cases k <;> rfl
  unfold pickV at P1 P2 P3
  simp (maxSteps := 4000000) only [vm, vl, Arg.get, cells, stor, boundO, resultsV, resV, partK, loadV, Vm.part, fillC, splice, reduceIte, reduceCtorEq, Nat.reduceEqDiff, Nat.reduceAdd, Nat.reduceSub, Nat.reduceMul, Nat.reduceLeDiff, ne_eq, not_false_eq_true, Int.reduceEq, Int.reduceLT, Int.reduceLE, Int.reduceNeg, Int.reduceToNat, Int.reduceGT, Int.reduceGE, Nat.reduceLT, Nat.lt_add_one, Nat.zero_lt_succ, Nat.succ_pos, Nat.zero_le, beq_self_eq_true, hb]
  refine Cf.pu (R1 _) fun u1 => ?_
  simp (maxSteps := 4000000) only [vm, vl, Arg.get, cells, stor, boundO, resultsV, resV, partK, loadV, Vm.part, fillC, splice, reduceIte, reduceCtorEq, Nat.reduceEqDiff, Nat.reduceAdd, Nat.reduceSub, Nat.reduceMul, Nat.reduceLeDiff, ne_eq, not_false_eq_true, Int.reduceEq, Int.reduceLT, Int.reduceLE, Int.reduceNeg, Int.reduceToNat, Int.reduceGT, Int.reduceGE, Nat.reduceLT, Nat.lt_add_one, Nat.zero_lt_succ, Nat.succ_pos, Nat.zero_le, beq_self_eq_true, hb']
  refine Cf.pu (R2 _) fun u2 => ?_
  simp (maxSteps := 4000000) only [vm, vl, Arg.get, cells, stor, boundO, resultsV, resV, partK, loadV, Vm.part, fillC, splice, reduceIte, reduceCtorEq, Nat.reduceEqDiff, Nat.reduceAdd, Nat.reduceSub, Nat.reduceMul, Nat.reduceLeDiff, ne_eq, not_false_eq_true, Int.reduceEq, Int.reduceLT, Int.reduceLE, Int.reduceNeg, Int.reduceToNat, Int.reduceGT, Int.reduceGE, Nat.reduceLT, Nat.lt_add_one, Nat.zero_lt_succ, Nat.succ_pos, Nat.zero_le, beq_self_eq_true, hb']
  refine Cf.pu (P1 _) fun u3 => ?_
  simp (maxSteps := 4000000) only [vm, vl, Arg.get, cells, stor, boundO, resultsV, resV, partK, loadV, Vm.part, fillC, splice, reduceIte, reduceCtorEq, Nat.reduceEqDiff, Nat.reduceAdd, Nat.reduceSub, Nat.reduceMul, Nat.reduceLeDiff, ne_eq, not_false_eq_true, Int.reduceEq, Int.reduceLT, Int.reduceLE, Int.reduceNeg, Int.reduceToNat, Int.reduceGT, Int.reduceGE, Nat.reduceLT, Nat.lt_add_one, Nat.zero_lt_succ, Nat.succ_pos, Nat.zero_le, beq_self_eq_true, hb']
  refine Cf.pu (P2 _) fun u4 => ?_
  simp (maxSteps := 4000000) only [vm, vl, Arg.get, cells, stor, boundO, resultsV, resV, partK, loadV, Vm.part, fillC, splice, reduceIte, reduceCtorEq, Nat.reduceEqDiff, Nat.reduceAdd, Nat.reduceSub, Nat.reduceMul, Nat.reduceLeDiff, ne_eq, not_false_eq_true, Int.reduceEq, Int.reduceLT, Int.reduceLE, Int.reduceNeg, Int.reduceToNat, Int.reduceGT, Int.reduceGE, Nat.reduceLT, Nat.lt_add_one, Nat.zero_lt_succ, Nat.succ_pos, Nat.zero_le, beq_self_eq_true, hb']
  refine Cf.pu (P3 _) fun u5 => ?_
  simp (maxSteps := 4000000) only [vm, vl, Arg.get, cells, stor, boundO, resultsV, resV, partK, loadV, Vm.part, fillC, splice, reduceIte, reduceCtorEq, Nat.reduceEqDiff, Nat.reduceAdd, Nat.reduceSub, Nat.reduceMul, Nat.reduceLeDiff, ne_eq, not_false_eq_true, Int.reduceEq, Int.reduceLT, Int.reduceLE, Int.reduceNeg, Int.reduceToNat, Int.reduceGT, Int.reduceGE, Nat.reduceLT, Nat.lt_add_one, Nat.zero_lt_succ, Nat.succ_pos, Nat.zero_le, beq_self_eq_true, q0, eq_bool, bb, decide_true, Bool.and_self]
theorem tells1_ok (HI : IndexOk L) {s : Bs} {ws : List (Int × Int)} {x y : V} {a b long : Int} {e : Env} {u : Heap} (hs : s.length < 1000000000) (hn : ws.length ≤ 32) (hx : ListV 2 x (wants ws)) (hy : ListV 2 y (wants ws)) (e0 : e 0 = .str s) (e2 : e 2 = .int .i64 long) (e4 : e 4 = .ptr h.length 0) (e7 : e 7 = x) (e9 : e 9 = y) :
    k_gatepostlaw14_RangesTells_1 L (fun v _ => v = .bool true) e (h ++ (O.box [.int .i64 a, .int .i64 b] :: u)) := by
  
  unfold k_gatepostlaw14_RangesTells_1
  have q0 : ∀ (a b c d : Int), eqV (.agg [.i, .i]) (.agg [.int .i64 a, .int .i64 b]) (.agg [.int .i64 c, .int .i64 d]) = some (decide (a = c) && decide (b = d)) := fun _ _ _ _ => eq_ints
  have l1 := fun {K : V → Heap → Prop} {h : Heap} => hy.len (F := F) (L := L) (e := E0) (K := K) (h := h)
  simp only [wants_len] at l1
  refine l_gatepostlaw14_RangesTells_0 (fun n e h' => ∃ i : Nat, n = ws.length - i ∧ i ≤ ws.length ∧ e 0 = .str s ∧ e 2 = .int .i64 long ∧ e 4 = .ptr h.length 0 ∧ e 7 = x ∧ e 9 = y ∧ e 11 = .int .i64 i ∧ ∃ u, h' = h ++ (O.box [.int .i64 a, .int .i64 b] :: u)) ?_ (n := ws.length) ⟨0, by simp, by simp, by simp [upd, e0], by simp [upd, e2], by simp [upd, e4], by simp [upd, e7], by simp [upd, e9], rfl, u, rfl⟩
  rintro n e h' ⟨i, rfl, hi, e0, e2, e4, e7, e9, e11, u, rfl⟩
  simp only [b_gatepostlaw14_RangesTells_0]
  by_cases q : i < ws.length
  · have q' : (i : Int) < ws.length := by omega
    have w := wrap64 (x := (i : Int) + 1) (by omega) (by omega)
    have hz : (wants ws).length ≠ 0 := by rw [wants_len]; omega
    have hx' : ∃ o, x = .sl 2 o (wants ws) := hx.elim (fun h => absurd (by rw [h.1]; rfl) hz) id
    have hy' : ∃ o, y = .sl 2 o (wants ws) := hy.elim (fun h => absurd (by rw [h.1]; rfl) hz) id
    obtain ⟨o1, rfl⟩ := hx'
    obtain ⟨o2, rfl⟩ := hy'
    have a3 := wants_at q
    have wl := wants_len ws
    have z0 : (0 : Int) ≤ i := by omega
    generalize ws.getD i (0, 0) = f at *
    obtain ⟨p, r⟩ := f
    simp only at a3
    generalize wants ws = W at *
    simp (maxSteps := 4000000) only [vm, vl, Arg.get, cells, stor, boundO, resultsV, resV, partK, loadV, Vm.part, fillC, splice, reduceIte, reduceCtorEq, Nat.reduceEqDiff, Nat.reduceAdd, Nat.reduceSub, Nat.reduceMul, Nat.reduceLeDiff, ne_eq, not_false_eq_true, Int.reduceEq, Int.reduceLT, Int.reduceLE, Int.reduceNeg, Int.reduceToNat, Int.reduceGT, Int.reduceGE, Nat.reduceLT, Nat.lt_add_one, Nat.zero_lt_succ, Nat.succ_pos, Nat.zero_le, beq_self_eq_true, e0, e2, e4, e7, e9, e11, l1, q', q, decide_true, k_gatepostlaw14_RangesTells_3, a3, wl, z0, q0, decide_true, Bool.and_self, Bool.not_true, k_gatepostlaw14_RangesTells_4, w]
    exact ⟨ws.length - (i + 1), by omega, i + 1, rfl, by omega, rfl, _, rfl⟩
  · have q' : ¬ (i : Int) < ws.length := by omega
    have T := fun u => tells2_ok (L := L) HI (s := s) (a := a) (b := b) (long := long) (id := h.length) (h := h ++ (O.box [.int .i64 a, .int .i64 b] :: u)) hs (by simp)
    simp (maxSteps := 4000000) only [vm, vl, Arg.get, cells, stor, boundO, resultsV, resV, partK, loadV, Vm.part, fillC, splice, reduceIte, reduceCtorEq, Nat.reduceEqDiff, Nat.reduceAdd, Nat.reduceSub, Nat.reduceMul, Nat.reduceLeDiff, ne_eq, not_false_eq_true, Int.reduceEq, Int.reduceLT, Int.reduceLE, Int.reduceNeg, Int.reduceToNat, Int.reduceGT, Int.reduceGE, Nat.reduceLT, Nat.lt_add_one, Nat.zero_lt_succ, Nat.succ_pos, Nat.zero_le, beq_self_eq_true, e0, e2, e4, e7, e9, e11, l1, q', decide_false]
    exact T _
theorem RangesTells_ok (HI : IndexOk L) {s : Bs} {a b long : Int} (hs : s.length ≤ 140737488351232) : Cf F L i_gatepostlaw14_RangesTells [.str s, .agg [.int .i64 a, .int .i64 b], .int .i64 long] h (fun v _ => v = .bool true) := by
  refine run_gatepostlaw14_RangesTells ?_
  simp only [p_gatepostlaw14_RangesTells]
  
  by_cases c : s.length > 1000
  · have c' : (s.length : Int) > 1000 := by omega
    simp (maxSteps := 4000000) only [vm, vl, Arg.get, cells, stor, boundO, resultsV, resV, partK, loadV, Vm.part, fillC, splice, reduceIte, reduceCtorEq, Nat.reduceEqDiff, Nat.reduceAdd, Nat.reduceSub, Nat.reduceMul, Nat.reduceLeDiff, ne_eq, not_false_eq_true, Int.reduceEq, Int.reduceLT, Int.reduceLE, Int.reduceNeg, Int.reduceToNat, Int.reduceGT, Int.reduceGE, Nat.reduceLT, Nat.lt_add_one, Nat.zero_lt_succ, Nat.succ_pos, Nat.zero_le, beq_self_eq_true, c', decide_true]
  have c' : ¬ (s.length : Int) > 1000 := by omega
  have hsl : s.length < 1000000000 := by omega
  simp (maxSteps := 4000000) only [vm, vl, Arg.get, cells, stor, boundO, resultsV, resV, partK, loadV, Vm.part, fillC, splice, reduceIte, reduceCtorEq, Nat.reduceEqDiff, Nat.reduceAdd, Nat.reduceSub, Nat.reduceMul, Nat.reduceLeDiff, ne_eq, not_false_eq_true, Int.reduceEq, Int.reduceLT, Int.reduceLE, Int.reduceNeg, Int.reduceToNat, Int.reduceGT, Int.reduceGE, Nat.reduceLT, Nat.lt_add_one, Nat.zero_lt_succ, Nat.succ_pos, Nat.zero_le, beq_self_eq_true, c', decide_false, k_gatepostlaw14_RangesTells_0]
  refine (Parse_ok HI hsl).mono fun v h' hp => ?_
  obtain ⟨⟨t1, rfl⟩, hp⟩ := hp
  have T := fun ws x y hn hx hy e u e0 e2 e4 e7 e9 => tells1_ok (L := L) (h := h) HI (s := s) (ws := ws) (x := x) (y := y) (a := a) (b := b) (long := long) (e := e) (u := u) hsl hn hx hy e0 e2 e4 e7 e9
  rcases hp with ⟨e1, rfl⟩ | ⟨ws, x, e1, hn, rfl, hx⟩
  · simp (maxSteps := 4000000) only [vm, vl, Arg.get, cells, stor, boundO, resultsV, resV, partK, loadV, Vm.part, fillC, splice, reduceIte, reduceCtorEq, Nat.reduceEqDiff, Nat.reduceAdd, Nat.reduceSub, Nat.reduceMul, Nat.reduceLeDiff, ne_eq, not_false_eq_true, Int.reduceEq, Int.reduceLT, Int.reduceLE, Int.reduceNeg, Int.reduceToNat, Int.reduceGT, Int.reduceGE, Nat.reduceLT, Nat.lt_add_one, Nat.zero_lt_succ, Nat.succ_pos, Nat.zero_le, beq_self_eq_true]
    refine (rParse_ok hsl).mono fun v h' hp => ?_
    obtain ⟨⟨t2, rfl⟩, ⟨e2, rfl⟩ | ⟨ws, x, e2, _⟩⟩ := hp
    case inr => rw [e1] at e2; cases e2
    simp (maxSteps := 4000000) only [vm, vl, Arg.get, cells, stor, boundO, resultsV, resV, partK, loadV, Vm.part, fillC, splice, reduceIte, reduceCtorEq, Nat.reduceEqDiff, Nat.reduceAdd, Nat.reduceSub, Nat.reduceMul, Nat.reduceLeDiff, ne_eq, not_false_eq_true, Int.reduceEq, Int.reduceLT, Int.reduceLE, Int.reduceNeg, Int.reduceToNat, Int.reduceGT, Int.reduceGE, Nat.reduceLT, Nat.lt_add_one, Nat.zero_lt_succ, Nat.succ_pos, Nat.zero_le, beq_self_eq_true, eq_bool, beq_self_eq_true, Bool.not_true, decide_true]
    exact T [] _ _ (by simp) (.inl ⟨rfl, rfl⟩) (.inl ⟨rfl, rfl⟩) _ _ (by simp [upd, enterE]) (by simp [upd, enterE]) (by simp [upd]) (by simp [upd]) (by simp [upd])
  · simp (maxSteps := 4000000) only [vm, vl, Arg.get, cells, stor, boundO, resultsV, resV, partK, loadV, Vm.part, fillC, splice, reduceIte, reduceCtorEq, Nat.reduceEqDiff, Nat.reduceAdd, Nat.reduceSub, Nat.reduceMul, Nat.reduceLeDiff, ne_eq, not_false_eq_true, Int.reduceEq, Int.reduceLT, Int.reduceLE, Int.reduceNeg, Int.reduceToNat, Int.reduceGT, Int.reduceGE, Nat.reduceLT, Nat.lt_add_one, Nat.zero_lt_succ, Nat.succ_pos, Nat.zero_le, beq_self_eq_true]
    refine (rParse_ok hsl).mono fun v h' hp => ?_
    obtain ⟨⟨t2, rfl⟩, ⟨e2, rfl⟩ | ⟨ws', y, e2, _, rfl, hy⟩⟩ := hp
    case inl => rw [e1] at e2; cases e2
    rw [e1] at e2
    injection e2 with e2
    subst e2
    have T' := T ws x y hn hx hy
    have wl := wants_len ws
    rcases hx with ⟨hxe, rfl⟩ | ⟨o1, rfl⟩
    · rcases hy with ⟨hye, rfl⟩ | ⟨o2, rfl⟩
      · simp (maxSteps := 4000000) only [vm, vl, Arg.get, cells, stor, boundO, resultsV, resV, partK, loadV, Vm.part, fillC, splice, reduceIte, reduceCtorEq, Nat.reduceEqDiff, Nat.reduceAdd, Nat.reduceSub, Nat.reduceMul, Nat.reduceLeDiff, ne_eq, not_false_eq_true, Int.reduceEq, Int.reduceLT, Int.reduceLE, Int.reduceNeg, Int.reduceToNat, Int.reduceGT, Int.reduceGE, Nat.reduceLT, Nat.lt_add_one, Nat.zero_lt_succ, Nat.succ_pos, Nat.zero_le, beq_self_eq_true, eq_bool, beq_self_eq_true, Bool.not_true, decide_true]
        exact T' _ _ (by simp [upd, enterE]) (by simp [upd, enterE]) (by simp [upd]) (by simp [upd]) (by simp [upd])
      · rw [hxe] at T' ⊢
        have ln : ((([] : List V).length : Nat) : Int) = 0 := rfl
        simp (maxSteps := 4000000) only [vm, vl, Arg.get, cells, stor, boundO, resultsV, resV, partK, loadV, Vm.part, fillC, splice, reduceIte, reduceCtorEq, Nat.reduceEqDiff, Nat.reduceAdd, Nat.reduceSub, Nat.reduceMul, Nat.reduceLeDiff, ne_eq, not_false_eq_true, Int.reduceEq, Int.reduceLT, Int.reduceLE, Int.reduceNeg, Int.reduceToNat, Int.reduceGT, Int.reduceGE, Nat.reduceLT, Nat.lt_add_one, Nat.zero_lt_succ, Nat.succ_pos, Nat.zero_le, beq_self_eq_true, eq_bool, beq_self_eq_true, Bool.not_true, decide_true, ln]
        exact T' _ _ (by simp [upd, enterE]) (by simp [upd, enterE]) (by simp [upd]) (by simp [upd]) (by simp [upd])
    · rcases hy with ⟨hye, rfl⟩ | ⟨o2, rfl⟩
      · rw [hye] at T' ⊢
        have ln : ((([] : List V).length : Nat) : Int) = 0 := rfl
        simp (maxSteps := 4000000) only [vm, vl, Arg.get, cells, stor, boundO, resultsV, resV, partK, loadV, Vm.part, fillC, splice, reduceIte, reduceCtorEq, Nat.reduceEqDiff, Nat.reduceAdd, Nat.reduceSub, Nat.reduceMul, Nat.reduceLeDiff, ne_eq, not_false_eq_true, Int.reduceEq, Int.reduceLT, Int.reduceLE, Int.reduceNeg, Int.reduceToNat, Int.reduceGT, Int.reduceGE, Nat.reduceLT, Nat.lt_add_one, Nat.zero_lt_succ, Nat.succ_pos, Nat.zero_le, beq_self_eq_true, eq_bool, beq_self_eq_true, Bool.not_true, decide_true, ln]
        exact T' _ _ (by simp [upd, enterE]) (by simp [upd, enterE]) (by simp [upd]) (by simp [upd]) (by simp [upd])
      · generalize wants ws = W at *
        simp (maxSteps := 4000000) only [vm, vl, Arg.get, cells, stor, boundO, resultsV, resV, partK, loadV, Vm.part, fillC, splice, reduceIte, reduceCtorEq, Nat.reduceEqDiff, Nat.reduceAdd, Nat.reduceSub, Nat.reduceMul, Nat.reduceLeDiff, ne_eq, not_false_eq_true, Int.reduceEq, Int.reduceLT, Int.reduceLE, Int.reduceNeg, Int.reduceToNat, Int.reduceGT, Int.reduceGE, Nat.reduceLT, Nat.lt_add_one, Nat.zero_lt_succ, Nat.succ_pos, Nat.zero_le, beq_self_eq_true, eq_bool, beq_self_eq_true, Bool.not_true, decide_true, eq_self]
        exact T' _ _ (by simp [upd, enterE]) (by simp [upd, enterE]) (by simp [upd]) (by simp [upd]) (by simp [upd])
theorem RangesTells_row {x0 x1 x2 : V} (v0 : VPar [.l .s] x0) (v1 : VPar [.l (.i .i64), .l (.i .i64)] x1) (v2 : VPar [.l (.i .i64)] x2) (w : World) (vs : List Value) (hv : Rvs w.heap.size G0 w [x0, x1, x2] vs) :
    Calls Tryd.prog i_gatepostlaw14_RangesTells vs.toArray w fun e w' => e = .returned (.bool true) ∧ RowKit.Below w.heap.size w w' := by
  obtain ⟨s, rfl, hs⟩ := v0
  obtain ⟨a, b, rfl, _⟩ := ints_two v1
  obtain ⟨n, rfl, _⟩ := v2
  exact calls_at hm hF (index_at w) (RangesTells_ok (indexOk fun _ _ _ h => h) hs) hv
end Go.Proofs.YtlnhcdafagpfhaaDoor.Vh
