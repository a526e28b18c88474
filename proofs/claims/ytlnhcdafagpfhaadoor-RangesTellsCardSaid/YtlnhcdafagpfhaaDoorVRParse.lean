/- Package ranges on the small machine: Parse, Pick. -/
import Derived.Test.YtlnhcdafagpfhaaDoorVRPick
set_option linter.unusedVariables false
set_option linter.unusedSimpArgs false
namespace Go.Proofs.YtlnhcdafagpfhaaDoor.Vh
open Go.Vm Go.Vt
attribute [local congr] wi_congr wg_congr wgd_congr wb_congr wl_congr cf_congr
variable {L : FuncId → List V → V → Prop} {h : Heap}
def wants (l : List (Int × Int)) : List V := l.map fun p => .agg [.int .i64 p.1, .int .i64 p.2]
theorem wants_len (l : List (Int × Int)) : (wants l).length = l.length := by simp [wants]
theorem wants_app (l : List (Int × Int)) (p : Int × Int) : wants l ++ [.agg [.int .i64 p.1, .int .i64 p.2]] = wants (l ++ [p]) := by simp [wants]
theorem wants_at {l : List (Int × Int)} {i : Nat} (hi : i < l.length) : (wants l).getD i (.tup []) = .agg [.int .i64 (l.getD i (0, 0)).1, .int .i64 (l.getD i (0, 0)).2] := by
  unfold wants; simp [List.getD_eq_getElem?_getD, List.getElem?_eq_getElem hi]
def okW (x : Bs) : Bool := oneB x && fineB (oneW x).1 (oneW x).2
def itemsR (l : List Bs) : Option (List (Int × Int)) := if l.length = 0 ∨ 32 < l.length then none else if l.all okW then some (l.map oneW) else none
def itemsO : Option (List Bs) → Option (List (Int × Int))
  | none => none
  | some l => itemsR l
def parseR (s : Bs) : Option (List (Int × Int)) :=
  if s.length < 6 then none else if low (s.take 6) = [98, 121, 116, 101, 115, 61] then
    itemsO (split (s.drop 6))
  else none
def ParsP (h : Heap) (o : Option (List (Int × Int))) (v : V) (h' : Heap) : Prop := (∃ t, h' = h ++ t) ∧ ((o = none ∧ v = .tup [.nsl, .bool false]) ∨ ∃ ws x, o = some ws ∧ ws.length ≤ 32 ∧ v = .tup [x, .bool true] ∧ ListV 2 x (wants ws))
theorem ParsP.no {h h' : Heap} (hh : ∃ t, h' = h ++ t) : ParsP h none (.tup [.nsl, .bool false]) h' := ⟨hh, .inl ⟨rfl, rfl⟩⟩
theorem ParsP.yes {h h' : Heap} {x : V} {ws : List (Int × Int)} (hh : ∃ t, h' = h ++ t) (hn : ws.length ≤ 32) (hl : ListV 2 x (wants ws)) : ParsP h (some ws) (.tup [x, .bool true]) h' := ⟨hh, .inr ⟨ws, x, rfl, hn, rfl, hl⟩⟩
theorem one_tup (x : Bs) : ∃ a b : Int, oneV x = .tup [.agg [.int .i64 a, .int .i64 b], .bool (okW x)] ∧ (okW x = true → (a, b) = oneW x) := by
  unfold oneV okW
  cases h : oneB x with
  | false => exact ⟨0, 0, by simp, by simp⟩
  | true => exact ⟨(oneW x).1, (oneW x).2, by simp, fun _ => rfl⟩
theorem items_ok (HI : IndexOk L) {l : List Bs} {x : V} {e : Env} {u : Heap} (hx : ListV 1 x (strs l)) (h0 : l.length ≠ 0) (h32 : l.length ≤ 32) (hz : ∀ y ∈ l, y.length ≤ 9223372036854775000) :
    k_ranges_Parse_1 L (ParsP h (itemsR l)) e x (h ++ u) := by
  
  unfold k_ranges_Parse_1
  have l1 := fun {K : V → Heap → Prop} {h : Heap} => hx.len (F := F) (L := L) (e := E0) (K := K) (h := h)
  simp only [strs_len] at l1
  simp (maxSteps := 4000000) only [vm, vl, Arg.get, cells, stor, boundO, resultsV, resV, partK, loadV, Vm.part, fillC, splice, reduceIte, reduceCtorEq, Nat.reduceEqDiff, Nat.reduceAdd, Nat.reduceSub, Nat.reduceMul, Nat.reduceLeDiff, ne_eq, not_false_eq_true, Int.reduceEq, Int.reduceLT, Int.reduceLE, Int.reduceNeg, Int.reduceToNat, Int.reduceGT, Int.reduceGE, Nat.reduceLT, Nat.lt_add_one, Nat.zero_lt_succ, Nat.succ_pos, Nat.zero_le, beq_self_eq_true, k_ranges_Parse_2, k_ranges_Parse_4, k_ranges_Parse_5, k_ranges_Parse_3, k_ranges_Parse_1, k_ranges_Parse_0, l1]
  refine l_ranges_Parse_0 (fun n e h' => ∃ i, n = l.length - i ∧ i ≤ l.length ∧ e 38 = x ∧ e 39 = .int .i64 l.length ∧ e 40 = .int .i64 i ∧ (l.take i).all okW = true ∧ Grow 2 h h' (e 6) (wants ((l.take i).map oneW))) ?_ (n := l.length) ⟨0, by simp, by simp, rfl, rfl, rfl, rfl, .nil⟩
  rintro n e h' ⟨i, rfl, hi, e38, e39, e40, ha, G⟩
  simp only [b_ranges_Parse_0]
  generalize e6 : e 6 = x6 at *
  rcases list_at' [] hi with ⟨hn, rfl, hd⟩ | ⟨hl1, hl2, hd, htk⟩
  · rw [List.take_length] at G ha
    have ei : itemsR l = some (l.map oneW) := by unfold itemsR; rw [if_neg (by omega), if_pos ha]
    rw [ei]
    simp (maxSteps := 4000000) only [vm, vl, Arg.get, cells, stor, boundO, resultsV, resV, partK, loadV, Vm.part, fillC, splice, reduceIte, reduceCtorEq, Nat.reduceEqDiff, Nat.reduceAdd, Nat.reduceSub, Nat.reduceMul, Nat.reduceLeDiff, ne_eq, not_false_eq_true, Int.reduceEq, Int.reduceLT, Int.reduceLE, Int.reduceNeg, Int.reduceToNat, Int.reduceGT, Int.reduceGE, Nat.reduceLT, Nat.lt_add_one, Nat.zero_lt_succ, Nat.succ_pos, Nat.zero_le, beq_self_eq_true, k_ranges_Parse_2, k_ranges_Parse_4, k_ranges_Parse_5, k_ranges_Parse_3, k_ranges_Parse_1, k_ranges_Parse_0, e6, e38, e39, e40, hn, decide_false]
    exact .yes G.1 (by simpa using h32) G.list
  · have w := wrap64 (x := (i : Int) + 1) (by omega) (by omega)
    have i1 := fun {K : V → Heap → Prop} {h : Heap} => hx.at (F := F) (L := L) (e := E0) (K := K) (h := h) (i := i) (by rw [strs_len]; exact hl2)
    have a1 : (strs l).getD i (.tup []) = .str (l.getD i []) := by
      unfold strs; simp [List.getD_eq_getElem?_getD, List.getElem?_eq_getElem hl2]
    have hmem : l.getD i [] ∈ l := by
      rw [List.getD_eq_getElem?_getD, List.getElem?_eq_getElem hl2]; exact List.getElem_mem _
    obtain ⟨⟨t0, rfl⟩, _⟩ := id G
    generalize hf : l.getD i [] = f at *
    have On := fun hh => one_ok' (L := L) (h := hh) HI (hz f hmem)
    obtain ⟨a, b, eo, ea⟩ := one_tup f
    rw [eo] at On
    simp (maxSteps := 4000000) only [vm, vl, Arg.get, cells, stor, boundO, resultsV, resV, partK, loadV, Vm.part, fillC, splice, reduceIte, reduceCtorEq, Nat.reduceEqDiff, Nat.reduceAdd, Nat.reduceSub, Nat.reduceMul, Nat.reduceLeDiff, ne_eq, not_false_eq_true, Int.reduceEq, Int.reduceLT, Int.reduceLE, Int.reduceNeg, Int.reduceToNat, Int.reduceGT, Int.reduceGE, Nat.reduceLT, Nat.lt_add_one, Nat.zero_lt_succ, Nat.succ_pos, Nat.zero_le, beq_self_eq_true, k_ranges_Parse_2, k_ranges_Parse_4, k_ranges_Parse_5, k_ranges_Parse_3, k_ranges_Parse_1, k_ranges_Parse_0, e6, e38, e39, e40, hl1, decide_true, i1, a1]
    refine Cf.pu (On _) fun t1 => ?_
    cases hp : okW f with
    | false =>
      have ei : itemsR l = none := by
        unfold itemsR
        rw [if_neg (by omega), if_neg]
        intro h
        have := List.all_eq_true.1 h f hmem
        rw [hp] at this; cases this
      rw [ei]
      simp (maxSteps := 4000000) only [vm, vl, Arg.get, cells, stor, boundO, resultsV, resV, partK, loadV, Vm.part, fillC, splice, reduceIte, reduceCtorEq, Nat.reduceEqDiff, Nat.reduceAdd, Nat.reduceSub, Nat.reduceMul, Nat.reduceLeDiff, ne_eq, not_false_eq_true, Int.reduceEq, Int.reduceLT, Int.reduceLE, Int.reduceNeg, Int.reduceToNat, Int.reduceGT, Int.reduceGE, Nat.reduceLT, Nat.lt_add_one, Nat.zero_lt_succ, Nat.succ_pos, Nat.zero_le, beq_self_eq_true, k_ranges_Parse_2, k_ranges_Parse_4, k_ranges_Parse_5, k_ranges_Parse_3, k_ranges_Parse_1, k_ranges_Parse_0, hp, Bool.not_false]
      exact .no ⟨_, rfl⟩
    | true =>
      have eab := ea hp
      have G2 := G.more (t := t1 ++ [O.box [.int .i64 a, .int .i64 b]])
      obtain ⟨x', h'', ha', G3⟩ := G2.app (bytes := 16) (y := .agg [.int .i64 a, .int .i64 b]) (by rw [wants_len, List.length_map, List.length_take]; omega)
      rw [show V.agg [.int .i64 a, .int .i64 b] = .agg [.int .i64 (oneW f).1, .int .i64 (oneW f).2] by rw [← eab], wants_app, show (l.take i).map oneW ++ [oneW f] = (l.take (i + 1)).map oneW by rw [htk]; simp] at G3
      simp only [List.append_assoc, List.cons_append, List.nil_append] at ha'
      simp (maxSteps := 4000000) only [vm, vl, Arg.get, cells, stor, boundO, resultsV, resV, partK, loadV, Vm.part, fillC, splice, reduceIte, reduceCtorEq, Nat.reduceEqDiff, Nat.reduceAdd, Nat.reduceSub, Nat.reduceMul, Nat.reduceLeDiff, ne_eq, not_false_eq_true, Int.reduceEq, Int.reduceLT, Int.reduceLE, Int.reduceNeg, Int.reduceToNat, Int.reduceGT, Int.reduceGE, Nat.reduceLT, Nat.lt_add_one, Nat.zero_lt_succ, Nat.succ_pos, Nat.zero_le, beq_self_eq_true, k_ranges_Parse_2, k_ranges_Parse_4, k_ranges_Parse_5, k_ranges_Parse_3, k_ranges_Parse_1, k_ranges_Parse_0, hp, Bool.not_true, w, ha']
      refine ⟨l.length - (i + 1), by omega, i + 1, rfl, hl2, rfl, ?_, G3⟩
      rw [htk, List.all_append, ha]; simp [hp]
theorem Parse_ok (HI : IndexOk L) {s : Bs} (hs : s.length < 1000000000) : Cf F L i_ranges_Parse [.str s] h (ParsP h (parseR s)) := by
  refine run_ranges_Parse ?_
  simp only [p_ranges_Parse]
  
  unfold parseR
  by_cases a1 : s.length < 6
  · have b1 : (s.length : Int) < 6 := by omega
    rw [if_pos a1]
    simp (maxSteps := 4000000) only [vm, vl, Arg.get, cells, stor, boundO, resultsV, resV, partK, loadV, Vm.part, fillC, splice, reduceIte, reduceCtorEq, Nat.reduceEqDiff, Nat.reduceAdd, Nat.reduceSub, Nat.reduceMul, Nat.reduceLeDiff, ne_eq, not_false_eq_true, Int.reduceEq, Int.reduceLT, Int.reduceLE, Int.reduceNeg, Int.reduceToNat, Int.reduceGT, Int.reduceGE, Nat.reduceLT, Nat.lt_add_one, Nat.zero_lt_succ, Nat.succ_pos, Nat.zero_le, beq_self_eq_true, b1, decide_true]
    exact .no ⟨[], by simp⟩
  have b1 : ¬ (s.length : Int) < 6 := by omega
  have o1 : 6 ≤ s.length := by omega
  rw [if_neg a1]
  have lw : low [98, 121, 116, 101, 115, 61] = [98, 121, 116, 101, 115, 61] := by decide +kernel
  have S := fun hh => Same_ok (L := L) (h := hh) (s := s.take 6) (t := [98, 121, 116, 101, 115, 61]) (by rw [List.length_take]; omega) (by simp)
  rw [lw] at S
  simp (maxSteps := 4000000) only [vm, vl, Arg.get, cells, stor, boundO, resultsV, resV, partK, loadV, Vm.part, fillC, splice, reduceIte, reduceCtorEq, Nat.reduceEqDiff, Nat.reduceAdd, Nat.reduceSub, Nat.reduceMul, Nat.reduceLeDiff, ne_eq, not_false_eq_true, Int.reduceEq, Int.reduceLT, Int.reduceLE, Int.reduceNeg, Int.reduceToNat, Int.reduceGT, Int.reduceGE, Nat.reduceLT, Nat.lt_add_one, Nat.zero_lt_succ, Nat.succ_pos, Nat.zero_le, beq_self_eq_true, b1, o1, decide_false]
  refine Cf.pu (S _) fun u1 => ?_
  by_cases a2 : low (s.take 6) = [98, 121, 116, 101, 115, 61]
  case neg =>
    have b2 : (low (s.take 6) == [98, 121, 116, 101, 115, 61]) = false := beq_eq_false_iff_ne.2 a2
    rw [if_neg a2]
    simp (maxSteps := 4000000) only [vm, vl, Arg.get, cells, stor, boundO, resultsV, resV, partK, loadV, Vm.part, fillC, splice, reduceIte, reduceCtorEq, Nat.reduceEqDiff, Nat.reduceAdd, Nat.reduceSub, Nat.reduceMul, Nat.reduceLeDiff, ne_eq, not_false_eq_true, Int.reduceEq, Int.reduceLT, Int.reduceLE, Int.reduceNeg, Int.reduceToNat, Int.reduceGT, Int.reduceGE, Nat.reduceLT, Nat.lt_add_one, Nat.zero_lt_succ, Nat.succ_pos, Nat.zero_le, beq_self_eq_true, b2, Bool.not_false]
    exact .no ⟨_, rfl⟩
  have b2 : (low (s.take 6) == [98, 121, 116, 101, 115, 61]) = true := beq_iff_eq.2 a2
  rw [if_pos a2]
  have lr : (s.drop 6).length < 8000000000 := by rw [List.length_drop]; omega
  have SP := fun hh => Split_ok (L := L) (h := hh) lr
  simp (maxSteps := 4000000) only [vm, vl, Arg.get, cells, stor, boundO, resultsV, resV, partK, loadV, Vm.part, fillC, splice, reduceIte, reduceCtorEq, Nat.reduceEqDiff, Nat.reduceAdd, Nat.reduceSub, Nat.reduceMul, Nat.reduceLeDiff, ne_eq, not_false_eq_true, Int.reduceEq, Int.reduceLT, Int.reduceLE, Int.reduceNeg, Int.reduceToNat, Int.reduceGT, Int.reduceGE, Nat.reduceLT, Nat.lt_add_one, Nat.zero_lt_succ, Nat.succ_pos, Nat.zero_le, beq_self_eq_true, b2, Bool.not_true, k_ranges_Parse_0, List.take_length, o1]
  refine Cf.pu (SP _) fun u2 => ?_
  cases es : split (s.drop 6) with
  | none =>
    rw [show itemsO none = none from rfl]
    simp (maxSteps := 4000000) only [vm, vl, Arg.get, cells, stor, boundO, resultsV, resV, partK, loadV, Vm.part, fillC, splice, reduceIte, reduceCtorEq, Nat.reduceEqDiff, Nat.reduceAdd, Nat.reduceSub, Nat.reduceMul, Nat.reduceLeDiff, ne_eq, not_false_eq_true, Int.reduceEq, Int.reduceLT, Int.reduceLE, Int.reduceNeg, Int.reduceToNat, Int.reduceGT, Int.reduceGE, Nat.reduceLT, Nat.lt_add_one, Nat.zero_lt_succ, Nat.succ_pos, Nat.zero_le, beq_self_eq_true, splitV, Bool.not_false]
    exact .no ⟨_, rfl⟩
  | some l =>
    rw [show itemsO (some l) = itemsR l from rfl]
    have hl := full_list l
    have ln := splitG_len (Nat.le_refl _) es
    simp only [List.length_nil] at ln
    have I := fun e u h0 h32 => items_ok (L := L) (h := h) HI (e := e) (u := u) hl h0 h32 (fun y hy => Nat.le_trans (split_mem es y hy) (by omega))
    by_cases c0 : l.length = 0
    · have cn : l = [] := List.eq_nil_of_length_eq_zero c0
      subst cn
      have sv : splitV (some []) = .tup [.nsl, .bool true] := rfl
      have z0 : ((0 : Nat) : Int) = 0 := rfl
      rw [show itemsR [] = none from if_pos (.inl rfl)]
      simp (maxSteps := 4000000) only [vm, vl, Arg.get, cells, stor, boundO, resultsV, resV, partK, loadV, Vm.part, fillC, splice, reduceIte, reduceCtorEq, Nat.reduceEqDiff, Nat.reduceAdd, Nat.reduceSub, Nat.reduceMul, Nat.reduceLeDiff, ne_eq, not_false_eq_true, Int.reduceEq, Int.reduceLT, Int.reduceLE, Int.reduceNeg, Int.reduceToNat, Int.reduceGT, Int.reduceGE, Nat.reduceLT, Nat.lt_add_one, Nat.zero_lt_succ, Nat.succ_pos, Nat.zero_le, beq_self_eq_true, sv, z0, decide_true, Bool.not_true]
      exact .no ⟨_, rfl⟩
    have c0' : ¬ (l.length : Int) = 0 := by omega
    have fv : fullV l = .sl 1 .full (l.map .str) := if_neg (fun h => c0 (by rw [h]; rfl))
    have sv : splitV (some l) = .tup [.sl 1 .full (l.map .str), .bool true] := by rw [← fv]; rfl
    have ml : (l.map V.str).length = l.length := List.length_map _
    rw [fv] at I
    rw [sv]
    generalize l.map V.str = LL at *
    by_cases c1 : l.length > 32
    · have c1' : (l.length : Int) > 32 := by omega
      rw [show itemsR l = none from if_pos (.inr c1)]
      simp (maxSteps := 4000000) only [vm, vl, Arg.get, cells, stor, boundO, resultsV, resV, partK, loadV, Vm.part, fillC, splice, reduceIte, reduceCtorEq, Nat.reduceEqDiff, Nat.reduceAdd, Nat.reduceSub, Nat.reduceMul, Nat.reduceLeDiff, ne_eq, not_false_eq_true, Int.reduceEq, Int.reduceLT, Int.reduceLE, Int.reduceNeg, Int.reduceToNat, Int.reduceGT, Int.reduceGE, Nat.reduceLT, Nat.lt_add_one, Nat.zero_lt_succ, Nat.succ_pos, Nat.zero_le, beq_self_eq_true, ml, c0', c1', decide_true, decide_false, Bool.not_true]
      exact .no ⟨_, rfl⟩
    have c1' : ¬ (l.length : Int) > 32 := by omega
    simp (maxSteps := 4000000) only [vm, vl, Arg.get, cells, stor, boundO, resultsV, resV, partK, loadV, Vm.part, fillC, splice, reduceIte, reduceCtorEq, Nat.reduceEqDiff, Nat.reduceAdd, Nat.reduceSub, Nat.reduceMul, Nat.reduceLeDiff, ne_eq, not_false_eq_true, Int.reduceEq, Int.reduceLT, Int.reduceLE, Int.reduceNeg, Int.reduceToNat, Int.reduceGT, Int.reduceGE, Nat.reduceLT, Nat.lt_add_one, Nat.zero_lt_succ, Nat.succ_pos, Nat.zero_le, beq_self_eq_true, ml, c0', c1', decide_true, decide_false, Bool.not_true]
    exact I _ _ c0 (by omega)
def picks (long : Int) (ws : List (Int × Int)) : List (Int × Int) := ws.filterMap fun p => resS p.1 p.2 long
def endP (l : List (Int × Int)) : (Int × Int) × Int := match l with
  | [] => ((0, 0), 2)
  | [x] => (x, 1)
  | _ => ((0, 0), 0)
def pickR (o : Option (List (Int × Int))) (long : Int) : (Int × Int) × Int := match o with
  | none => ((0, 0), 0)
  | some ws => if long < 0 ∨ long > 1048576 then ((0, 0), 0) else endP (picks long ws)
def pickV (x : (Int × Int) × Int) : V := .tup [.agg [.int .i64 x.1.1, .int .i64 x.1.2], .int .i64 x.2]
theorem res_tup (f t long : Int) : (resS f t long = none ∧ resV' (resS f t long) = .tup [.agg [.int .i64 0, .int .i64 0], .bool false]) ∨ ∃ a b, resS f t long = some (a, b) ∧ resV' (resS f t long) = .tup [.agg [.int .i64 a, .int .i64 b], .bool true] := by
  cases h : resS f t long with
  | none => exact .inl ⟨rfl, rfl⟩
  | some p => exact .inr ⟨p.1, p.2, rfl, rfl⟩
theorem pickE_ok {l : List (Int × Int)} {x : V} {h h' : Heap} {u : Heap} (G : Grow 2 (h ++ O.box [.int .i64 0, .int .i64 0] :: u) h' x (wants l)) : k_ranges_Pick_1 L (Pu h (pickV (endP l))) (.ptr h.length 0) x h' := by
  
  unfold k_ranges_Pick_1
  obtain ⟨⟨t0, rfl⟩, hx⟩ := G
  have hl : ListV 2 x (wants l) := hx.imp_right fun ⟨_, k, e, _⟩ => ⟨_, e⟩
  clear hx
  rcases hl with ⟨he, rfl⟩ | ⟨o, rfl⟩
  · have : l = [] := by
      cases l
      · rfl
      · simp [wants] at he
    subst this
    have z0 : ((0 : Nat) : Int) = 0 := rfl
    simp (maxSteps := 4000000) only [vm, vl, Arg.get, cells, stor, boundO, resultsV, resV, partK, loadV, Vm.part, fillC, splice, reduceIte, reduceCtorEq, Nat.reduceEqDiff, Nat.reduceAdd, Nat.reduceSub, Nat.reduceMul, Nat.reduceLeDiff, ne_eq, not_false_eq_true, Int.reduceEq, Int.reduceLT, Int.reduceLE, Int.reduceNeg, Int.reduceToNat, Int.reduceGT, Int.reduceGE, Nat.reduceLT, Nat.lt_add_one, Nat.zero_lt_succ, Nat.succ_pos, Nat.zero_le, beq_self_eq_true, k_ranges_Pick_2, k_ranges_Pick_1, k_ranges_Pick_4, k_ranges_Pick_3, k_ranges_Pick_0, z0, decide_true, endP, pickV]
  · match l with
    | [] =>
      have wl : ((wants []).length : Int) = 0 := rfl
      simp (maxSteps := 4000000) only [vm, vl, Arg.get, cells, stor, boundO, resultsV, resV, partK, loadV, Vm.part, fillC, splice, reduceIte, reduceCtorEq, Nat.reduceEqDiff, Nat.reduceAdd, Nat.reduceSub, Nat.reduceMul, Nat.reduceLeDiff, ne_eq, not_false_eq_true, Int.reduceEq, Int.reduceLT, Int.reduceLE, Int.reduceNeg, Int.reduceToNat, Int.reduceGT, Int.reduceGE, Nat.reduceLT, Nat.lt_add_one, Nat.zero_lt_succ, Nat.succ_pos, Nat.zero_le, beq_self_eq_true, k_ranges_Pick_2, k_ranges_Pick_1, k_ranges_Pick_4, k_ranges_Pick_3, k_ranges_Pick_0, wl, decide_true, endP, pickV]
    | [p] =>
      have wl : ((wants [p]).length : Int) = 1 := rfl
      have w0 : (wants [p]).getD 0 (.tup []) = .agg [.int .i64 p.1, .int .i64 p.2] := rfl
      have wln : (wants [p]).length = 1 := rfl
      simp (maxSteps := 4000000) only [vm, vl, Arg.get, cells, stor, boundO, resultsV, resV, partK, loadV, Vm.part, fillC, splice, reduceIte, reduceCtorEq, Nat.reduceEqDiff, Nat.reduceAdd, Nat.reduceSub, Nat.reduceMul, Nat.reduceLeDiff, ne_eq, not_false_eq_true, Int.reduceEq, Int.reduceLT, Int.reduceLE, Int.reduceNeg, Int.reduceToNat, Int.reduceGT, Int.reduceGE, Nat.reduceLT, Nat.lt_add_one, Nat.zero_lt_succ, Nat.succ_pos, Nat.zero_le, beq_self_eq_true, k_ranges_Pick_2, k_ranges_Pick_1, k_ranges_Pick_4, k_ranges_Pick_3, k_ranges_Pick_0, wl, wln, w0, decide_true, decide_false, endP, pickV]
    | p :: q :: r =>
      have wl0 : ¬ ((wants (p :: q :: r)).length : Int) = 0 := by rw [wants_len]; simp; omega
      have wl1 : ¬ ((wants (p :: q :: r)).length : Int) = 1 := by rw [wants_len]; simp; omega
      simp (maxSteps := 4000000) only [vm, vl, Arg.get, cells, stor, boundO, resultsV, resV, partK, loadV, Vm.part, fillC, splice, reduceIte, reduceCtorEq, Nat.reduceEqDiff, Nat.reduceAdd, Nat.reduceSub, Nat.reduceMul, Nat.reduceLeDiff, ne_eq, not_false_eq_true, Int.reduceEq, Int.reduceLT, Int.reduceLE, Int.reduceNeg, Int.reduceToNat, Int.reduceGT, Int.reduceGE, Nat.reduceLT, Nat.lt_add_one, Nat.zero_lt_succ, Nat.succ_pos, Nat.zero_le, beq_self_eq_true, k_ranges_Pick_2, k_ranges_Pick_1, k_ranges_Pick_4, k_ranges_Pick_3, k_ranges_Pick_0, wl0, wl1, decide_false, endP, pickV]
theorem Pick_ok (HI : IndexOk L) {s : Bs} {long : Int} (hs : s.length < 1000000000) : Cf F L i_ranges_Pick [.str s, .int .i64 long] h (Pu h (pickV (pickR (parseR s) long))) := by
  refine run_ranges_Pick ?_
  simp only [p_ranges_Pick]
  
  simp (maxSteps := 4000000) only [vm, vl, Arg.get, cells, stor, boundO, resultsV, resV, partK, loadV, Vm.part, fillC, splice, reduceIte, reduceCtorEq, Nat.reduceEqDiff, Nat.reduceAdd, Nat.reduceSub, Nat.reduceMul, Nat.reduceLeDiff, ne_eq, not_false_eq_true, Int.reduceEq, Int.reduceLT, Int.reduceLE, Int.reduceNeg, Int.reduceToNat, Int.reduceGT, Int.reduceGE, Nat.reduceLT, Nat.lt_add_one, Nat.zero_lt_succ, Nat.succ_pos, Nat.zero_le, beq_self_eq_true]
  refine (Parse_ok HI hs).mono fun v h' hp => ?_
  obtain ⟨⟨t, rfl⟩, ⟨e, rfl⟩ | ⟨ws, x, e, hn, rfl, hl⟩⟩ := hp
  · rw [e]
    simp (maxSteps := 4000000) only [vm, vl, Arg.get, cells, stor, boundO, resultsV, resV, partK, loadV, Vm.part, fillC, splice, reduceIte, reduceCtorEq, Nat.reduceEqDiff, Nat.reduceAdd, Nat.reduceSub, Nat.reduceMul, Nat.reduceLeDiff, ne_eq, not_false_eq_true, Int.reduceEq, Int.reduceLT, Int.reduceLE, Int.reduceNeg, Int.reduceToNat, Int.reduceGT, Int.reduceGE, Nat.reduceLT, Nat.lt_add_one, Nat.zero_lt_succ, Nat.succ_pos, Nat.zero_le, beq_self_eq_true, Bool.not_false, pickR, pickV]
  · rw [e]
    by_cases a1 : long < 0
    · rw [show pickR (some ws) long = ((0, 0), 0) from if_pos (.inl a1)]
      simp (maxSteps := 4000000) only [vm, vl, Arg.get, cells, stor, boundO, resultsV, resV, partK, loadV, Vm.part, fillC, splice, reduceIte, reduceCtorEq, Nat.reduceEqDiff, Nat.reduceAdd, Nat.reduceSub, Nat.reduceMul, Nat.reduceLeDiff, ne_eq, not_false_eq_true, Int.reduceEq, Int.reduceLT, Int.reduceLE, Int.reduceNeg, Int.reduceToNat, Int.reduceGT, Int.reduceGE, Nat.reduceLT, Nat.lt_add_one, Nat.zero_lt_succ, Nat.succ_pos, Nat.zero_le, beq_self_eq_true, Bool.not_true, a1, decide_true, pickV]
    by_cases a2 : long > 1048576
    · rw [show pickR (some ws) long = ((0, 0), 0) from if_pos (.inr a2)]
      simp (maxSteps := 4000000) only [vm, vl, Arg.get, cells, stor, boundO, resultsV, resV, partK, loadV, Vm.part, fillC, splice, reduceIte, reduceCtorEq, Nat.reduceEqDiff, Nat.reduceAdd, Nat.reduceSub, Nat.reduceMul, Nat.reduceLeDiff, ne_eq, not_false_eq_true, Int.reduceEq, Int.reduceLT, Int.reduceLE, Int.reduceNeg, Int.reduceToNat, Int.reduceGT, Int.reduceGE, Nat.reduceLT, Nat.lt_add_one, Nat.zero_lt_succ, Nat.succ_pos, Nat.zero_le, beq_self_eq_true, Bool.not_true, a1, a2, decide_true, decide_false, pickV]
    rw [show pickR (some ws) long = endP (picks long ws) from if_neg (fun h => h.elim a1 a2)]
    have l1 := fun {K : V → Heap → Prop} {h : Heap} => hl.len (F := F) (L := L) (e := E0) (K := K) (h := h)
    simp only [wants_len] at l1
    simp (maxSteps := 4000000) only [vm, vl, Arg.get, cells, stor, boundO, resultsV, resV, partK, loadV, Vm.part, fillC, splice, reduceIte, reduceCtorEq, Nat.reduceEqDiff, Nat.reduceAdd, Nat.reduceSub, Nat.reduceMul, Nat.reduceLeDiff, ne_eq, not_false_eq_true, Int.reduceEq, Int.reduceLT, Int.reduceLE, Int.reduceNeg, Int.reduceToNat, Int.reduceGT, Int.reduceGE, Nat.reduceLT, Nat.lt_add_one, Nat.zero_lt_succ, Nat.succ_pos, Nat.zero_le, beq_self_eq_true, Bool.not_true, a1, a2, decide_true, decide_false, k_ranges_Pick_0, l1]
    refine l_ranges_Pick_0 (fun n e h' => ∃ i, n = ws.length - i ∧ i ≤ ws.length ∧ e 1 = .int .i64 long ∧ e 4 = .ptr h.length 0 ∧ e 29 = x ∧ e 30 = .int .i64 ws.length ∧ e 31 = .int .i64 i ∧ Grow 2 (h ++ O.box [.int .i64 0, .int .i64 0] :: t) h' (e 8) (wants (picks long (ws.take i)))) ?_ (n := ws.length) ⟨0, by simp, by simp, rfl, rfl, rfl, rfl, rfl, .nil0⟩
    rintro n e h' ⟨i, rfl, hi, e1, e4, e29, e30, e31, G⟩
    simp only [b_ranges_Pick_0]
    generalize e8 : e 8 = x8 at *
    rcases list_at' (0, 0) hi with ⟨hn', rfl, hd⟩ | ⟨hl1, hl2, hd, htk⟩
    · rw [List.take_length] at G
      simp (maxSteps := 4000000) only [vm, vl, Arg.get, cells, stor, boundO, resultsV, resV, partK, loadV, Vm.part, fillC, splice, reduceIte, reduceCtorEq, Nat.reduceEqDiff, Nat.reduceAdd, Nat.reduceSub, Nat.reduceMul, Nat.reduceLeDiff, ne_eq, not_false_eq_true, Int.reduceEq, Int.reduceLT, Int.reduceLE, Int.reduceNeg, Int.reduceToNat, Int.reduceGT, Int.reduceGE, Nat.reduceLT, Nat.lt_add_one, Nat.zero_lt_succ, Nat.succ_pos, Nat.zero_le, beq_self_eq_true, e1, e4, e8, e29, e30, e31, hn', decide_false]
      exact pickE_ok G
    · have w := wrap64 (x := (i : Int) + 1) (by omega) (by omega)
      have i1 := fun {K : V → Heap → Prop} {h : Heap} => hl.at (F := F) (L := L) (e := E0) (K := K) (h := h) (i := i) (by rw [wants_len]; exact hl2)
      have a3 := wants_at hl2
      obtain ⟨⟨t0, rfl⟩, _⟩ := id G
      generalize hf : ws.getD i (0, 0) = f at *
      obtain ⟨p, q⟩ := f
      simp only at a3
      have Rs := fun hh => Resolve_ok (L := L) (h := hh) (f := p) (t := q) (long := long)
      have pt : picks long (ws.take (i + 1)) = picks long (ws.take i) ++ (match resS p q long with
        | some y => [y]
        | none => []) := by
        rw [htk]; unfold picks; rw [List.filterMap_append]
        congr 1
        simp only [List.filterMap_cons, List.filterMap_nil]
        cases resS p q long <;> rfl
      simp (maxSteps := 4000000) only [vm, vl, Arg.get, cells, stor, boundO, resultsV, resV, partK, loadV, Vm.part, fillC, splice, reduceIte, reduceCtorEq, Nat.reduceEqDiff, Nat.reduceAdd, Nat.reduceSub, Nat.reduceMul, Nat.reduceLeDiff, ne_eq, not_false_eq_true, Int.reduceEq, Int.reduceLT, Int.reduceLE, Int.reduceNeg, Int.reduceToNat, Int.reduceGT, Int.reduceGE, Nat.reduceLT, Nat.lt_add_one, Nat.zero_lt_succ, Nat.succ_pos, Nat.zero_le, beq_self_eq_true, e1, e4, e8, e29, e30, e31, hl1, decide_true, k_ranges_Pick_3, i1, a3]
      refine Cf.pu (Rs _) fun t1 => ?_
      rcases res_tup p q long with ⟨r1, r2⟩ | ⟨a, b, r1, r2⟩
      · rw [r2]
        rw [r1] at pt
        have G2 := G.more (t := [O.box [.int .i64 p, .int .i64 q]] ++ t1 ++ [O.box [.int .i64 0, .int .i64 0]])
        rw [← List.append_nil (picks long (ws.take i)), ← pt] at G2
        simp only [List.append_assoc, List.cons_append, List.nil_append] at G2
        simp (maxSteps := 4000000) only [vm, vl, Arg.get, cells, stor, boundO, resultsV, resV, partK, loadV, Vm.part, fillC, splice, reduceIte, reduceCtorEq, Nat.reduceEqDiff, Nat.reduceAdd, Nat.reduceSub, Nat.reduceMul, Nat.reduceLeDiff, ne_eq, not_false_eq_true, Int.reduceEq, Int.reduceLT, Int.reduceLE, Int.reduceNeg, Int.reduceToNat, Int.reduceGT, Int.reduceGE, Nat.reduceLT, Nat.lt_add_one, Nat.zero_lt_succ, Nat.succ_pos, Nat.zero_le, beq_self_eq_true, k_ranges_Pick_4, w]
        exact ⟨ws.length - (i + 1), by omega, i + 1, rfl, hl2, e1, e4, e29, e30, rfl, by rw [e8]; exact G2⟩
      · rw [r2]
        rw [r1] at pt
        have G2 := G.more (t := [O.box [.int .i64 p, .int .i64 q]] ++ t1 ++ [O.box [.int .i64 a, .int .i64 b]])
        have pl : (picks long (ws.take i)).length ≤ 32 := Nat.le_trans (List.length_filterMap_le _ _) (by rw [List.length_take]; omega)
        obtain ⟨x', h'', ha', G3⟩ := G2.app (bytes := 16) (y := .agg [.int .i64 a, .int .i64 b]) (by rw [wants_len]; omega)
        rw [wants_app (p := (a, b)), ← pt] at G3
        simp only [List.append_assoc, List.cons_append, List.nil_append] at ha'
        simp (maxSteps := 4000000) only [vm, vl, Arg.get, cells, stor, boundO, resultsV, resV, partK, loadV, Vm.part, fillC, splice, reduceIte, reduceCtorEq, Nat.reduceEqDiff, Nat.reduceAdd, Nat.reduceSub, Nat.reduceMul, Nat.reduceLeDiff, ne_eq, not_false_eq_true, Int.reduceEq, Int.reduceLT, Int.reduceLE, Int.reduceNeg, Int.reduceToNat, Int.reduceGT, Int.reduceGE, Nat.reduceLT, Nat.lt_add_one, Nat.zero_lt_succ, Nat.succ_pos, Nat.zero_le, beq_self_eq_true, k_ranges_Pick_4, w, ha']
        exact ⟨ws.length - (i + 1), by omega, i + 1, rfl, hl2, e1, e4, e29, e30, rfl, G3⟩
end Go.Proofs.YtlnhcdafagpfhaaDoor.Vh
