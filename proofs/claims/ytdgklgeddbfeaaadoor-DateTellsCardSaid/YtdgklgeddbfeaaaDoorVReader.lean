/- Package date's reader on the small machine. -/
import Derived.Test.YtdgklgeddbfeaaaDoorTok
import Derived.Test.YtdgklgeddbfeaaaDoorVDays
import Derived.Test.YtdgklgeddbfeaaaDoorVmGrow
set_option linter.unusedVariables false
set_option linter.unusedSimpArgs false
namespace Go.Proofs.YtdgklgeddbfeaaaDoor.Vh
open Go.Vm Go.Vt
attribute [local congr] wi_congr wg_congr wgd_congr wb_congr wl_congr cf_congr
variable {L : FuncId → List V → V → Prop} {h : Heap}
/-- A reader: what is left, and whether all was well. -/
abbrev Rd := Bs × Bool
def bx (r : Rd) : O := .box [.str r.1, .bool r.2]
def RdP (h : Heap) (id : Nat) (x : V) (r : Rd) (v : V) (h' : Heap) : Prop := v = x ∧ ∃ t, h' = h.set id (bx r) ++ t
theorem Cf.rd {f : FuncId} {args : List V} {id : Nat} {x : V} {r : Rd} {K : V → Heap → Prop} (hc : Cf F L f args h (RdP h id x r)) (k : ∀ t, K x (h.set id (bx r) ++ t)) : Cf F L f args h K :=
  hc.mono fun v h' ⟨h1, t, h2⟩ => by rw [h1, h2]; exact k t
theorem rd_len {id : Nat} {o : O} (hb : h[id]? = some o) : id < h.length := (List.getElem?_eq_some_iff.1 hb).1
theorem rd_at {id : Nat} {o : O} {t : Heap} (hi : id < h.length) : (h.set id o ++ t)[id]? = some o := by
  rw [List.getElem?_append_left (by rw [List.length_set]; exact hi), List.getElem?_set_self hi]
theorem rd_set {id : Nat} {o o' : O} {t : Heap} (hi : id < h.length) : (h.set id o ++ t).set id o' = h.set id o' ++ t := by
  rw [List.set_append_left _ _ (by rw [List.length_set]; exact hi), List.set_set]
def takeR (n : Nat) (r : Rd) : Bs × Rd := if r.1.length < n then ([], (r.1, false)) else (r.1.take n, (r.1.drop n, r.2))
theorem take_ok {id n : Nat} {r : Rd} (hb : h[id]? = some (bx r)) (hn : n ≤ 1000000) (hl : r.1.length < 9223372036854775807) : Cf F L i___gatepost_date_reader__take [.ptr id 0, .int .i64 n] h (RdP h id (.str (takeR n r).1) (takeR n r).2) := by
  refine run___gatepost_date_reader__take ?_
  simp only [p___gatepost_date_reader__take]
  have hb' : h[id]? = some (O.box [.str r.1, .bool r.2]) := hb
  by_cases hc : r.1.length < n
  · have hc' : (r.1.length : Int) < n := by omega
    have e : takeR n r = ([], (r.1, false)) := if_pos hc
    rw [e]
    simp (maxSteps := 4000000) only [vm, vl, Arg.get, cells, stor, boundO, resultsV, resV, partK, loadV, Vm.part, fillC, splice, reduceIte, reduceCtorEq, Nat.reduceEqDiff, Nat.reduceAdd, Nat.reduceSub, Nat.reduceMul, Nat.reduceLeDiff, ne_eq, not_false_eq_true, Int.reduceEq, Int.reduceLT, Int.reduceLE, Int.reduceNeg, Int.reduceToNat, Int.reduceGT, Int.reduceGE, Nat.reduceLT, Nat.lt_add_one, Nat.zero_lt_succ, Nat.succ_pos, Nat.zero_le, beq_self_eq_true, k___gatepost_date_reader__take_0, hb', hc']
    exact ⟨rfl, [], by simp [bx]⟩
  · have hc' : ¬ (r.1.length : Int) < n := by omega
    have e : takeR n r = (r.1.take n, (r.1.drop n, r.2)) := if_neg hc
    have g0 : (0 : Int) ≤ n := by omega
    have g1 : n ≤ r.1.length := by omega
    have g2 : List.take r.1.length r.1 = r.1 := List.take_of_length_le (Nat.le_refl _)
    rw [e]
    simp (maxSteps := 4000000) only [vm, vl, Arg.get, cells, stor, boundO, resultsV, resV, partK, loadV, Vm.part, fillC, splice, reduceIte, reduceCtorEq, Nat.reduceEqDiff, Nat.reduceAdd, Nat.reduceSub, Nat.reduceMul, Nat.reduceLeDiff, ne_eq, not_false_eq_true, Int.reduceEq, Int.reduceLT, Int.reduceLE, Int.reduceNeg, Int.reduceToNat, Int.reduceGT, Int.reduceGE, Nat.reduceLT, Nat.lt_add_one, Nat.zero_lt_succ, Nat.succ_pos, Nat.zero_le, beq_self_eq_true, k___gatepost_date_reader__take_0, hb', hc', g0, g1, g2, Int.toNat_natCast, List.drop_zero]
    exact ⟨rfl, [], by simp [bx]⟩
def needR (p : Bs) (r : Rd) : Rd := if (takeR p.length r).1 = p then (takeR p.length r).2 else ((takeR p.length r).2.1, false)
theorem need_ok {id : Nat} {p : Bs} {r : Rd} (hb : h[id]? = some (bx r)) (hn : p.length ≤ 1000000) (hl : r.1.length < 9223372036854775807) : Cf F L i___gatepost_date_reader__need [.ptr id 0, .str p] h (RdP h id (.tup []) (needR p r)) := by
  refine run___gatepost_date_reader__need ?_
  simp only [p___gatepost_date_reader__need]
  have hi := rd_len hb
  simp (maxSteps := 4000000) only [vm, vl, Arg.get, cells, stor, boundO, resultsV, resV, partK, loadV, Vm.part, fillC, splice, reduceIte, reduceCtorEq, Nat.reduceEqDiff, Nat.reduceAdd, Nat.reduceSub, Nat.reduceMul, Nat.reduceLeDiff, ne_eq, not_false_eq_true, Int.reduceEq, Int.reduceLT, Int.reduceLE, Int.reduceNeg, Int.reduceToNat, Int.reduceGT, Int.reduceGE, Nat.reduceLT, Nat.lt_add_one, Nat.zero_lt_succ, Nat.succ_pos, Nat.zero_le, beq_self_eq_true]
  refine Cf.rd (take_ok hb hn hl) fun t => ?_
  unfold needR
  generalize takeR p.length r = q at *
  obtain ⟨x, r'⟩ := q
  have hb2 : (h.set id (bx r') ++ t)[id]? = some (O.box [.str r'.1, .bool r'.2]) := rd_at hi
  by_cases hx : x = p
  · have d : (x == p) = true := by simpa using hx
    rw [if_pos hx]
    simp (maxSteps := 4000000) only [vm, vl, Arg.get, cells, stor, boundO, resultsV, resV, partK, loadV, Vm.part, fillC, splice, reduceIte, reduceCtorEq, Nat.reduceEqDiff, Nat.reduceAdd, Nat.reduceSub, Nat.reduceMul, Nat.reduceLeDiff, ne_eq, not_false_eq_true, Int.reduceEq, Int.reduceLT, Int.reduceLE, Int.reduceNeg, Int.reduceToNat, Int.reduceGT, Int.reduceGE, Nat.reduceLT, Nat.lt_add_one, Nat.zero_lt_succ, Nat.succ_pos, Nat.zero_le, beq_self_eq_true, d, Bool.not_true]
    exact ⟨rfl, t, rfl⟩
  · have d : (x == p) = false := by simpa using hx
    rw [if_neg hx]
    simp (maxSteps := 4000000) only [vm, vl, Arg.get, cells, stor, boundO, resultsV, resV, partK, loadV, Vm.part, fillC, splice, reduceIte, reduceCtorEq, Nat.reduceEqDiff, Nat.reduceAdd, Nat.reduceSub, Nat.reduceMul, Nat.reduceLeDiff, ne_eq, not_false_eq_true, Int.reduceEq, Int.reduceLT, Int.reduceLE, Int.reduceNeg, Int.reduceToNat, Int.reduceGT, Int.reduceGE, Nat.reduceLT, Nat.lt_add_one, Nat.zero_lt_succ, Nat.succ_pos, Nat.zero_le, beq_self_eq_true, d, Bool.not_false, hb2]
    refine ⟨rfl, t, ?_⟩
    rw [rd_set hi]; rfl
def dgt (c : UInt8) : Int := ((c.toNat + 208) % 256 : Nat)
def isDig (c : UInt8) : Bool := decide (48 ≤ (c.toNat : Int) ∧ (c.toNat : Int) ≤ 57)
theorem dgt_wrap (c : UInt8) : IntKind.u8.wrap ((c.toNat : Int) - 48) = dgt c := byte_all (p := fun c => IntKind.u8.wrap ((c.toNat : Int) - 48) = dgt c) (by decide +kernel) c
theorem dgt_range (c : UInt8) : 0 ≤ dgt c ∧ dgt c ≤ 255 := by unfold dgt; omega
theorem digit_ok {c : UInt8} {id ir iv : Nat} {r : Rd} {v : Int} (hb : h[id]? = some (bx r)) (h1 : h[ir]? = some (.box [.ptr id 0])) (h2 : h[iv]? = some (.box [.int .i64 v])) (hne : iv ≠ id) (v0 : 0 ≤ v) (v1 : v ≤ 100000000) :
    Cf F L i___gatepost_date_reader__number_1 [.int .u8 c.toNat, .ptr ir 0, .ptr iv 0] h (fun _ h' => h' = (h.set id (bx (r.1, r.2 && isDig c))).set iv (.box [.int .i64 (10 * v + dgt c)])) := by
  refine run___gatepost_date_reader__number_1 ?_
  simp only [p___gatepost_date_reader__number_1]
  have hb' : h[id]? = some (O.box [.str r.1, .bool r.2]) := hb
  obtain ⟨d0, d1⟩ := dgt_range c
  have w1 : IntKind.i64.wrap (10 * v) = 10 * v := wrap64 (by omega) (by omega)
  have w2 : IntKind.i64.wrap (dgt c) = dgt c := wrap64 (by omega) (by omega)
  have w3 : IntKind.i64.wrap (10 * v + dgt c) = 10 * v + dgt c := wrap64 (by omega) (by omega)
  have wd := dgt_wrap c
  have hiv : (h.set id (bx (r.1, false)))[iv]? = some (.box [.int .i64 v]) := by rw [List.getElem?_set_ne (Ne.symm hne)]; exact h2
  have hiv' : (h.set id (O.box [.str r.1, .bool false]))[iv]? = some (.box [.int .i64 v]) := hiv
  have same : h.set id (bx r) = h := by
    have hi := rd_len hb
    apply List.ext_getElem?
    intro j
    by_cases hj : id = j
    · subst hj; rw [List.getElem?_set_self hi, hb]
    · rw [List.getElem?_set_ne hj]
  by_cases c1 : (c.toNat : Int) < 48
  · have q : isDig c = false := by simp [isDig]; omega
    rw [q, Bool.and_false]
    simp (maxSteps := 4000000) only [vm, vl, Arg.get, cells, stor, boundO, resultsV, resV, partK, loadV, Vm.part, fillC, splice, reduceIte, reduceCtorEq, Nat.reduceEqDiff, Nat.reduceAdd, Nat.reduceSub, Nat.reduceMul, Nat.reduceLeDiff, ne_eq, not_false_eq_true, Int.reduceEq, Int.reduceLT, Int.reduceLE, Int.reduceNeg, Int.reduceToNat, Int.reduceGT, Int.reduceGE, Nat.reduceLT, Nat.lt_add_one, Nat.zero_lt_succ, Nat.succ_pos, Nat.zero_le, beq_self_eq_true, k___gatepost_date_reader__number_1_0, c1, decide_true, h1, hb', hiv', h2, w1, w2, w3, wd]
    rfl
  · by_cases c2 : (c.toNat : Int) > 57
    · have q : isDig c = false := by simp [isDig]; omega
      rw [q, Bool.and_false]
      simp (maxSteps := 4000000) only [vm, vl, Arg.get, cells, stor, boundO, resultsV, resV, partK, loadV, Vm.part, fillC, splice, reduceIte, reduceCtorEq, Nat.reduceEqDiff, Nat.reduceAdd, Nat.reduceSub, Nat.reduceMul, Nat.reduceLeDiff, ne_eq, not_false_eq_true, Int.reduceEq, Int.reduceLT, Int.reduceLE, Int.reduceNeg, Int.reduceToNat, Int.reduceGT, Int.reduceGE, Nat.reduceLT, Nat.lt_add_one, Nat.zero_lt_succ, Nat.succ_pos, Nat.zero_le, beq_self_eq_true, k___gatepost_date_reader__number_1_0, c1, c2, decide_true, decide_false, h1, hb', hiv', h2, w1, w2, w3, wd]
      rfl
    · have q : isDig c = true := by simp [isDig]; omega
      rw [q, Bool.and_true, same]
      simp (maxSteps := 4000000) only [vm, vl, Arg.get, cells, stor, boundO, resultsV, resV, partK, loadV, Vm.part, fillC, splice, reduceIte, reduceCtorEq, Nat.reduceEqDiff, Nat.reduceAdd, Nat.reduceSub, Nat.reduceMul, Nat.reduceLeDiff, ne_eq, not_false_eq_true, Int.reduceEq, Int.reduceLT, Int.reduceLE, Int.reduceNeg, Int.reduceToNat, Int.reduceGT, Int.reduceGE, Nat.reduceLT, Nat.lt_add_one, Nat.zero_lt_succ, Nat.succ_pos, Nat.zero_le, beq_self_eq_true, k___gatepost_date_reader__number_1_0, c1, c2, decide_true, decide_false, h1, hb', hiv', h2, w1, w2, w3, wd]
def numV (s : Bs) : Int := s.foldl (fun v c => 10 * v + dgt c) 0
theorem numV_snoc (s : Bs) (c : UInt8) : numV (s ++ [c]) = 10 * numV s + dgt c := by simp [numV, List.foldl_append]
theorem numV_le {s : Bs} (h : s.length ≤ 4) : 0 ≤ numV s ∧ numV s ≤ 283305 := by
  match s, h with
  | [], _ => simp [numV]
  | [a], _ => have := dgt_range a; simp [numV]; omega
  | [a, b], _ => have := dgt_range a; have := dgt_range b; simp [numV]; omega
  | [a, b, c], _ => have := dgt_range a; have := dgt_range b; have := dgt_range c; simp [numV]; omega
  | [a, b, c, d], _ => have := dgt_range a; have := dgt_range b; have := dgt_range c; have := dgt_range d; simp [numV]; omega
  | _ :: _ :: _ :: _ :: _ :: _, h => simp at h
def numR (n : Nat) (r : Rd) : Int × Rd := (numV (takeR n r).1, ((takeR n r).2.1, (takeR n r).2.2 && (takeR n r).1.all isDig))
theorem takeR_len (n : Nat) (r : Rd) : (takeR n r).1.length ≤ n := by
  unfold takeR; split
  · simp
  · rw [List.length_take]; omega
theorem num_loop {id ir iv : Nat} {s : Bs} {r : Rd} {e : Env} {hh : Heap} (hi : id < h.length) (hs : s.length ≤ 4) (e5 : e 5 = .str s) (e6 : e 6 = .ptr iv 0) (e7 : e 7 = .fn i___gatepost_date_reader__number_1 [.ptr ir 0, .ptr iv 0]) (e14 : e 14 = .int .i64 s.length) (e15 : e 15 = .int .i64 0)
    (hh1 : ∃ t, hh = h.set id (bx r) ++ t) (g1 : hh[ir]? = some (.box [.ptr id 0])) (g2 : hh[iv]? = some (.box [.int .i64 0])) (n1 : h.length ≤ ir) (n2 : h.length ≤ iv) (n3 : ir ≠ iv) :
    Wl F L lc___gatepost_date_reader__number_0 (q___gatepost_date_reader__number_0 L (RdP h id (.int .i64 (numV s)) (r.1, r.2 && s.all isDig))) e hh := by
  refine l___gatepost_date_reader__number_0 (fun n e h' => ∃ i, n = s.length - i ∧ i ≤ s.length ∧ e 5 = .str s ∧ e 6 = .ptr iv 0 ∧ e 7 = .fn i___gatepost_date_reader__number_1 [.ptr ir 0, .ptr iv 0] ∧ e 14 = .int .i64 s.length ∧ e 15 = .int .i64 i ∧
    (∃ t, h' = h.set id (bx (r.1, r.2 && (s.take i).all isDig)) ++ t) ∧ h'[ir]? = some (.box [.ptr id 0]) ∧ h'[iv]? = some (.box [.int .i64 (numV (s.take i))])) ?_ (n := s.length) ⟨0, by simp, by simp, e5, e6, e7, e14, e15, by simpa using hh1, g1, by simpa [numV] using g2⟩
  clear e5 e6 e7 e14 e15 hh1 g1 g2
  rintro n e h' ⟨i, rfl, hil, e5, e6, e7, e14, e15, ⟨t, rfl⟩, g1, g2⟩
  simp only [b___gatepost_date_reader__number_0]
  
  rcases Nat.lt_or_eq_of_le hil with hlt | rfl
  · have hl : (i : Int) < s.length := by omega
    have w := wrap64 (x := (i : Int) + 1) (by omega) (by omega)
    obtain ⟨c, hc, htk⟩ : ∃ c, s.getD i 0 = c ∧ s.take (i + 1) = s.take i ++ [c] := ⟨s[i], by rw [List.getD_eq_getElem?_getD, List.getElem?_eq_getElem hlt]; rfl, by rw [List.take_add_one, List.getElem?_eq_getElem hlt]; rfl⟩
    have i0 : (0 : Int) ≤ i := by omega
    obtain ⟨b0, b1⟩ := numV_le (s := s.take i) (by rw [List.length_take]; omega)
    simp (maxSteps := 4000000) only [vm, vl, Arg.get, cells, stor, boundO, resultsV, resV, partK, loadV, Vm.part, fillC, splice, reduceIte, reduceCtorEq, Nat.reduceEqDiff, Nat.reduceAdd, Nat.reduceSub, Nat.reduceMul, Nat.reduceLeDiff, ne_eq, not_false_eq_true, Int.reduceEq, Int.reduceLT, Int.reduceLE, Int.reduceNeg, Int.reduceToNat, Int.reduceGT, Int.reduceGE, Nat.reduceLT, Nat.lt_add_one, Nat.zero_lt_succ, Nat.succ_pos, Nat.zero_le, beq_self_eq_true, k___gatepost_date_reader__number_0, k___gatepost_date_reader__number_2, k___gatepost_date_reader__number_1, e5, e6, e7, e14, e15, hl, i0, hlt, hc, Int.toNat_natCast]
    refine (digit_ok (c := c) (id := id) (ir := ir) (iv := iv) (r := (r.1, r.2 && (s.take i).all isDig)) (rd_at hi) g1 g2 (by omega) b0 (by omega)).mono fun _ h2 hp => ?_
    subst hp
    simp (maxSteps := 4000000) only [vm, vl, Arg.get, cells, stor, boundO, resultsV, resV, partK, loadV, Vm.part, fillC, splice, reduceIte, reduceCtorEq, Nat.reduceEqDiff, Nat.reduceAdd, Nat.reduceSub, Nat.reduceMul, Nat.reduceLeDiff, ne_eq, not_false_eq_true, Int.reduceEq, Int.reduceLT, Int.reduceLE, Int.reduceNeg, Int.reduceToNat, Int.reduceGT, Int.reduceGE, Nat.reduceLT, Nat.lt_add_one, Nat.zero_lt_succ, Nat.succ_pos, Nat.zero_le, beq_self_eq_true, k___gatepost_date_reader__number_0, k___gatepost_date_reader__number_2, k___gatepost_date_reader__number_1, w]
    refine ⟨s.length - (i + 1), by omega, i + 1, rfl, hlt, rfl, ?_, ?_, ?_⟩
    · rw [rd_set hi, List.set_append_right _ _ (by rw [List.length_set]; exact n2)]
      refine ⟨t.set (iv - (h.set id (bx (r.1, (r.2 && (s.take i).all isDig) && isDig c))).length) (.box [.int .i64 (10 * numV (s.take i) + dgt c)]), ?_⟩
      rw [htk, List.all_append]
      simp only [List.all_cons, List.all_nil, Bool.and_true, Bool.and_assoc]
    · rw [List.getElem?_set_ne (Ne.symm n3), List.getElem?_set_ne (by omega)]; exact g1
    · rw [htk, numV_snoc]
      refine List.getElem?_set_self ?_
      rw [List.length_set]
      exact (List.getElem?_eq_some_iff.1 g2).1
  · have hn : ¬ (s.length : Int) < s.length := by omega
    rw [List.take_of_length_le (Nat.le_refl _)] at g2 ⊢
    simp (maxSteps := 4000000) only [vm, vl, Arg.get, cells, stor, boundO, resultsV, resV, partK, loadV, Vm.part, fillC, splice, reduceIte, reduceCtorEq, Nat.reduceEqDiff, Nat.reduceAdd, Nat.reduceSub, Nat.reduceMul, Nat.reduceLeDiff, ne_eq, not_false_eq_true, Int.reduceEq, Int.reduceLT, Int.reduceLE, Int.reduceNeg, Int.reduceToNat, Int.reduceGT, Int.reduceGE, Nat.reduceLT, Nat.lt_add_one, Nat.zero_lt_succ, Nat.succ_pos, Nat.zero_le, beq_self_eq_true, k___gatepost_date_reader__number_0, k___gatepost_date_reader__number_2, k___gatepost_date_reader__number_1, e5, e6, e7, e14, e15, hn, g2]
    exact ⟨rfl, t, rfl⟩
theorem number_ok {id n : Nat} {r : Rd} (hb : h[id]? = some (bx r)) (hn : n ≤ 4) (hl : r.1.length < 9223372036854775807) : Cf F L i___gatepost_date_reader__number [.ptr id 0, .int .i64 n] h (RdP h id (.int .i64 (numR n r).1) (numR n r).2) := by
  refine run___gatepost_date_reader__number ?_
  simp only [p___gatepost_date_reader__number]
  
  have hi := rd_len hb
  simp (maxSteps := 4000000) only [vm, vl, Arg.get, cells, stor, boundO, resultsV, resV, partK, loadV, Vm.part, fillC, splice, reduceIte, reduceCtorEq, Nat.reduceEqDiff, Nat.reduceAdd, Nat.reduceSub, Nat.reduceMul, Nat.reduceLeDiff, ne_eq, not_false_eq_true, Int.reduceEq, Int.reduceLT, Int.reduceLE, Int.reduceNeg, Int.reduceToNat, Int.reduceGT, Int.reduceGE, Nat.reduceLT, Nat.lt_add_one, Nat.zero_lt_succ, Nat.succ_pos, Nat.zero_le, beq_self_eq_true]
  refine Cf.rd (take_ok (h := h ++ [O.box [.ptr id 0]]) (get_old hb) (by omega) hl) fun t => ?_
  have hql := takeR_len n r
  have eR : numR n r = (numV (takeR n r).1, ((takeR n r).2.1, (takeR n r).2.2 && (takeR n r).1.all isDig)) := rfl
  rw [eR]
  generalize takeR n r = q at *
  obtain ⟨s, r'⟩ := q
  rw [List.set_append_left _ _ hi]
  simp only at hql ⊢
  simp (maxSteps := 4000000) only [vm, vl, Arg.get, cells, stor, boundO, resultsV, resV, partK, loadV, Vm.part, fillC, splice, reduceIte, reduceCtorEq, Nat.reduceEqDiff, Nat.reduceAdd, Nat.reduceSub, Nat.reduceMul, Nat.reduceLeDiff, ne_eq, not_false_eq_true, Int.reduceEq, Int.reduceLT, Int.reduceLE, Int.reduceNeg, Int.reduceToNat, Int.reduceGT, Int.reduceGE, Nat.reduceLT, Nat.lt_add_one, Nat.zero_lt_succ, Nat.succ_pos, Nat.zero_le, beq_self_eq_true]
  refine num_loop hi (by omega) rfl rfl rfl rfl rfl ⟨_, rfl⟩ ?_ ?_ (Nat.le_refl _) (by omega) (by omega)
  · rw [List.getElem?_append_right (by rw [List.length_set]; omega), List.length_set, Nat.sub_self]; rfl
  · rw [List.getElem?_append_right (by rw [List.length_set]; omega), List.length_set, show h.length + (t.length + 1) - h.length = t.length + 1 by omega, List.getElem?_cons_succ, List.getElem?_append_right (Nat.le_refl _), Nat.sub_self]; rfl
end Go.Proofs.YtdgklgeddbfeaaaDoor.Vh
