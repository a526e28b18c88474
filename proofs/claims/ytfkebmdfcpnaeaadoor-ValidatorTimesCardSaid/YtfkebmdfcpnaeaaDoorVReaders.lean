/- Package date's reader on the small machine. -/
import Derived.Test.YtfkebmdfcpnaeaaDoorTok
import Derived.Test.YtfkebmdfcpnaeaaDoorVDateA
import Derived.Test.YtfkebmdfcpnaeaaDoorVmGrow
import Derived.Test.YtfkebmdfcpnaeaaDoorVFormatA
set_option linter.unusedVariables false
set_option linter.unusedSimpArgs false
namespace Go.Proofs.YtfkebmdfcpnaeaaDoor.Vh
open Go.Vm Go.Vt
attribute [local congr] wi_congr wg_congr wgd_congr wb_congr wl_congr cf_congr
variable {L : FuncId → List V → V → Prop} {h : Heap}
/-- A reader: what is left, and whether all was well. -/
abbrev Rd := Bs × Bool
def bx (r : Rd) : O := .box [.str r.1, .bool r.2]
def RdP (h : Heap) (id : Nat) (x : V) (r : Rd) (v : V) (h' : Heap) : Prop := v = x ∧ ∃ t, h' = h.set id (bx r) ++ t
theorem Cf.rd {f : FuncId} {args : List V} {id : Nat} {x : V} {r : Rd} {K : V → Heap → Prop} (hc : Cf F L f args h (RdP h id x r)) (k : ∀ t, K x (h.set id (bx r) ++ t)) : Cf F L f args h K :=
  hc.mono fun v h' ⟨h1, t, h2⟩ => by rw [h1, h2]; exact k t
theorem rd_len {id : Nat} {o : O} (hb : h[id]? = some o) : id < h.length := (List.getElem?_eq_some_iff.1 hb).1
theorem rd_at {id : Nat} {o : O} {t : Heap} (hi : id < h.length) : (h.set id o ++ t)[id]? = some o := by
  rw [List.getElem?_append_left (by rw [List.length_set]; exact hi), List.getElem?_set_self hi]
theorem rd_set {id : Nat} {o o' : O} {t : Heap} (hi : id < h.length) : (h.set id o ++ t).set id o' = h.set id o' ++ t := by
  rw [List.set_append_left _ _ (by rw [List.length_set]; exact hi), List.set_set]
def takeR (n : Nat) (r : Rd) : Bs × Rd := if r.1.length < n then ([], (r.1, false)) else (r.1.take n, (r.1.drop n, r.2))
theorem take_ok {id n : Nat} {r : Rd} (hb : h[id]? = some (bx r)) (hn : n ≤ 1000000) (hl : r.1.length < 9223372036854775807) : Cf F L i___gatepost_date_reader__take [.ptr id 0, .int .i64 n] h (RdP h id (.str (takeR n r).1) (takeR n r).2) := by
  refine run___gatepost_date_reader__take ?_
  simp only [p___gatepost_date_reader__take]
  have hb' : h[id]? = some (O.box [.str r.1, .bool r.2]) := hb
  by_cases hc : r.1.length < n
  · have hc' : (r.1.length : Int) < n := by omega
    have e : takeR n r = ([], (r.1, false)) := if_pos hc
    rw [e]
    simp (maxSteps := 4000000) only [vm, vl, Arg.get, cells, stor, boundO, resultsV, resV, partK, loadV, Vm.part, fillC, splice, reduceIte, reduceCtorEq, Nat.reduceEqDiff, Nat.reduceAdd, Nat.reduceSub, Nat.reduceMul, Nat.reduceLeDiff, ne_eq, not_false_eq_true, Int.reduceEq, Int.reduceLT, Int.reduceLE, Int.reduceNeg, Int.reduceToNat, Int.reduceGT, Int.reduceGE, Nat.reduceLT, Nat.lt_add_one, Nat.zero_lt_succ, Nat.succ_pos, Nat.zero_le, beq_self_eq_true, k___gatepost_date_reader__take_0, hb', hc']
    exact ⟨rfl, [], by simp [bx]⟩
  · have hc' : ¬ (r.1.length : Int) < n := by omega
    have e : takeR n r = (r.1.take n, (r.1.drop n, r.2)) := if_neg hc
    have g0 : (0 : Int) ≤ n := by omega
    have g1 : n ≤ r.1.length := by omega
    have g2 : List.take r.1.length r.1 = r.1 := List.take_of_length_le (Nat.le_refl _)
    rw [e]
    simp (maxSteps := 4000000) only [vm, vl, Arg.get, cells, stor, boundO, resultsV, resV, partK, loadV, Vm.part, fillC, splice, reduceIte, reduceCtorEq, Nat.reduceEqDiff, Nat.reduceAdd, Nat.reduceSub, Nat.reduceMul, Nat.reduceLeDiff, ne_eq, not_false_eq_true, Int.reduceEq, Int.reduceLT, Int.reduceLE, Int.reduceNeg, Int.reduceToNat, Int.reduceGT, Int.reduceGE, Nat.reduceLT, Nat.lt_add_one, Nat.zero_lt_succ, Nat.succ_pos, Nat.zero_le, beq_self_eq_true, k___gatepost_date_reader__take_0, hb', hc', g0, g1, g2, Int.toNat_natCast, List.drop_zero]
    exact ⟨rfl, [], by simp [bx]⟩
def needR (p : Bs) (r : Rd) : Rd := if (takeR p.length r).1 = p then (takeR p.length r).2 else ((takeR p.length r).2.1, false)
theorem need_ok {id : Nat} {p : Bs} {r : Rd} (hb : h[id]? = some (bx r)) (hn : p.length ≤ 1000000) (hl : r.1.length < 9223372036854775807) : Cf F L i___gatepost_date_reader__need [.ptr id 0, .str p] h (RdP h id (.tup []) (needR p r)) := by
  refine run___gatepost_date_reader__need ?_
  simp only [p___gatepost_date_reader__need]
  have hi := rd_len hb
  simp (maxSteps := 4000000) only [vm, vl, Arg.get, cells, stor, boundO, resultsV, resV, partK, loadV, Vm.part, fillC, splice, reduceIte, reduceCtorEq, Nat.reduceEqDiff, Nat.reduceAdd, Nat.reduceSub, Nat.reduceMul, Nat.reduceLeDiff, ne_eq, not_false_eq_true, Int.reduceEq, Int.reduceLT, Int.reduceLE, Int.reduceNeg, Int.reduceToNat, Int.reduceGT, Int.reduceGE, Nat.reduceLT, Nat.lt_add_one, Nat.zero_lt_succ, Nat.succ_pos, Nat.zero_le, beq_self_eq_true]
  refine Cf.rd (take_ok hb hn hl) fun t => ?_
  unfold needR
  generalize takeR p.length r = q at *
  obtain ⟨x, r'⟩ := q
  have hb2 : (h.set id (bx r') ++ t)[id]? = some (O.box [.str r'.1, .bool r'.2]) := rd_at hi
  by_cases hx : x = p
  · have d : (x == p) = true := by simpa using hx
    rw [if_pos hx]
    simp (maxSteps := 4000000) only [vm, vl, Arg.get, cells, stor, boundO, resultsV, resV, partK, loadV, Vm.part, fillC, splice, reduceIte, reduceCtorEq, Nat.reduceEqDiff, Nat.reduceAdd, Nat.reduceSub, Nat.reduceMul, Nat.reduceLeDiff, ne_eq, not_false_eq_true, Int.reduceEq, Int.reduceLT, Int.reduceLE, Int.reduceNeg, Int.reduceToNat, Int.reduceGT, Int.reduceGE, Nat.reduceLT, Nat.lt_add_one, Nat.zero_lt_succ, Nat.succ_pos, Nat.zero_le, beq_self_eq_true, d, Bool.not_true]
    exact ⟨rfl, t, rfl⟩
  · have d : (x == p) = false := by simpa using hx
    rw [if_neg hx]
    simp (maxSteps := 4000000) only [vm, vl, Arg.get, cells, stor, boundO, resultsV, resV, partK, loadV, Vm.part, fillC, splice, reduceIte, reduceCtorEq, Nat.reduceEqDiff, Nat.reduceAdd, Nat.reduceSub, Nat.reduceMul, Nat.reduceLeDiff, ne_eq, not_false_eq_true, Int.reduceEq, Int.reduceLT, Int.reduceLE, Int.reduceNeg, Int.reduceToNat, Int.reduceGT, Int.reduceGE, Nat.reduceLT, Nat.lt_add_one, Nat.zero_lt_succ, Nat.succ_pos, Nat.zero_le, beq_self_eq_true, d, Bool.not_false, hb2]
    refine ⟨rfl, t, ?_⟩
    rw [rd_set hi]; rfl
def dgt (c : UInt8) : Int := ((c.toNat + 208) % 256 : Nat)
def isDig (c : UInt8) : Bool := decide (48 ≤ (c.toNat : Int) ∧ (c.toNat : Int) ≤ 57)
theorem dgt_wrap (c : UInt8) : IntKind.u8.wrap ((c.toNat : Int) - 48) = dgt c := byte_all (p := fun c => IntKind.u8.wrap ((c.toNat : Int) - 48) = dgt c) (by decide +kernel) c
theorem dgt_range (c : UInt8) : 0 ≤ dgt c ∧ dgt c ≤ 255 := by unfold dgt; omega
theorem digit_ok {c : UInt8} {id ir iv : Nat} {r : Rd} {v : Int} (hb : h[id]? = some (bx r)) (h1 : h[ir]? = some (.box [.ptr id 0])) (h2 : h[iv]? = some (.box [.int .i64 v])) (hne : iv ≠ id) (v0 : 0 ≤ v) (v1 : v ≤ 100000000) :
    Cf F L i___gatepost_date_reader__number_1 [.int .u8 c.toNat, .ptr ir 0, .ptr iv 0] h (fun _ h' => h' = (h.set id (bx (r.1, r.2 && isDig c))).set iv (.box [.int .i64 (10 * v + dgt c)])) := by
  refine run___gatepost_date_reader__number_1 ?_
  simp only [p___gatepost_date_reader__number_1]
  have hb' : h[id]? = some (O.box [.str r.1, .bool r.2]) := hb
  obtain ⟨d0, d1⟩ := dgt_range c
  have w1 : IntKind.i64.wrap (10 * v) = 10 * v := wrap64 (by omega) (by omega)
  have w2 : IntKind.i64.wrap (dgt c) = dgt c := wrap64 (by omega) (by omega)
  have w3 : IntKind.i64.wrap (10 * v + dgt c) = 10 * v + dgt c := wrap64 (by omega) (by omega)
  have wd := dgt_wrap c
  have hiv : (h.set id (bx (r.1, false)))[iv]? = some (.box [.int .i64 v]) := by rw [List.getElem?_set_ne (Ne.symm hne)]; exact h2
  have hiv' : (h.set id (O.box [.str r.1, .bool false]))[iv]? = some (.box [.int .i64 v]) := hiv
  have same : h.set id (bx r) = h := by
    have hi := rd_len hb
    apply List.ext_getElem?
    intro j
    by_cases hj : id = j
    · subst hj; rw [List.getElem?_set_self hi, hb]
    · rw [List.getElem?_set_ne hj]
  by_cases c1 : (c.toNat : Int) < 48
  · have q : isDig c = false := by simp [isDig]; omega
    rw [q, Bool.and_false]
    simp (maxSteps := 4000000) only [vm, vl, Arg.get, cells, stor, boundO, resultsV, resV, partK, loadV, Vm.part, fillC, splice, reduceIte, reduceCtorEq, Nat.reduceEqDiff, Nat.reduceAdd, Nat.reduceSub, Nat.reduceMul, Nat.reduceLeDiff, ne_eq, not_false_eq_true, Int.reduceEq, Int.reduceLT, Int.reduceLE, Int.reduceNeg, Int.reduceToNat, Int.reduceGT, Int.reduceGE, Nat.reduceLT, Nat.lt_add_one, Nat.zero_lt_succ, Nat.succ_pos, Nat.zero_le, beq_self_eq_true, k___gatepost_date_reader__number_1_0, c1, decide_true, h1, hb', hiv', h2, w1, w2, w3, wd]
    rfl
  · by_cases c2 : (c.toNat : Int) > 57
    · have q : isDig c = false := by simp [isDig]; omega
      rw [q, Bool.and_false]
      simp (maxSteps := 4000000) only [vm, vl, Arg.get, cells, stor, boundO, resultsV, resV, partK, loadV, Vm.part, fillC, splice, reduceIte, reduceCtorEq, Nat.reduceEqDiff, Nat.reduceAdd, Nat.reduceSub, Nat.reduceMul, Nat.reduceLeDiff, ne_eq, not_false_eq_true, Int.reduceEq, Int.reduceLT, Int.reduceLE, Int.reduceNeg, Int.reduceToNat, Int.reduceGT, Int.reduceGE, Nat.reduceLT, Nat.lt_add_one, Nat.zero_lt_succ, Nat.succ_pos, Nat.zero_le, beq_self_eq_true, k___gatepost_date_reader__number_1_0, c1, c2, decide_true, decide_false, h1, hb', hiv', h2, w1, w2, w3, wd]
      rfl
    · have q : isDig c = true := by simp [isDig]; omega
      rw [q, Bool.and_true, same]
      simp (maxSteps := 4000000) only [vm, vl, Arg.get, cells, stor, boundO, resultsV, resV, partK, loadV, Vm.part, fillC, splice, reduceIte, reduceCtorEq, Nat.reduceEqDiff, Nat.reduceAdd, Nat.reduceSub, Nat.reduceMul, Nat.reduceLeDiff, ne_eq, not_false_eq_true, Int.reduceEq, Int.reduceLT, Int.reduceLE, Int.reduceNeg, Int.reduceToNat, Int.reduceGT, Int.reduceGE, Nat.reduceLT, Nat.lt_add_one, Nat.zero_lt_succ, Nat.succ_pos, Nat.zero_le, beq_self_eq_true, k___gatepost_date_reader__number_1_0, c1, c2, decide_true, decide_false, h1, hb', hiv', h2, w1, w2, w3, wd]
def numV (s : Bs) : Int := s.foldl (fun v c => 10 * v + dgt c) 0
theorem numV_snoc (s : Bs) (c : UInt8) : numV (s ++ [c]) = 10 * numV s + dgt c := by simp [numV, List.foldl_append]
theorem numV_le {s : Bs} (h : s.length ≤ 4) : 0 ≤ numV s ∧ numV s ≤ 283305 := by
  match s, h with
  | [], _ => simp [numV]
  | [a], _ => have := dgt_range a; simp [numV]; omega
  | [a, b], _ => have := dgt_range a; have := dgt_range b; simp [numV]; omega
  | [a, b, c], _ => have := dgt_range a; have := dgt_range b; have := dgt_range c; simp [numV]; omega
  | [a, b, c, d], _ => have := dgt_range a; have := dgt_range b; have := dgt_range c; have := dgt_range d; simp [numV]; omega
  | _ :: _ :: _ :: _ :: _ :: _, h => simp at h
def numR (n : Nat) (r : Rd) : Int × Rd := (numV (takeR n r).1, ((takeR n r).2.1, (takeR n r).2.2 && (takeR n r).1.all isDig))
theorem takeR_len (n : Nat) (r : Rd) : (takeR n r).1.length ≤ n := by
  unfold takeR; split
  · simp
  · rw [List.length_take]; omega
theorem num_loop {id ir iv : Nat} {s : Bs} {r : Rd} {e : Env} {hh : Heap} (hi : id < h.length) (hs : s.length ≤ 4) (e5 : e 5 = .str s) (e6 : e 6 = .ptr iv 0) (e7 : e 7 = .fn i___gatepost_date_reader__number_1 [.ptr ir 0, .ptr iv 0]) (e14 : e 14 = .int .i64 s.length) (e15 : e 15 = .int .i64 0)
    (hh1 : ∃ t, hh = h.set id (bx r) ++ t) (g1 : hh[ir]? = some (.box [.ptr id 0])) (g2 : hh[iv]? = some (.box [.int .i64 0])) (n1 : h.length ≤ ir) (n2 : h.length ≤ iv) (n3 : ir ≠ iv) :
    Wl F L lc___gatepost_date_reader__number_0 (q___gatepost_date_reader__number_0 L (RdP h id (.int .i64 (numV s)) (r.1, r.2 && s.all isDig))) e hh := by
  refine l___gatepost_date_reader__number_0 (fun n e h' => ∃ i, n = s.length - i ∧ i ≤ s.length ∧ e 5 = .str s ∧ e 6 = .ptr iv 0 ∧ e 7 = .fn i___gatepost_date_reader__number_1 [.ptr ir 0, .ptr iv 0] ∧ e 14 = .int .i64 s.length ∧ e 15 = .int .i64 i ∧
    (∃ t, h' = h.set id (bx (r.1, r.2 && (s.take i).all isDig)) ++ t) ∧ h'[ir]? = some (.box [.ptr id 0]) ∧ h'[iv]? = some (.box [.int .i64 (numV (s.take i))])) ?_ (n := s.length) ⟨0, by simp, by simp, e5, e6, e7, e14, e15, by simpa using hh1, g1, by simpa [numV] using g2⟩
  clear e5 e6 e7 e14 e15 hh1 g1 g2
  rintro n e h' ⟨i, rfl, hil, e5, e6, e7, e14, e15, ⟨t, rfl⟩, g1, g2⟩
  simp only [b___gatepost_date_reader__number_0]
  
  rcases Nat.lt_or_eq_of_le hil with hlt | rfl
  · have hl : (i : Int) < s.length := by omega
    have w := wrap64 (x := (i : Int) + 1) (by omega) (by omega)
    obtain ⟨c, hc, htk⟩ : ∃ c, s.getD i 0 = c ∧ s.take (i + 1) = s.take i ++ [c] := ⟨s[i], by rw [List.getD_eq_getElem?_getD, List.getElem?_eq_getElem hlt]; rfl, by rw [List.take_add_one, List.getElem?_eq_getElem hlt]; rfl⟩
    have i0 : (0 : Int) ≤ i := by omega
    obtain ⟨b0, b1⟩ := numV_le (s := s.take i) (by rw [List.length_take]; omega)
    simp (maxSteps := 4000000) only [vm, vl, Arg.get, cells, stor, boundO, resultsV, resV, partK, loadV, Vm.part, fillC, splice, reduceIte, reduceCtorEq, Nat.reduceEqDiff, Nat.reduceAdd, Nat.reduceSub, Nat.reduceMul, Nat.reduceLeDiff, ne_eq, not_false_eq_true, Int.reduceEq, Int.reduceLT, Int.reduceLE, Int.reduceNeg, Int.reduceToNat, Int.reduceGT, Int.reduceGE, Nat.reduceLT, Nat.lt_add_one, Nat.zero_lt_succ, Nat.succ_pos, Nat.zero_le, beq_self_eq_true, k___gatepost_date_reader__number_0, k___gatepost_date_reader__number_2, k___gatepost_date_reader__number_1, e5, e6, e7, e14, e15, hl, i0, hlt, hc, Int.toNat_natCast]
    refine (digit_ok (c := c) (id := id) (ir := ir) (iv := iv) (r := (r.1, r.2 && (s.take i).all isDig)) (rd_at hi) g1 g2 (by omega) b0 (by omega)).mono fun _ h2 hp => ?_
    subst hp
    simp (maxSteps := 4000000) only [vm, vl, Arg.get, cells, stor, boundO, resultsV, resV, partK, loadV, Vm.part, fillC, splice, reduceIte, reduceCtorEq, Nat.reduceEqDiff, Nat.reduceAdd, Nat.reduceSub, Nat.reduceMul, Nat.reduceLeDiff, ne_eq, not_false_eq_true, Int.reduceEq, Int.reduceLT, Int.reduceLE, Int.reduceNeg, Int.reduceToNat, Int.reduceGT, Int.reduceGE, Nat.reduceLT, Nat.lt_add_one, Nat.zero_lt_succ, Nat.succ_pos, Nat.zero_le, beq_self_eq_true, k___gatepost_date_reader__number_0, k___gatepost_date_reader__number_2, k___gatepost_date_reader__number_1, w]
    refine ⟨s.length - (i + 1), by omega, i + 1, rfl, hlt, rfl, ?_, ?_, ?_⟩
    · rw [rd_set hi, List.set_append_right _ _ (by rw [List.length_set]; exact n2)]
      refine ⟨t.set (iv - (h.set id (bx (r.1, (r.2 && (s.take i).all isDig) && isDig c))).length) (.box [.int .i64 (10 * numV (s.take i) + dgt c)]), ?_⟩
      rw [htk, List.all_append]
      simp only [List.all_cons, List.all_nil, Bool.and_true, Bool.and_assoc]
    · rw [List.getElem?_set_ne (Ne.symm n3), List.getElem?_set_ne (by omega)]; exact g1
    · rw [htk, numV_snoc]
      refine List.getElem?_set_self ?_
      rw [List.length_set]
      exact (List.getElem?_eq_some_iff.1 g2).1
  · have hn : ¬ (s.length : Int) < s.length := by omega
    rw [List.take_of_length_le (Nat.le_refl _)] at g2 ⊢
    simp (maxSteps := 4000000) only [vm, vl, Arg.get, cells, stor, boundO, resultsV, resV, partK, loadV, Vm.part, fillC, splice, reduceIte, reduceCtorEq, Nat.reduceEqDiff, Nat.reduceAdd, Nat.reduceSub, Nat.reduceMul, Nat.reduceLeDiff, ne_eq, not_false_eq_true, Int.reduceEq, Int.reduceLT, Int.reduceLE, Int.reduceNeg, Int.reduceToNat, Int.reduceGT, Int.reduceGE, Nat.reduceLT, Nat.lt_add_one, Nat.zero_lt_succ, Nat.succ_pos, Nat.zero_le, beq_self_eq_true, k___gatepost_date_reader__number_0, k___gatepost_date_reader__number_2, k___gatepost_date_reader__number_1, e5, e6, e7, e14, e15, hn, g2]
    exact ⟨rfl, t, rfl⟩
theorem number_ok {id n : Nat} {r : Rd} (hb : h[id]? = some (bx r)) (hn : n ≤ 4) (hl : r.1.length < 9223372036854775807) : Cf F L i___gatepost_date_reader__number [.ptr id 0, .int .i64 n] h (RdP h id (.int .i64 (numR n r).1) (numR n r).2) := by
  refine run___gatepost_date_reader__number ?_
  simp only [p___gatepost_date_reader__number]
  
  have hi := rd_len hb
  simp (maxSteps := 4000000) only [vm, vl, Arg.get, cells, stor, boundO, resultsV, resV, partK, loadV, Vm.part, fillC, splice, reduceIte, reduceCtorEq, Nat.reduceEqDiff, Nat.reduceAdd, Nat.reduceSub, Nat.reduceMul, Nat.reduceLeDiff, ne_eq, not_false_eq_true, Int.reduceEq, Int.reduceLT, Int.reduceLE, Int.reduceNeg, Int.reduceToNat, Int.reduceGT, Int.reduceGE, Nat.reduceLT, Nat.lt_add_one, Nat.zero_lt_succ, Nat.succ_pos, Nat.zero_le, beq_self_eq_true]
  refine Cf.rd (take_ok (h := h ++ [O.box [.ptr id 0]]) (get_old hb) (by omega) hl) fun t => ?_
  have hql := takeR_len n r
  have eR : numR n r = (numV (takeR n r).1, ((takeR n r).2.1, (takeR n r).2.2 && (takeR n r).1.all isDig)) := rfl
  rw [eR]
  generalize takeR n r = q at *
  obtain ⟨s, r'⟩ := q
  rw [List.set_append_left _ _ hi]
  simp only at hql ⊢
  simp (maxSteps := 4000000) only [vm, vl, Arg.get, cells, stor, boundO, resultsV, resV, partK, loadV, Vm.part, fillC, splice, reduceIte, reduceCtorEq, Nat.reduceEqDiff, Nat.reduceAdd, Nat.reduceSub, Nat.reduceMul, Nat.reduceLeDiff, ne_eq, not_false_eq_true, Int.reduceEq, Int.reduceLT, Int.reduceLE, Int.reduceNeg, Int.reduceToNat, Int.reduceGT, Int.reduceGE, Nat.reduceLT, Nat.lt_add_one, Nat.zero_lt_succ, Nat.succ_pos, Nat.zero_le, beq_self_eq_true]
  refine num_loop hi (by omega) rfl rfl rfl rfl rfl ⟨_, rfl⟩ ?_ ?_ (Nat.le_refl _) (by omega) (by omega)
  · rw [List.getElem?_append_right (by rw [List.length_set]; omega), List.length_set, Nat.sub_self]; rfl
  · rw [List.getElem?_append_right (by rw [List.length_set]; omega), List.length_set, show h.length + (t.length + 1) - h.length = t.length + 1 by omega, List.getElem?_cons_succ, List.getElem?_append_right (Nat.le_refl _), Nat.sub_self]; rfl
open Go.Vm Go.Vt
attribute [local congr] wi_congr wg_congr wgd_congr wb_congr wl_congr cf_congr
/-- A text's first place in a list; the length where it is not. -/
def lpos (x : Bs) (l : List Bs) : Nat := (l.takeWhile (· != x)).length
theorem lpos_cons (x y : Bs) (r : List Bs) : lpos x (y :: r) = if y = x then 0 else lpos x r + 1 := by
  unfold lpos
  rw [List.takeWhile_cons]
  by_cases h : y = x <;> simp [h]
theorem lpos_at {x : Bs} : ∀ {l : List Bs} {i : Nat}, i < l.length → (∀ j, j < i → l.getD j [] ≠ x) → l.getD i [] = x → lpos x l = i
  | y :: r, 0, _, _, h => by rw [lpos_cons, if_pos (by simpa using h)]
  | y :: r, i + 1, hi, hj, h => by
    rw [lpos_cons, if_neg (by simpa using hj 0 (by omega)), lpos_at (by simpa using hi) (fun j hlt => by simpa using hj (j + 1) (by omega)) (by simpa using h)]
  | [], _, hi, _, _ => by simp at hi
theorem lpos_none {x : Bs} : ∀ {l : List Bs}, (∀ j, j < l.length → l.getD j [] ≠ x) → lpos x l = l.length
  | [], _ => rfl
  | y :: r, hj => by
    rw [lpos_cons, if_neg (by simpa using hj 0 (by simp)), lpos_none fun j hlt => by simpa using hj (j + 1) (by simpa using hlt)]; rfl
def monR (r : Rd) : Int × Rd := if lpos (takeR 3 r).1 monLs < 12 then ((lpos (takeR 3 r).1 monLs : Int) + 1, (takeR 3 r).2) else (0, ((takeR 3 r).2.1, false))
theorem month_ok' {id : Nat} {r : Rd} (hb : h[id]? = some (bx r)) (hl : r.1.length < 9223372036854775807) : Cf F L i___gatepost_date_reader__month [.ptr id 0] h (RdP h id (.int .i64 (monR r).1) (monR r).2) := by
  refine run___gatepost_date_reader__month ?_
  simp only [p___gatepost_date_reader__month]
  have hi := rd_len hb
  simp (maxSteps := 4000000) only [vm, vl, Arg.get, cells, stor, boundO, resultsV, resV, partK, loadV, Vm.part, fillC, splice, reduceIte, reduceCtorEq, Nat.reduceEqDiff, Nat.reduceAdd, Nat.reduceSub, Nat.reduceMul, Nat.reduceLeDiff, ne_eq, not_false_eq_true, Int.reduceEq, Int.reduceLT, Int.reduceLE, Int.reduceNeg, Int.reduceToNat, Int.reduceGT, Int.reduceGE, Nat.reduceLT, Nat.lt_add_one, Nat.zero_lt_succ, Nat.succ_pos, Nat.zero_le, beq_self_eq_true, k___gatepost_date_reader__month_0, k___gatepost_date_reader__month_2, k___gatepost_date_reader__month_1]
  refine Cf.rd (take_ok (n := 3) hb (by omega) hl) fun t => ?_
  unfold monR
  generalize takeR 3 r = q at *
  obtain ⟨s, r'⟩ := q
  simp only
  try simp (maxSteps := 4000000) only [vm, vl, Arg.get, cells, stor, boundO, resultsV, resV, partK, loadV, Vm.part, fillC, splice, reduceIte, reduceCtorEq, Nat.reduceEqDiff, Nat.reduceAdd, Nat.reduceSub, Nat.reduceMul, Nat.reduceLeDiff, ne_eq, not_false_eq_true, Int.reduceEq, Int.reduceLT, Int.reduceLE, Int.reduceNeg, Int.reduceToNat, Int.reduceGT, Int.reduceGE, Nat.reduceLT, Nat.lt_add_one, Nat.zero_lt_succ, Nat.succ_pos, Nat.zero_le, beq_self_eq_true, k___gatepost_date_reader__month_0, k___gatepost_date_reader__month_2, k___gatepost_date_reader__month_1]
  refine Cf.pu monthNames_ok fun t1 => ?_
  try simp (maxSteps := 4000000) only [vm, vl, Arg.get, cells, stor, boundO, resultsV, resV, partK, loadV, Vm.part, fillC, splice, reduceIte, reduceCtorEq, Nat.reduceEqDiff, Nat.reduceAdd, Nat.reduceSub, Nat.reduceMul, Nat.reduceLeDiff, ne_eq, not_false_eq_true, Int.reduceEq, Int.reduceLT, Int.reduceLE, Int.reduceNeg, Int.reduceToNat, Int.reduceGT, Int.reduceGE, Nat.reduceLT, Nat.lt_add_one, Nat.zero_lt_succ, Nat.succ_pos, Nat.zero_le, beq_self_eq_true, k___gatepost_date_reader__month_0, k___gatepost_date_reader__month_2, k___gatepost_date_reader__month_1]
  refine l___gatepost_date_reader__month_0 (fun n e h' => ∃ i, n = 12 - i ∧ i ≤ 12 ∧ e 0 = .ptr id 0 ∧ e 3 = .str s ∧ e 8 = .agg (monLs.map .str) ∧ e 9 = .int .i64 i ∧ (∃ t, h' = h.set id (bx r') ++ t) ∧ ∀ j, j < i → monLs.getD j [] ≠ s) ?_ (n := 12) ⟨0, by simp, by simp, rfl, rfl, rfl, rfl, ⟨_, rfl⟩, by simp⟩
  rintro n e h' ⟨i, rfl, hil, e0, e3, e8, e9, ⟨t2, rfl⟩, hj⟩
  simp only [b___gatepost_date_reader__month_0]
  have hb2 : (h.set id (bx r') ++ t2)[id]? = some (O.box [.str r'.1, .bool r'.2]) := rd_at hi
  have z2 : (monLs.map V.str).length = 12 := rfl
  rcases Nat.lt_or_eq_of_le hil with hlt | rfl
  · have hl12 : (i : Int) < 12 := by omega
    have i0 : (0 : Int) ≤ i := by omega
    have i11 : i ≤ 11 := by omega
    have r2 : (monLs.map V.str).getD i (.tup []) = .str (monLs.getD i []) := aggstr_at hlt
    have w := wrap64 (x := (i : Int) + 1) (by omega) (by omega)
    generalize hmv : monLs.map V.str = mvs at *
    by_cases hx : monLs.getD i [] = s
    · have hp : lpos s monLs = i := lpos_at hlt hj hx
      have d : (monLs.getD i [] == s) = true := by simpa using hx
      rw [hp, if_pos hlt]
      simp (maxSteps := 4000000) only [vm, vl, Arg.get, cells, stor, boundO, resultsV, resV, partK, loadV, Vm.part, fillC, splice, reduceIte, reduceCtorEq, Nat.reduceEqDiff, Nat.reduceAdd, Nat.reduceSub, Nat.reduceMul, Nat.reduceLeDiff, ne_eq, not_false_eq_true, Int.reduceEq, Int.reduceLT, Int.reduceLE, Int.reduceNeg, Int.reduceToNat, Int.reduceGT, Int.reduceGE, Nat.reduceLT, Nat.lt_add_one, Nat.zero_lt_succ, Nat.succ_pos, Nat.zero_le, beq_self_eq_true, k___gatepost_date_reader__month_0, k___gatepost_date_reader__month_2, k___gatepost_date_reader__month_1, e0, e3, e8, e9, hl12, i0, i11, z2, r2, w, d, Int.toNat_natCast]
      exact ⟨rfl, t2, rfl⟩
    · have d : (monLs.getD i [] == s) = false := by simpa using hx
      simp (maxSteps := 4000000) only [vm, vl, Arg.get, cells, stor, boundO, resultsV, resV, partK, loadV, Vm.part, fillC, splice, reduceIte, reduceCtorEq, Nat.reduceEqDiff, Nat.reduceAdd, Nat.reduceSub, Nat.reduceMul, Nat.reduceLeDiff, ne_eq, not_false_eq_true, Int.reduceEq, Int.reduceLT, Int.reduceLE, Int.reduceNeg, Int.reduceToNat, Int.reduceGT, Int.reduceGE, Nat.reduceLT, Nat.lt_add_one, Nat.zero_lt_succ, Nat.succ_pos, Nat.zero_le, beq_self_eq_true, k___gatepost_date_reader__month_0, k___gatepost_date_reader__month_2, k___gatepost_date_reader__month_1, e0, e3, e8, e9, hl12, i0, i11, z2, r2, w, d, Int.toNat_natCast]
      refine ⟨12 - (i + 1), by omega, i + 1, rfl, hlt, rfl, ⟨t2, rfl⟩, ?_⟩
      intro j hj'
      rcases Nat.lt_or_ge j i with h1 | h1
      · exact hj j h1
      · have : j = i := by omega
        subst this; exact hx
  · have hp : lpos s monLs = 12 := lpos_none hj
    rw [hp, if_neg (by omega)]
    have hn : ¬ (((12 : Nat) : Int) < 12) := by omega
    simp (maxSteps := 4000000) only [vm, vl, Arg.get, cells, stor, boundO, resultsV, resV, partK, loadV, Vm.part, fillC, splice, reduceIte, reduceCtorEq, Nat.reduceEqDiff, Nat.reduceAdd, Nat.reduceSub, Nat.reduceMul, Nat.reduceLeDiff, ne_eq, not_false_eq_true, Int.reduceEq, Int.reduceLT, Int.reduceLE, Int.reduceNeg, Int.reduceToNat, Int.reduceGT, Int.reduceGE, Nat.reduceLT, Nat.lt_add_one, Nat.zero_lt_succ, Nat.succ_pos, Nat.zero_le, beq_self_eq_true, k___gatepost_date_reader__month_0, k___gatepost_date_reader__month_2, k___gatepost_date_reader__month_1, e0, e3, e8, e9, hn, hb2]
    refine ⟨rfl, t2, ?_⟩
    rw [rd_set hi]; rfl
theorem takeR_rest (n : Nat) (r : Rd) : (takeR n r).2.1.length ≤ r.1.length := by
  unfold takeR; split
  · simp
  · simp only [List.length_drop]; omega
theorem needR_rest (p : Bs) (r : Rd) : (needR p r).1.length ≤ r.1.length := by
  have := takeR_rest p.length r
  unfold needR; split <;> exact this
theorem numR_rest (n : Nat) (r : Rd) : (numR n r).2.1.length ≤ r.1.length := takeR_rest n r
theorem numR_le {n : Nat} (hn : n ≤ 4) (r : Rd) : 0 ≤ (numR n r).1 ∧ (numR n r).1 ≤ 283305 := numV_le (Nat.le_trans (takeR_len n r) hn)
theorem monR_rest (r : Rd) : (monR r).2.1.length ≤ r.1.length := by
  have := takeR_rest 3 r
  unfold monR; split <;> exact this
theorem daysS_range (y m d : Int) : -1 ≤ daysS y m d ∧ daysS y m d ≤ 2932896 := by
  unfold daysS
  split
  · rename_i h
    obtain ⟨h1, h2, _⟩ := civil_num y m d h.1 h.2.1 h.2.2.1 h.2.2.2.1 h.2.2.2.2.1 h.2.2.2.2.2
    omega
  · omega
def secR (r : Rd) (w y m d c : Int) : V := if r.2 = true ∧ r.1 = [] ∧ 0 ≤ daysS y m d ∧ (daysS y m d + 3) % 7 = w then .tup [.int .i64 (daysS y m d * 86400 + c), .bool true] else .tup [.int .i64 0, .bool false]
theorem second_ok {id : Nat} {r : Rd} {w y m d c : Int} (hb : h[id]? = some (bx r)) (c0 : 0 ≤ c) (c1 : c ≤ 100000000000) : Cf F L i___gatepost_date_reader__second [.ptr id 0, .int .i64 w, .int .i64 y, .int .i64 m, .int .i64 d, .int .i64 c] h (Pu h (secR r w y m d c)) := by
  refine run___gatepost_date_reader__second ?_
  simp only [p___gatepost_date_reader__second]
  refine Cf.pu Days_ok fun t => ?_
  obtain ⟨d0, d1⟩ := daysS_range y m d
  unfold secR
  generalize daysS y m d = n at *
  obtain ⟨s, ok⟩ := r
  have hb' : (h ++ t)[id]? = some (O.box [.str s, .bool ok]) := get_old hb
  cases ok with
  | false =>
    rw [if_neg (by rintro ⟨h, _⟩; cases h)]
    simp (maxSteps := 4000000) only [vm, vl, Arg.get, cells, stor, boundO, resultsV, resV, partK, loadV, Vm.part, fillC, splice, reduceIte, reduceCtorEq, Nat.reduceEqDiff, Nat.reduceAdd, Nat.reduceSub, Nat.reduceMul, Nat.reduceLeDiff, ne_eq, not_false_eq_true, Int.reduceEq, Int.reduceLT, Int.reduceLE, Int.reduceNeg, Int.reduceToNat, Int.reduceGT, Int.reduceGE, Nat.reduceLT, Nat.lt_add_one, Nat.zero_lt_succ, Nat.succ_pos, Nat.zero_le, beq_self_eq_true, k___gatepost_date_reader__second_0, hb', Bool.not_false]
  | true =>
  by_cases hs : s = []
  · subst hs
    have ds : (([] : Bs) == []) = true := rfl
    by_cases n0 : n < 0
    · rw [if_neg (by rintro ⟨_, _, h, _⟩; omega)]
      simp (maxSteps := 4000000) only [vm, vl, Arg.get, cells, stor, boundO, resultsV, resV, partK, loadV, Vm.part, fillC, splice, reduceIte, reduceCtorEq, Nat.reduceEqDiff, Nat.reduceAdd, Nat.reduceSub, Nat.reduceMul, Nat.reduceLeDiff, ne_eq, not_false_eq_true, Int.reduceEq, Int.reduceLT, Int.reduceLE, Int.reduceNeg, Int.reduceToNat, Int.reduceGT, Int.reduceGE, Nat.reduceLT, Nat.lt_add_one, Nat.zero_lt_succ, Nat.succ_pos, Nat.zero_le, beq_self_eq_true, k___gatepost_date_reader__second_0, hb', Bool.not_true, ds, n0, decide_true]
    · have w1 : IntKind.i64.wrap (n + 3) = n + 3 := wrap64 (by omega) (by omega)
      have q1 : (n + 3).tmod 7 = (n + 3) % 7 := tmod_nn (by omega)
      have w2 : IntKind.i64.wrap (n * 86400) = n * 86400 := wrap64 (by omega) (by omega)
      have w3 : IntKind.i64.wrap (n * 86400 + c) = n * 86400 + c := wrap64 (by omega) (by omega)
      by_cases hw : (n + 3) % 7 = w
      · rw [if_pos ⟨rfl, rfl, by omega, hw⟩]
        simp (maxSteps := 4000000) only [vm, vl, Arg.get, cells, stor, boundO, resultsV, resV, partK, loadV, Vm.part, fillC, splice, reduceIte, reduceCtorEq, Nat.reduceEqDiff, Nat.reduceAdd, Nat.reduceSub, Nat.reduceMul, Nat.reduceLeDiff, ne_eq, not_false_eq_true, Int.reduceEq, Int.reduceLT, Int.reduceLE, Int.reduceNeg, Int.reduceToNat, Int.reduceGT, Int.reduceGE, Nat.reduceLT, Nat.lt_add_one, Nat.zero_lt_succ, Nat.succ_pos, Nat.zero_le, beq_self_eq_true, k___gatepost_date_reader__second_0, hb', Bool.not_true, ds, n0, decide_false, decide_true, w1, q1, bin_rem, hw, w2, w3]
      · rw [if_neg (by rintro ⟨_, _, _, h⟩; exact hw h)]
        simp (maxSteps := 4000000) only [vm, vl, Arg.get, cells, stor, boundO, resultsV, resV, partK, loadV, Vm.part, fillC, splice, reduceIte, reduceCtorEq, Nat.reduceEqDiff, Nat.reduceAdd, Nat.reduceSub, Nat.reduceMul, Nat.reduceLeDiff, ne_eq, not_false_eq_true, Int.reduceEq, Int.reduceLT, Int.reduceLE, Int.reduceNeg, Int.reduceToNat, Int.reduceGT, Int.reduceGE, Nat.reduceLT, Nat.lt_add_one, Nat.zero_lt_succ, Nat.succ_pos, Nat.zero_le, beq_self_eq_true, k___gatepost_date_reader__second_0, hb', Bool.not_true, Bool.not_false, ds, n0, decide_false, w1, q1, bin_rem, hw]
  · have ds : (s == []) = false := by simpa using hs
    rw [if_neg (by rintro ⟨_, h, _⟩; exact hs h)]
    simp (maxSteps := 4000000) only [vm, vl, Arg.get, cells, stor, boundO, resultsV, resV, partK, loadV, Vm.part, fillC, splice, reduceIte, reduceCtorEq, Nat.reduceEqDiff, Nat.reduceAdd, Nat.reduceSub, Nat.reduceMul, Nat.reduceLeDiff, ne_eq, not_false_eq_true, Int.reduceEq, Int.reduceLT, Int.reduceLE, Int.reduceNeg, Int.reduceToNat, Int.reduceGT, Int.reduceGE, Nat.reduceLT, Nat.lt_add_one, Nat.zero_lt_succ, Nat.succ_pos, Nat.zero_le, beq_self_eq_true, k___gatepost_date_reader__second_0, hb', Bool.not_true, Bool.not_false, ds]
def clkR (r : Rd) : Int × Rd :=
  let q1 := numR 2 r; let r2 := needR [58] q1.2; let q3 := numR 2 r2; let r4 := needR [58] q3.2; let q5 := numR 2 r4
  (q1.1 * 3600 + q3.1 * 60 + min q5.1 59, if q1.1 ≥ 24 ∨ q3.1 ≥ 60 ∨ q5.1 > 60 then (q5.2.1, false) else q5.2)
theorem clock_ok {id : Nat} {r : Rd} (hb : h[id]? = some (bx r)) (hl : r.1.length < 9223372036854775807) : Cf F L i___gatepost_date_reader__clock [.ptr id 0] h (RdP h id (.int .i64 (clkR r).1) (clkR r).2) := by
  refine run___gatepost_date_reader__clock ?_
  simp only [p___gatepost_date_reader__clock]
  have hi := rd_len hb
  have l1 := numR_rest 2 r
  have b1 := numR_le (n := 2) (by omega) r
  refine Cf.rd (number_ok (n := 2) hb (by omega) hl) fun t1 => ?_
  unfold clkR
  generalize numR 2 r = q1 at *
  have l2 := needR_rest [58] q1.2
  refine Cf.rd (need_ok (p := [58]) (rd_at hi) (by simp) (by omega)) fun t2 => ?_
  rw [rd_set hi]
  simp only
  generalize needR [58] q1.2 = r2 at *
  have l3 := numR_rest 2 r2
  have b3 := numR_le (n := 2) (by omega) r2
  rw [List.append_assoc]
  refine Cf.rd (number_ok (n := 2) (rd_at hi) (by omega) (by omega)) fun t3 => ?_
  rw [rd_set hi]
  generalize numR 2 r2 = q3 at *
  have l4 := needR_rest [58] q3.2
  rw [List.append_assoc]
  refine Cf.rd (need_ok (p := [58]) (rd_at hi) (by simp) (by omega)) fun t4 => ?_
  rw [rd_set hi]
  generalize needR [58] q3.2 = r4 at *
  have l5 := numR_rest 2 r4
  have b5 := numR_le (n := 2) (by omega) r4
  rw [List.append_assoc]
  refine Cf.rd (number_ok (n := 2) (rd_at hi) (by omega) (by omega)) fun t5 => ?_
  rw [rd_set hi]
  generalize numR 2 r4 = q5 at *
  obtain ⟨a, x1⟩ := q1; obtain ⟨m, x3⟩ := q3; obtain ⟨c, x5⟩ := q5
  simp only at *
  have w1 : IntKind.i64.wrap (a * 3600) = a * 3600 := wrap64 (by omega) (by omega)
  have w2 : IntKind.i64.wrap (m * 60) = m * 60 := wrap64 (by omega) (by omega)
  have w3 : IntKind.i64.wrap (a * 3600 + m * 60) = a * 3600 + m * 60 := wrap64 (by omega) (by omega)
  have w4 : IntKind.i64.wrap (a * 3600 + m * 60 + min c 59) = a * 3600 + m * 60 + min c 59 := wrap64 (by omega) (by omega)
  have hb2 : ∀ t, (h.set id (bx x5) ++ t)[id]? = some (O.box [.str x5.1, .bool x5.2]) := fun t => rd_at hi
  have fin : ∀ t : Heap, ∃ t', (h.set id (bx x5) ++ t).set id (O.box [.str x5.1, .bool false]) = h.set id (bx (x5.1, false)) ++ t' := fun t => ⟨t, rd_set hi⟩
  by_cases h1 : a ≥ 24
  · rw [if_pos (.inl h1)]
    simp (maxSteps := 4000000) only [vm, vl, Arg.get, cells, stor, boundO, resultsV, resV, partK, loadV, Vm.part, fillC, splice, reduceIte, reduceCtorEq, Nat.reduceEqDiff, Nat.reduceAdd, Nat.reduceSub, Nat.reduceMul, Nat.reduceLeDiff, ne_eq, not_false_eq_true, Int.reduceEq, Int.reduceLT, Int.reduceLE, Int.reduceNeg, Int.reduceToNat, Int.reduceGT, Int.reduceGE, Nat.reduceLT, Nat.lt_add_one, Nat.zero_lt_succ, Nat.succ_pos, Nat.zero_le, beq_self_eq_true, k___gatepost_date_reader__clock_0, h1, decide_true, hb2, w1, w2, w3, w4]
    exact ⟨rfl, fin _⟩
  · by_cases h2 : m ≥ 60
    · rw [if_pos (.inr (.inl h2))]
      simp (maxSteps := 4000000) only [vm, vl, Arg.get, cells, stor, boundO, resultsV, resV, partK, loadV, Vm.part, fillC, splice, reduceIte, reduceCtorEq, Nat.reduceEqDiff, Nat.reduceAdd, Nat.reduceSub, Nat.reduceMul, Nat.reduceLeDiff, ne_eq, not_false_eq_true, Int.reduceEq, Int.reduceLT, Int.reduceLE, Int.reduceNeg, Int.reduceToNat, Int.reduceGT, Int.reduceGE, Nat.reduceLT, Nat.lt_add_one, Nat.zero_lt_succ, Nat.succ_pos, Nat.zero_le, beq_self_eq_true, k___gatepost_date_reader__clock_0, h1, h2, decide_true, decide_false, hb2, w1, w2, w3, w4]
      exact ⟨rfl, fin _⟩
    · by_cases h3 : c > 60
      · rw [if_pos (.inr (.inr h3))]
        simp (maxSteps := 4000000) only [vm, vl, Arg.get, cells, stor, boundO, resultsV, resV, partK, loadV, Vm.part, fillC, splice, reduceIte, reduceCtorEq, Nat.reduceEqDiff, Nat.reduceAdd, Nat.reduceSub, Nat.reduceMul, Nat.reduceLeDiff, ne_eq, not_false_eq_true, Int.reduceEq, Int.reduceLT, Int.reduceLE, Int.reduceNeg, Int.reduceToNat, Int.reduceGT, Int.reduceGE, Nat.reduceLT, Nat.lt_add_one, Nat.zero_lt_succ, Nat.succ_pos, Nat.zero_le, beq_self_eq_true, k___gatepost_date_reader__clock_0, h1, h2, h3, decide_true, decide_false, hb2, w1, w2, w3, w4]
        exact ⟨rfl, fin _⟩
      · rw [if_neg (by rintro (h | h | h) <;> omega)]
        simp (maxSteps := 4000000) only [vm, vl, Arg.get, cells, stor, boundO, resultsV, resV, partK, loadV, Vm.part, fillC, splice, reduceIte, reduceCtorEq, Nat.reduceEqDiff, Nat.reduceAdd, Nat.reduceSub, Nat.reduceMul, Nat.reduceLeDiff, ne_eq, not_false_eq_true, Int.reduceEq, Int.reduceLT, Int.reduceLE, Int.reduceNeg, Int.reduceToNat, Int.reduceGT, Int.reduceGE, Nat.reduceLT, Nat.lt_add_one, Nat.zero_lt_succ, Nat.succ_pos, Nat.zero_le, beq_self_eq_true, k___gatepost_date_reader__clock_0, h1, h2, h3, decide_true, decide_false, hb2, w1, w2, w3, w4]
        exact ⟨rfl, _, rfl⟩
open Go.Vm Go.Vt
attribute [local congr] wi_congr wg_congr wgd_congr wb_congr wl_congr cf_congr
/-- The first number below n of which p holds; n where there is none. -/
def firstN (p : Nat → Bool) : Nat → Nat
  | 0 => 0
  | n + 1 => if firstN p n < n then firstN p n else if p n then n else n + 1
theorem firstN_none {p : Nat → Bool} : ∀ {n : Nat}, (∀ j, j < n → p j = false) → firstN p n = n
  | 0, _ => rfl
  | n + 1, h => by
    have := firstN_none (n := n) fun j hj => h j (by omega)
    unfold firstN
    rw [this, if_neg (by omega), h n (by omega)]; rfl
theorem firstN_at {p : Nat → Bool} {i : Nat} (h1 : p i = true) (hj : ∀ j, j < i → p j = false) : ∀ {n : Nat}, i < n → firstN p n = i
  | n + 1, hi => by
    unfold firstN
    rcases Nat.lt_or_eq_of_le (Nat.le_of_lt_succ hi) with h | h
    · rw [firstN_at h1 hj h, if_pos h]
    · subst h
      rw [firstN_none hj, if_neg (by omega), h1]; rfl
def nmD (long : Bool) (w : Nat) : Bs := if long then dayLs.getD w [] else (dayLs.getD w []).take 3
def hitD (long : Bool) (s : Bs) (w : Nat) : Bool := decide (s.length > (nmD long w).length) && (s.take (nmD long w).length == nmD long w)
def dayR (long : Bool) (r : Rd) : Int × Rd := if firstN (hitD long r.1) 7 < 7 then ((firstN (hitD long r.1) 7 : Nat), (r.1.drop (nmD long (firstN (hitD long r.1) 7)).length, r.2)) else (0, (r.1, false))
theorem nmD_len (long : Bool) : ∀ w, w < 7 → (nmD long w).length ≤ 10 := by cases long <;> decide
theorem day_ok {id : Nat} {long : Bool} {r : Rd} (hb : h[id]? = some (bx r)) (hl : r.1.length < 9223372036854775807) : Cf F L i___gatepost_date_reader__day [.ptr id 0, .bool long] h (RdP h id (.int .i64 (dayR long r).1) (dayR long r).2) := by
  refine run___gatepost_date_reader__day ?_
  simp only [p___gatepost_date_reader__day]
  have hi := rd_len hb
  refine Cf.pu longDays_ok fun t => ?_
  have same : h.set id (bx r) = h := by
    apply List.ext_getElem?
    intro j
    by_cases hj : id = j
    · subst hj; rw [List.getElem?_set_self hi, hb]
    · rw [List.getElem?_set_ne hj]
  refine l___gatepost_date_reader__day_0 (fun n e h' => ∃ i, n = 7 - i ∧ i ≤ 7 ∧ e 0 = .ptr id 0 ∧ e 1 = .bool long ∧ e 7 = .agg (dayLs.map .str) ∧ e 8 = .int .i64 i ∧ (∃ t, h' = h ++ t) ∧ ∀ j, j < i → hitD long r.1 j = false) ?_ (n := 7) ⟨0, by simp, by simp, rfl, rfl, rfl, rfl, ⟨_, rfl⟩, by simp⟩
  rintro n e h' ⟨i, rfl, hil, e0, e1, e7, e8, ⟨t2, rfl⟩, hj⟩
  simp only [b___gatepost_date_reader__day_0]
  have hb2 : (h ++ t2)[id]? = some (O.box [.str r.1, .bool r.2]) := get_old hb
  have z2 : (dayLs.map V.str).length = 7 := rfl
  rcases Nat.lt_or_eq_of_le hil with hlt | rfl
  · have hl7 : (i : Int) < 7 := by omega
    have i0 : (0 : Int) ≤ i := by omega
    have i6 : i ≤ 6 := by omega
    have r2 : (dayLs.map V.str).getD i (.tup []) = .str (dayLs.getD i []) := aggstr_at hlt
    have w := wrap64 (x := (i : Int) + 1) (by omega) (by omega)
    have hn10 := nmD_len long i hlt
    obtain ⟨u1, _⟩ := day3 i hlt
    generalize hdv : dayLs.map V.str = dvs at *
    have tail : ∀ (e : Env), e 0 = .ptr id 0 → e 1 = .bool long → e 7 = .agg dvs → k___gatepost_date_reader__day_3 L (RdP h id (.int .i64 (dayR long r).1) (dayR long r).2) (fun e' h' => ∃ m, m < 7 - i ∧ ∃ i, m = 7 - i ∧ i ≤ 7 ∧ e' 0 = .ptr id 0 ∧ e' 1 = .bool long ∧ e' 7 = .agg dvs ∧ e' 8 = .int .i64 i ∧ (∃ t, h' = h ++ t) ∧ ∀ j, j < i → hitD long r.1 j = false) e (.ptr id 0) (.int .i64 i) (.str (nmD long i)) (.int .i64 i) (h ++ t2) := by
      intro e e0 e1 e7
      
      have no : hitD long r.1 i = false → ∃ m, m < 7 - i ∧ ∃ i, m = 7 - i ∧ i ≤ 7 ∧ True := fun _ => ⟨7 - (i + 1), by omega, i + 1, rfl, hlt, trivial⟩
      have nxt : hitD long r.1 i = false → ∀ j, j < i + 1 → hitD long r.1 j = false := by
        intro hx j hj'
        rcases Nat.lt_or_ge j i with h1 | h1
        · exact hj j h1
        · have : j = i := by omega
          subst this; exact hx
      have hit : hitD long r.1 i = (decide (r.1.length > (nmD long i).length) && (r.1.take (nmD long i).length == nmD long i)) := rfl
      have dR : hitD long r.1 i = true → dayR long r = ((i : Int), (r.1.drop (nmD long i).length, r.2)) := by
        intro hx
        unfold dayR
        rw [firstN_at hx hj hlt, if_pos hlt]
      generalize nmD long i = nm at *
      by_cases c1 : r.1.length > nm.length
      · have c1' : (r.1.length : Int) > nm.length := by omega
        have g1 : nm.length ≤ r.1.length := by omega
        have g0 : (0 : Int) ≤ nm.length := by omega
        have d1 : decide (r.1.length > nm.length) = true := by simpa using c1
        cases c2 : (r.1.take nm.length == nm) with
        | true =>
          have hx : hitD long r.1 i = true := by rw [hit, d1, c2]; rfl
          rw [dR hx]
          simp (maxSteps := 4000000) only [vm, vl, Arg.get, cells, stor, boundO, resultsV, resV, partK, loadV, Vm.part, fillC, splice, reduceIte, reduceCtorEq, Nat.reduceEqDiff, Nat.reduceAdd, Nat.reduceSub, Nat.reduceMul, Nat.reduceLeDiff, ne_eq, not_false_eq_true, Int.reduceEq, Int.reduceLT, Int.reduceLE, Int.reduceNeg, Int.reduceToNat, Int.reduceGT, Int.reduceGE, Nat.reduceLT, Nat.lt_add_one, Nat.zero_lt_succ, Nat.succ_pos, Nat.zero_le, beq_self_eq_true, k___gatepost_date_reader__day_0, k___gatepost_date_reader__day_2, k___gatepost_date_reader__day_3, k___gatepost_date_reader__day_1, hb2, c1', g1, g0, c2, decide_true, Int.toNat_natCast, List.drop_zero]
          have tk := take_ok (L := L) (h := h ++ t2) (n := nm.length) (r := r) (get_old hb) (by omega) hl
          have e : takeR nm.length r = (r.1.take nm.length, (r.1.drop nm.length, r.2)) := if_neg (by omega)
          rw [e] at tk
          refine tk.mono fun v h2 hp => ?_
          obtain ⟨_, t3, rfl⟩ := hp
          refine ⟨rfl, t2 ++ t3, ?_⟩
          rw [List.set_append_left _ _ hi, List.append_assoc]
        | false =>
          have hx : hitD long r.1 i = false := by rw [hit, d1, c2]; rfl
          simp (maxSteps := 4000000) only [vm, vl, Arg.get, cells, stor, boundO, resultsV, resV, partK, loadV, Vm.part, fillC, splice, reduceIte, reduceCtorEq, Nat.reduceEqDiff, Nat.reduceAdd, Nat.reduceSub, Nat.reduceMul, Nat.reduceLeDiff, ne_eq, not_false_eq_true, Int.reduceEq, Int.reduceLT, Int.reduceLE, Int.reduceNeg, Int.reduceToNat, Int.reduceGT, Int.reduceGE, Nat.reduceLT, Nat.lt_add_one, Nat.zero_lt_succ, Nat.succ_pos, Nat.zero_le, beq_self_eq_true, k___gatepost_date_reader__day_0, k___gatepost_date_reader__day_2, k___gatepost_date_reader__day_3, k___gatepost_date_reader__day_1, hb2, c1', g1, g0, c2, decide_true, Int.toNat_natCast, List.drop_zero, w, e0, e1, e7]
          exact ⟨7 - (i + 1), by omega, i + 1, rfl, hlt, rfl, ⟨t2, rfl⟩, nxt hx⟩
      · have c1' : ¬ (r.1.length : Int) > nm.length := by omega
        have d1 : decide (r.1.length > nm.length) = false := by simpa using c1
        have hx : hitD long r.1 i = false := by rw [hit, d1]; rfl
        simp (maxSteps := 4000000) only [vm, vl, Arg.get, cells, stor, boundO, resultsV, resV, partK, loadV, Vm.part, fillC, splice, reduceIte, reduceCtorEq, Nat.reduceEqDiff, Nat.reduceAdd, Nat.reduceSub, Nat.reduceMul, Nat.reduceLeDiff, ne_eq, not_false_eq_true, Int.reduceEq, Int.reduceLT, Int.reduceLE, Int.reduceNeg, Int.reduceToNat, Int.reduceGT, Int.reduceGE, Nat.reduceLT, Nat.lt_add_one, Nat.zero_lt_succ, Nat.succ_pos, Nat.zero_le, beq_self_eq_true, k___gatepost_date_reader__day_0, k___gatepost_date_reader__day_2, k___gatepost_date_reader__day_3, k___gatepost_date_reader__day_1, hb2, c1', decide_false, w, e0, e1, e7]
        exact ⟨7 - (i + 1), by omega, i + 1, rfl, hlt, rfl, ⟨t2, rfl⟩, nxt hx⟩
    
    cases long with
    | true =>
      have nt : nmD true i = dayLs.getD i [] := rfl
      rw [← nt] at r2
      simp (maxSteps := 4000000) only [vm, vl, Arg.get, cells, stor, boundO, resultsV, resV, partK, loadV, Vm.part, fillC, splice, reduceIte, reduceCtorEq, Nat.reduceEqDiff, Nat.reduceAdd, Nat.reduceSub, Nat.reduceMul, Nat.reduceLeDiff, ne_eq, not_false_eq_true, Int.reduceEq, Int.reduceLT, Int.reduceLE, Int.reduceNeg, Int.reduceToNat, Int.reduceGT, Int.reduceGE, Nat.reduceLT, Nat.lt_add_one, Nat.zero_lt_succ, Nat.succ_pos, Nat.zero_le, beq_self_eq_true, e0, e1, e7, e8, hl7, i0, i6, z2, r2, Int.toNat_natCast, k___gatepost_date_reader__day_1, Bool.not_true]
      exact tail _ e0 e1 e7
    | false =>
      have nt : List.take 3 (dayLs.getD i []) = nmD false i := rfl
      simp (maxSteps := 4000000) only [vm, vl, Arg.get, cells, stor, boundO, resultsV, resV, partK, loadV, Vm.part, fillC, splice, reduceIte, reduceCtorEq, Nat.reduceEqDiff, Nat.reduceAdd, Nat.reduceSub, Nat.reduceMul, Nat.reduceLeDiff, ne_eq, not_false_eq_true, Int.reduceEq, Int.reduceLT, Int.reduceLE, Int.reduceNeg, Int.reduceToNat, Int.reduceGT, Int.reduceGE, Nat.reduceLT, Nat.lt_add_one, Nat.zero_lt_succ, Nat.succ_pos, Nat.zero_le, beq_self_eq_true, e0, e1, e7, e8, hl7, i0, i6, z2, r2, Int.toNat_natCast, k___gatepost_date_reader__day_1, Bool.not_false, u1, List.drop_zero, nt]
      exact tail _ e0 e1 e7
  · have hp : firstN (hitD long r.1) 7 = 7 := firstN_none hj
    have e : dayR long r = (0, (r.1, false)) := by unfold dayR; rw [hp, if_neg (by omega)]
    rw [e]
    have hn : ¬ (((7 : Nat) : Int) < 7) := by omega
    
    simp (maxSteps := 4000000) only [vm, vl, Arg.get, cells, stor, boundO, resultsV, resV, partK, loadV, Vm.part, fillC, splice, reduceIte, reduceCtorEq, Nat.reduceEqDiff, Nat.reduceAdd, Nat.reduceSub, Nat.reduceMul, Nat.reduceLeDiff, ne_eq, not_false_eq_true, Int.reduceEq, Int.reduceLT, Int.reduceLE, Int.reduceNeg, Int.reduceToNat, Int.reduceGT, Int.reduceGE, Nat.reduceLT, Nat.lt_add_one, Nat.zero_lt_succ, Nat.succ_pos, Nat.zero_le, beq_self_eq_true, k___gatepost_date_reader__day_0, k___gatepost_date_reader__day_2, k___gatepost_date_reader__day_3, k___gatepost_date_reader__day_1, e0, e1, e7, e8, hn, hb2]
    refine ⟨rfl, t2, ?_⟩
    rw [List.set_append_left _ _ hi]; rfl
end Go.Proofs.YtfkebmdfcpnaeaaDoor.Vh
