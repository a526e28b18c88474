/- Package date's reader on the small machine: day. -/
import Derived.Test.YtdgklgeddbfeaaaDoorVReader2
set_option linter.unusedVariables false
set_option linter.unusedSimpArgs false
namespace Go.Proofs.YtdgklgeddbfeaaaDoor.Vh
open Go.Vm Go.Vt
attribute [local congr] wi_congr wg_congr wgd_congr wb_congr wl_congr cf_congr
variable {L : FuncId → List V → V → Prop} {h : Heap}
/-- The first number below n of which p holds; n where there is none. -/
def firstN (p : Nat → Bool) : Nat → Nat
  | 0 => 0
  | n + 1 => if firstN p n < n then firstN p n else if p n then n else n + 1
theorem firstN_none {p : Nat → Bool} : ∀ {n : Nat}, (∀ j, j < n → p j = false) → firstN p n = n
  | 0, _ => rfl
  | n + 1, h => by
    have := firstN_none (n := n) fun j hj => h j (by omega)
    unfold firstN
    rw [this, if_neg (by omega), h n (by omega)]; rfl
theorem firstN_at {p : Nat → Bool} {i : Nat} (h1 : p i = true) (hj : ∀ j, j < i → p j = false) : ∀ {n : Nat}, i < n → firstN p n = i
  | n + 1, hi => by
    unfold firstN
    rcases Nat.lt_or_eq_of_le (Nat.le_of_lt_succ hi) with h | h
    · rw [firstN_at h1 hj h, if_pos h]
    · subst h
      rw [firstN_none hj, if_neg (by omega), h1]; rfl
def nmD (long : Bool) (w : Nat) : Bs := if long then dayLs.getD w [] else (dayLs.getD w []).take 3
def hitD (long : Bool) (s : Bs) (w : Nat) : Bool := decide (s.length > (nmD long w).length) && (s.take (nmD long w).length == nmD long w)
def dayR (long : Bool) (r : Rd) : Int × Rd := if firstN (hitD long r.1) 7 < 7 then ((firstN (hitD long r.1) 7 : Nat), (r.1.drop (nmD long (firstN (hitD long r.1) 7)).length, r.2)) else (0, (r.1, false))
theorem nmD_len (long : Bool) : ∀ w, w < 7 → (nmD long w).length ≤ 10 := by cases long <;> decide
theorem day_ok {id : Nat} {long : Bool} {r : Rd} (hb : h[id]? = some (bx r)) (hl : r.1.length < 9223372036854775807) : Cf F L i___gatepost_date_reader__day [.ptr id 0, .bool long] h (RdP h id (.int .i64 (dayR long r).1) (dayR long r).2) := by
  refine run___gatepost_date_reader__day ?_
  simp only [p___gatepost_date_reader__day]
  have hi := rd_len hb
  refine Cf.pu longDays_ok fun t => ?_
  have same : h.set id (bx r) = h := by
    apply List.ext_getElem?
    intro j
    by_cases hj : id = j
    · subst hj; rw [List.getElem?_set_self hi, hb]
    · rw [List.getElem?_set_ne hj]
  refine l___gatepost_date_reader__day_0 (fun n e h' => ∃ i, n = 7 - i ∧ i ≤ 7 ∧ e 0 = .ptr id 0 ∧ e 1 = .bool long ∧ e 7 = .agg (dayLs.map .str) ∧ e 8 = .int .i64 i ∧ (∃ t, h' = h ++ t) ∧ ∀ j, j < i → hitD long r.1 j = false) ?_ (n := 7) ⟨0, by simp, by simp, rfl, rfl, rfl, rfl, ⟨_, rfl⟩, by simp⟩
  rintro n e h' ⟨i, rfl, hil, e0, e1, e7, e8, ⟨t2, rfl⟩, hj⟩
  simp only [b___gatepost_date_reader__day_0]
  have hb2 : (h ++ t2)[id]? = some (O.box [.str r.1, .bool r.2]) := get_old hb
  have z2 : (dayLs.map V.str).length = 7 := rfl
  rcases Nat.lt_or_eq_of_le hil with hlt | rfl
  · have hl7 : (i : Int) < 7 := by omega
    have i0 : (0 : Int) ≤ i := by omega
    have i6 : i ≤ 6 := by omega
    have r2 : (dayLs.map V.str).getD i (.tup []) = .str (dayLs.getD i []) := aggstr_at hlt
    have w := wrap64 (x := (i : Int) + 1) (by omega) (by omega)
    have hn10 := nmD_len long i hlt
    obtain ⟨u1, _⟩ := day3 i hlt
    generalize hdv : dayLs.map V.str = dvs at *
    have tail : ∀ (e : Env), e 0 = .ptr id 0 → e 1 = .bool long → e 7 = .agg dvs → k___gatepost_date_reader__day_3 L (RdP h id (.int .i64 (dayR long r).1) (dayR long r).2) (fun e' h' => ∃ m, m < 7 - i ∧ ∃ i, m = 7 - i ∧ i ≤ 7 ∧ e' 0 = .ptr id 0 ∧ e' 1 = .bool long ∧ e' 7 = .agg dvs ∧ e' 8 = .int .i64 i ∧ (∃ t, h' = h ++ t) ∧ ∀ j, j < i → hitD long r.1 j = false) e (.ptr id 0) (.int .i64 i) (.str (nmD long i)) (.int .i64 i) (h ++ t2) := by
      intro e e0 e1 e7
      
      have no : hitD long r.1 i = false → ∃ m, m < 7 - i ∧ ∃ i, m = 7 - i ∧ i ≤ 7 ∧ True := fun _ => ⟨7 - (i + 1), by omega, i + 1, rfl, hlt, trivial⟩
      have nxt : hitD long r.1 i = false → ∀ j, j < i + 1 → hitD long r.1 j = false := by
        intro hx j hj'
        rcases Nat.lt_or_ge j i with h1 | h1
        · exact hj j h1
        · have : j = i := by omega
          subst this; exact hx
      have hit : hitD long r.1 i = (decide (r.1.length > (nmD long i).length) && (r.1.take (nmD long i).length == nmD long i)) := rfl
      have dR : hitD long r.1 i = true → dayR long r = ((i : Int), (r.1.drop (nmD long i).length, r.2)) := by
        intro hx
        unfold dayR
        rw [firstN_at hx hj hlt, if_pos hlt]
      generalize nmD long i = nm at *
      by_cases c1 : r.1.length > nm.length
      · have c1' : (r.1.length : Int) > nm.length := by omega
        have g1 : nm.length ≤ r.1.length := by omega
        have g0 : (0 : Int) ≤ nm.length := by omega
        have d1 : decide (r.1.length > nm.length) = true := by simpa using c1
        cases c2 : (r.1.take nm.length == nm) with
        | true =>
          have hx : hitD long r.1 i = true := by rw [hit, d1, c2]; rfl
          rw [dR hx]
          simp (maxSteps := 4000000) only [vm, vl, Arg.get, cells, stor, boundO, resultsV, resV, partK, loadV, Vm.part, fillC, splice, reduceIte, reduceCtorEq, Nat.reduceEqDiff, Nat.reduceAdd, Nat.reduceSub, Nat.reduceMul, Nat.reduceLeDiff, ne_eq, not_false_eq_true, Int.reduceEq, Int.reduceLT, Int.reduceLE, Int.reduceNeg, Int.reduceToNat, Int.reduceGT, Int.reduceGE, Nat.reduceLT, Nat.lt_add_one, Nat.zero_lt_succ, Nat.succ_pos, Nat.zero_le, beq_self_eq_true, k___gatepost_date_reader__day_0, k___gatepost_date_reader__day_2, k___gatepost_date_reader__day_3, k___gatepost_date_reader__day_1, hb2, c1', g1, g0, c2, decide_true, Int.toNat_natCast, List.drop_zero]
          have tk := take_ok (L := L) (h := h ++ t2) (n := nm.length) (r := r) (get_old hb) (by omega) hl
          have e : takeR nm.length r = (r.1.take nm.length, (r.1.drop nm.length, r.2)) := if_neg (by omega)
          rw [e] at tk
          refine tk.mono fun v h2 hp => ?_
          obtain ⟨_, t3, rfl⟩ := hp
          refine ⟨rfl, t2 ++ t3, ?_⟩
          rw [List.set_append_left _ _ hi, List.append_assoc]
        | false =>
          have hx : hitD long r.1 i = false := by rw [hit, d1, c2]; rfl
          simp (maxSteps := 4000000) only [vm, vl, Arg.get, cells, stor, boundO, resultsV, resV, partK, loadV, Vm.part, fillC, splice, reduceIte, reduceCtorEq, Nat.reduceEqDiff, Nat.reduceAdd, Nat.reduceSub, Nat.reduceMul, Nat.reduceLeDiff, ne_eq, not_false_eq_true, Int.reduceEq, Int.reduceLT, Int.reduceLE, Int.reduceNeg, Int.reduceToNat, Int.reduceGT, Int.reduceGE, Nat.reduceLT, Nat.lt_add_one, Nat.zero_lt_succ, Nat.succ_pos, Nat.zero_le, beq_self_eq_true, k___gatepost_date_reader__day_0, k___gatepost_date_reader__day_2, k___gatepost_date_reader__day_3, k___gatepost_date_reader__day_1, hb2, c1', g1, g0, c2, decide_true, Int.toNat_natCast, List.drop_zero, w, e0, e1, e7]
          exact ⟨7 - (i + 1), by omega, i + 1, rfl, hlt, rfl, ⟨t2, rfl⟩, nxt hx⟩
      · have c1' : ¬ (r.1.length : Int) > nm.length := by omega
        have d1 : decide (r.1.length > nm.length) = false := by simpa using c1
        have hx : hitD long r.1 i = false := by rw [hit, d1]; rfl
        simp (maxSteps := 4000000) only [vm, vl, Arg.get, cells, stor, boundO, resultsV, resV, partK, loadV, Vm.part, fillC, splice, reduceIte, reduceCtorEq, Nat.reduceEqDiff, Nat.reduceAdd, Nat.reduceSub, Nat.reduceMul, Nat.reduceLeDiff, ne_eq, not_false_eq_true, Int.reduceEq, Int.reduceLT, Int.reduceLE, Int.reduceNeg, Int.reduceToNat, Int.reduceGT, Int.reduceGE, Nat.reduceLT, Nat.lt_add_one, Nat.zero_lt_succ, Nat.succ_pos, Nat.zero_le, beq_self_eq_true, k___gatepost_date_reader__day_0, k___gatepost_date_reader__day_2, k___gatepost_date_reader__day_3, k___gatepost_date_reader__day_1, hb2, c1', decide_false, w, e0, e1, e7]
        exact ⟨7 - (i + 1), by omega, i + 1, rfl, hlt, rfl, ⟨t2, rfl⟩, nxt hx⟩
    
    cases long with
    | true =>
      have nt : nmD true i = dayLs.getD i [] := rfl
      rw [← nt] at r2
      simp (maxSteps := 4000000) only [vm, vl, Arg.get, cells, stor, boundO, resultsV, resV, partK, loadV, Vm.part, fillC, splice, reduceIte, reduceCtorEq, Nat.reduceEqDiff, Nat.reduceAdd, Nat.reduceSub, Nat.reduceMul, Nat.reduceLeDiff, ne_eq, not_false_eq_true, Int.reduceEq, Int.reduceLT, Int.reduceLE, Int.reduceNeg, Int.reduceToNat, Int.reduceGT, Int.reduceGE, Nat.reduceLT, Nat.lt_add_one, Nat.zero_lt_succ, Nat.succ_pos, Nat.zero_le, beq_self_eq_true, e0, e1, e7, e8, hl7, i0, i6, z2, r2, Int.toNat_natCast, k___gatepost_date_reader__day_1, Bool.not_true]
      exact tail _ e0 e1 e7
    | false =>
      have nt : List.take 3 (dayLs.getD i []) = nmD false i := rfl
      simp (maxSteps := 4000000) only [vm, vl, Arg.get, cells, stor, boundO, resultsV, resV, partK, loadV, Vm.part, fillC, splice, reduceIte, reduceCtorEq, Nat.reduceEqDiff, Nat.reduceAdd, Nat.reduceSub, Nat.reduceMul, Nat.reduceLeDiff, ne_eq, not_false_eq_true, Int.reduceEq, Int.reduceLT, Int.reduceLE, Int.reduceNeg, Int.reduceToNat, Int.reduceGT, Int.reduceGE, Nat.reduceLT, Nat.lt_add_one, Nat.zero_lt_succ, Nat.succ_pos, Nat.zero_le, beq_self_eq_true, e0, e1, e7, e8, hl7, i0, i6, z2, r2, Int.toNat_natCast, k___gatepost_date_reader__day_1, Bool.not_false, u1, List.drop_zero, nt]
      exact tail _ e0 e1 e7
  · have hp : firstN (hitD long r.1) 7 = 7 := firstN_none hj
    have e : dayR long r = (0, (r.1, false)) := by unfold dayR; rw [hp, if_neg (by omega)]
    rw [e]
    have hn : ¬ (((7 : Nat) : Int) < 7) := by omega
    
    simp (maxSteps := 4000000) only [vm, vl, Arg.get, cells, stor, boundO, resultsV, resV, partK, loadV, Vm.part, fillC, splice, reduceIte, reduceCtorEq, Nat.reduceEqDiff, Nat.reduceAdd, Nat.reduceSub, Nat.reduceMul, Nat.reduceLeDiff, ne_eq, not_false_eq_true, Int.reduceEq, Int.reduceLT, Int.reduceLE, Int.reduceNeg, Int.reduceToNat, Int.reduceGT, Int.reduceGE, Nat.reduceLT, Nat.lt_add_one, Nat.zero_lt_succ, Nat.succ_pos, Nat.zero_le, beq_self_eq_true, k___gatepost_date_reader__day_0, k___gatepost_date_reader__day_2, k___gatepost_date_reader__day_3, k___gatepost_date_reader__day_1, e0, e1, e7, e8, hn, hb2]
    refine ⟨rfl, t2, ?_⟩
    rw [List.set_append_left _ _ hi]; rfl
end Go.Proofs.YtdgklgeddbfeaaaDoor.Vh
