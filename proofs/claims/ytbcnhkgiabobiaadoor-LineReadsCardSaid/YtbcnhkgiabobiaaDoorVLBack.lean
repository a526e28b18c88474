/- LineBack on the small machine. -/
import Derived.Test.YtbcnhkgiabobiaaDoorVLRead
import Derived.Test.YtbcnhkgiabobiaaDoorVStat
import Derived.Test.YtbcnhkgiabobiaaDoorVDigits
set_option linter.unusedVariables false
set_option linter.unusedSimpArgs false
namespace Go.Proofs.YtbcnhkgiabobiaaDoor.Vh
open Go.Vm Go.Vt
attribute [local congr] wi_congr wg_congr wgd_congr wb_congr wl_congr cf_congr
variable {L : FuncId → List V → V → Prop} {h : Heap}
theorem splitB_app : ∀ {a r : Bs}, (∀ x ∈ a, x ≠ 32) → splitB (a ++ ([32] ++ r)) = a :: splitB r
  | [], r, _ => by
    show splitB (32 :: r) = _
    rw [splitB, if_pos rfl]
  | c :: a, r, h => by
    have ih := splitB_app (a := a) (r := r) (fun x hx => h x (by simp [hx]))
    rw [List.cons_append, splitB, if_neg (h c (by simp)), ih]
theorem splitB_last : ∀ {a : Bs}, (∀ x ∈ a, x ≠ 32) → splitB a = [a]
  | [], _ => rfl
  | c :: a, h => by
    have ih := splitB_last (a := a) (fun x hx => h x (by simp [hx]))
    rw [splitB, if_neg (h c (by simp)), ih]
def joinB : List Bs → Bs
  | [] => []
  | [w] => w
  | w :: x :: r => w ++ ([32] ++ joinB (x :: r))
theorem join_split : ∀ s : Bs, joinB (splitB s) = s
  | [] => rfl
  | c :: r => by
    have ih := join_split r
    have ne := splitB_ne r
    rw [splitB]
    cases hs : splitB r with
    | nil => exact absurd hs ne
    | cons w ws =>
      rw [hs] at ih
      by_cases hc : c = 32
      · rw [if_pos hc]
        show [] ++ ([32] ++ joinB (w :: ws)) = _
        rw [ih, hc]; rfl
      · rw [if_neg hc]
        cases ws with
        | nil =>
          show c :: w = _
          have : w = r := ih
          rw [this]
        | cons x xs =>
          show (c :: w) ++ ([32] ++ joinB (x :: xs)) = _
          have : w ++ ([32] ++ joinB (x :: xs)) = r := ih
          rw [List.cons_append, this]
theorem tok_sp {a : Bs} (h : isTok a = true) : ∀ x ∈ a, x ≠ 32 := by
  intro x hx e
  unfold isTok at h
  rw [Bool.and_eq_true] at h
  have := List.all_eq_true.1 h.2 x hx
  rw [e] at this; revert this; decide
theorem tgt_sp {a : Bs} (h : tgtS a = true) : ∀ x ∈ a, x ≠ 32 := by
  intro x hx e
  unfold tgtS at h
  rw [Bool.and_eq_true] at h
  have := List.all_eq_true.1 h.2 x hx
  rw [e] at this; revert this; decide
theorem vers_of {n : Int} (h : n = 0 ∨ n = 1) : versS ([72, 84, 84, 80, 47, 49, 46] ++ [UInt8.ofNat (48 + n.toNat)]) = n := by
  rcases h with rfl | rfl <;> decide
theorem vers_sp {n : Int} (h : n = 0 ∨ n = 1) : ∀ x ∈ ([72, 84, 84, 80, 47, 49, 46] ++ [UInt8.ofNat (48 + n.toNat)] : Bs), x ≠ 32 := by
  rcases h with rfl | rfl <;> decide
theorem req_back {a b : Bs} {n : Int} (ha : isTok a = true) (hb : tgtS b = true) (hn : n = 0 ∨ n = 1) : reqW (splitB (a ++ [32] ++ b ++ [32] ++ [72, 84, 84, 80, 47, 49, 46] ++ [UInt8.ofNat (48 + n.toNat)])) = some (a, b, n) := by
  have e : a ++ [32] ++ b ++ [32] ++ [72, 84, 84, 80, 47, 49, 46] ++ [UInt8.ofNat (48 + n.toNat)] = a ++ ([32] ++ (b ++ ([32] ++ ([72, 84, 84, 80, 47, 49, 46] ++ [UInt8.ofNat (48 + n.toNat)])))) := by simp only [List.append_assoc]
  rw [e, splitB_app (tok_sp ha), splitB_app (tgt_sp hb), splitB_last (vers_sp hn)]
  show req3 a b _ = _
  unfold req3
  rw [vers_of hn, if_pos ⟨ha, hb, by omega⟩]
theorem vers_is {c : Bs} (h : 0 ≤ versS c) : (versS c = 0 ∨ versS c = 1) ∧ c = [72, 84, 84, 80, 47, 49, 46] ++ [UInt8.ofNat (48 + (versS c).toNat)] := by
  unfold versS at *
  split
  · rename_i e; exact ⟨.inl rfl, e⟩
  · rename_i e
    rw [if_neg e] at h
    split
    · rename_i e2; exact ⟨.inr rfl, e2⟩
    · rename_i e2; rw [if_neg e2] at h; omega
theorem line_back {s a b : Bs} {m : Int} (h : reqW (splitB s) = some (a, b, m)) : isTok a = true ∧ tgtS b = true ∧ (m = 0 ∨ m = 1) ∧ a ++ [32] ++ b ++ [32] ++ [72, 84, 84, 80, 47, 49, 46] ++ [UInt8.ofNat (48 + m.toNat)] = s := by
  have js := join_split s
  generalize splitB s = W at *
  match W, h with
  | [x, y, z], h =>
    change req3 x y z = _ at h
    unfold req3 at h
    split at h
    · rename_i q
      injection h with h
      injection h with h1 h
      injection h with h2 h3
      subst h1 h2 h3
      obtain ⟨v1, v2⟩ := vers_is q.2.2
      refine ⟨q.1, q.2.1, v1, ?_⟩
      rw [← js]
      show _ = x ++ ([32] ++ (y ++ ([32] ++ z)))
      rw [List.append_assoc _ [72, 84, 84, 80, 47, 49, 46], ← v2]
      simp only [List.append_assoc]
    · cases h
theorem three_dig : ∀ c, c < 600 → 100 ≤ c → (numS (three c) 1024) = (((c : Nat) : Int), true) ∧ ∀ x ∈ three c, x ≠ 32 := by
  have : ∀ c, c < 600 → (decide (c < 100) || (decide (numS (three c) 1024 = (((c : Nat) : Int), true)) && (three c).all (· != 32))) = true := by decide +kernel
  intro c h1 h2
  have := this c h1
  rw [decide_eq_false (by omega : ¬ c < 100), Bool.false_or, Bool.and_eq_true, decide_eq_true_eq] at this
  refine ⟨this.1, fun x hx => ?_⟩
  have := List.all_eq_true.1 this.2 x hx
  simpa using this
theorem st_back {m c : Int} {r : Bs} (hm : m = 0 ∨ m = 1) (h1 : 100 ≤ c) (h2 : c ≤ 599) (hr : rsnS r = true) : stP ([72, 84, 84, 80, 47, 49, 46] ++ [UInt8.ofNat (48 + m.toNat)] ++ [32] ++ three c.toNat ++ [32] ++ r) = some (m, c, r) := by
  obtain ⟨k, rfl⟩ : ∃ k : Nat, c = k := ⟨c.toNat, by omega⟩
  rw [Int.toNat_natCast]
  obtain ⟨d1, d2⟩ := three_dig k (by omega) (by omega)
  have l3 : (three k).length = 3 := rfl
  have pa : ∀ {a b : Bs}, (∀ x ∈ a, x ≠ 32) → pos 32 (a ++ ([32] ++ b)) = a.length := by
    intro a b ha
    unfold pos
    induction a with
    | nil => simp
    | cons x r ih =>
      rw [List.cons_append, List.takeWhile_cons, if_pos (by simpa using ha x (by simp)), List.length_cons, ih (fun y hy => ha y (by simp [hy]))]; rfl
  have e : [72, 84, 84, 80, 47, 49, 46] ++ [UInt8.ofNat (48 + m.toNat)] ++ [32] ++ three k ++ [32] ++ r = ([72, 84, 84, 80, 47, 49, 46] ++ [UInt8.ofNat (48 + m.toNat)]) ++ ([32] ++ (three k ++ ([32] ++ r))) := by simp only [List.append_assoc]
  have vo := vers_of hm
  have vs := vers_sp hm
  have ct : ∀ a b : Bs, (a ++ ([32] ++ b)).take a.length = a ∧ (a ++ ([32] ++ b)).drop (a.length + 1) = b := by
    intro a b
    refine ⟨List.take_left' rfl, ?_⟩
    rw [List.drop_append, show a.length + 1 - a.length = 1 by omega, show a.drop (a.length + 1) = [] from List.drop_eq_nil_of_le (by omega), List.nil_append]; rfl
  rw [e]
  generalize ([72, 84, 84, 80, 47, 49, 46] ++ [UInt8.ofNat (48 + m.toNat)] : Bs) = f at *
  unfold stP
  simp only [pa vs, (ct f _).1, (ct f _).2, pa d2, (ct (three k) _).1, (ct (three k) _).2]
  rw [d1, vo, if_pos ⟨by omega, rfl, l3, by simpa using h1, by simpa using h2, hr⟩]
theorem back_one : reqW (splitB [71, 69, 84, 32, 47, 32, 72, 84, 84, 80, 47, 49, 46, 48]) = some ([71, 69, 84], [47], 0) := by decide +kernel
theorem back2_ok (HI : IndexOk L) (HC : CountOk L) {hh : Heap} : k_gatepostlaw03_LineBack_2 L (fun v _ => v = .bool true) hh := by
  
  unfold k_gatepostlaw03_LineBack_2
  have R := fun hh => LRequest_ok (L := L) (h := hh) HI HC (s := [71, 69, 84, 32, 47, 32, 72, 84, 84, 80, 47, 49, 46, 48]) (by simp)
  unfold reqRV at R
  rw [if_neg (by simp), back_one] at R
  simp (maxSteps := 4000000) only [vm, vl, Arg.get, cells, stor, boundO, resultsV, resV, partK, loadV, Vm.part, fillC, splice, reduceIte, reduceCtorEq, Nat.reduceEqDiff, Nat.reduceAdd, Nat.reduceSub, Nat.reduceMul, Nat.reduceLeDiff, ne_eq, not_false_eq_true, Int.reduceEq, Int.reduceLT, Int.reduceLE, Int.reduceNeg, Int.reduceToNat, Int.reduceGT, Int.reduceGE, Nat.reduceLT, Nat.lt_add_one, Nat.zero_lt_succ, Nat.succ_pos, Nat.zero_le, beq_self_eq_true]
  refine Cf.pu (R _) fun u => ?_
  simp (maxSteps := 4000000) only [vm, vl, Arg.get, cells, stor, boundO, resultsV, resV, partK, loadV, Vm.part, fillC, splice, reduceIte, reduceCtorEq, Nat.reduceEqDiff, Nat.reduceAdd, Nat.reduceSub, Nat.reduceMul, Nat.reduceLeDiff, ne_eq, not_false_eq_true, Int.reduceEq, Int.reduceLT, Int.reduceLE, Int.reduceNeg, Int.reduceToNat, Int.reduceGT, Int.reduceGE, Nat.reduceLT, Nat.lt_add_one, Nat.zero_lt_succ, Nat.succ_pos, Nat.zero_le, beq_self_eq_true, reqO, eq_self, decide_true, beq_self_eq_true]
theorem back1_ok (HI : IndexOk L) (HC : CountOk L) (HT : ItoaOk L) {a : Bs} {hh : Heap} (ha : a.length ≤ 140737488351232) : k_gatepostlaw03_LineBack_1 L (fun v _ => v = .bool true) (.str a) hh := by
  
  unfold k_gatepostlaw03_LineBack_1
  have R := fun hh => LRequest_ok (L := L) (h := hh) HI HC (s := a) ha
  have B2 := fun hh => back2_ok (L := L) HI HC (hh := hh)
  unfold reqRV at R
  by_cases c : a.length > 1024
  · rw [if_pos c] at R
    simp (maxSteps := 4000000) only [vm, vl, Arg.get, cells, stor, boundO, resultsV, resV, partK, loadV, Vm.part, fillC, splice, reduceIte, reduceCtorEq, Nat.reduceEqDiff, Nat.reduceAdd, Nat.reduceSub, Nat.reduceMul, Nat.reduceLeDiff, ne_eq, not_false_eq_true, Int.reduceEq, Int.reduceLT, Int.reduceLE, Int.reduceNeg, Int.reduceToNat, Int.reduceGT, Int.reduceGE, Nat.reduceLT, Nat.lt_add_one, Nat.zero_lt_succ, Nat.succ_pos, Nat.zero_le, beq_self_eq_true]
    refine Cf.pu (R _) fun u => ?_
    simp (maxSteps := 4000000) only [vm, vl, Arg.get, cells, stor, boundO, resultsV, resV, partK, loadV, Vm.part, fillC, splice, reduceIte, reduceCtorEq, Nat.reduceEqDiff, Nat.reduceAdd, Nat.reduceSub, Nat.reduceMul, Nat.reduceLeDiff, ne_eq, not_false_eq_true, Int.reduceEq, Int.reduceLT, Int.reduceLE, Int.reduceNeg, Int.reduceToNat, Int.reduceGT, Int.reduceGE, Nat.reduceLT, Nat.lt_add_one, Nat.zero_lt_succ, Nat.succ_pos, Nat.zero_le, beq_self_eq_true, decide_false]
    exact B2 _
  rw [if_neg c] at R
  cases e : reqW (splitB a) with
  | none =>
    rw [e] at R
    simp (maxSteps := 4000000) only [vm, vl, Arg.get, cells, stor, boundO, resultsV, resV, partK, loadV, Vm.part, fillC, splice, reduceIte, reduceCtorEq, Nat.reduceEqDiff, Nat.reduceAdd, Nat.reduceSub, Nat.reduceMul, Nat.reduceLeDiff, ne_eq, not_false_eq_true, Int.reduceEq, Int.reduceLT, Int.reduceLE, Int.reduceNeg, Int.reduceToNat, Int.reduceGT, Int.reduceGE, Nat.reduceLT, Nat.lt_add_one, Nat.zero_lt_succ, Nat.succ_pos, Nat.zero_le, beq_self_eq_true]
    refine Cf.pu (R _) fun u => ?_
    simp (maxSteps := 4000000) only [vm, vl, Arg.get, cells, stor, boundO, resultsV, resV, partK, loadV, Vm.part, fillC, splice, reduceIte, reduceCtorEq, Nat.reduceEqDiff, Nat.reduceAdd, Nat.reduceSub, Nat.reduceMul, Nat.reduceLeDiff, ne_eq, not_false_eq_true, Int.reduceEq, Int.reduceLT, Int.reduceLE, Int.reduceNeg, Int.reduceToNat, Int.reduceGT, Int.reduceGE, Nat.reduceLT, Nat.lt_add_one, Nat.zero_lt_succ, Nat.succ_pos, Nat.zero_le, beq_self_eq_true, reqO, decide_false]
    exact B2 _
  | some p =>
    obtain ⟨x, y, m⟩ := p
    rw [e] at R
    obtain ⟨h1, h2, h3, h4⟩ := line_back e
    have lx : x.length ≤ a.length ∧ y.length ≤ a.length := by
      rw [← h4]
      simp only [List.length_append]
      omega
    have RL := fun hh => RequestLine_ok (L := L) (h := hh) HT (a := x) (b := y) (n := m) (by omega) (by omega)
    unfold reqV fitV at RL
    rw [if_pos ⟨h1, h2, h3⟩, h4, if_neg c] at RL
    simp (maxSteps := 4000000) only [vm, vl, Arg.get, cells, stor, boundO, resultsV, resV, partK, loadV, Vm.part, fillC, splice, reduceIte, reduceCtorEq, Nat.reduceEqDiff, Nat.reduceAdd, Nat.reduceSub, Nat.reduceMul, Nat.reduceLeDiff, ne_eq, not_false_eq_true, Int.reduceEq, Int.reduceLT, Int.reduceLE, Int.reduceNeg, Int.reduceToNat, Int.reduceGT, Int.reduceGE, Nat.reduceLT, Nat.lt_add_one, Nat.zero_lt_succ, Nat.succ_pos, Nat.zero_le, beq_self_eq_true]
    refine Cf.pu (R _) fun u => ?_
    simp (maxSteps := 4000000) only [vm, vl, Arg.get, cells, stor, boundO, resultsV, resV, partK, loadV, Vm.part, fillC, splice, reduceIte, reduceCtorEq, Nat.reduceEqDiff, Nat.reduceAdd, Nat.reduceSub, Nat.reduceMul, Nat.reduceLeDiff, ne_eq, not_false_eq_true, Int.reduceEq, Int.reduceLT, Int.reduceLE, Int.reduceNeg, Int.reduceToNat, Int.reduceGT, Int.reduceGE, Nat.reduceLT, Nat.lt_add_one, Nat.zero_lt_succ, Nat.succ_pos, Nat.zero_le, beq_self_eq_true, reqO, decide_true, eq_self]
    refine Cf.pu (RL _) fun u => ?_
    simp (maxSteps := 4000000) only [vm, vl, Arg.get, cells, stor, boundO, resultsV, resV, partK, loadV, Vm.part, fillC, splice, reduceIte, reduceCtorEq, Nat.reduceEqDiff, Nat.reduceAdd, Nat.reduceSub, Nat.reduceMul, Nat.reduceLeDiff, ne_eq, not_false_eq_true, Int.reduceEq, Int.reduceLT, Int.reduceLE, Int.reduceNeg, Int.reduceToNat, Int.reduceGT, Int.reduceGE, Nat.reduceLT, Nat.lt_add_one, Nat.zero_lt_succ, Nat.succ_pos, Nat.zero_le, beq_self_eq_true, decide_true, eq_self, beq_self_eq_true]
theorem back0_ok (HI : IndexOk L) (HC : CountOk L) (HT : ItoaOk L) {a b : Bs} {m c : Int} {id : Nat} {hh : Heap} (ha : a.length ≤ 140737488351232) (hb : b.length ≤ 140737488351232) (hp : hh[id]? = some (.box [.int .i64 m, .int .i64 c])) : k_gatepostlaw03_LineBack_0 L (fun v _ => v = .bool true) (.str a) (.str b) (.ptr id 0) hh := by
  
  unfold k_gatepostlaw03_LineBack_0
  have hi := (List.getElem?_eq_some_iff.1 hp).1
  have hp' : ∀ l : Heap, (hh ++ l)[id]? = some (.box [.int .i64 m, .int .i64 c]) := fun l => by rw [List.getElem?_append_left hi, hp]
  have B1 := fun hh => back1_ok (L := L) HI HC HT (a := a) (hh := hh) ha
  have SL := fun hh => StatusLine_ok (L := L) (h := hh) HT (m := m) (c := c) (r := b) hb
  unfold stV at SL
  by_cases q : (m = 0 ∨ m = 1) ∧ 100 ≤ c ∧ c ≤ 599 ∧ rsnS b = true
  case neg =>
    rw [if_neg q] at SL
    unfold errV at SL
    simp (maxSteps := 4000000) only [vm, vl, Arg.get, cells, stor, boundO, resultsV, resV, partK, loadV, Vm.part, fillC, splice, reduceIte, reduceCtorEq, Nat.reduceEqDiff, Nat.reduceAdd, Nat.reduceSub, Nat.reduceMul, Nat.reduceLeDiff, ne_eq, not_false_eq_true, Int.reduceEq, Int.reduceLT, Int.reduceLE, Int.reduceNeg, Int.reduceToNat, Int.reduceGT, Int.reduceGE, Nat.reduceLT, Nat.lt_add_one, Nat.zero_lt_succ, Nat.succ_pos, Nat.zero_le, beq_self_eq_true, hp, List.length_cons, List.length_nil, List.getD_cons_zero, List.getD_cons_succ]
    refine Cf.pu (SL _) fun u => ?_
    simp (maxSteps := 4000000) only [vm, vl, Arg.get, cells, stor, boundO, resultsV, resV, partK, loadV, Vm.part, fillC, splice, reduceIte, reduceCtorEq, Nat.reduceEqDiff, Nat.reduceAdd, Nat.reduceSub, Nat.reduceMul, Nat.reduceLeDiff, ne_eq, not_false_eq_true, Int.reduceEq, Int.reduceLT, Int.reduceLE, Int.reduceNeg, Int.reduceToNat, Int.reduceGT, Int.reduceGE, Nat.reduceLT, Nat.lt_add_one, Nat.zero_lt_succ, Nat.succ_pos, Nat.zero_le, beq_self_eq_true, decide_false]
    exact B1 _
  rw [if_pos q] at SL
  obtain ⟨q1, q2, q3, q4⟩ := q
  have sb := st_back q1 q2 q3 q4
  generalize ([72, 84, 84, 80, 47, 49, 46] ++ [UInt8.ofNat (48 + m.toNat)] ++ [32] ++ three c.toNat ++ [32] ++ b : Bs) = T at *
  unfold fitV at SL
  by_cases l : T.length > 1024
  · rw [if_pos l] at SL
    simp (maxSteps := 4000000) only [vm, vl, Arg.get, cells, stor, boundO, resultsV, resV, partK, loadV, Vm.part, fillC, splice, reduceIte, reduceCtorEq, Nat.reduceEqDiff, Nat.reduceAdd, Nat.reduceSub, Nat.reduceMul, Nat.reduceLeDiff, ne_eq, not_false_eq_true, Int.reduceEq, Int.reduceLT, Int.reduceLE, Int.reduceNeg, Int.reduceToNat, Int.reduceGT, Int.reduceGE, Nat.reduceLT, Nat.lt_add_one, Nat.zero_lt_succ, Nat.succ_pos, Nat.zero_le, beq_self_eq_true, hp, List.length_cons, List.length_nil, List.getD_cons_zero, List.getD_cons_succ]
    refine Cf.pu (SL _) fun u => ?_
    simp (maxSteps := 4000000) only [vm, vl, Arg.get, cells, stor, boundO, resultsV, resV, partK, loadV, Vm.part, fillC, splice, reduceIte, reduceCtorEq, Nat.reduceEqDiff, Nat.reduceAdd, Nat.reduceSub, Nat.reduceMul, Nat.reduceLeDiff, ne_eq, not_false_eq_true, Int.reduceEq, Int.reduceLT, Int.reduceLE, Int.reduceNeg, Int.reduceToNat, Int.reduceGT, Int.reduceGE, Nat.reduceLT, Nat.lt_add_one, Nat.zero_lt_succ, Nat.succ_pos, Nat.zero_le, beq_self_eq_true, decide_false]
    exact B1 _
  · rw [if_neg l] at SL
    have ST := fun hh => LStatus_ok (L := L) (h := hh) HI (s := T) (by omega)
    unfold stRV at ST
    rw [if_neg l, sb] at ST
    simp (maxSteps := 4000000) only [vm, vl, Arg.get, cells, stor, boundO, resultsV, resV, partK, loadV, Vm.part, fillC, splice, reduceIte, reduceCtorEq, Nat.reduceEqDiff, Nat.reduceAdd, Nat.reduceSub, Nat.reduceMul, Nat.reduceLeDiff, ne_eq, not_false_eq_true, Int.reduceEq, Int.reduceLT, Int.reduceLE, Int.reduceNeg, Int.reduceToNat, Int.reduceGT, Int.reduceGE, Nat.reduceLT, Nat.lt_add_one, Nat.zero_lt_succ, Nat.succ_pos, Nat.zero_le, beq_self_eq_true, hp, List.length_cons, List.length_nil, List.getD_cons_zero, List.getD_cons_succ]
    refine Cf.pu (SL _) fun u => ?_
    simp (maxSteps := 4000000) only [vm, vl, Arg.get, cells, stor, boundO, resultsV, resV, partK, loadV, Vm.part, fillC, splice, reduceIte, reduceCtorEq, Nat.reduceEqDiff, Nat.reduceAdd, Nat.reduceSub, Nat.reduceMul, Nat.reduceLeDiff, ne_eq, not_false_eq_true, Int.reduceEq, Int.reduceLT, Int.reduceLE, Int.reduceNeg, Int.reduceToNat, Int.reduceGT, Int.reduceGE, Nat.reduceLT, Nat.lt_add_one, Nat.zero_lt_succ, Nat.succ_pos, Nat.zero_le, beq_self_eq_true, decide_true, eq_self]
    refine Cf.pu (ST _) fun u2 => ?_
    simp (maxSteps := 4000000) only [vm, vl, Arg.get, cells, stor, boundO, resultsV, resV, partK, loadV, Vm.part, fillC, splice, reduceIte, reduceCtorEq, Nat.reduceEqDiff, Nat.reduceAdd, Nat.reduceSub, Nat.reduceMul, Nat.reduceLeDiff, ne_eq, not_false_eq_true, Int.reduceEq, Int.reduceLT, Int.reduceLE, Int.reduceNeg, Int.reduceToNat, Int.reduceGT, Int.reduceGE, Nat.reduceLT, Nat.lt_add_one, Nat.zero_lt_succ, Nat.succ_pos, Nat.zero_le, beq_self_eq_true, stO, hp', eq_self, decide_true, Bool.not_true, beq_self_eq_true, List.length_cons, List.length_nil, List.getD_cons_zero, List.getD_cons_succ]
    exact B1 _
theorem LineBack_ok (HI : IndexOk L) (HC : CountOk L) (HT : ItoaOk L) {a b : Bs} {m c : Int} (ha : a.length ≤ 140737488351232) (hb : b.length ≤ 140737488351232) : Cf F L i_gatepostlaw03_LineBack [.str a, .str b, .agg [.int .i64 m, .int .i64 c]] h (fun v _ => v = .bool true) := by
  refine run_gatepostlaw03_LineBack ?_
  simp only [p_gatepostlaw03_LineBack]
  
  have B0 := fun u => back0_ok (L := L) HI HC HT (a := a) (b := b) (m := m) (c := c) (id := h.length) (hh := h ++ (O.box [.int .i64 m, .int .i64 c] :: u)) ha hb (by simp)
  have RL := fun hh => RequestLine_ok (L := L) (h := hh) HT (a := a) (b := b) (n := m) ha hb
  unfold reqV at RL
  by_cases q : isTok a = true ∧ tgtS b = true ∧ (m = 0 ∨ m = 1)
  case neg =>
    rw [if_neg q] at RL
    unfold errV at RL
    simp (maxSteps := 4000000) only [vm, vl, Arg.get, cells, stor, boundO, resultsV, resV, partK, loadV, Vm.part, fillC, splice, reduceIte, reduceCtorEq, Nat.reduceEqDiff, Nat.reduceAdd, Nat.reduceSub, Nat.reduceMul, Nat.reduceLeDiff, ne_eq, not_false_eq_true, Int.reduceEq, Int.reduceLT, Int.reduceLE, Int.reduceNeg, Int.reduceToNat, Int.reduceGT, Int.reduceGE, Nat.reduceLT, Nat.lt_add_one, Nat.zero_lt_succ, Nat.succ_pos, Nat.zero_le, beq_self_eq_true, List.length_cons, List.length_nil, List.getD_cons_zero, List.getD_cons_succ]
    refine Cf.pu (RL _) fun u => ?_
    simp (maxSteps := 4000000) only [vm, vl, Arg.get, cells, stor, boundO, resultsV, resV, partK, loadV, Vm.part, fillC, splice, reduceIte, reduceCtorEq, Nat.reduceEqDiff, Nat.reduceAdd, Nat.reduceSub, Nat.reduceMul, Nat.reduceLeDiff, ne_eq, not_false_eq_true, Int.reduceEq, Int.reduceLT, Int.reduceLE, Int.reduceNeg, Int.reduceToNat, Int.reduceGT, Int.reduceGE, Nat.reduceLT, Nat.lt_add_one, Nat.zero_lt_succ, Nat.succ_pos, Nat.zero_le, beq_self_eq_true, decide_false]
    exact B0 _
  rw [if_pos q] at RL
  obtain ⟨q1, q2, q3⟩ := q
  have rb := req_back q1 q2 q3
  generalize (a ++ [32] ++ b ++ [32] ++ [72, 84, 84, 80, 47, 49, 46] ++ [UInt8.ofNat (48 + m.toNat)] : Bs) = T at *
  unfold fitV at RL
  by_cases l : T.length > 1024
  · rw [if_pos l] at RL
    simp (maxSteps := 4000000) only [vm, vl, Arg.get, cells, stor, boundO, resultsV, resV, partK, loadV, Vm.part, fillC, splice, reduceIte, reduceCtorEq, Nat.reduceEqDiff, Nat.reduceAdd, Nat.reduceSub, Nat.reduceMul, Nat.reduceLeDiff, ne_eq, not_false_eq_true, Int.reduceEq, Int.reduceLT, Int.reduceLE, Int.reduceNeg, Int.reduceToNat, Int.reduceGT, Int.reduceGE, Nat.reduceLT, Nat.lt_add_one, Nat.zero_lt_succ, Nat.succ_pos, Nat.zero_le, beq_self_eq_true, List.length_cons, List.length_nil, List.getD_cons_zero, List.getD_cons_succ]
    refine Cf.pu (RL _) fun u => ?_
    simp (maxSteps := 4000000) only [vm, vl, Arg.get, cells, stor, boundO, resultsV, resV, partK, loadV, Vm.part, fillC, splice, reduceIte, reduceCtorEq, Nat.reduceEqDiff, Nat.reduceAdd, Nat.reduceSub, Nat.reduceMul, Nat.reduceLeDiff, ne_eq, not_false_eq_true, Int.reduceEq, Int.reduceLT, Int.reduceLE, Int.reduceNeg, Int.reduceToNat, Int.reduceGT, Int.reduceGE, Nat.reduceLT, Nat.lt_add_one, Nat.zero_lt_succ, Nat.succ_pos, Nat.zero_le, beq_self_eq_true, decide_false]
    exact B0 _
  · rw [if_neg l] at RL
    have RQ := fun hh => LRequest_ok (L := L) (h := hh) HI HC (s := T) (by omega)
    unfold reqRV at RQ
    rw [if_neg l, rb] at RQ
    simp (maxSteps := 4000000) only [vm, vl, Arg.get, cells, stor, boundO, resultsV, resV, partK, loadV, Vm.part, fillC, splice, reduceIte, reduceCtorEq, Nat.reduceEqDiff, Nat.reduceAdd, Nat.reduceSub, Nat.reduceMul, Nat.reduceLeDiff, ne_eq, not_false_eq_true, Int.reduceEq, Int.reduceLT, Int.reduceLE, Int.reduceNeg, Int.reduceToNat, Int.reduceGT, Int.reduceGE, Nat.reduceLT, Nat.lt_add_one, Nat.zero_lt_succ, Nat.succ_pos, Nat.zero_le, beq_self_eq_true, List.length_cons, List.length_nil, List.getD_cons_zero, List.getD_cons_succ]
    refine Cf.pu (RL _) fun u => ?_
    simp (maxSteps := 4000000) only [vm, vl, Arg.get, cells, stor, boundO, resultsV, resV, partK, loadV, Vm.part, fillC, splice, reduceIte, reduceCtorEq, Nat.reduceEqDiff, Nat.reduceAdd, Nat.reduceSub, Nat.reduceMul, Nat.reduceLeDiff, ne_eq, not_false_eq_true, Int.reduceEq, Int.reduceLT, Int.reduceLE, Int.reduceNeg, Int.reduceToNat, Int.reduceGT, Int.reduceGE, Nat.reduceLT, Nat.lt_add_one, Nat.zero_lt_succ, Nat.succ_pos, Nat.zero_le, beq_self_eq_true, decide_true, eq_self]
    refine Cf.pu (RQ _) fun u2 => ?_
    simp (maxSteps := 4000000) only [vm, vl, Arg.get, cells, stor, boundO, resultsV, resV, partK, loadV, Vm.part, fillC, splice, reduceIte, reduceCtorEq, Nat.reduceEqDiff, Nat.reduceAdd, Nat.reduceSub, Nat.reduceMul, Nat.reduceLeDiff, ne_eq, not_false_eq_true, Int.reduceEq, Int.reduceLT, Int.reduceLE, Int.reduceNeg, Int.reduceToNat, Int.reduceGT, Int.reduceGE, Nat.reduceLT, Nat.lt_add_one, Nat.zero_lt_succ, Nat.succ_pos, Nat.zero_le, beq_self_eq_true, reqO, eq_self, decide_true, Bool.not_true, beq_self_eq_true, List.length_cons, List.length_nil, List.getD_cons_zero, List.getD_cons_succ]
    exact B0 _
/-- Itoa, Index, Count. -/
def LB : FuncId → List V → V → Prop := fun f a v => LItoa f a v ∨ LIndex f a v ∨ LCount f a v
theorem lb_at {w0 : World} (ht : TabAt w0) : LibAt Tryd.prog w0 LB := fun f a v h => h.elim (itoa_at ht f a v) fun h => h.elim (index_at w0 f a v) (count_at w0 f a v)
theorem LineBack_row {x0 x1 x2 : V} (v0 : VPar [.l .s] x0) (v1 : VPar [.l .s] x1) (v2 : VPar [.l (.i .i64), .l (.i .i64)] x2) (w : World) (ht : TabAt w) (vs : List Value) (hv : Rvs w.heap.size G0 w [x0, x1, x2] vs) :
    Calls Tryd.prog i_gatepostlaw03_LineBack vs.toArray w fun e w' => e = .returned (.bool true) ∧ RowKit.Below w.heap.size w w' := by
  obtain ⟨a, rfl, ha⟩ := v0
  obtain ⟨b, rfl, hb⟩ := v1
  obtain ⟨xs, rfl, hx⟩ := v2
  obtain ⟨x, y, rfl, h1, h2⟩ := vsks_two hx
  obtain ⟨m, rfl, _⟩ := h1
  obtain ⟨c, rfl, _⟩ := h2
  exact calls_at hm hF (lb_at ht) (LineBack_ok (indexOk fun _ _ _ h => .inr (.inl h)) (countOk fun _ _ _ h => .inr (.inr h)) (itoaOk fun _ _ _ h => .inl h) ha hb) hv
end Go.Proofs.YtbcnhkgiabobiaaDoor.Vh
