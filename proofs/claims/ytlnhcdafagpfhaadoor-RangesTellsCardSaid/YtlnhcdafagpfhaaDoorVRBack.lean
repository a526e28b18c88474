/- RangesBack on the small machine. -/
import Derived.Test.YtlnhcdafagpfhaaDoorVRange2
set_option linter.unusedVariables false
set_option linter.unusedSimpArgs false
namespace Go.Proofs.YtlnhcdafagpfhaaDoor.Vh
open Go.Vm Go.Vt
attribute [local congr] wi_congr wg_congr wgd_congr wb_congr wl_congr cf_congr
variable {L : FuncId → List V → V → Prop} {h : Heap}
theorem read_one : readS [98, 121, 116, 101, 115, 32, 48, 45, 52, 47, 53] = some (0, 5, 5) := by decide +kernel
theorem clip_in {f t long a b : Int} (h : resS f t long = some (a, b)) : a ≥ 0 ∧ a < b ∧ b ≤ long := by
  unfold resS at h
  split at h
  · rename_i q
    obtain ⟨q1, q2, q3, q4⟩ := q
    have hb := of_decide_eq_true q3
    injection h with h
    rw [h] at q4
    unfold clipS at h
    split at h
    · injection h with h1 h2; simp only at q4; omega
    · split at h
      · injection h with h1 h2; simp only at q4; omega
      · injection h with h1 h2; simp only at q4; omega
  · cases h
theorem back1_ok {long f t : Int} {id : Nat} {h : Heap} (hb : h[id]? = some (.box [.int .i64 f, .int .i64 t])) : k_gatepostlaw14_RangesBack_1 L (fun v _ => v = .bool true) (.int .i64 long) (.ptr id 0) h := by
  
  unfold k_gatepostlaw14_RangesBack_1
  have q0 : ∀ (a b c d : Int), eqV (.agg [.i, .i]) (.agg [.int .i64 a, .int .i64 b]) (.agg [.int .i64 c, .int .i64 d]) = some (decide (a = c) && decide (b = d)) := fun _ _ _ _ => eq_ints
  simp (maxSteps := 4000000) only [vm, vl, Arg.get, cells, stor, boundO, resultsV, resV, partK, loadV, Vm.part, fillC, splice, reduceIte, reduceCtorEq, Nat.reduceEqDiff, Nat.reduceAdd, Nat.reduceSub, Nat.reduceMul, Nat.reduceLeDiff, ne_eq, not_false_eq_true, Int.reduceEq, Int.reduceLT, Int.reduceLE, Int.reduceNeg, Int.reduceToNat, Int.reduceGT, Int.reduceGE, Nat.reduceLT, Nat.lt_add_one, Nat.zero_lt_succ, Nat.succ_pos, Nat.zero_le, beq_self_eq_true, hb]
  refine Cf.pu Resolve_ok fun u => ?_
  cases e : resS f t long with
  | none => simp (maxSteps := 4000000) only [vm, vl, Arg.get, cells, stor, boundO, resultsV, resV, partK, loadV, Vm.part, fillC, splice, reduceIte, reduceCtorEq, Nat.reduceEqDiff, Nat.reduceAdd, Nat.reduceSub, Nat.reduceMul, Nat.reduceLeDiff, ne_eq, not_false_eq_true, Int.reduceEq, Int.reduceLT, Int.reduceLE, Int.reduceNeg, Int.reduceToNat, Int.reduceGT, Int.reduceGE, Nat.reduceLT, Nat.lt_add_one, Nat.zero_lt_succ, Nat.succ_pos, Nat.zero_le, beq_self_eq_true, resV', q0, Bool.not_false, decide_true, Bool.and_self]
  | some p =>
    obtain ⟨a, b⟩ := p
    obtain ⟨c1, c2, c3⟩ := clip_in e
    simp (maxSteps := 4000000) only [vm, vl, Arg.get, cells, stor, boundO, resultsV, resV, partK, loadV, Vm.part, fillC, splice, reduceIte, reduceCtorEq, Nat.reduceEqDiff, Nat.reduceAdd, Nat.reduceSub, Nat.reduceMul, Nat.reduceLeDiff, ne_eq, not_false_eq_true, Int.reduceEq, Int.reduceLT, Int.reduceLE, Int.reduceNeg, Int.reduceToNat, Int.reduceGT, Int.reduceGE, Nat.reduceLT, Nat.lt_add_one, Nat.zero_lt_succ, Nat.succ_pos, Nat.zero_le, beq_self_eq_true, resV', q0, Bool.not_true, c1, c2, c3, decide_true]
theorem RangesBack_ok (HI : IndexOk L) (HT : ItoaOk L) {f t long a b : Int} : Cf F L i_gatepostlaw14_RangesBack [.agg [.int .i64 f, .int .i64 t], .int .i64 long, .agg [.int .i64 a, .int .i64 b]] h (fun v _ => v = .bool true) := by
  refine run_gatepostlaw14_RangesBack ?_
  simp only [p_gatepostlaw14_RangesBack]
  
  have q0 : ∀ (a b c d : Int), eqV (.agg [.i, .i]) (.agg [.int .i64 a, .int .i64 b]) (.agg [.int .i64 c, .int .i64 d]) = some (decide (a = c) && decide (b = d)) := fun _ _ _ _ => eq_ints
  have R1 : ∀ hh, Cf F L i_ranges_Read [.str [98, 121, 116, 101, 115, 32, 48, 45, 52, 47, 53]] hh (Pu hh (.tup [.agg [.int .i64 0, .int .i64 5], .int .i64 5, .bool true])) := fun hh => by
    have := Read_ok (L := L) (h := hh) HI (s := [98, 121, 116, 101, 115, 32, 48, 45, 52, 47, 53]) (by simp)
    rwa [read_one] at this
  have B1 := fun hh hb => back1_ok (L := L) (long := long) (f := a) (t := b) (id := h.length + 1) (h := hh) hb
  simp (maxSteps := 4000000) only [vm, vl, Arg.get, cells, stor, boundO, resultsV, resV, partK, loadV, Vm.part, fillC, splice, reduceIte, reduceCtorEq, Nat.reduceEqDiff, Nat.reduceAdd, Nat.reduceSub, Nat.reduceMul, Nat.reduceLeDiff, ne_eq, not_false_eq_true, Int.reduceEq, Int.reduceLT, Int.reduceLE, Int.reduceNeg, Int.reduceToNat, Int.reduceGT, Int.reduceGE, Nat.reduceLT, Nat.lt_add_one, Nat.zero_lt_succ, Nat.succ_pos, Nat.zero_le, beq_self_eq_true]
  refine Cf.pu (R1 _) fun u1 => ?_
  simp (maxSteps := 4000000) only [vm, vl, Arg.get, cells, stor, boundO, resultsV, resV, partK, loadV, Vm.part, fillC, splice, reduceIte, reduceCtorEq, Nat.reduceEqDiff, Nat.reduceAdd, Nat.reduceSub, Nat.reduceMul, Nat.reduceLeDiff, ne_eq, not_false_eq_true, Int.reduceEq, Int.reduceLT, Int.reduceLE, Int.reduceNeg, Int.reduceToNat, Int.reduceGT, Int.reduceGE, Nat.reduceLT, Nat.lt_add_one, Nat.zero_lt_succ, Nat.succ_pos, Nat.zero_le, beq_self_eq_true, Bool.not_true, k_gatepostlaw14_RangesBack_0]
  refine Cf.pu (Content_ok HT) fun u2 => ?_
  unfold contV
  cases hm : mayB f t long with
  | false =>
    rw [if_neg (by decide)]
    simp (maxSteps := 4000000) only [vm, vl, Arg.get, cells, stor, boundO, resultsV, resV, partK, loadV, Vm.part, fillC, splice, reduceIte, reduceCtorEq, Nat.reduceEqDiff, Nat.reduceAdd, Nat.reduceSub, Nat.reduceMul, Nat.reduceLeDiff, ne_eq, not_false_eq_true, Int.reduceEq, Int.reduceLT, Int.reduceLE, Int.reduceNeg, Int.reduceToNat, Int.reduceGT, Int.reduceGE, Nat.reduceLT, Nat.lt_add_one, Nat.zero_lt_succ, Nat.succ_pos, Nat.zero_le, beq_self_eq_true, decide_false]
    exact B1 _ (by simp (maxSteps := 4000000) only [vm, vl, Arg.get, cells, stor, boundO, resultsV, resV, partK, loadV, Vm.part, fillC, splice, reduceIte, reduceCtorEq, Nat.reduceEqDiff, Nat.reduceAdd, Nat.reduceSub, Nat.reduceMul, Nat.reduceLeDiff, ne_eq, not_false_eq_true, Int.reduceEq, Int.reduceLT, Int.reduceLE, Int.reduceNeg, Int.reduceToNat, Int.reduceGT, Int.reduceGE, Nat.reduceLT, Nat.lt_add_one, Nat.zero_lt_succ, Nat.succ_pos, Nat.zero_le, beq_self_eq_true])
  | true =>
    have hb := of_decide_eq_true hm
    rw [if_pos rfl]
    have rc := read_cont hm
    have lc : (contT f t long).length ≤ 1000 := by
      unfold contT
      have l3 : (if long ≠ -1 then Go.Lib.itoa long else [42]).length ≤ 7 := by
        split
        · exact itoa_len (by omega) (by omega)
        · simp
      have l4 : (if f < t then Go.Lib.itoa f ++ [45] ++ Go.Lib.itoa (t - 1) else [42]).length ≤ 15 := by
        split
        · have l1 := itoa_len (n := f) (by omega) (by omega)
          have l2 := itoa_len (n := t - 1) (by omega) (by omega)
          simp only [List.length_append, List.length_cons, List.length_nil]; omega
        · simp
      simp only [List.length_append, List.length_cons, List.length_nil] at *; omega
    generalize contT f t long = s at *
    have R2 := fun hh => Read_ok (L := L) (h := hh) HI (s := s) (by omega)
    rw [rc] at R2
    simp (maxSteps := 4000000) only [vm, vl, Arg.get, cells, stor, boundO, resultsV, resV, partK, loadV, Vm.part, fillC, splice, reduceIte, reduceCtorEq, Nat.reduceEqDiff, Nat.reduceAdd, Nat.reduceSub, Nat.reduceMul, Nat.reduceLeDiff, ne_eq, not_false_eq_true, Int.reduceEq, Int.reduceLT, Int.reduceLE, Int.reduceNeg, Int.reduceToNat, Int.reduceGT, Int.reduceGE, Nat.reduceLT, Nat.lt_add_one, Nat.zero_lt_succ, Nat.succ_pos, Nat.zero_le, beq_self_eq_true, decide_true]
    refine Cf.pu (R2 _) fun u3 => ?_
    by_cases c : f = t
    · rw [if_pos c]
      simp (maxSteps := 4000000) only [vm, vl, Arg.get, cells, stor, boundO, resultsV, resV, partK, loadV, Vm.part, fillC, splice, reduceIte, reduceCtorEq, Nat.reduceEqDiff, Nat.reduceAdd, Nat.reduceSub, Nat.reduceMul, Nat.reduceLeDiff, ne_eq, not_false_eq_true, Int.reduceEq, Int.reduceLT, Int.reduceLE, Int.reduceNeg, Int.reduceToNat, Int.reduceGT, Int.reduceGE, Nat.reduceLT, Nat.lt_add_one, Nat.zero_lt_succ, Nat.succ_pos, Nat.zero_le, beq_self_eq_true, readV, c, decide_true, k_gatepostlaw14_RangesBack_2, q0, Bool.and_self, Bool.not_true]
      exact B1 _ (by simp (maxSteps := 4000000) only [vm, vl, Arg.get, cells, stor, boundO, resultsV, resV, partK, loadV, Vm.part, fillC, splice, reduceIte, reduceCtorEq, Nat.reduceEqDiff, Nat.reduceAdd, Nat.reduceSub, Nat.reduceMul, Nat.reduceLeDiff, ne_eq, not_false_eq_true, Int.reduceEq, Int.reduceLT, Int.reduceLE, Int.reduceNeg, Int.reduceToNat, Int.reduceGT, Int.reduceGE, Nat.reduceLT, Nat.lt_add_one, Nat.zero_lt_succ, Nat.succ_pos, Nat.zero_le, beq_self_eq_true])
    · rw [if_neg c]
      simp (maxSteps := 4000000) only [vm, vl, Arg.get, cells, stor, boundO, resultsV, resV, partK, loadV, Vm.part, fillC, splice, reduceIte, reduceCtorEq, Nat.reduceEqDiff, Nat.reduceAdd, Nat.reduceSub, Nat.reduceMul, Nat.reduceLeDiff, ne_eq, not_false_eq_true, Int.reduceEq, Int.reduceLT, Int.reduceLE, Int.reduceNeg, Int.reduceToNat, Int.reduceGT, Int.reduceGE, Nat.reduceLT, Nat.lt_add_one, Nat.zero_lt_succ, Nat.succ_pos, Nat.zero_le, beq_self_eq_true, readV, c, decide_true, decide_false, k_gatepostlaw14_RangesBack_2, q0, Bool.and_self, Bool.not_true]
      exact B1 _ (by simp (maxSteps := 4000000) only [vm, vl, Arg.get, cells, stor, boundO, resultsV, resV, partK, loadV, Vm.part, fillC, splice, reduceIte, reduceCtorEq, Nat.reduceEqDiff, Nat.reduceAdd, Nat.reduceSub, Nat.reduceMul, Nat.reduceLeDiff, ne_eq, not_false_eq_true, Int.reduceEq, Int.reduceLT, Int.reduceLE, Int.reduceNeg, Int.reduceToNat, Int.reduceGT, Int.reduceGE, Nat.reduceLT, Nat.lt_add_one, Nat.zero_lt_succ, Nat.succ_pos, Nat.zero_le, beq_self_eq_true])
theorem vsks_two {k1 k2 : SK} {xs : List V} (h : VSKs [k1, k2] xs) : ∃ x y, xs = [x, y] ∧ VSK k1 x ∧ VSK k2 y := by
  match xs, h with
  | [x, y], ⟨a, b, _⟩ => exact ⟨x, y, rfl, a, b⟩
  | [], h => exact h.elim
  | [_], ⟨_, h⟩ => exact h.elim
  | _ :: _ :: _ :: _, ⟨_, _, h⟩ => exact h.elim
theorem ints_two {x : V} (v : VPar [.l (.i .i64), .l (.i .i64)] x) : ∃ a b : Int, x = .agg [.int .i64 a, .int .i64 b] ∧ (-9223372036854775808 ≤ a ∧ a ≤ 9223372036854775807) ∧ -9223372036854775808 ≤ b ∧ b ≤ 9223372036854775807 := by
  obtain ⟨xs, rfl, hx⟩ := v
  obtain ⟨x, y, rfl, h1, h2⟩ := vsks_two hx
  obtain ⟨a, rfl, ha⟩ := h1
  obtain ⟨b, rfl, hb⟩ := h2
  refine ⟨a, b, rfl, ?_, ?_⟩
  · unfold Lit.wf at ha
    rw [Bool.and_eq_true, decide_eq_true_eq, decide_eq_true_eq] at ha
    exact ha
  · unfold Lit.wf at hb
    rw [Bool.and_eq_true, decide_eq_true_eq, decide_eq_true_eq] at hb
    exact hb
/-- Itoa and Index. -/
def LR : FuncId → List V → V → Prop := fun f a v => LItoa f a v ∨ LIndex f a v
theorem lr_at {w0 : World} (ht : TabAt w0) : LibAt Tryd.prog w0 LR := fun f a v h => h.elim (itoa_at ht f a v) (index_at w0 f a v)
theorem RangesBack_row {x0 x1 x2 : V} (v0 : VPar [.l (.i .i64), .l (.i .i64)] x0) (v1 : VPar [.l (.i .i64)] x1) (v2 : VPar [.l (.i .i64), .l (.i .i64)] x2) (w : World) (ht : TabAt w) (vs : List Value) (hv : Rvs w.heap.size G0 w [x0, x1, x2] vs) :
    Calls Tryd.prog i_gatepostlaw14_RangesBack vs.toArray w fun e w' => e = .returned (.bool true) ∧ RowKit.Below w.heap.size w w' := by
  obtain ⟨f, t, rfl, _⟩ := ints_two v0
  obtain ⟨n, rfl, _⟩ := v1
  obtain ⟨a, b, rfl, _⟩ := ints_two v2
  exact calls_at hm hF (lr_at ht) (RangesBack_ok (indexOk fun _ _ _ h => .inr h) (itoaOk fun _ _ _ h => .inl h)) hv
end Go.Proofs.YtlnhcdafagpfhaaDoor.Vh
