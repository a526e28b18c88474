/- strings.Cut at one byte. -/
import Derived.Lib.Bytealg
import Derived.Test.YtnfcjeajbjcppaaDoorPk2
import Derived.Test.YtnfcjeajbjcppaaDoorPk5
import Derived.Test.YtnfcjeajbjcppaaDoorPk6
section
set_option linter.unusedVariables false
set_option linter.unusedSimpArgs false
namespace Go.Proofs.YtnfcjeajbjcppaaDoor.Vh
open Go.Vm Go.Vt
attribute [local congr] wi_congr wg_congr wgd_congr wb_congr wl_congr cf_congr
variable {L : FuncId → List V → V → Prop} {h : Heap}
/-- A byte's first place; the length where it is not. -/
def pos (c : UInt8) (s : Bs) : Nat := (s.takeWhile (· != c)).length
theorem pos_le (c : UInt8) (s : Bs) : pos c s ≤ s.length := by
  unfold pos; exact (List.takeWhile_sublist _).length_le
theorem pos_cons (c x : UInt8) (r : Bs) : pos c (x :: r) = if x = c then 0 else pos c r + 1 := by
  unfold pos
  rw [List.takeWhile_cons]
  by_cases h : x = c <;> simp [h]
theorem pos_at {c : UInt8} : ∀ {s : Bs} {i : Nat}, i < s.length → (∀ j, j < i → s.getD j 0 ≠ c) → s.getD i 0 = c → pos c s = i
  | x :: r, 0, _, _, h => by rw [pos_cons, if_pos (by simpa using h)]
  | x :: r, i + 1, hi, hj, h => by
    rw [pos_cons, if_neg (by simpa using hj 0 (by omega)), pos_at (by simpa using hi) (fun j hlt => by simpa using hj (j + 1) (by omega)) (by simpa using h)]
  | [], _, hi, _, _ => by simp at hi
theorem pos_none {c : UInt8} : ∀ {s : Bs}, (∀ j, j < s.length → s.getD j 0 ≠ c) → pos c s = s.length
  | [], _ => rfl
  | x :: r, hj => by
    rw [pos_cons, if_neg (by simpa using hj 0 (by simp)), pos_none fun j hlt => by simpa using hj (j + 1) (by simpa using hlt)]; rfl
theorem indexByte_pos (c : UInt8) (s : Bs) : Go.Lib.indexByte s c = if pos c s < s.length then (pos c s : Int) else -1 := by
  induction s with
  | nil => rfl
  | cons x r ih =>
    rw [Go.Lib.indexByte, ih, pos_cons]
    have hl := pos_le c r
    by_cases h : x = c
    · subst h; simp
    · have hb : (x == c) = false := by simpa using h
      have hb' : ¬ ((x == c) = true) := by rw [hb]; simp
      rw [if_neg hb', if_neg h]
      have e1 : (pos c r + 1 < (x :: r).length) = (pos c r < r.length) := by rw [List.length_cons]; exact propext ⟨fun h => by omega, fun h => by omega⟩
      simp only [e1]
      by_cases h2 : pos c r < r.length
      · have h3 : ¬ (((pos c r : Int) == -1) = true) := by rw [beq_iff_eq]; omega
        simp only [if_pos h2, if_neg h3]; omega
      · simp only [if_neg h2]; rfl
def cutS (c : UInt8) (s : Bs) : V := .tup [.str (s.take (pos c s)), .str (s.drop (pos c s + 1)), .bool (decide (pos c s < s.length))]
def IndexOk (L : FuncId → List V → V → Prop) : Prop := ∀ {s : Bs} {c : UInt8} {h : Heap}, Cf F L i_internal_stringslite_Index [.str s, .str [c]] h (Pu h (.int .i64 (Go.Lib.indexByte s c)))
theorem Cut1_ok {s : Bs} {c : UInt8} (HI : IndexOk L) (hs : s.length < 9223372036854775807) : Cf F L i_internal_stringslite_Cut [.str s, .str [c]] h (Pu h (cutS c s)) := by
  refine run_internal_stringslite_Cut ?_
  simp only [p_internal_stringslite_Cut]
  simp (maxSteps := 4000000) only [vm, vl, Arg.get, cells, stor, boundO, resultsV, resV, partK, loadV, Vm.part, fillC, splice, reduceIte, reduceCtorEq, Nat.reduceEqDiff, Nat.reduceAdd, Nat.reduceSub, Nat.reduceMul, Nat.reduceLeDiff, ne_eq, not_false_eq_true, Int.reduceEq, Int.reduceLT, Int.reduceLE, Int.reduceNeg, Int.reduceToNat, Int.reduceGT, Int.reduceGE, Nat.reduceLT, Nat.lt_add_one, Nat.zero_lt_succ, Nat.succ_pos, Nat.zero_le, beq_self_eq_true, k_internal_stringslite_Cut_0]
  refine Cf.pu HI fun t => ?_
  rw [indexByte_pos]
  have hl := pos_le c s
  by_cases hp : pos c s < s.length
  · rw [if_pos hp]
    have g1 : (pos c s : Int) ≥ 0 := by omega
    have w : IntKind.i64.wrap ((pos c s : Int) + 1) = ((pos c s + 1 : Nat) : Int) := by rw [wrap64 (by omega) (by omega)]; omega
    have g2 : pos c s ≤ s.length := hl
    have g3 : pos c s + 1 ≤ s.length := hp
    have g4 : List.take s.length s = s := List.take_of_length_le (Nat.le_refl _)
    have g5 : decide (pos c s < s.length) = true := by simpa using hp
    unfold cutS
    rw [g5]
    generalize pos c s = k at *
    have z : (0 : Int) ≤ k := by omega
    simp only [List.length_cons, List.length_nil, Nat.zero_add] at *
    simp (maxSteps := 4000000) only [vm, vl, Arg.get, cells, stor, boundO, resultsV, resV, partK, loadV, Vm.part, fillC, splice, reduceIte, reduceCtorEq, Nat.reduceEqDiff, Nat.reduceAdd, Nat.reduceSub, Nat.reduceMul, Nat.reduceLeDiff, ne_eq, not_false_eq_true, Int.reduceEq, Int.reduceLT, Int.reduceLE, Int.reduceNeg, Int.reduceToNat, Int.reduceGT, Int.reduceGE, Nat.reduceLT, Nat.lt_add_one, Nat.zero_lt_succ, Nat.succ_pos, Nat.zero_le, beq_self_eq_true, k_internal_stringslite_Cut_0, g1, w, g2, g3, g4, z, Int.toNat_natCast]
  · rw [if_neg hp]
    have e : pos c s = s.length := by omega
    have g5 : decide (pos c s < s.length) = false := by simpa using hp
    unfold cutS
    rw [g5, e, List.take_of_length_le (Nat.le_refl _), List.drop_eq_nil_of_le (by omega)]
    simp (maxSteps := 4000000) only [vm, vl, Arg.get, cells, stor, boundO, resultsV, resV, partK, loadV, Vm.part, fillC, splice, reduceIte, reduceCtorEq, Nat.reduceEqDiff, Nat.reduceAdd, Nat.reduceSub, Nat.reduceMul, Nat.reduceLeDiff, ne_eq, not_false_eq_true, Int.reduceEq, Int.reduceLT, Int.reduceLE, Int.reduceNeg, Int.reduceToNat, Int.reduceGT, Int.reduceGE, Nat.reduceLT, Nat.lt_add_one, Nat.zero_lt_succ, Nat.succ_pos, Nat.zero_le, beq_self_eq_true, k_internal_stringslite_Cut_0]
theorem Cut_ok {s : Bs} {c : UInt8} (HI : IndexOk L) (hs : s.length < 9223372036854775807) : Cf F L i_strings_Cut [.str s, .str [c]] h (Pu h (cutS c s)) := by
  refine run_strings_Cut ?_
  simp only [p_strings_Cut]
  simp (maxSteps := 4000000) only [vm, vl, Arg.get, cells, stor, boundO, resultsV, resV, partK, loadV, Vm.part, fillC, splice, reduceIte, reduceCtorEq, Nat.reduceEqDiff, Nat.reduceAdd, Nat.reduceSub, Nat.reduceMul, Nat.reduceLeDiff, ne_eq, not_false_eq_true, Int.reduceEq, Int.reduceLT, Int.reduceLE, Int.reduceNeg, Int.reduceToNat, Int.reduceGT, Int.reduceGE, Nat.reduceLT, Nat.lt_add_one, Nat.zero_lt_succ, Nat.succ_pos, Nat.zero_le, beq_self_eq_true]
  refine Cf.pu (Cut1_ok HI hs) fun t => ?_
  unfold cutS
  simp (maxSteps := 4000000) only [vm, vl, Arg.get, cells, stor, boundO, resultsV, resV, partK, loadV, Vm.part, fillC, splice, reduceIte, reduceCtorEq, Nat.reduceEqDiff, Nat.reduceAdd, Nat.reduceSub, Nat.reduceMul, Nat.reduceLeDiff, ne_eq, not_false_eq_true, Int.reduceEq, Int.reduceLT, Int.reduceLE, Int.reduceNeg, Int.reduceToNat, Int.reduceGT, Int.reduceGE, Nat.reduceLT, Nat.lt_add_one, Nat.zero_lt_succ, Nat.succ_pos, Nat.zero_le, beq_self_eq_true]
def LIndex : FuncId → List V → V → Prop := fun f args v => f = i_internal_stringslite_Index ∧ ∃ (s : Bs) (c : UInt8), args = [.str s, .str [c]] ∧ v = .int .i64 (Go.Lib.indexByte s c)
theorem index_at (w0 : World) : LibAt Tryd.prog w0 LIndex := by
  rintro f args v ⟨rfl, s, c, rfl, rfl⟩
  refine ⟨by kernel_rfl, good_below fun B G h w vs hr hb hv => ?_⟩
  obtain ⟨a, b, rfl, ha, hs⟩ := rvs_two hv
  cases hs; cases ha
  refine (Tryd.stringslite_Index_one ⟨s.toArray⟩ c w).mono fun e w' ⟨h1, h2⟩ => ?_
  subst h2
  exact ⟨_, h1, .int .i64 _, Go.RowKit.Below.refl ..⟩
theorem indexOk {L : FuncId → List V → V → Prop} (hL : ∀ f a v, LIndex f a v → L f a v) : IndexOk L :=
  wlib (hL _ _ _ ⟨rfl, _, _, rfl, rfl⟩) ⟨rfl, [], by simp⟩
end Go.Proofs.YtnfcjeajbjcppaaDoor.Vh
end
