/- LineWords on the small machine. -/
import Derived.Test.YtbcnhkgiabobiaaDoorVLRead
import Derived.Test.YtbcnhkgiabobiaaDoorVmOpen
set_option linter.unusedVariables false
set_option linter.unusedSimpArgs false
namespace Go.Proofs.YtbcnhkgiabobiaaDoor.Vh
open Go.Vm Go.Vt
attribute [local congr] wi_congr wg_congr wgd_congr wb_congr wl_congr cf_congr
variable {L : FuncId → List V → V → Prop} {h : Heap}
def gS : Nat → Bs
  | 0 => [71, 69, 84]
  | k + 1 => gS k ++ [32, 47]
theorem gS_len : ∀ k, (gS k).length = 3 + 2 * k
  | 0 => rfl
  | k + 1 => by rw [gS, List.length_append, gS_len k]; simp; omega
theorem words_n : ∀ n, n < 8 → reqW (splitB (gS (n - 2) ++ [32, 72, 84, 84, 80, 47, 49, 46, 49])) = if n = 3 then some ([71, 69, 84], [47], 1) else none := by decide +kernel
def thr (c : Nat) : Bs := [UInt8.ofNat (48 + c / 100), UInt8.ofNat (48 + c / 10 % 10), UInt8.ofNat (48 + c % 10)]
theorem stat_n : ∀ k, k < 500 → stP ([72, 84, 84, 80, 47, 49, 46, 48, 32] ++ thr (100 + k)) = some (0, ((100 + k : Nat) : Int), []) ∧ stP ([72, 84, 84, 80, 47, 49, 46, 48, 32] ++ thr (100 + k) ++ [32, 97, 32, 98, 32, 99]) = some (0, ((100 + k : Nat) : Int), [97, 32, 98, 32, 99]) := by decide +kernel
theorem dig_by : ∀ x, x < 10 → IntKind.u8.wrap (48 + ((x : Nat) : Int)) = ((UInt8.ofNat (48 + x)).toNat : Int) := by decide +kernel
theorem toStr_three {a b c : UInt8} {h : Heap} : stepI (.toStr (.c (.sl 1 .full [byV a, byV b, byV c]))) E0 h = some (.str [a, b, c], h) := by
  simp [stepI, Arg.get, srcElems, toBytesL, toByte]
theorem words1_ok (HI : IndexOk L) {k : Nat} {hh : Heap} (hk : k < 500) : k_gatepostlaw03_LineWords_1 L (fun v _ => v = .bool true) (.int .i64 ((100 + k : Nat) : Int)) hh := by
  
  unfold k_gatepostlaw03_LineWords_1
  obtain ⟨s1, s2⟩ := stat_n k hk
  obtain ⟨A, hA⟩ : ∃ A : Bs, A = [72, 84, 84, 80, 47, 49, 46, 48, 32] ++ thr (100 + k) := ⟨_, rfl⟩
  obtain ⟨B, hB⟩ : ∃ B : Bs, B = A ++ [32, 97, 32, 98, 32, 99] := ⟨_, rfl⟩
  rw [← hA] at s1 s2
  rw [← hB] at s2
  have lA : A.length = 12 := by rw [hA]; rfl
  have lB : B.length = 18 := by rw [hB, List.length_append, lA]; rfl
  have S1 := fun hh => LStatus_ok (L := L) (h := hh) HI (s := A) (by omega)
  have S2 := fun hh => LStatus_ok (L := L) (h := hh) HI (s := B) (by omega)
  unfold stRV at S1 S2
  rw [if_neg (by omega), s1] at S1
  rw [if_neg (by omega), s2] at S2
  have bA : binV .add (.str [72, 84, 84, 80, 47, 49, 46, 48, 32]) (.str (thr (100 + k))) = some (.str A) := by rw [hA]; exact bin_sadd (by show 9 + 3 ≤ _; omega)
  have bB : binV .add (.str A) (.str [32, 97, 32, 98, 32, 99]) = some (.str B) := by rw [hB]; exact bin_sadd (by rw [lA]; show 12 + 6 ≤ _; omega)
  unfold thr at bA
  generalize hc : 100 + k = c at *
  have q1 : IntKind.i64.wrap ((c : Int).tdiv 100) = ((c / 100 : Nat) : Int) := by rw [wquo (by omega) (by omega) (by omega)]; omega
  have q2 : IntKind.i64.wrap ((c : Int).tdiv 10) = ((c / 10 : Nat) : Int) := by rw [wquo (by omega) (by omega) (by omega)]; omega
  have q3 : ((c / 10 : Nat) : Int).tmod 10 = ((c / 10 % 10 : Nat) : Int) := by rw [Int.tmod_eq_emod_of_nonneg (by omega)]; omega
  have q4 : (c : Int).tmod 10 = ((c % 10 : Nat) : Int) := by rw [Int.tmod_eq_emod_of_nonneg (by omega)]; omega
  have br : ∀ x : Int, binV .rem (.int .i64 x) (.int .i64 10) = some (.int .i64 (x.tmod 10)) := fun x => by simp [binV, binI]
  have d1 := dig_by (c / 100) (by omega)
  have d2 := dig_by (c / 10 % 10) (by omega)
  have d3 := dig_by (c % 10) (by omega)
  have w1 : IntKind.i64.wrap (48 + ((c / 100 : Nat) : Int)) = 48 + ((c / 100 : Nat) : Int) := wrap64 (by omega) (by omega)
  have w2 : IntKind.i64.wrap (48 + ((c / 10 % 10 : Nat) : Int)) = 48 + ((c / 10 % 10 : Nat) : Int) := wrap64 (by omega) (by omega)
  have w3 : IntKind.i64.wrap (48 + ((c % 10 : Nat) : Int)) = 48 + ((c % 10 : Nat) : Int) := wrap64 (by omega) (by omega)
  generalize c / 10 % 10 = c2 at *
  generalize c % 10 = c3 at *
  generalize c / 100 = c1 at *
  generalize UInt8.ofNat (48 + c1) = x1 at *
  generalize UInt8.ofNat (48 + c2) = x2 at *
  generalize UInt8.ofNat (48 + c3) = x3 at *
  have ts : ∀ h : Heap, stepI (.toStr (.c (.sl 1 .full [.int .u8 (x1.toNat : Int), .int .u8 (x2.toNat : Int), .int .u8 (x3.toNat : Int)]))) E0 h = some (.str [x1, x2, x3], h) := fun h => toStr_three
  simp (maxSteps := 4000000) only [vm, vl, Arg.get, cells, stor, boundO, resultsV, resV, partK, loadV, Vm.part, fillC, splice, reduceIte, reduceCtorEq, Nat.reduceEqDiff, Nat.reduceAdd, Nat.reduceSub, Nat.reduceMul, Nat.reduceLeDiff, ne_eq, not_false_eq_true, Int.reduceEq, Int.reduceLT, Int.reduceLE, Int.reduceNeg, Int.reduceToNat, Int.reduceGT, Int.reduceGE, Nat.reduceLT, Nat.lt_add_one, Nat.zero_lt_succ, Nat.succ_pos, Nat.zero_le, beq_self_eq_true, bin_quo', br, q1, q2, q3, q4, w1, w2, w3, d1, d2, d3, List.all_cons, List.all_nil, List.map_cons, List.map_nil, Bool.and_true, Bool.and_self, List.length_cons, List.length_nil, decide_true, ts, wi_toStr, bA]
  refine Cf.pu (S1 _) fun u1 => ?_
  simp (maxSteps := 4000000) only [vm, vl, Arg.get, cells, stor, boundO, resultsV, resV, partK, loadV, Vm.part, fillC, splice, reduceIte, reduceCtorEq, Nat.reduceEqDiff, Nat.reduceAdd, Nat.reduceSub, Nat.reduceMul, Nat.reduceLeDiff, ne_eq, not_false_eq_true, Int.reduceEq, Int.reduceLT, Int.reduceLE, Int.reduceNeg, Int.reduceToNat, Int.reduceGT, Int.reduceGE, Nat.reduceLT, Nat.lt_add_one, Nat.zero_lt_succ, Nat.succ_pos, Nat.zero_le, beq_self_eq_true, stO, bB]
  refine Cf.pu (S2 _) fun u2 => ?_
  simp (maxSteps := 4000000) only [vm, vl, Arg.get, cells, stor, boundO, resultsV, resV, partK, loadV, Vm.part, fillC, splice, reduceIte, reduceCtorEq, Nat.reduceEqDiff, Nat.reduceAdd, Nat.reduceSub, Nat.reduceMul, Nat.reduceLeDiff, ne_eq, not_false_eq_true, Int.reduceEq, Int.reduceLT, Int.reduceLE, Int.reduceNeg, Int.reduceToNat, Int.reduceGT, Int.reduceGE, Nat.reduceLT, Nat.lt_add_one, Nat.zero_lt_succ, Nat.succ_pos, Nat.zero_le, beq_self_eq_true, stO, decide_true, eq_self, beq_self_eq_true]
theorem words0_ok (HI : IndexOk L) (HC : CountOk L) {n k : Nat} {hh : Heap} (hn : n < 8) (hk : k < 500) : k_gatepostlaw03_LineWords_0 L (fun v _ => v = .bool true) (.int .i64 n) (.int .i64 ((100 + k : Nat) : Int)) (.str (gS (n - 2))) hh := by
  
  unfold k_gatepostlaw03_LineWords_0
  have gl := gS_len (n - 2)
  have wn := words_n n hn
  obtain ⟨A, hA⟩ : ∃ A : Bs, A = gS (n - 2) ++ [32, 72, 84, 84, 80, 47, 49, 46, 49] := ⟨_, rfl⟩
  rw [← hA] at wn
  have lA : A.length ≤ 30 := by rw [hA, List.length_append]; show _ + 9 ≤ _; omega
  have bA : binV .add (.str (gS (n - 2))) (.str [32, 72, 84, 84, 80, 47, 49, 46, 49]) = some (.str A) := by rw [hA]; exact bin_sadd (by show _ + 9 ≤ _; omega)
  have R := fun hh => LRequest_ok (L := L) (h := hh) HI HC (s := A) (by omega)
  unfold reqRV at R
  rw [if_neg (by omega), wn] at R
  have W1 := fun hh => words1_ok (L := L) HI (k := k) (hh := hh) hk
  generalize gS (n - 2) = G at *
  by_cases c : n = 3
  · have c' : (n : Int) = 3 := by omega
    rw [if_pos c] at R
    simp (maxSteps := 4000000) only [vm, vl, Arg.get, cells, stor, boundO, resultsV, resV, partK, loadV, Vm.part, fillC, splice, reduceIte, reduceCtorEq, Nat.reduceEqDiff, Nat.reduceAdd, Nat.reduceSub, Nat.reduceMul, Nat.reduceLeDiff, ne_eq, not_false_eq_true, Int.reduceEq, Int.reduceLT, Int.reduceLE, Int.reduceNeg, Int.reduceToNat, Int.reduceGT, Int.reduceGE, Nat.reduceLT, Nat.lt_add_one, Nat.zero_lt_succ, Nat.succ_pos, Nat.zero_le, beq_self_eq_true, bA]
    refine Cf.pu (R _) fun u1 => ?_
    simp (maxSteps := 4000000) only [vm, vl, Arg.get, cells, stor, boundO, resultsV, resV, partK, loadV, Vm.part, fillC, splice, reduceIte, reduceCtorEq, Nat.reduceEqDiff, Nat.reduceAdd, Nat.reduceSub, Nat.reduceMul, Nat.reduceLeDiff, ne_eq, not_false_eq_true, Int.reduceEq, Int.reduceLT, Int.reduceLE, Int.reduceNeg, Int.reduceToNat, Int.reduceGT, Int.reduceGE, Nat.reduceLT, Nat.lt_add_one, Nat.zero_lt_succ, Nat.succ_pos, Nat.zero_le, beq_self_eq_true, reqO, c', decide_true, eq_bool, beq_self_eq_true, Bool.not_true]
    exact W1 _
  · have c' : ¬ (n : Int) = 3 := by omega
    rw [if_neg c] at R
    simp (maxSteps := 4000000) only [vm, vl, Arg.get, cells, stor, boundO, resultsV, resV, partK, loadV, Vm.part, fillC, splice, reduceIte, reduceCtorEq, Nat.reduceEqDiff, Nat.reduceAdd, Nat.reduceSub, Nat.reduceMul, Nat.reduceLeDiff, ne_eq, not_false_eq_true, Int.reduceEq, Int.reduceLT, Int.reduceLE, Int.reduceNeg, Int.reduceToNat, Int.reduceGT, Int.reduceGE, Nat.reduceLT, Nat.lt_add_one, Nat.zero_lt_succ, Nat.succ_pos, Nat.zero_le, beq_self_eq_true, bA]
    refine Cf.pu (R _) fun u1 => ?_
    simp (maxSteps := 4000000) only [vm, vl, Arg.get, cells, stor, boundO, resultsV, resV, partK, loadV, Vm.part, fillC, splice, reduceIte, reduceCtorEq, Nat.reduceEqDiff, Nat.reduceAdd, Nat.reduceSub, Nat.reduceMul, Nat.reduceLeDiff, ne_eq, not_false_eq_true, Int.reduceEq, Int.reduceLT, Int.reduceLE, Int.reduceNeg, Int.reduceToNat, Int.reduceGT, Int.reduceGE, Nat.reduceLT, Nat.lt_add_one, Nat.zero_lt_succ, Nat.succ_pos, Nat.zero_le, beq_self_eq_true, reqO, c', decide_false, decide_true, eq_bool, beq_self_eq_true, Bool.not_true, Bool.not_false]
    exact W1 _
theorem LineWords_ok (HI : IndexOk L) (HC : CountOk L) {n c : Int} : Cf F L i_gatepostlaw03_LineWords [.int .i64 n, .int .i64 c] h (fun v _ => v = .bool true) := by
  refine run_gatepostlaw03_LineWords ?_
  simp only [p_gatepostlaw03_LineWords]
  
  obtain ⟨b0, b1⟩ := andI_range n 7 (by omega) (by omega)
  obtain ⟨c0, c1⟩ := andI_range c 511 (by omega) (by omega)
  generalize hA : bitsI .and .i64 n 7 = A at *
  generalize hC : bitsI .and .i64 c 511 = C at *
  obtain ⟨m, rfl⟩ : ∃ k : Nat, A = k := ⟨A.toNat, by omega⟩
  have t1 : C.tmod 500 = ((C.toNat % 500 : Nat) : Int) := by rw [Int.tmod_eq_emod_of_nonneg c0]; omega
  have hk : C.toNat % 500 < 500 := Nat.mod_lt _ (by omega)
  generalize C.toNat % 500 = k at *
  have w1 : IntKind.i64.wrap (100 + (k : Int)) = ((100 + k : Nat) : Int) := by rw [wrap64 (by omega) (by omega)]; omega
  have br : binV .rem (.int .i64 C) (.int .i64 500) = some (.int .i64 (C.tmod 500)) := by simp [binV, binI]
  simp (maxSteps := 4000000) only [vm, vl, Arg.get, cells, stor, boundO, resultsV, resV, partK, loadV, Vm.part, fillC, splice, reduceIte, reduceCtorEq, Nat.reduceEqDiff, Nat.reduceAdd, Nat.reduceSub, Nat.reduceMul, Nat.reduceLeDiff, ne_eq, not_false_eq_true, Int.reduceEq, Int.reduceLT, Int.reduceLE, Int.reduceNeg, Int.reduceToNat, Int.reduceGT, Int.reduceGE, Nat.reduceLT, Nat.lt_add_one, Nat.zero_lt_succ, Nat.succ_pos, Nat.zero_le, beq_self_eq_true, hA, hC, br, t1, w1]
  refine l_gatepostlaw03_LineWords_0 (fun n e h' => ∃ j : Nat, n = 8 - j ∧ j ≤ 7 ∧ 1 ≤ j ∧ (j = 1 ∨ j + 1 ≤ m) ∧ e 0 = .int .i64 m ∧ e 1 = .int .i64 ((100 + k : Nat) : Int) ∧ e 5 = .str (gS (j - 1)) ∧ e 6 = .int .i64 j) ?_ (n := 7) ⟨1, rfl, by omega, by omega, .inl rfl, rfl, rfl, rfl, rfl⟩
  rintro n e h' ⟨j, rfl, hj, hj1, hjm, e0, e1, e5, e6⟩
  simp only [b_gatepostlaw03_LineWords_0]
  have w2 : IntKind.i64.wrap ((m : Int) - 1) = (m : Int) - 1 := wrap64 (by omega) (by omega)
  have w3 : IntKind.i64.wrap ((j : Int) + 1) = ((j + 1 : Nat) : Int) := by rw [wrap64 (by omega) (by omega)]; omega
  by_cases q : j + 1 < m
  · have q' : (j : Int) < (m : Int) - 1 := by omega
    have gl := gS_len (j - 1)
    have bA : binV .add (.str (gS (j - 1))) (.str [32, 47]) = some (.str (gS (j - 1) ++ [32, 47])) := bin_sadd (by show _ + 2 ≤ _; omega)
    have eg : gS (j + 1 - 1) = gS (j - 1) ++ [32, 47] := by
      have : j + 1 - 1 = (j - 1) + 1 := by omega
      rw [this]; rfl
    generalize gS (j - 1) ++ [32, 47] = B at *
    simp (maxSteps := 4000000) only [vm, vl, Arg.get, cells, stor, boundO, resultsV, resV, partK, loadV, Vm.part, fillC, splice, reduceIte, reduceCtorEq, Nat.reduceEqDiff, Nat.reduceAdd, Nat.reduceSub, Nat.reduceMul, Nat.reduceLeDiff, ne_eq, not_false_eq_true, Int.reduceEq, Int.reduceLT, Int.reduceLE, Int.reduceNeg, Int.reduceToNat, Int.reduceGT, Int.reduceGE, Nat.reduceLT, Nat.lt_add_one, Nat.zero_lt_succ, Nat.succ_pos, Nat.zero_le, beq_self_eq_true, e0, e1, e5, e6, w2, q', decide_true, bA, w3, k_gatepostlaw03_LineWords_2, k_gatepostlaw03_LineWords_3]
    exact ⟨8 - (j + 1), by omega, j + 1, rfl, by omega, by omega, by omega, by rw [eg], rfl⟩
  · have q' : ¬ (j : Int) < (m : Int) - 1 := by omega
    have ej : j - 1 = m - 2 := by omega
    rw [ej] at e5
    simp (maxSteps := 4000000) only [vm, vl, Arg.get, cells, stor, boundO, resultsV, resV, partK, loadV, Vm.part, fillC, splice, reduceIte, reduceCtorEq, Nat.reduceEqDiff, Nat.reduceAdd, Nat.reduceSub, Nat.reduceMul, Nat.reduceLeDiff, ne_eq, not_false_eq_true, Int.reduceEq, Int.reduceLT, Int.reduceLE, Int.reduceNeg, Int.reduceToNat, Int.reduceGT, Int.reduceGE, Nat.reduceLT, Nat.lt_add_one, Nat.zero_lt_succ, Nat.succ_pos, Nat.zero_le, beq_self_eq_true, e0, e1, e5, e6, w2, q', decide_false]
    exact words0_ok HI HC (by omega) hk
/-- Index and Count. -/
def LW : FuncId → List V → V → Prop := fun f a v => LIndex f a v ∨ LCount f a v
theorem lw_at (w0 : World) : LibAt Tryd.prog w0 LW := fun f a v h => h.elim (index_at w0 f a v) (count_at w0 f a v)
theorem LineWords_row {x0 x1 : V} (v0 : VPar [.l (.i .i64)] x0) (v1 : VPar [.l (.i .i64)] x1) (w : World) (vs : List Value) (hv : Rvs w.heap.size G0 w [x0, x1] vs) :
    Calls Tryd.prog i_gatepostlaw03_LineWords vs.toArray w fun e w' => e = .returned (.bool true) ∧ RowKit.Below w.heap.size w w' := by
  obtain ⟨n, rfl, _⟩ := v0
  obtain ⟨c, rfl, _⟩ := v1
  exact calls_at hm hF (lw_at w) (LineWords_ok (indexOk fun _ _ _ h => .inl h) (countOk fun _ _ _ h => .inr h)) hv
end Go.Proofs.YtbcnhkgiabobiaaDoor.Vh
