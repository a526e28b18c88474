/- FreshLonger on the small machine. -/
import Derived.Test.YtebjbkbjmdnblaaPk4
import Derived.Test.YtebjbkbjmdnblaaPk5
section
set_option linter.unusedVariables false
set_option linter.unusedSimpArgs false
set_option maxHeartbeats 4000000
set_option maxRecDepth 100000
namespace Go.Proofs.Ytebjbkbjmdnblaa.Vh
open Go.Vm
attribute [local congr] wi_congr wg_congr wgd_congr wb_congr wl_congr cf_congr
variable {L : FuncId → List V → V → Prop} {h : Heap}
theorem longer_state {nc mu px : Bool} {sh wh A Y1 Y2 : Int} (hY : Y1 ≤ Y2) : ¬ stateS nc mu px sh wh false (-1) (-1) (-1) A Y2 > stateS nc mu px sh wh false (-1) (-1) (-1) A Y1 := by
  unfold stateS lateS
  repeat' split
  all_goals first | omega | (simp at *; done) | (simp at *; omega)
theorem longer_life {c sh a b d ex mo g : Int} (h0 : 0 ≤ a) (h1 : a ≤ b) : lifeS c sh a d ex mo g ≤ lifeS c sh b d ex mo g := by
  unfold lifeS
  rw [if_pos (show a ≥ 0 by omega), if_pos (show b ≥ 0 by omega)]
  split <;> omega
theorem life_z {c a b d mo g : Int} (h0 : 0 ≤ a) (h1 : a ≤ 65535) : lifeS c a b d 7 mo g = a := by
  unfold lifeS
  rw [if_pos (show a ≥ 0 by omega)]
  omega
theorem life_w {c b d mo g : Int} (h0 : 0 ≤ b) (h1 : b ≤ 65535) : lifeS c (-1) b d 7 mo g = b := by
  unfold lifeS
  rw [if_neg (by omega), if_pos (show b ≥ 0 by omega)]
  omega
theorem life_v {c a mo g : Int} (h0 : 0 ≤ a) (h1 : a ≤ 65535) : lifeS c (-1) (-1) 100 (100 + a) mo g = a := by
  unfold lifeS
  rw [if_neg (by omega), if_neg (by omega), if_pos (by omega), if_pos (by omega)]
  unfold sinceS
  rw [if_neg (by omega), if_neg (by omega)]
  omega
theorem Longer1_ok {c0 : Int} {c1 c2 c3 c4 c5 c6 c7 : Bool} {c8 c9 c10 c11 c12 c13 c14 c15 c16 c17 c18 c19 : Int} {c20 : List UInt8} {A B : Int} {k : Nat} {HH : Heap} (hb : HH[k]? = some (.box [.int .i64 c0, .bool c1, .bool c2, .bool c3, .bool c4, .bool c5, .bool c6, .bool c7, .int .i64 c8, .int .i64 c9, .int .i64 c10, .int .i64 c11, .int .i64 c12, .int .i64 c13, .int .i64 c14, .int .i64 c15, .int .i64 c16, .int .i64 c17, .int .i64 c18, .int .i64 c19, .str c20])) (a0 : 0 ≤ A) (ab : A ≤ B) (b1 : B ≤ 65535) :
    k_gatepostlaw09_FreshLonger_1 L (fun v _ => v = .bool true) (.ptr k 0) (.int .i64 A) (.int .i64 B) HH := by
  
  unfold k_gatepostlaw09_FreshLonger_1
  have b0 := fun t => get_old (t := t) hb
  have w1 := wrap64 (x := 100 + A) (by omega) (by omega)
  have z1 := life_z (c := c0) (b := B) (d := c14) (mo := c16) (g := c19) a0 (by omega)
  have z2 := life_w (c := c0) (b := B) (d := c14) (mo := c16) (g := c19) (by omega) b1
  have z3 := life_v (c := c0) (a := A) (mo := c16) (g := c19) a0 (by omega)
  simp (maxSteps := 4000000) only [vm, vl, Arg.get, cells, stor, boundO, resultsV, resV, partK, loadV, Vm.part, fillC, splice, reduceIte, reduceCtorEq, Nat.reduceEqDiff, Nat.reduceAdd, Nat.reduceSub, Nat.reduceMul, Nat.reduceLeDiff, ne_eq, not_false_eq_true, Int.reduceEq, Int.reduceLT, Int.reduceLE, Int.reduceNeg, Int.reduceToNat, Int.reduceGT, Int.reduceGE, Nat.reduceLT, Nat.lt_add_one, Nat.zero_lt_succ, Nat.succ_pos, Nat.zero_le, beq_self_eq_true, hb, b0, w1]
  refine Cf.pu Lifetime_ok fun u1 => ?_
  simp (maxSteps := 4000000) only [vm, vl, Arg.get, cells, stor, boundO, resultsV, resV, partK, loadV, Vm.part, fillC, splice, reduceIte, reduceCtorEq, Nat.reduceEqDiff, Nat.reduceAdd, Nat.reduceSub, Nat.reduceMul, Nat.reduceLeDiff, ne_eq, not_false_eq_true, Int.reduceEq, Int.reduceLT, Int.reduceLE, Int.reduceNeg, Int.reduceToNat, Int.reduceGT, Int.reduceGE, Nat.reduceLT, Nat.lt_add_one, Nat.zero_lt_succ, Nat.succ_pos, Nat.zero_le, beq_self_eq_true, z1]
  refine Cf.pu Lifetime_ok fun u2 => ?_
  simp (maxSteps := 4000000) only [vm, vl, Arg.get, cells, stor, boundO, resultsV, resV, partK, loadV, Vm.part, fillC, splice, reduceIte, reduceCtorEq, Nat.reduceEqDiff, Nat.reduceAdd, Nat.reduceSub, Nat.reduceMul, Nat.reduceLeDiff, ne_eq, not_false_eq_true, Int.reduceEq, Int.reduceLT, Int.reduceLE, Int.reduceNeg, Int.reduceToNat, Int.reduceGT, Int.reduceGE, Nat.reduceLT, Nat.lt_add_one, Nat.zero_lt_succ, Nat.succ_pos, Nat.zero_le, beq_self_eq_true, z2]
  refine Cf.pu Lifetime_ok fun u3 => ?_
  simp (maxSteps := 4000000) only [vm, vl, Arg.get, cells, stor, boundO, resultsV, resV, partK, loadV, Vm.part, fillC, splice, reduceIte, reduceCtorEq, Nat.reduceEqDiff, Nat.reduceAdd, Nat.reduceSub, Nat.reduceMul, Nat.reduceLeDiff, ne_eq, not_false_eq_true, Int.reduceEq, Int.reduceLT, Int.reduceLE, Int.reduceNeg, Int.reduceToNat, Int.reduceGT, Int.reduceGE, Nat.reduceLT, Nat.lt_add_one, Nat.zero_lt_succ, Nat.succ_pos, Nat.zero_le, beq_self_eq_true, z3]
theorem Longer0_ok {c0 : Int} {c1 c2 c3 c4 c5 c6 c7 : Bool} {c8 c9 c10 c11 c12 c13 c14 c15 c16 c17 c18 c19 : Int} {c20 : List UInt8} {now A B : Int} {B2 : O} (a0 : 0 ≤ A) (ab : A ≤ B) (b1 : B ≤ 65535) :
    k_gatepostlaw09_FreshLonger_0 L (fun v _ => v = .bool true) (.int .i64 now) (.ptr h.length 0) (.int .i64 A) (.int .i64 B) (h ++ [.box [.int .i64 c0, .bool c1, .bool c2, .bool c3, .bool c4, .bool c5, .bool c6, .bool c7, .int .i64 c8, .int .i64 c9, .int .i64 c10, .int .i64 c11, .int .i64 c12, .int .i64 c13, .int .i64 c14, .int .i64 c15, .int .i64 c16, .int .i64 c17, .int .i64 c18, .int .i64 c19, .str c20], B2]) := by
  
  unfold k_gatepostlaw09_FreshLonger_0
  simp (maxSteps := 4000000) only [vm, vl, Arg.get, cells, stor, boundO, resultsV, resV, partK, loadV, Vm.part, fillC, splice, reduceIte, reduceCtorEq, Nat.reduceEqDiff, Nat.reduceAdd, Nat.reduceSub, Nat.reduceMul, Nat.reduceLeDiff, ne_eq, not_false_eq_true, Int.reduceEq, Int.reduceLT, Int.reduceLE, Int.reduceNeg, Int.reduceToNat, Int.reduceGT, Int.reduceGE, Nat.reduceLT, Nat.lt_add_one, Nat.zero_lt_succ, Nat.succ_pos, Nat.zero_le, beq_self_eq_true]
  have w1 := wrap64 (x := 100 + A) (by omega) (by omega)
  have hl := longer_life (c := c0) (sh := c9) (d := c14) (ex := c15) (mo := c16) (g := c19) a0 ab
  have h2 := longer_state (nc := c2) (mu := c5) (px := c6) (sh := c9) (wh := c10) (A := ageS c14 c17 c18 c19 now) hl
  have z1 := life_z (c := c0) (b := B) (d := c14) (mo := c16) (g := c19) a0 (by omega)
  have z2 := life_w (c := c0) (b := B) (d := c14) (mo := c16) (g := c19) (by omega) b1
  have z3 := life_v (c := c0) (a := A) (mo := c16) (g := c19) a0 (by omega)
  (repeat' ((first | refine wg_casep (fun _ => ?_) (fun _ => ?_) | refine wg_casen (fun _ => ?_) (fun _ => ?_) | refine wg_case (fun _ => ?_) (fun _ => ?_) | refine wgd_casep (fun _ => ?_) (fun _ => ?_) | refine wgd_casen (fun _ => ?_) (fun _ => ?_) | refine wgd_case (fun _ => ?_) (fun _ => ?_) | refine wb_casep (fun _ => ?_) (fun _ => ?_) | refine wb_casen (fun _ => ?_) (fun _ => ?_) | refine wb_case (fun _ => ?_) (fun _ => ?_) | refine Cf.pu State_ok (fun _ => ?_)) <;> try simp (maxSteps := 4000000) only [vm, vl, Arg.get, cells, stor, boundO, resultsV, resV, partK, loadV, Vm.part, fillC, splice, reduceIte, reduceCtorEq, Nat.reduceEqDiff, Nat.reduceAdd, Nat.reduceSub, Nat.reduceMul, Nat.reduceLeDiff, ne_eq, not_false_eq_true, Int.reduceEq, Int.reduceLT, Int.reduceLE, Int.reduceNeg, Int.reduceToNat, Int.reduceGT, Int.reduceGE, Nat.reduceLT, Nat.lt_add_one, Nat.zero_lt_succ, Nat.succ_pos, Nat.zero_le, beq_self_eq_true, *]))
  refine Longer1_ok (c0 := c0) (c1 := c1) (c2 := c2) (c3 := c3) (c4 := c4) (c5 := c5) (c6 := c6) (c7 := c7) (c8 := c8) (c9 := c9) (c10 := c10) (c11 := c11) (c12 := c12) (c13 := c13) (c14 := c14) (c15 := c15) (c16 := c16) (c17 := c17) (c18 := c18) (c19 := c19) (c20 := c20) ?_ a0 ab b1
  rw [List.getElem?_append_right (Nat.le_refl _), Nat.sub_self]
  rfl
theorem Longer_ok {c0 : Int} {c1 c2 c3 c4 c5 c6 c7 : Bool} {c8 c9 c10 c11 c12 c13 c14 c15 c16 c17 c18 c19 : Int} {c20 : List UInt8} {now n0 n1 : Int} : Cf F L i_gatepostlaw09_FreshLonger [.agg [.int .i64 c0, .bool c1, .bool c2, .bool c3, .bool c4, .bool c5, .bool c6, .bool c7, .int .i64 c8, .int .i64 c9, .int .i64 c10, .int .i64 c11, .int .i64 c12, .int .i64 c13, .int .i64 c14, .int .i64 c15, .int .i64 c16, .int .i64 c17, .int .i64 c18, .int .i64 c19, .str c20], .int .i64 now, .agg [.int .i64 n0, .int .i64 n1]] h (fun v _ => v = .bool true) := by
  refine run_gatepostlaw09_FreshLonger ?_
  simp only [p_gatepostlaw09_FreshLonger]
  
  simp (maxSteps := 4000000) only [vm, vl, Arg.get, cells, stor, boundO, resultsV, resV, partK, loadV, Vm.part, fillC, splice, reduceIte, reduceCtorEq, Nat.reduceEqDiff, Nat.reduceAdd, Nat.reduceSub, Nat.reduceMul, Nat.reduceLeDiff, ne_eq, not_false_eq_true, Int.reduceEq, Int.reduceLT, Int.reduceLE, Int.reduceNeg, Int.reduceToNat, Int.reduceGT, Int.reduceGE, Nat.reduceLT, Nat.lt_add_one, Nat.zero_lt_succ, Nat.succ_pos, Nat.zero_le, beq_self_eq_true]
  obtain ⟨a0, a1⟩ := andI_range n0 65535 (by omega) (by omega)
  obtain ⟨b0, b1⟩ := andI_range n1 65535 (by omega) (by omega)
  generalize bitsI .and .i64 n0 65535 = A at *
  generalize bitsI .and .i64 n1 65535 = B at *
  by_cases c : A > B
  · simp (maxSteps := 4000000) only [vm, vl, Arg.get, cells, stor, boundO, resultsV, resV, partK, loadV, Vm.part, fillC, splice, reduceIte, reduceCtorEq, Nat.reduceEqDiff, Nat.reduceAdd, Nat.reduceSub, Nat.reduceMul, Nat.reduceLeDiff, ne_eq, not_false_eq_true, Int.reduceEq, Int.reduceLT, Int.reduceLE, Int.reduceNeg, Int.reduceToNat, Int.reduceGT, Int.reduceGE, Nat.reduceLT, Nat.lt_add_one, Nat.zero_lt_succ, Nat.succ_pos, Nat.zero_le, beq_self_eq_true, c, decide_true]
    exact Longer0_ok b0 (by omega) a1
  · simp (maxSteps := 4000000) only [vm, vl, Arg.get, cells, stor, boundO, resultsV, resV, partK, loadV, Vm.part, fillC, splice, reduceIte, reduceCtorEq, Nat.reduceEqDiff, Nat.reduceAdd, Nat.reduceSub, Nat.reduceMul, Nat.reduceLeDiff, ne_eq, not_false_eq_true, Int.reduceEq, Int.reduceLT, Int.reduceLE, Int.reduceNeg, Int.reduceToNat, Int.reduceGT, Int.reduceGE, Nat.reduceLT, Nat.lt_add_one, Nat.zero_lt_succ, Nat.succ_pos, Nat.zero_le, beq_self_eq_true, c, decide_false]
    exact Longer0_ok a0 (by omega) b1
theorem vsks_cons {k : SK} {ks : List SK} : ∀ {xs : List V}, VSKs (k :: ks) xs → ∃ x r, xs = x :: r ∧ VSK k x ∧ VSKs ks r
  | x :: r, ⟨h1, h2⟩ => ⟨x, r, rfl, h1, h2⟩
theorem vsks_nil : ∀ {xs : List V}, VSKs [] xs → xs = []
  | [], _ => rfl
theorem meta_par {x : V} (v : VPar [.l (.i .i64), .l .b, .l .b, .l .b, .l .b, .l .b, .l .b, .l .b, .l (.i .i64), .l (.i .i64), .l (.i .i64), .l (.i .i64), .l (.i .i64), .l (.i .i64), .l (.i .i64), .l (.i .i64), .l (.i .i64), .l (.i .i64), .l (.i .i64), .l (.i .i64), .l .s] x) : ∃ (c0 : Int) (c1 c2 c3 c4 c5 c6 c7 : Bool) (c8 c9 c10 c11 c12 c13 c14 c15 c16 c17 c18 c19 : Int) (c20 : List UInt8), x = .agg [.int .i64 c0, .bool c1, .bool c2, .bool c3, .bool c4, .bool c5, .bool c6, .bool c7, .int .i64 c8, .int .i64 c9, .int .i64 c10, .int .i64 c11, .int .i64 c12, .int .i64 c13, .int .i64 c14, .int .i64 c15, .int .i64 c16, .int .i64 c17, .int .i64 c18, .int .i64 c19, .str c20] := by
  obtain ⟨ms, rfl, h⟩ := v
  obtain ⟨m0, r0, h0, ⟨c0, e0, _⟩, h⟩ := vsks_cons h
  obtain ⟨m1, r1, h1, ⟨c1, e1⟩, h⟩ := vsks_cons h
  obtain ⟨m2, r2, h2, ⟨c2, e2⟩, h⟩ := vsks_cons h
  obtain ⟨m3, r3, h3, ⟨c3, e3⟩, h⟩ := vsks_cons h
  obtain ⟨m4, r4, h4, ⟨c4, e4⟩, h⟩ := vsks_cons h
  obtain ⟨m5, r5, h5, ⟨c5, e5⟩, h⟩ := vsks_cons h
  obtain ⟨m6, r6, h6, ⟨c6, e6⟩, h⟩ := vsks_cons h
  obtain ⟨m7, r7, h7, ⟨c7, e7⟩, h⟩ := vsks_cons h
  obtain ⟨m8, r8, h8, ⟨c8, e8, _⟩, h⟩ := vsks_cons h
  obtain ⟨m9, r9, h9, ⟨c9, e9, _⟩, h⟩ := vsks_cons h
  obtain ⟨m10, r10, h10, ⟨c10, e10, _⟩, h⟩ := vsks_cons h
  obtain ⟨m11, r11, h11, ⟨c11, e11, _⟩, h⟩ := vsks_cons h
  obtain ⟨m12, r12, h12, ⟨c12, e12, _⟩, h⟩ := vsks_cons h
  obtain ⟨m13, r13, h13, ⟨c13, e13, _⟩, h⟩ := vsks_cons h
  obtain ⟨m14, r14, h14, ⟨c14, e14, _⟩, h⟩ := vsks_cons h
  obtain ⟨m15, r15, h15, ⟨c15, e15, _⟩, h⟩ := vsks_cons h
  obtain ⟨m16, r16, h16, ⟨c16, e16, _⟩, h⟩ := vsks_cons h
  obtain ⟨m17, r17, h17, ⟨c17, e17, _⟩, h⟩ := vsks_cons h
  obtain ⟨m18, r18, h18, ⟨c18, e18, _⟩, h⟩ := vsks_cons h
  obtain ⟨m19, r19, h19, ⟨c19, e19, _⟩, h⟩ := vsks_cons h
  obtain ⟨m20, r20, h20, ⟨c20, e20, _⟩, h⟩ := vsks_cons h
  have hn := vsks_nil h
  rw [h0, h1, h2, h3, h4, h5, h6, h7, h8, h9, h10, h11, h12, h13, h14, h15, h16, h17, h18, h19, h20, hn, e0, e1, e2, e3, e4, e5, e6, e7, e8, e9, e10, e11, e12, e13, e14, e15, e16, e17, e18, e19, e20]
  exact ⟨c0, c1, c2, c3, c4, c5, c6, c7, c8, c9, c10, c11, c12, c13, c14, c15, c16, c17, c18, c19, c20, rfl⟩
theorem FreshLonger_row {x0 x1 x2 : V} (v0 : VPar [.l (.i .i64), .l .b, .l .b, .l .b, .l .b, .l .b, .l .b, .l .b, .l (.i .i64), .l (.i .i64), .l (.i .i64), .l (.i .i64), .l (.i .i64), .l (.i .i64), .l (.i .i64), .l (.i .i64), .l (.i .i64), .l (.i .i64), .l (.i .i64), .l (.i .i64), .l .s] x0) (v1 : VPar [.l (.i .i64)] x1) (v2 : VPar [.l (.i .i64), .l (.i .i64)] x2) (w : World) (vs : List Value) (hv : Rvs w.heap.size G0 w [x0, x1, x2] vs) :
    Calls Try.prog i_gatepostlaw09_FreshLonger vs.toArray w fun e w' => e = .returned (.bool true) ∧ RowKit.Below w.heap.size w w' := by
  obtain ⟨c0, c1, c2, c3, c4, c5, c6, c7, c8, c9, c10, c11, c12, c13, c14, c15, c16, c17, c18, c19, c20, rfl⟩ := meta_par v0
  obtain ⟨now, rfl, _⟩ := v1
  obtain ⟨ns, rfl, hn⟩ := v2
  obtain ⟨m0, r0, h0, ⟨n0, e0, _⟩, hn⟩ := vsks_cons hn
  obtain ⟨m1, r1, h1, ⟨n1, e1, _⟩, hn⟩ := vsks_cons hn
  rw [h0, h1, vsks_nil hn, e0, e1] at hv
  exact calls_at hm hF (L := fun _ _ _ => False) (fun _ _ _ h => h.elim) Longer_ok hv
end Go.Proofs.Ytebjbkbjmdnblaa.Vh
end
