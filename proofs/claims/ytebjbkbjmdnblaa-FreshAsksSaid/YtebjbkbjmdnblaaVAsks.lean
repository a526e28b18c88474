/- FreshAsks on the small machine. -/
import Derived.Test.YtebjbkbjmdnblaaVState
set_option linter.unusedVariables false
set_option linter.unusedSimpArgs false
set_option maxHeartbeats 4000000
namespace Go.Proofs.Ytebjbkbjmdnblaa.Vh
open Go.Vm
attribute [local congr] wi_congr wg_congr wgd_congr wb_congr wl_congr cf_congr
variable {L : FuncId → List V → V → Prop} {h : Heap}
theorem asks_1 {nc mu px : Bool} {sh wh A Y r7 r11 : Int} {r1 : Bool} (a2 : A ≤ 2147483648) (y1 : 0 ≤ Y) : ¬ stateS nc mu px sh wh r1 r7 r11 (-1) A Y < stateS nc mu px sh wh false (-1) (-1) (-1) A Y := by
  have l1 : ∀ x y n, 0 ≤ lateS mu px sh wh x y n ∧ lateS mu px sh wh x y n ≤ 2 := by
    intro x y n
    unfold lateS
    repeat' split
    all_goals omega
  have h1 := l1 r11 (-1) (A - Y)
  have h2 := l1 (-1) (-1) (A - Y)
  have h3 : lateS mu px sh wh (-1) (-1) (A - Y) ≤ lateS mu px sh wh r11 (-1) (A - Y) := by
    unfold lateS
    repeat' split
    all_goals omega
  unfold stateS
  repeat' split
  all_goals first | omega | (simp at *; done) | (simp at *; omega)
theorem asks_2 {nc mu px : Bool} {sh wh A Y : Int} : stateS nc mu px sh wh true (-1) (-1) (-1) A Y = 2 := by simp [stateS]
theorem asks_3 {nc mu px : Bool} {sh wh A Y : Int} (a1 : 0 ≤ A) (hn : ¬ stateS nc mu px sh wh false 0 (-1) (-1) A Y = 2) : A = 0 := by
  rcases Int.lt_or_eq_of_le a1 with h | h
  · exact absurd (by cases nc <;> simp [stateS, h]) hn
  · omega
theorem asks_4 {nc mu px : Bool} {sh wh A Y : Int} (a1 : 0 ≤ A) (a2 : A ≤ 2147483648) (y1 : 0 ≤ Y) (y2 : Y ≤ 2147483648) (hn : ¬ stateS nc mu px sh wh false (-1) (-1) 2147483648 A Y = 0) : stateS nc mu px sh wh false (-1) (-1) 2147483648 A Y = 2 := by
  revert hn
  unfold stateS lateS
  repeat' split
  all_goals first | omega | (intro; rfl) | (intro hn; simp at *; omega)
theorem Asks_ok {c0 : Int} {c1 c2 c3 c4 c5 c6 c7 : Bool} {c8 c9 c10 c11 c12 c13 c14 c15 c16 c17 c18 c19 : Int} {c20 : List UInt8} {r0 r1 r2 r3 r4 r5 r6 : Bool} {r7 r8 r9 r10 r11 r12 : Int} {now : Int} : Cf F L i_gatepostlaw09_FreshAsks [.agg [.int .i64 c0, .bool c1, .bool c2, .bool c3, .bool c4, .bool c5, .bool c6, .bool c7, .int .i64 c8, .int .i64 c9, .int .i64 c10, .int .i64 c11, .int .i64 c12, .int .i64 c13, .int .i64 c14, .int .i64 c15, .int .i64 c16, .int .i64 c17, .int .i64 c18, .int .i64 c19, .str c20], .agg [.bool r0, .bool r1, .bool r2, .bool r3, .bool r4, .bool r5, .bool r6, .int .i64 r7, .int .i64 r8, .int .i64 r9, .int .i64 r10, .int .i64 r11, .int .i64 r12], .int .i64 now] h (Pu h (.bool true)) := by
  refine run_gatepostlaw09_FreshAsks ?_
  simp only [p_gatepostlaw09_FreshAsks]
  simp (maxSteps := 4000000) only [vm, vl, Arg.get, cells, stor, boundO, resultsV, resV, partK, loadV, Vm.part, fillC, splice, reduceIte, reduceCtorEq, Nat.reduceEqDiff, Nat.reduceAdd, Nat.reduceSub, Nat.reduceMul, Nat.reduceLeDiff, ne_eq, not_false_eq_true, Int.reduceEq, Int.reduceLT, Int.reduceLE, Int.reduceNeg, Int.reduceToNat, k_gatepostlaw09_FreshAsks_0]
  have hk : isKept 301 = true := by decide
  have a2 := ageS_range c14 c17 c18 c19 now
  have a3 := lifeS_range c0 c9 c8 c14 c15 c16 c19
  (repeat' ((first | refine wg_casep (fun _ => ?_) (fun _ => ?_) | refine wg_casen (fun _ => ?_) (fun _ => ?_) | refine wg_case (fun _ => ?_) (fun _ => ?_) | refine wgd_casep (fun _ => ?_) (fun _ => ?_) | refine wgd_casen (fun _ => ?_) (fun _ => ?_) | refine wgd_case (fun _ => ?_) (fun _ => ?_) | refine wb_casep (fun _ => ?_) (fun _ => ?_) | refine wb_casen (fun _ => ?_) (fun _ => ?_) | refine wb_case (fun _ => ?_) (fun _ => ?_) | refine Cf.pu State_ok (fun _ => ?_) | refine Cf.pu Age_ok (fun _ => ?_) | refine Cf.pu Heuristic_ok (fun _ => ?_)) <;> simp (maxSteps := 4000000) only [vm, vl, Arg.get, cells, stor, boundO, resultsV, resV, partK, loadV, Vm.part, fillC, splice, reduceIte, reduceCtorEq, Nat.reduceEqDiff, Nat.reduceAdd, Nat.reduceSub, Nat.reduceMul, Nat.reduceLeDiff, ne_eq, not_false_eq_true, Int.reduceEq, Int.reduceLT, Int.reduceLE, Int.reduceNeg, Int.reduceToNat, k_gatepostlaw09_FreshAsks_0, *]))
  · rename_i hx; exact asks_1 a2.2 a3.1 hx
  · rename_i hx; exact asks_4 a2.1 a2.2 a3.1 a3.2 hx
  · rename_i hz hx
    rw [hz] at a2
    exact asks_4 a2.1 a2.2 a3.1 a3.2 hx
  · rename_i h3 _ hz; exact hz (asks_3 a2.1 h3)
  · rename_i hx; exact hx asks_2
end Go.Proofs.Ytebjbkbjmdnblaa.Vh
