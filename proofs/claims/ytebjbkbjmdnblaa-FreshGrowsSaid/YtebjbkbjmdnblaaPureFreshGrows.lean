/- A response grows older by a second each second, and the rest of the law: the plain law, over what the walks show. -/
import Derived.Test.YtebjbkbjmdnblaaHp9
import Derived.Test.YtebjbkbjmdnblaaPFresh
set_option linter.unusedVariables false
set_option linter.unusedSimpArgs false
namespace Go.Proofs.Ytebjbkbjmdnblaa.Pure
open Go.RowKit Go.Proofs.Ytebjbkbjmdnblaa.Hp Go.Proofs.YtebjbkbjmdnblaaW.PrintWords Go.Proofs.YtebjbkbjmdnblaaW.PrintLast Go.Proofs.YtebjbkbjmdnblaaW.PrintMore

theorem since_le (a b : Int) (h : 0 ≤ b) : sinceS a b ≤ b := by
  unfold sinceS
  split
  · exact h
  · split <;> omega
theorem since_add (g a : Int) (h0 : 0 ≤ g) (h1 : g ≤ 1073741824) (a0 : 0 ≤ a) (a1 : a ≤ 2097150) : sinceS g (g + a) = a := by
  unfold sinceS
  rw [if_neg (by omega), if_neg (by omega)]
  omega
def firstS (date age asked got : Int) : Int := max (sinceS date got) (max 0 (min age 1099511627776) + sinceS asked got)
theorem age_add (c14 c17 c18 c19 a : Int) (h0 : 0 ≤ c19) (h1 : c19 ≤ 1073741824) (h2 : c17 ≤ 536870912) (a0 : 0 ≤ a) (a1 : a ≤ 2097150) :
    ageS c14 c17 c18 c19 (c19 + a) = firstS c14 c17 c18 c19 + a ∧ 0 ≤ firstS c14 c17 c18 c19 ∧ firstS c14 c17 c18 c19 ≤ 1610612736 := by
  unfold ageS firstS
  rw [since_add c19 a h0 h1 a0 a1]
  have b1 := since_le c14 c19 h0
  have b2 := since_le c18 c19 h0
  have b3 := sinceS_range c14 c19
  have b4 := sinceS_range c18 c19
  generalize sinceS c14 c19 = x at *
  generalize sinceS c18 c19 = y at *
  omega
theorem state_fresh (mu pr : Bool) (sh wh X L : Int) (h : X < L) : stateS false mu pr sh wh false (-1) (-1) (-1) X L = 0 := by
  unfold stateS
  rw [if_neg (by simp), if_neg (by omega), if_neg (by omega)]
theorem state_old (mu pr : Bool) (sh wh X L : Int) (h : ¬ X < L) : stateS false mu pr sh wh false (-1) (-1) (-1) X L = if mu = true ∨ pr = true ∨ sh ≥ 0 then 2 else if wh > X - L then 1 else 2 := by
  unfold stateS lateS
  rw [if_neg (by simp), if_pos (by omega)]
  by_cases h1 : mu = true ∨ pr = true ∨ sh ≥ 0
  · rw [if_pos h1, if_pos h1]
  · rw [if_neg h1, if_neg h1, if_neg (by omega)]
    by_cases h2 : wh > X - L
    · rw [if_pos h2, if_pos ⟨h2, by omega⟩]
    · rw [if_neg h2, if_neg (fun q => h2 q.1)]
theorem state_grows (nc mu pr : Bool) (sh wh X Y L : Int) (h : X ≤ Y) : ¬ stateS nc mu pr sh wh false (-1) (-1) (-1) Y L < stateS nc mu pr sh wh false (-1) (-1) (-1) X L := by
  cases nc with
  | true => unfold stateS; rw [if_pos (by simp), if_pos (by simp)]; omega
  | false =>
    by_cases h1 : X < L
    · rw [state_fresh mu pr sh wh X L h1]
      by_cases h2 : Y < L
      · rw [state_fresh mu pr sh wh Y L h2]; omega
      · rw [state_old mu pr sh wh Y L h2]
        split
        · omega
        · split <;> omega
    · rw [state_old mu pr sh wh X L h1, state_old mu pr sh wh Y L (by omega)]
      split
      · omega
      · split
        · split <;> omega
        · split <;> omega

variable (c0 : Int) (c1 c2 c3 c4 c5 c6 c7 : Bool) (c8 c9 c10 c11 c12 c13 c14 c15 c16 c17 c18 c19 : Int) (c20 : ByteArray) (b0 b1 : Int)
theorem grows_core (h0 : 0 ≤ c19) (h1 : c19 ≤ 1073741824) (h2 : c17 ≤ 536870912) :
    Ev (fun k => gatepostlaw09_FreshGrows.j1 k c0 c1 c2 c3 c4 c5 c6 c7 c8 c9 c10 c11 c12 c13 c14 c15 c16 c17 c18 c19 c20 b0 b1) true := by
  obtain ⟨a0, a1⟩ := and_range b0 1048575 (by omega) (by omega)
  obtain ⟨d0, d1⟩ := and_range b1 1048575 (by omega) (by omega)
  generalize ha : Go.bits .and .i64 b0 1048575 = A at *
  generalize hd : Go.bits .and .i64 b1 1048575 = D at *
  obtain ⟨e1, f0, f1⟩ := age_add c14 c17 c18 c19 A h0 h1 h2 a0 (by omega)
  obtain ⟨e2, _, _⟩ := age_add c14 c17 c18 c19 (A + D) h0 h1 h2 (by omega) (by omega)
  have hk : isKept 200 = true := by decide
  have hw1 : wrap64 (c19 + A) = c19 + A := wrap_id (by omega) (by omega)
  have hw2 : wrap64 (c19 + A + D) = c19 + (A + D) := by rw [wrap_id (by omega) (by omega)]; omega
  have hw3 : wrap64 (firstS c14 c17 c18 c19 + A + D) = firstS c14 c17 c18 c19 + (A + D) := by rw [wrap_id (by omega) (by omega)]; omega
  refine Ev.step (f := fun k => gatepostlaw09_FreshGrows.j2 k D (c19 + A) (firstS c14 c17 c18 c19 + A) false c0 c1 c2 c3 c4 c5 c6 c7 c8 c9 c10 c11 c12 c13 c14 c15 c16 c17 c18 c19 c20 false false false false false false false (-1) 0 0 0 (-1) (-1)) (fun k => ?_) ?_
  · simp only [gatepostlaw09_FreshGrows.j1, ha, hd, age_eq, Option.bind_some, hw1, hw2, e1, e2, hw3, if_true, fresh_Heuristic.f, hk, Bool.not_true]
  have s1 := state_ev c0 c1 c2 c3 c4 c5 c6 c7 c8 c9 c10 c11 c12 c13 c14 c15 c16 c17 c18 c19 c20 false false false false false false false (-1) 0 0 0 (-1) (-1) (c19 + A)
  have s2 := state_ev c0 c1 c2 c3 c4 c5 c6 c7 c8 c9 c10 c11 c12 c13 c14 c15 c16 c17 c18 c19 c20 false false false false false false false (-1) 0 0 0 (-1) (-1) (c19 + (A + D))
  have s3 := life_ev c0 c1 c2 c3 c4 c5 c6 c7 c8 c9 c10 c11 c12 c13 c14 c15 c16 c17 c18 c19 c20
  rw [e1] at s1
  rw [e2] at s2
  generalize firstS c14 c17 c18 c19 = F at *
  generalize lifeS c0 c9 c8 c14 c15 c16 c19 = L at *
  have hg := state_grows c2 c5 c6 c9 c10 (F + A) (F + (A + D)) L (by omega)
  refine Ev.step (f := fun k => (fresh_State.f k c0 c1 c2 c3 c4 c5 c6 c7 c8 c9 c10 c11 c12 c13 c14 c15 c16 c17 c18 c19 c20 false false false false false false false (-1) 0 0 0 (-1) (-1) (c19 + A)).bind fun s =>
    (fresh_State.f k c0 c1 c2 c3 c4 c5 c6 c7 c8 c9 c10 c11 c12 c13 c14 c15 c16 c17 c18 c19 c20 false false false false false false false (-1) 0 0 0 (-1) (-1) (c19 + (A + D))).bind fun t =>
    if t < s then some false else if c2 = true then some true else (fresh_Lifetime.f k c0 c1 c2 c3 c4 c5 c6 c7 c8 c9 c10 c11 c12 c13 c14 c15 c16 c17 c18 c19 c20).bind fun l => some ((s == 0) == decide (F + A < l))) (fun k => ?_) ?_
  · simp only [gatepostlaw09_FreshGrows.j2, hw2]
    rw [if_neg (by simp)]
  refine Ev.bind s1 (Ev.bind s2 ?_)
  simp only [if_neg hg]
  cases c2 with
  | true => simp only [if_true]; exact Ev.now _
  | false =>
    simp only [if_neg (show ¬ false = true by simp)]
    refine Ev.bind s3 ?_
    have : ((stateS false c5 c6 c9 c10 false (-1) (-1) (-1) (F + A) L == 0) == decide (F + A < L)) = true := by
      by_cases q : F + A < L
      · rw [state_fresh c5 c6 c9 c10 _ L q, decide_eq_true q]; rfl
      · rw [state_old c5 c6 c9 c10 _ L q, decide_eq_false q]
        split
        · rfl
        · split <;> rfl
    rw [this]
    exact Ev.now _
theorem grows_j0 (b : Bool) (h : b = false → 0 ≤ c19 ∧ c19 ≤ 1073741824 ∧ c17 ≤ 536870912) :
    Ev (fun k => gatepostlaw09_FreshGrows.j0 k b c0 c1 c2 c3 c4 c5 c6 c7 c8 c9 c10 c11 c12 c13 c14 c15 c16 c17 c18 c19 c20 b0 b1) true := by
  cases b with
  | true =>
    obtain ⟨a0, a1⟩ := and_range c19 65535 (by omega) (by omega)
    obtain ⟨d0, d1⟩ := and_range c17 255 (by omega) (by omega)
    refine Ev.step (f := fun k => gatepostlaw09_FreshGrows.j1 k c0 c1 c2 c3 c4 c5 c6 c7 c8 c9 c10 c11 c12 c13 (Go.bits .and .i64 c14 65535) c15 c16 (Go.bits .and .i64 c17 255) (Go.bits .and .i64 c18 65535) (Go.bits .and .i64 c19 65535) c20 b0 b1) (fun k => ?_)
      (grows_core c0 c1 c2 c3 c4 c5 c6 c7 c8 c9 c10 c11 c12 c13 _ c15 c16 _ _ _ c20 b0 b1 a0 (by omega) (by omega))
    simp only [gatepostlaw09_FreshGrows.j0, if_true]
  | false =>
    obtain ⟨q1, q2, q3⟩ := h rfl
    refine Ev.step (f := fun k => gatepostlaw09_FreshGrows.j1 k c0 c1 c2 c3 c4 c5 c6 c7 c8 c9 c10 c11 c12 c13 c14 c15 c16 c17 c18 c19 c20 b0 b1) (fun k => ?_)
      (grows_core c0 c1 c2 c3 c4 c5 c6 c7 c8 c9 c10 c11 c12 c13 c14 c15 c16 c17 c18 c19 c20 b0 b1 q1 q2 q3)
    simp only [gatepostlaw09_FreshGrows.j0]
    rw [if_neg (by simp)]
theorem FreshGrows : ∃ k, gatepostlaw09_FreshGrows.f k c0 c1 c2 c3 c4 c5 c6 c7 c8 c9 c10 c11 c12 c13 c14 c15 c16 c17 c18 c19 c20 b0 b1 = some true := by
  refine Ev.rounds ?_
  unfold gatepostlaw09_FreshGrows.f
  have hj := grows_j0 c0 c1 c2 c3 c4 c5 c6 c7 c8 c9 c10 c11 c12 c13 c14 c15 c16 c17 c18 c19 c20 b0 b1
  by_cases h1 : c19 < 0
  · simp only [if_pos h1]; exact hj true (fun h => by cases h)
  simp only [if_neg h1]
  by_cases h2 : c19 > 1073741824
  · simp only [if_pos h2]; exact hj true (fun h => by cases h)
  simp only [if_neg h2]
  by_cases h3 : c17 > 536870912
  · simp only [if_pos h3]; exact hj true (fun h => by cases h)
  simp only [if_neg h3]
  by_cases h4 : c14 > 1073741824
  · simp only [if_pos h4]; exact hj true (fun h => by cases h)
  simp only [if_neg h4]
  exact hj _ (fun _ => by omega)
end Go.Proofs.Ytebjbkbjmdnblaa.Pure
