/- Package fresh, in plain numbers. -/
import Derived.Test.YtebjbkbjmdnblaaHp6
import Derived.Test.YtebjbkbjmdnblaaPLib
set_option linter.unusedVariables false
set_option linter.unusedSimpArgs false
namespace Go.Proofs.Ytebjbkbjmdnblaa.Hp
open Go.RowKit Go.Proofs.YtebjbkbjmdnblaaW.PrintWords Go.Proofs.YtebjbkbjmdnblaaW.PrintLast Go.Proofs.YtebjbkbjmdnblaaW.PrintMore

theorem mx_eq (a b : Int) : mx a b = max a b := by unfold mx; split <;> omega
theorem mn_eq (a b : Int) : mn a b = min a b := by unfold mn; split <;> omega
def sinceS (a b : Int) : Int := if a < 0 then 0 else if b < 0 then 0 else max 0 (min b 1099511627776 - min a 1099511627776)
theorem sinceS_range (a b : Int) : 0 ≤ sinceS a b ∧ sinceS a b ≤ 1099511627776 := by
  unfold sinceS
  split
  · omega
  · split <;> omega
theorem since_eq (a b : Int) : fresh_since.f a b = some (sinceS a b) := by
  unfold fresh_since.f sinceS
  split
  · rfl
  · split
    · rfl
    · rw [mx_eq, mn_eq, mn_eq, wrap_id (by omega) (by omega)]
def ageS (date age asked got now : Int) : Int := min (max (sinceS date got) (max 0 (min age 1099511627776) + sinceS asked got) + sinceS got now) 2147483648
theorem ageS_range (date age asked got now : Int) : 0 ≤ ageS date age asked got now ∧ ageS date age asked got now ≤ 2147483648 := by
  unfold ageS
  have h1 := sinceS_range date got
  have h2 := sinceS_range asked got
  have h3 := sinceS_range got now
  omega
def lifeS (code shared age date exp mod got : Int) : Int :=
  if shared ≥ 0 then min shared 2147483648 else if age ≥ 0 then min age 2147483648 else
  if exp ≥ 0 then (if date ≥ 0 then min (sinceS date exp) 2147483648 else min (sinceS (max got 0) exp) 2147483648) else
  if isKept code = true then min (sinceS mod date / 10) 86400 else 0
theorem lifeS_range (code shared age date exp mod got : Int) : 0 ≤ lifeS code shared age date exp mod got ∧ lifeS code shared age date exp mod got ≤ 2147483648 := by
  unfold lifeS
  have h1 := sinceS_range date exp
  have h2 := sinceS_range (max got 0) exp
  have h3 := sinceS_range mod date
  split
  · omega
  split
  · omega
  split
  · split <;> omega
  split <;> omega
def lateS (must proxy : Bool) (shared while_ rmin rmax by_ : Int) : Int :=
  if must = true ∨ proxy = true ∨ shared ≥ 0 then 2 else if rmax ≥ by_ then 0 else if while_ > by_ ∧ rmin ≤ 0 then 1 else 2
def stateS (nc must proxy : Bool) (shared while_ : Int) (rnc : Bool) (rage rmin rmax age life : Int) : Int :=
  if rnc = true ∨ nc = true ∨ (rage ≥ 0 ∧ rage < age) then 2 else if age ≥ life then lateS must proxy shared while_ rmin rmax (age - life) else if rmin > life - age then 2 else 0

variable (c0 : Int) (c1 c2 c3 c4 c5 c6 c7 : Bool) (c8 c9 c10 c11 c12 c13 c14 c15 c16 c17 c18 c19 : Int) (c20 : ByteArray)
theorem age_eq (now : Int) : fresh_Age.f c0 c1 c2 c3 c4 c5 c6 c7 c8 c9 c10 c11 c12 c13 c14 c15 c16 c17 c18 c19 c20 now = some (ageS c14 c17 c18 c19 now) := by
  unfold fresh_Age.f fresh_Age_1.f ageS
  have h1 := sinceS_range c14 c19
  have h2 := sinceS_range c18 c19
  have h3 := sinceS_range c19 now
  simp only [since_eq, Option.bind_some, mx_eq, mn_eq]
  generalize sinceS c14 c19 = x at *
  generalize sinceS c18 c19 = y at *
  generalize sinceS c19 now = z at *
  rw [wrap_id (x := max 0 (min c17 1099511627776) + y) (by omega) (by omega), wrap_id (by omega) (by omega)]
theorem life_ev : Ev (fun k => fresh_Lifetime.f k c0 c1 c2 c3 c4 c5 c6 c7 c8 c9 c10 c11 c12 c13 c14 c15 c16 c17 c18 c19 c20) (lifeS c0 c9 c8 c14 c15 c16 c19) := by
  unfold fresh_Lifetime.f lifeS
  by_cases h1 : c9 ≥ 0
  · simp only [if_pos h1, mn_eq]; exact Ev.now _
  simp only [if_neg h1]
  by_cases h2 : c8 ≥ 0
  · simp only [if_pos h2, mn_eq]; exact Ev.now _
  simp only [if_neg h2]
  have hj : ∀ b : Bool, (b = true → c15 ≥ 0 ∧ c14 ≥ 0) → (b = false → c15 ≥ 0 → ¬ c14 ≥ 0) → Ev (fun k => fresh_Lifetime.j0 k b c0 c1 c2 c3 c4 c5 c6 c7 c8 c9 c10 c11 c12 c13 c14 c15 c16 c17 c18 c19 c20)
      (if c15 ≥ 0 then (if c14 ≥ 0 then min (sinceS c14 c15) 2147483648 else min (sinceS (max c19 0) c15) 2147483648) else if isKept c0 = true then min (sinceS c16 c14 / 10) 86400 else 0) := by
    intro b hb1 hb2
    refine Ev.step (f := fun _ => some (if c15 ≥ 0 then (if c14 ≥ 0 then min (sinceS c14 c15) 2147483648 else min (sinceS (max c19 0) c15) 2147483648) else if isKept c0 = true then min (sinceS c16 c14 / 10) 86400 else 0)) (fun k => ?_) (Ev.now _)
    simp only [fresh_Lifetime.j0, since_eq, Option.bind_some, mn_eq, mx_eq, fresh_Heuristic.f]
    cases b with
    | true =>
      obtain ⟨q1, q2⟩ := hb1 rfl
      rw [if_pos rfl, if_pos q1, if_pos q2]
    | false =>
      rw [if_neg (by simp)]
      by_cases h3 : c15 ≥ 0
      · rw [if_pos h3, if_pos h3, if_neg (hb2 rfl h3)]
      · rw [if_neg h3, if_neg h3]
        have h4 := sinceS_range c16 c14
        rw [Int.tdiv_eq_ediv_of_nonneg h4.1, wrap_id (x := sinceS c16 c14 / 10) (by omega) (by omega)]
        split <;> rfl
  by_cases h3 : c15 ≥ 0
  · simp only [if_pos h3] at hj ⊢
    exact hj _ (fun h => ⟨h3, of_decide_eq_true h⟩) (fun h _ => of_decide_eq_false h)
  · simp only [if_neg h3] at hj ⊢
    exact hj _ (fun h => by cases h) (fun _ h => absurd h h3)
variable (r0 r1 r2 r3 r4 r5 r6 : Bool) (r7 r8 r9 r10 r11 r12 : Int)
theorem late_ev (by_ : Int) : Ev (fun k => fresh_late.f k c1 c2 c3 c4 c5 c6 c7 c8 c9 c10 c11 c12 c13 r0 r1 r2 r3 r4 r5 r6 r7 r8 r9 r10 r11 r12 by_) (lateS c5 c6 c9 c10 r11 r12 by_) := by
  have hj : ∀ b : Bool, Ev (fun k => fresh_late.j0 k by_ b c1 c2 c3 c4 c5 c6 c7 c8 c9 c10 c11 c12 c13 r0 r1 r2 r3 r4 r5 r6 r7 r8 r9 r10 r11 r12)
      (if b = true then 2 else if r12 ≥ by_ then 0 else if c10 > by_ ∧ r11 ≤ 0 then 1 else 2) := by
    intro b
    refine Ev.step (f := fun _ => some (if b = true then 2 else if r12 ≥ by_ then 0 else if c10 > by_ ∧ r11 ≤ 0 then 1 else 2)) (fun k => ?_) (Ev.now _)
    simp only [fresh_late.j0]
    cases b with
    | true => rfl
    | false =>
      simp only [if_neg (show ¬ false = true by simp)]
      by_cases q1 : r12 ≥ by_
      · simp only [if_pos q1]
      · by_cases q2 : c10 > by_
        · by_cases q3 : r11 ≤ 0
          · simp only [if_neg q1, if_pos q2, if_pos q3, if_pos (And.intro q2 q3)]
          · simp only [if_neg q1, if_pos q2, if_neg q3, if_neg (show ¬ (c10 > by_ ∧ r11 ≤ 0) from fun h => q3 h.2)]
        · simp only [if_neg q1, if_neg q2, if_neg (show ¬ (c10 > by_ ∧ r11 ≤ 0) from fun h => q2 h.1)]
  unfold fresh_late.f lateS
  by_cases h1 : c5 = true
  · simp only [if_pos h1, if_pos (show c5 = true ∨ c6 = true ∨ c9 ≥ 0 from Or.inl h1)]
    have := hj true
    simpa only [if_true] using this
  by_cases h2 : c6 = true
  · simp only [if_neg h1, if_pos h2, if_pos (show c5 = true ∨ c6 = true ∨ c9 ≥ 0 from Or.inr (Or.inl h2))]
    have := hj true
    simpa only [if_true] using this
  simp only [if_neg h1, if_neg h2]
  have := hj (decide (c9 ≥ 0))
  by_cases h3 : c9 ≥ 0
  · simp only [if_pos (show c5 = true ∨ c6 = true ∨ c9 ≥ 0 from Or.inr (Or.inr h3))]
    simpa only [decide_eq_true h3, if_true] using this
  · simp only [if_neg (show ¬ (c5 = true ∨ c6 = true ∨ c9 ≥ 0) from fun h => h.elim h1 (fun h => h.elim h2 h3))]
    simpa only [decide_eq_false h3, if_neg (show ¬ false = true by simp)] using this
theorem state_ev (now : Int) : Ev (fun k => fresh_State.f k c0 c1 c2 c3 c4 c5 c6 c7 c8 c9 c10 c11 c12 c13 c14 c15 c16 c17 c18 c19 c20 r0 r1 r2 r3 r4 r5 r6 r7 r8 r9 r10 r11 r12 now)
    (stateS c2 c5 c6 c9 c10 r1 r7 r11 r12 (ageS c14 c17 c18 c19 now) (lifeS c0 c9 c8 c14 c15 c16 c19)) := by
  unfold fresh_State.f
  simp only [age_eq, Option.bind_some]
  refine Ev.bind (life_ev c0 c1 c2 c3 c4 c5 c6 c7 c8 c9 c10 c11 c12 c13 c14 c15 c16 c17 c18 c19 c20) ?_
  have a1 := ageS_range c14 c17 c18 c19 now
  have a2 := lifeS_range c0 c9 c8 c14 c15 c16 c19
  generalize ageS c14 c17 c18 c19 now = A at *
  generalize lifeS c0 c9 c8 c14 c15 c16 c19 = L at *
  have hj : ∀ b : Bool, Ev (fun k => fresh_State.j0 k A L b c0 c1 c2 c3 c4 c5 c6 c7 c8 c9 c10 c11 c12 c13 c14 c15 c16 c17 c18 c19 c20 r0 r1 r2 r3 r4 r5 r6 r7 r8 r9 r10 r11 r12)
      (if b = true then 2 else if A ≥ L then lateS c5 c6 c9 c10 r11 r12 (A - L) else if r11 > L - A then 2 else 0) := by
    intro b
    cases b with
    | true =>
      refine Ev.step (f := fun _ => some 2) (fun k => ?_) (Ev.now _)
      simp only [fresh_State.j0, if_true]
    | false =>
      by_cases q1 : A ≥ L
      · simp only [if_neg (show ¬ false = true by simp), if_pos q1]
        refine Ev.step (f := fun k => (fresh_late.f k c1 c2 c3 c4 c5 c6 c7 c8 c9 c10 c11 c12 c13 r0 r1 r2 r3 r4 r5 r6 r7 r8 r9 r10 r11 r12 (A - L)).bind fun t => some t) (fun k => ?_)
          (Ev.bind (late_ev c1 c2 c3 c4 c5 c6 c7 c8 c9 c10 c11 c12 c13 r0 r1 r2 r3 r4 r5 r6 r7 r8 r9 r10 r11 r12 (A - L)) (Ev.now _))
        simp only [fresh_State.j0]
        rw [if_neg (by simp), if_pos q1, wrap_id (x := A - L) (by omega) (by omega)]
      · refine Ev.step (f := fun _ => some (if r11 > L - A then 2 else 0)) (fun k => ?_) (by simp only [if_neg (show ¬ false = true by simp), if_neg q1]; exact Ev.now _)
        simp only [fresh_State.j0]
        rw [if_neg (by simp), if_neg q1, wrap_id (x := L - A) (by omega) (by omega)]
        split <;> rfl
  unfold stateS
  by_cases h1 : r1 = true
  · simp only [if_pos h1, if_pos (show r1 = true ∨ c2 = true ∨ (r7 ≥ 0 ∧ r7 < A) from Or.inl h1)]
    simpa only [if_true] using hj true
  by_cases h2 : c2 = true
  · simp only [if_neg h1, if_pos h2, if_pos (show r1 = true ∨ c2 = true ∨ (r7 ≥ 0 ∧ r7 < A) from Or.inr (Or.inl h2))]
    simpa only [if_true] using hj true
  simp only [if_neg h1, if_neg h2]
  by_cases h3 : r7 ≥ 0
  · simp only [if_pos h3]
    have := hj (decide (r7 < A))
    by_cases h4 : r7 < A
    · simp only [if_pos (show r1 = true ∨ c2 = true ∨ (r7 ≥ 0 ∧ r7 < A) from Or.inr (Or.inr ⟨h3, h4⟩))]
      simpa only [decide_eq_true h4, if_true] using this
    · simp only [if_neg (show ¬ (r1 = true ∨ c2 = true ∨ (r7 ≥ 0 ∧ r7 < A)) from fun h => h.elim h1 (fun h => h.elim h2 (fun h => h4 h.2)))]
      simpa only [decide_eq_false h4, if_neg (show ¬ false = true by simp)] using this
  · simp only [if_neg h3, if_neg (show ¬ (r1 = true ∨ c2 = true ∨ (r7 ≥ 0 ∧ r7 < A)) from fun h => h.elim h1 (fun h => h.elim h2 (fun h => h3 h.1)))]
    simpa only [if_neg (show ¬ false = true by simp)] using hj false
end Go.Proofs.Ytebjbkbjmdnblaa.Hp
