/- Any response has the document's age, lifetime and state: the plain law, over what the walks show. -/
import Derived.Test.YtebjbkbjmdnblaaHp8
import Derived.Test.YtebjbkbjmdnblaaPFresh
set_option linter.unusedVariables false
set_option linter.unusedSimpArgs false
namespace Go.Proofs.Ytebjbkbjmdnblaa.Pure
open Go.RowKit Go.Proofs.Ytebjbkbjmdnblaa.Hp Go.Proofs.YtebjbkbjmdnblaaW.PrintWords Go.Proofs.YtebjbkbjmdnblaaW.PrintLast Go.Proofs.YtebjbkbjmdnblaaW.PrintMore

theorem cut_eq (a : Int) : gatepostref09_cut.f a = some (min a 1099511627776) := by
  unfold gatepostref09_cut.f
  split
  · rw [Int.min_eq_right (by omega)]
  · rw [Int.min_eq_left (by omega)]
theorem atMost_eq (a b : Int) : gatepostref09_atMost.f a b = some (min a b) := by
  unfold gatepostref09_atMost.f
  split
  · rw [Int.min_eq_right (by omega)]
  · rw [Int.min_eq_left (by omega)]
theorem less_ev (a b : Int) : Ev (fun k => gatepostref09_less.f k a b) (sinceS b a) := by
  unfold gatepostref09_less.f sinceS
  simp only [cut_eq, Option.bind_some]
  have hj : ∀ x : Bool, Ev (fun k => gatepostref09_less.j0 k a b x) (if x = true then 0 else wrap64 (min a 1099511627776 - min b 1099511627776)) := by
    intro x
    refine Ev.step (f := fun _ => some (if x = true then 0 else wrap64 (min a 1099511627776 - min b 1099511627776))) (fun k => ?_) (Ev.now _)
    simp only [gatepostref09_less.j0, cut_eq, Option.bind_some]
    cases x <;> rfl
  by_cases h1 : a < 0
  · simp only [if_pos h1]
    have : (if b < 0 then (0 : Int) else 0) = 0 := by split <;> rfl
    rw [this]
    simpa only [if_true] using hj true
  by_cases h2 : b < 0
  · simp only [if_neg h1, if_pos h2]
    simpa only [if_true] using hj true
  simp only [if_neg h1, if_neg h2]
  have := hj (decide (min a 1099511627776 < min b 1099511627776))
  by_cases h3 : min a 1099511627776 < min b 1099511627776
  · rw [show max 0 (min a 1099511627776 - min b 1099511627776) = (0 : Int) from by omega]
    simpa only [decide_eq_true h3, if_true] using this
  · rw [show max 0 (min a 1099511627776 - min b 1099511627776) = min a 1099511627776 - min b 1099511627776 from by omega]
    simp only [decide_eq_false h3, if_neg (show ¬ false = true by simp)] at this ⊢
    rwa [wrap_id (by omega) (by omega)] at this

variable (c0 : Int) (c1 c2 c3 c4 c5 c6 c7 : Bool) (c8 c9 c10 c11 c12 c13 c14 c15 c16 c17 c18 c19 : Int) (c20 : ByteArray)
theorem ref_age_ev (now : Int) : Ev (fun k => gatepostref09_Age.f k c0 c1 c2 c3 c4 c5 c6 c7 c8 c9 c10 c11 c12 c13 c14 c15 c16 c17 c18 c19 c20 now) (ageS c14 c17 c18 c19 now) := by
  have hj : ∀ y : Int, y = max 0 (min c17 1099511627776) → Ev (fun k => gatepostref09_Age.j0 k now (sinceS c14 c19) y c0 c1 c2 c3 c4 c5 c6 c7 c8 c9 c10 c11 c12 c13 c14 c15 c16 c17 c18 c19 c20) (ageS c14 c17 c18 c19 now) := by
    intro y hy
    have h1 := sinceS_range c14 c19
    have h2 := sinceS_range c18 c19
    have h3 := sinceS_range c19 now
    have e2 := less_ev c19 c18
    have e3 := less_ev now c19
    unfold ageS
    rw [← hy]
    generalize sinceS c14 c19 = u at *
    generalize sinceS c18 c19 = v at *
    generalize sinceS c19 now = z at *
    refine Ev.step (f := fun k => (gatepostref09_less.f k c19 c18).bind fun t => if u > wrap64 (y + t) then (gatepostref09_less.f k now c19).bind fun q => some (min (wrap64 (u + q)) 2147483648) else (gatepostref09_less.f k now c19).bind fun q => some (min (wrap64 (wrap64 (y + t) + q)) 2147483648)) (fun k => ?_) (Ev.bind e2 ?_)
    · simp only [gatepostref09_Age.j0, atMost_eq, Option.bind_some]
    · rw [wrap_id (x := y + v) (by omega) (by omega)]
      by_cases h : u > y + v
      · simp only [if_pos h]
        refine Ev.bind e3 ?_
        rw [wrap_id (by omega) (by omega), show max u (y + v) = u from by omega]
        exact Ev.now _
      · simp only [if_neg h]
        refine Ev.bind e3 ?_
        rw [wrap_id (by omega) (by omega), show max u (y + v) = y + v from by omega]
        exact Ev.now _
  unfold gatepostref09_Age.f
  refine Ev.bind (less_ev c19 c14) ?_
  simp only [cut_eq, Option.bind_some]
  by_cases h : c17 > 0
  · simp only [if_pos h]
    exact hj _ (by omega)
  · simp only [if_neg h]
    exact hj _ (by omega)
theorem ref_heur (c : Int) : gatepostref09_Heuristic.f c = some (isKept c) := by
  have st : ∀ (n : Int) (b : Bool) (x : Option Bool), x = some b → (if c = n then some true else x) = some (c == n || b) := by
    intro n b x hx
    by_cases h : c = n
    · rw [if_pos h, h, beq_self_eq_true, Bool.true_or]
    · rw [if_neg h, hx, beq_eq_false_iff_ne.mpr h, Bool.false_or]
  have e : isKept c = (c == 200 || (c == 203 || (c == 204 || (c == 206 || (c == 300 || (c == 301 || (c == 308 || (c == 404 || (c == 405 || (c == 410 || (c == 414 || (c == 501 || false)))))))))))) := rfl
  rw [e]
  unfold gatepostref09_Heuristic.f
  exact st _ _ _ (st _ _ _ (st _ _ _ (st _ _ _ (st _ _ _ (st _ _ _ (st _ _ _ (st _ _ _ (st _ _ _ (st _ _ _ (st _ _ _ (st _ _ _ rfl)))))))))))
theorem since_none (a b : Int) (h : a < 0 ∨ b < 0) : sinceS a b = 0 := by
  unfold sinceS
  by_cases h1 : a < 0
  · rw [if_pos h1]
  · rw [if_neg h1, if_pos (by omega)]
theorem ref_life_ev : Ev (fun k => gatepostref09_Lifetime.f k c0 c1 c2 c3 c4 c5 c6 c7 c8 c9 c10 c11 c12 c13 c14 c15 c16 c17 c18 c19 c20) (lifeS c0 c9 c8 c14 c15 c16 c19) := by
  unfold gatepostref09_Lifetime.f lifeS
  simp only [atMost_eq, Option.bind_some, ref_heur]
  by_cases h1 : c9 ≥ 0
  · simp only [if_pos h1]; exact Ev.now _
  by_cases h2 : c8 ≥ 0
  · simp only [if_neg h1, if_pos h2]; exact Ev.now _
  simp only [if_neg h1, if_neg h2]
  by_cases h3 : c15 ≥ 0
  · simp only [if_pos h3]
    have hj : ∀ x : Int, Ev (fun k => gatepostref09_Lifetime.j0 k x c0 c1 c2 c3 c4 c5 c6 c7 c8 c9 c10 c11 c12 c13 c14 c15 c16 c17 c18 c19 c20) (min (sinceS (max x 0) c15) 2147483648) := by
      intro x
      by_cases h : x < 0
      · rw [show max x 0 = (0 : Int) from by omega]
        refine Ev.step (f := fun k => (gatepostref09_less.f k c15 0).bind fun t => some (min t 2147483648)) (fun k => ?_) (Ev.bind (less_ev c15 0) (Ev.now _))
        simp only [gatepostref09_Lifetime.j0, if_pos h, atMost_eq, Option.bind_some]
      · rw [show max x 0 = x from by omega]
        refine Ev.step (f := fun k => (gatepostref09_less.f k c15 x).bind fun t => some (min t 2147483648)) (fun k => ?_) (Ev.bind (less_ev c15 x) (Ev.now _))
        simp only [gatepostref09_Lifetime.j0, if_neg h, atMost_eq, Option.bind_some]
    by_cases h4 : c14 < 0
    · simp only [if_pos h4, if_neg (show ¬ c14 ≥ 0 from by omega)]
      exact hj c19
    · simp only [if_neg h4, if_pos (show c14 ≥ 0 from by omega)]
      have := hj c14
      rwa [show max c14 0 = c14 from by omega] at this
  simp only [if_neg h3]
  have hj : ∀ x : Bool, Ev (fun k => gatepostref09_Lifetime.j1 k x c0 c1 c2 c3 c4 c5 c6 c7 c8 c9 c10 c11 c12 c13 c14 c15 c16 c17 c18 c19 c20) (if x = true then min (sinceS c16 c14 / 10) 86400 else 0) := by
    intro x
    cases x with
    | true =>
      have h4 := sinceS_range c16 c14
      have e := less_ev c14 c16
      refine Ev.step (f := fun k => (gatepostref09_less.f k c14 c16).bind fun t => some (min (wrap64 (Int.tdiv t 10)) 86400)) (fun k => ?_) (Ev.bind e ?_)
      · simp only [gatepostref09_Lifetime.j1, atMost_eq, Option.bind_some, if_true]
      · rw [Int.tdiv_eq_ediv_of_nonneg h4.1, wrap_id (x := sinceS c16 c14 / 10) (by omega) (by omega), if_pos rfl]
        exact Ev.now _
    | false =>
      refine Ev.step (f := fun _ => some 0) (fun k => ?_) (Ev.now _)
      simp only [gatepostref09_Lifetime.j1]
      rw [if_neg (by simp)]
  by_cases h4 : isKept c0 = true
  · simp only [if_pos h4]
    by_cases h5 : c16 ≥ 0
    · simp only [if_pos h5]
      have := hj (decide (c14 ≥ 0))
      by_cases h6 : c14 ≥ 0
      · simpa only [decide_eq_true h6, if_true] using this
      · simp only [decide_eq_false h6, if_neg (show ¬ false = true by simp)] at this ⊢
        rw [since_none c16 c14 (by omega)]; exact this
    · simp only [if_neg h5]
      have := hj false
      rw [if_neg (by simp)] at this
      rw [since_none c16 c14 (by omega)]; exact this
  · simp only [if_neg h4]
    have := hj false
    rwa [if_neg (by simp)] at this
variable (r0 r1 r2 r3 r4 r5 r6 : Bool) (r7 r8 r9 r10 r11 r12 : Int)
theorem ref_state_ev (now : Int) : Ev (fun k => gatepostref09_State.f k c0 c1 c2 c3 c4 c5 c6 c7 c8 c9 c10 c11 c12 c13 c14 c15 c16 c17 c18 c19 c20 r0 r1 r2 r3 r4 r5 r6 r7 r8 r9 r10 r11 r12 now)
    (stateS c2 c5 c6 c9 c10 r1 r7 r11 r12 (ageS c14 c17 c18 c19 now) (lifeS c0 c9 c8 c14 c15 c16 c19)) := by
  unfold gatepostref09_State.f
  refine Ev.bind (ref_age_ev c0 c1 c2 c3 c4 c5 c6 c7 c8 c9 c10 c11 c12 c13 c14 c15 c16 c17 c18 c19 c20 now) ?_
  refine Ev.bind (ref_life_ev c0 c1 c2 c3 c4 c5 c6 c7 c8 c9 c10 c11 c12 c13 c14 c15 c16 c17 c18 c19 c20) ?_
  have a1 := ageS_range c14 c17 c18 c19 now
  have a2 := lifeS_range c0 c9 c8 c14 c15 c16 c19
  generalize ageS c14 c17 c18 c19 now = A at *
  generalize lifeS c0 c9 c8 c14 c15 c16 c19 = L at *
  have ff : ¬ false = true := by simp
  have h2 : ∀ (y : Int) (x : Bool), 0 ≤ y → (x = true ↔ r12 ≥ y) → Ev (fun k => gatepostref09_State.j2 k y x c0 c1 c2 c3 c4 c5 c6 c7 c8 c9 c10 c11 c12 c13 c14 c15 c16 c17 c18 c19 c20 r0 r1 r2 r3 r4 r5 r6 r7 r8 r9 r10 r11 r12) (if r12 ≥ y then 0 else if c10 > y ∧ r11 ≤ 0 then 1 else 2) := by
    intro y x hy hx
    refine Ev.step (f := fun _ => some (if r12 ≥ y then 0 else if c10 > y ∧ r11 ≤ 0 then 1 else 2)) (fun k => ?_) (Ev.now _)
    simp only [gatepostref09_State.j2]
    by_cases q : r12 ≥ y
    · rw [if_pos (hx.mpr q), if_pos q]
    · rw [if_neg (fun h => q (hx.mp h)), if_neg q]
      repeat' split
      all_goals first | rfl | (exfalso; omega)
  have h1 : ∀ (y : Int) (x : Bool), 0 ≤ y → Ev (fun k => gatepostref09_State.j1 k y x c0 c1 c2 c3 c4 c5 c6 c7 c8 c9 c10 c11 c12 c13 c14 c15 c16 c17 c18 c19 c20 r0 r1 r2 r3 r4 r5 r6 r7 r8 r9 r10 r11 r12) (if x = true then 2 else if r12 ≥ y then 0 else if c10 > y ∧ r11 ≤ 0 then 1 else 2) := by
    intro y x hy
    cases x with
    | true =>
      refine Ev.step (f := fun _ => some 2) (fun k => ?_) (Ev.now _)
      simp only [gatepostref09_State.j1, if_true]
    | false =>
      simp only [if_neg ff]
      by_cases q : r12 ≥ 0
      · refine Ev.step (f := fun k => gatepostref09_State.j2 k y (decide (r12 ≥ y)) c0 c1 c2 c3 c4 c5 c6 c7 c8 c9 c10 c11 c12 c13 c14 c15 c16 c17 c18 c19 c20 r0 r1 r2 r3 r4 r5 r6 r7 r8 r9 r10 r11 r12) (fun k => ?_) (h2 y _ hy (by simp))
        simp only [gatepostref09_State.j1, if_neg ff, if_pos q]
      · refine Ev.step (f := fun k => gatepostref09_State.j2 k y false c0 c1 c2 c3 c4 c5 c6 c7 c8 c9 c10 c11 c12 c13 c14 c15 c16 c17 c18 c19 c20 r0 r1 r2 r3 r4 r5 r6 r7 r8 r9 r10 r11 r12) (fun k => ?_) (h2 y _ hy ⟨fun h => (by cases h), fun h => (by omega)⟩)
        simp only [gatepostref09_State.j1, if_neg ff, if_neg q]
  have h0 : ∀ b : Bool, Ev (fun k => gatepostref09_State.j0 k A L b c0 c1 c2 c3 c4 c5 c6 c7 c8 c9 c10 c11 c12 c13 c14 c15 c16 c17 c18 c19 c20 r0 r1 r2 r3 r4 r5 r6 r7 r8 r9 r10 r11 r12)
      (if b = true then 2 else if A ≥ L then lateS c5 c6 c9 c10 r11 r12 (A - L) else if r11 > L - A then 2 else 0) := by
    intro b
    cases b with
    | true =>
      refine Ev.step (f := fun _ => some 2) (fun k => ?_) (Ev.now _)
      simp only [gatepostref09_State.j0, if_true]
    | false =>
      simp only [if_neg ff]
      by_cases q : A < L
      · rw [if_neg (show ¬ A ≥ L from by omega)]
        refine Ev.step (f := fun _ => some (if r11 > L - A then 2 else 0)) (fun k => ?_) (Ev.now _)
        simp only [gatepostref09_State.j0, if_neg ff, if_pos q]
        rw [wrap_id (x := L - A) (by omega) (by omega)]
        repeat' split
        all_goals first | rfl | (exfalso; omega)
      · rw [if_pos (show A ≥ L from by omega)]
        have w : wrap64 (A - L) = A - L := wrap_id (by omega) (by omega)
        unfold lateS
        by_cases q1 : c5 = true
        · rw [if_pos (show c5 = true ∨ c6 = true ∨ c9 ≥ 0 from Or.inl q1)]
          refine Ev.step (f := fun k => gatepostref09_State.j1 k (A - L) true c0 c1 c2 c3 c4 c5 c6 c7 c8 c9 c10 c11 c12 c13 c14 c15 c16 c17 c18 c19 c20 r0 r1 r2 r3 r4 r5 r6 r7 r8 r9 r10 r11 r12) (fun k => ?_) (by simpa only [if_true] using h1 (A - L) true (by omega))
          simp only [gatepostref09_State.j0, if_neg ff, if_neg q, if_pos q1, w]
        by_cases q2 : c6 = true
        · rw [if_pos (show c5 = true ∨ c6 = true ∨ c9 ≥ 0 from Or.inr (Or.inl q2))]
          refine Ev.step (f := fun k => gatepostref09_State.j1 k (A - L) true c0 c1 c2 c3 c4 c5 c6 c7 c8 c9 c10 c11 c12 c13 c14 c15 c16 c17 c18 c19 c20 r0 r1 r2 r3 r4 r5 r6 r7 r8 r9 r10 r11 r12) (fun k => ?_) (by simpa only [if_true] using h1 (A - L) true (by omega))
          simp only [gatepostref09_State.j0, if_neg ff, if_neg q, if_neg q1, if_pos q2, w]
        have := h1 (A - L) (decide (c9 ≥ 0)) (by omega)
        refine Ev.step (f := fun k => gatepostref09_State.j1 k (A - L) (decide (c9 ≥ 0)) c0 c1 c2 c3 c4 c5 c6 c7 c8 c9 c10 c11 c12 c13 c14 c15 c16 c17 c18 c19 c20 r0 r1 r2 r3 r4 r5 r6 r7 r8 r9 r10 r11 r12) (fun k => ?_) ?_
        · simp only [gatepostref09_State.j0, if_neg ff, if_neg q, if_neg q1, if_neg q2, w]
        by_cases q3 : c9 ≥ 0
        · rw [if_pos (show c5 = true ∨ c6 = true ∨ c9 ≥ 0 from Or.inr (Or.inr q3))]
          simpa only [decide_eq_true q3, if_true] using this
        · rw [if_neg (show ¬ (c5 = true ∨ c6 = true ∨ c9 ≥ 0) from fun h => h.elim q1 (fun h => h.elim q2 q3))]
          simpa only [decide_eq_false q3, if_neg ff] using this
  unfold stateS
  by_cases q1 : r1 = true
  · simp only [if_pos q1, if_pos (show r1 = true ∨ c2 = true ∨ (r7 ≥ 0 ∧ r7 < A) from Or.inl q1)]
    simpa only [if_true] using h0 true
  by_cases q2 : c2 = true
  · simp only [if_neg q1, if_pos q2, if_pos (show r1 = true ∨ c2 = true ∨ (r7 ≥ 0 ∧ r7 < A) from Or.inr (Or.inl q2))]
    simpa only [if_true] using h0 true
  simp only [if_neg q1, if_neg q2]
  by_cases q3 : r7 ≥ 0
  · simp only [if_pos q3]
    have := h0 (decide (r7 < A))
    by_cases q4 : r7 < A
    · simp only [if_pos (show r1 = true ∨ c2 = true ∨ (r7 ≥ 0 ∧ r7 < A) from Or.inr (Or.inr ⟨q3, q4⟩))]
      simpa only [decide_eq_true q4, if_true] using this
    · simp only [if_neg (show ¬ (r1 = true ∨ c2 = true ∨ (r7 ≥ 0 ∧ r7 < A)) from fun h => h.elim q1 (fun h => h.elim q2 (fun h => q4 h.2)))]
      simpa only [decide_eq_false q4, if_neg ff] using this
  · simp only [if_neg q3, if_neg (show ¬ (r1 = true ∨ c2 = true ∨ (r7 ≥ 0 ∧ r7 < A)) from fun h => h.elim q1 (fun h => h.elim q2 (fun h => q3 h.1)))]
    simpa only [if_neg ff] using h0 false
theorem FreshTells (now : Int) : ∃ k, gatepostlaw09_FreshTells.f k c0 c1 c2 c3 c4 c5 c6 c7 c8 c9 c10 c11 c12 c13 c14 c15 c16 c17 c18 c19 c20 r0 r1 r2 r3 r4 r5 r6 r7 r8 r9 r10 r11 r12 now = some true := by
  refine Ev.rounds ?_
  unfold gatepostlaw09_FreshTells.f
  have hk : isKept 404 = true := by decide
  simp only [age_eq, ref_heur, fresh_Heuristic.f, Option.bind_some]
  refine Ev.bind (ref_age_ev c0 c1 c2 c3 c4 c5 c6 c7 c8 c9 c10 c11 c12 c13 c14 c15 c16 c17 c18 c19 c20 now) ?_
  simp only [if_true]
  refine Ev.bind (life_ev c0 c1 c2 c3 c4 c5 c6 c7 c8 c9 c10 c11 c12 c13 c14 c15 c16 c17 c18 c19 c20) ?_
  refine Ev.bind (ref_life_ev c0 c1 c2 c3 c4 c5 c6 c7 c8 c9 c10 c11 c12 c13 c14 c15 c16 c17 c18 c19 c20) ?_
  simp only [if_true]
  refine Ev.bind (state_ev c0 c1 c2 c3 c4 c5 c6 c7 c8 c9 c10 c11 c12 c13 c14 c15 c16 c17 c18 c19 c20 r0 r1 r2 r3 r4 r5 r6 r7 r8 r9 r10 r11 r12 now) ?_
  refine Ev.bind (ref_state_ev c0 c1 c2 c3 c4 c5 c6 c7 c8 c9 c10 c11 c12 c13 c14 c15 c16 c17 c18 c19 c20 r0 r1 r2 r3 r4 r5 r6 r7 r8 r9 r10 r11 r12 now) ?_
  simp only [if_true, beq_self_eq_true, hk]
  exact Ev.now _
end Go.Proofs.Ytebjbkbjmdnblaa.Pure
