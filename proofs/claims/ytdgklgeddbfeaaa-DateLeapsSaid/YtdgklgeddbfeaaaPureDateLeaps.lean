/- There is a 29th of February just in each fourth year, but not in each hundredth, but in each four hundredth: the plain law, over what the walks show. No condition beside the row's own bounds. -/
import Derived.Test.YtdgklgeddbfeaaaHp1
import Derived.Test.YtdgklgeddbfeaaaPDays
namespace Go.Proofs.Ytdgklgeddbfeaaa.Pure
open Go.RowKit Go.Proofs.Ytdgklgeddbfeaaa.Hp Go.Proofs.YtdgklgeddbfeaaaW.PrintWords Go.Proofs.YtdgklgeddbfeaaaW.PrintLast

theorem parts_uniq (e B Q R e' B' Q' R' : Int) (h : 100 * B + 4 * Q + R + 400 * e = 100 * B' + 4 * Q' + R' + 400 * e') (a1 : 0 ≤ B) (a2 : B ≤ 3) (a3 : 0 ≤ Q) (a4 : Q ≤ 24) (a5 : 0 ≤ R) (a6 : R ≤ 3) (b1 : 0 ≤ B') (b2 : B' ≤ 3) (b3 : 0 ≤ Q') (b4 : Q' ≤ 24) (b5 : 0 ≤ R') (b6 : R' ≤ 3) :
    e = e' ∧ B = B' ∧ Q = Q' ∧ R = R' := by
  have e1 : e = e' := by omega
  have e2 : B = B' := by omega
  have e3 : Q = Q' := by omega
  exact ⟨e1, e2, e3, by omega⟩
theorem year_long (y : Int) (h0 : 1970 ≤ y) : numD y 12 31 - numD y 1 1 + 1 = if leapP y then 366 else 365 := by
  unfold numD
  rw [if_neg (by omega), if_pos (by omega)]
  obtain ⟨e, B, Q, R, he, a1, a2, a3, a4, a5, a6, hY, hn⟩ := numY_parts (y - 1) (1 + 9) 1 (by omega)
  obtain ⟨e', B', Q', R', he', b1, b2, b3, b4, b5, b6, hY', hn'⟩ := numY_parts y (12 - 3) 31 (by omega)
  have hl := leap_next e B Q R a1 a2 a3 a4 a5 a6
  rw [← hY, show y - 1 + 1 = y from by omega] at hl
  rw [hn, hn']
  by_cases hR : R ≤ 2
  · obtain ⟨rfl, rfl, rfl, rfl⟩ := parts_uniq e' B' Q' R' e B Q (R + 1) (by omega) b1 b2 b3 b4 b5 b6 a1 a2 a3 a4 (by omega) (by omega)
    rw [if_neg (fun h => by have := hl.1 h; omega)]
    omega
  · by_cases hQ : Q ≤ 23
    · obtain ⟨rfl, rfl, rfl, rfl⟩ := parts_uniq e' B' Q' R' e B (Q + 1) 0 (by omega) b1 b2 b3 b4 b5 b6 a1 a2 (by omega) (by omega) (by omega) (by omega)
      rw [if_pos (hl.2 (by omega))]
      omega
    · by_cases hB : B ≤ 2
      · obtain ⟨rfl, rfl, rfl, rfl⟩ := parts_uniq e' B' Q' R' e (B + 1) 0 0 (by omega) b1 b2 b3 b4 b5 b6 (by omega) (by omega) (by omega) (by omega) (by omega) (by omega)
        rw [if_neg (fun h => by have := hl.1 h; omega)]
        omega
      · obtain ⟨rfl, rfl, rfl, rfl⟩ := parts_uniq e' B' Q' R' (e + 1) 0 0 0 (by omega) b1 b2 b3 b4 b5 b6 (by omega) (by omega) (by omega) (by omega) (by omega) (by omega)
        rw [if_pos (hl.2 (by omega))]
        omega
theorem leaps_core (y : Int) (b : Bool) (h0 : 1970 ≤ y) (h1 : y ≤ 10161) (hb : y ≤ 9999 → b = decide (leapP y)) : Ev (fun k => gatepostlaw02_DateLeaps.j0 k y b) true := by
  refine Ev.step (fun k => by simp only [gatepostlaw02_DateLeaps.j0]; exact rfl) ?_
  refine Ev.bind (date_days_ev y 2 29) ?_
  refine Ev.bind (date_days_ev y 12 31) ?_
  refine Ev.bind (date_days_ev y 1 1) ?_
  by_cases hy : y > 9999
  · simp only [if_pos hy]
    rw [show daysS y 2 29 = -1 from if_neg (by omega)]
    exact Ev.now _
  simp only [if_neg hy]
  have d1 : daysS y 1 1 = numD y 1 1 := if_pos ⟨h0, by omega, by omega, by omega, by omega, by unfold dim; simp⟩
  have d2 : daysS y 12 31 = numD y 12 31 := if_pos ⟨h0, by omega, by omega, by omega, by omega, by unfold dim; simp⟩
  have d3 : daysS y 2 28 = numD y 2 28 := if_pos ⟨h0, by omega, by omega, by omega, by omega, by unfold dim; simp only [if_true]; split <;> omega⟩
  have n3 := (civil_num y 2 28 h0 (by omega) (by omega) (by omega) (by omega) (by unfold dim; simp only [if_true]; split <;> omega)).1
  have n1 := civil_num y 1 1 h0 (by omega) (by omega) (by omega) (by omega) (by unfold dim; simp)
  have n2 := civil_num y 12 31 h0 (by omega) (by omega) (by omega) (by omega) (by unfold dim; simp)
  have hlong : numD y 12 31 - numD y 1 1 + 1 = if leapP y then 366 else 365 := by
    exact year_long y h0
  have hd5 : daysS y 13 1 = -1 := if_neg (by omega)
  have hd4 : daysS y 2 29 = if leapP y then numD y 2 29 else -1 := by
    unfold daysS
    by_cases hl : leapP y
    · rw [if_pos ⟨h0, by omega, by omega, by omega, by omega, by unfold dim; simp [hl]⟩, if_pos hl]
    · rw [if_neg (fun h => by have := h.2.2.2.2.2; unfold dim at this; simp [hl] at this), if_neg hl]
  rw [d1, d2, hd4, hb (by omega)]
  rw [wrap_id (x := numD y 12 31 - numD y 1 1) (by omega) (by omega), wrap_id (x := numD y 12 31 - numD y 1 1 + 1) (by omega) (by omega), hlong]
  have key : Ev (fun k => (date_Days.f k y 2 28).bind fun t110 => (if t110 ≥ 0 then ((date_Days.f k y 13 1).bind fun t111 => (some (t111 == (-1)))) else (some false))) true := by
    refine Ev.bind (date_days_ev y 2 28) ?_
    rw [d3]
    simp only [if_pos n3]
    refine Ev.bind (date_days_ev y 13 1) ?_
    rw [hd5]
    exact Ev.now _
  by_cases hl : leapP y
  · have n4 := (civil_num y 2 29 h0 (by omega) (by omega) (by omega) (by omega) (by unfold dim; simp [hl])).1
    simp only [if_pos hl, decide_eq_true hl, decide_eq_true n4]
    simpa using key
  · simp only [if_neg hl, decide_eq_false hl]
    simpa using key

theorem DateLeaps : gatepostlaw02_DateLeaps.Pure := by
  intro x hw
  obtain ⟨a0, a1⟩ := and_range x 8191 (by omega) (by omega)
  refine Ev.rounds ?_
  unfold gatepostlaw02_DateLeaps.f
  generalize bits .and .i64 x 8191 = a at *
  simp only [wrap_id (x := 1970 + a) (by omega) (by omega)]
  simp only [tmod_nn (x := 1970 + a) (show (0 : Int) ≤ 1970 + a by omega)]
  have hl : ∀ b : Bool, (b = decide (leapP (1970 + a))) → Ev (fun k => gatepostlaw02_DateLeaps.j0 k (1970 + a) b) true := fun b hb => leaps_core (1970 + a) b (by omega) (by omega) (fun _ => hb)
  by_cases h4 : (1970 + a) % 4 = 0
  · simp only [if_pos h4]
    by_cases h100 : (1970 + a) % 100 = 0
    · simp only [if_pos h100]
      refine hl _ ?_
      unfold leapP
      by_cases h400 : (1970 + a) % 400 = 0
      · simp [h4, h100, h400]
      · simp [h4, h100, h400]
    · simp only [if_neg h100]
      refine hl _ ?_
      unfold leapP
      simp [h4, h100]
  · simp only [if_neg h4]
    refine hl _ ?_
    unfold leapP
    simp [h4]
end Go.Proofs.Ytdgklgeddbfeaaa.Pure
