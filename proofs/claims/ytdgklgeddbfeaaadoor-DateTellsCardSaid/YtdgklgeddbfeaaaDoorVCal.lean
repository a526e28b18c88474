/- The calendar: days, and years that begin with March; plain numbers, no program. -/
import Derived.Test.YtdgklgeddbfeaaaDoorVmHo
set_option linter.unusedVariables false
set_option linter.unusedSimpArgs false
namespace Go.Proofs.YtdgklgeddbfeaaaDoor.Vh

/-- Years that begin with March: the day n of 400 years is the day s of the year 100B + 4Q + R. -/
theorem years_ok (n y : Int) (h0 : 0 ≤ n) (h1 : n < 146097) (hy : y = (n - n / 1460 + n / 36524 - n / 146096) / 365) :
    ∃ B Q R s : Int, 0 ≤ B ∧ B ≤ 3 ∧ 0 ≤ Q ∧ Q ≤ 24 ∧ 0 ≤ R ∧ R ≤ 3 ∧ 0 ≤ s ∧ s ≤ 365 ∧ (s = 365 → R = 3 ∧ (Q ≤ 23 ∨ B = 3)) ∧ n = 36524 * B + 1461 * Q + 365 * R + s ∧ y = 100 * B + 4 * Q + R := by
  obtain ⟨B, hB0, hB3, r, hr0, hr1, hn⟩ : ∃ B : Int, 0 ≤ B ∧ B ≤ 3 ∧ ∃ r : Int, 0 ≤ r ∧ (r ≤ 36523 ∨ B = 3 ∧ r ≤ 36524) ∧ n = 36524 * B + r := by
    by_cases h : n = 146096
    · exact ⟨3, by omega, by omega, 36524, by omega, by omega, by omega⟩
    · exact ⟨n / 36524, by omega, by omega, n - 36524 * (n / 36524), by omega, by omega, by omega⟩
  obtain ⟨Q, hQ0, hQ4, s0, hs0, hs1, hr⟩ : ∃ Q : Int, 0 ≤ Q ∧ Q ≤ 24 ∧ ∃ s : Int, 0 ≤ s ∧ s ≤ 1460 ∧ r = 1461 * Q + s :=
    ⟨r / 1461, by omega, by omega, r - 1461 * (r / 1461), by omega, by omega, by omega⟩
  obtain ⟨R, hR0, hR3, s, hs2, hs3, hs⟩ : ∃ R : Int, 0 ≤ R ∧ R ≤ 3 ∧ ∃ s : Int, 0 ≤ s ∧ (s ≤ 364 ∨ R = 3 ∧ s ≤ 365) ∧ s0 = 365 * R + s := by
    by_cases h : s0 = 1460
    · exact ⟨3, by omega, by omega, 365, by omega, by omega, by omega⟩
    · exact ⟨s0 / 365, by omega, by omega, s0 - 365 * (s0 / 365), by omega, by omega, by omega⟩
  refine ⟨B, Q, R, s, hB0, hB3, hQ0, hQ4, hR0, hR3, hs2, by omega, by omega, by omega, ?_⟩
  subst hs hr hn
  obtain ⟨t, ht, ht01⟩ : ∃ t, (36524 * B + (1461 * Q + (365 * R + s))) / 1460 = 25 * B + Q + t ∧ (t = 0 ∧ 24 * B + Q + 365 * R + s < 1460 ∨ t = 1 ∧ 1460 ≤ 24 * B + Q + 365 * R + s) := by
    by_cases h : 24 * B + Q + 365 * R + s < 1460
    · exact ⟨0, by omega, by omega⟩
    · exact ⟨1, by omega, by omega⟩
  have hu : (36524 * B + (1461 * Q + (365 * R + s))) / 36524 - (36524 * B + (1461 * Q + (365 * R + s))) / 146096 = B := by omega
  rw [hy]
  omega
def mlen (k : Int) : Int := if k = 1 ∨ k = 3 ∨ k = 6 ∨ k = 8 then 30 else if k = 11 then 29 else 31
theorem month_ok (s k : Int) (h0 : 0 ≤ s) (h1 : s ≤ 365) (hk : k = (5 * s + 2) / 153) : 0 ≤ k ∧ k ≤ 11 ∧ 1 ≤ s - (153 * k + 2) / 5 + 1 ∧ s - (153 * k + 2) / 5 + 1 ≤ mlen k := by
  have hk12 : k = 0 ∨ k = 1 ∨ k = 2 ∨ k = 3 ∨ k = 4 ∨ k = 5 ∨ k = 6 ∨ k = 7 ∨ k = 8 ∨ k = 9 ∨ k = 10 ∨ k = 11 := by omega
  unfold mlen
  rcases hk12 with rfl | rfl | rfl | rfl | rfl | rfl | rfl | rfl | rfl | rfl | rfl | rfl <;> simp <;> omega
theorem month_of (k d : Int) (h0 : 0 ≤ k) (h1 : k ≤ 11) (hd1 : 1 ≤ d) (hd2 : d ≤ mlen k) : 0 ≤ (153 * k + 2) / 5 + d - 1 ∧ (153 * k + 2) / 5 + d - 1 ≤ 365 ∧ (5 * ((153 * k + 2) / 5 + d - 1) + 2) / 153 = k := by
  have hk12 : k = 0 ∨ k = 1 ∨ k = 2 ∨ k = 3 ∨ k = 4 ∨ k = 5 ∨ k = 6 ∨ k = 7 ∨ k = 8 ∨ k = 9 ∨ k = 10 ∨ k = 11 := by omega
  unfold mlen at hd2
  rcases hk12 with rfl | rfl | rfl | rfl | rfl | rfl | rfl | rfl | rfl | rfl | rfl | rfl <;> simp at hd2 <;> omega
theorem years_uniq (B Q R s B' Q' R' s' : Int) (h : 36524 * B + 1461 * Q + 365 * R + s = 36524 * B' + 1461 * Q' + 365 * R' + s')
    (a1 : 0 ≤ B) (a2 : B ≤ 3) (a3 : 0 ≤ Q) (a4 : Q ≤ 24) (a5 : 0 ≤ R) (a6 : R ≤ 3) (a7 : 0 ≤ s) (a8 : s ≤ 365) (a9 : s = 365 → R = 3 ∧ (Q ≤ 23 ∨ B = 3))
    (b1 : 0 ≤ B') (b2 : B' ≤ 3) (b3 : 0 ≤ Q') (b4 : Q' ≤ 24) (b5 : 0 ≤ R') (b6 : R' ≤ 3) (b7 : 0 ≤ s') (b8 : s' ≤ 365) (b9 : s' = 365 → R' = 3 ∧ (Q' ≤ 23 ∨ B' = 3)) :
    B = B' ∧ Q = Q' ∧ R = R' ∧ s = s' := by
  have e1 : B = B' := by omega
  have e2 : Q = Q' := by omega
  have e3 : R = R' := by omega
  exact ⟨e1, e2, e3, by omega⟩
def leapP (y : Int) : Prop := y % 4 = 0 ∧ (y % 100 ≠ 0 ∨ y % 400 = 0)
instance (y : Int) : Decidable (leapP y) := by unfold leapP; infer_instance
def dim (y m : Int) : Int := if m = 2 then (if leapP y then 29 else 28) else if m = 4 ∨ m = 6 ∨ m = 9 ∨ m = 11 then 30 else 31
def numY (Y M d : Int) : Int := (Y / 400) * 146097 + (Y % 400) * 365 + (Y % 400) / 4 - (Y % 400) / 100 + (153 * M + 2) / 5 + d - 1 - 719468
def numD (y m d : Int) : Int := if m ≤ 2 then numY (y - 1) (m + 9) d else numY y (m - 3) d
def yearsS (n : Int) : Int := (n - n / 1460 + n / 36524 - n / 146096) / 365
def restS (n : Int) : Int := n - (365 * yearsS n + yearsS n / 4 - yearsS n / 100)
def monS (n : Int) : Int := (5 * restS n + 2) / 153
def civilS (day : Int) : Int × Int × Int :=
  if monS ((day + 719468) % 146097) + 3 > 12 then (yearsS ((day + 719468) % 146097) + 400 * ((day + 719468) / 146097) + 1, monS ((day + 719468) % 146097) + 3 - 12, restS ((day + 719468) % 146097) - (153 * monS ((day + 719468) % 146097) + 2) / 5 + 1)
  else (yearsS ((day + 719468) % 146097) + 400 * ((day + 719468) / 146097), monS ((day + 719468) % 146097) + 3, restS ((day + 719468) % 146097) - (153 * monS ((day + 719468) % 146097) + 2) / 5 + 1)

theorem years_parts (B Q R : Int) (a1 : 0 ≤ B) (a2 : B ≤ 3) (a3 : 0 ≤ Q) (a4 : Q ≤ 24) (a5 : 0 ≤ R) (a6 : R ≤ 3) :
    (100 * B + 4 * Q + R) / 4 = 25 * B + Q ∧ (100 * B + 4 * Q + R) / 100 = B := by omega
theorem leap_next (e B Q R : Int) (a1 : 0 ≤ B) (a2 : B ≤ 3) (a3 : 0 ≤ Q) (a4 : Q ≤ 24) (a5 : 0 ≤ R) (a6 : R ≤ 3) : leapP (100 * B + 4 * Q + R + 400 * e + 1) ↔ R = 3 ∧ (Q ≤ 23 ∨ B = 3) := by
  unfold leapP
  omega
theorem year_lo (e y s : Int) (h : 719468 ≤ 146097 * e + (365 * y + y / 4 - y / 100 + s)) (hy0 : 0 ≤ y) (hy1 : y ≤ 399) (hs : s ≤ 305) : 1970 ≤ y + 400 * e := by
  rcases Int.lt_or_le (y + 400 * e) 1970 with h1 | h1
  · exfalso
    obtain ⟨a, ha⟩ : ∃ a, a = y / 4 := ⟨_, rfl⟩
    obtain ⟨b, hb⟩ : ∃ b, b = y / 100 := ⟨_, rfl⟩
    have ha1 : a ≤ 99 := by omega
    have hb1 : 0 ≤ b := by omega
    rw [← ha, ← hb] at h
    have he : 4 ≤ e := by omega
    have he : e = 4 := by omega
    subst he
    have : y ≤ 369 := by omega
    have : a ≤ 92 := by omega
    have : b = 3 ∨ y ≤ 299 := by omega
    omega
  · exact h1
theorem year_hi (e y s : Int) (h : 146097 * e + (365 * y + y / 4 - y / 100 + s) ≤ 3652364) (hy0 : 0 ≤ y) (hy1 : y ≤ 399) (hs : 0 ≤ s) : y + 400 * e ≤ 9999 := by
  rcases Int.lt_or_le 9999 (y + 400 * e) with h1 | h1
  · exfalso
    obtain ⟨a, ha⟩ : ∃ a, a = y / 4 := ⟨_, rfl⟩
    obtain ⟨b, hb⟩ : ∃ b, b = y / 100 := ⟨_, rfl⟩
    have ha1 : 0 ≤ a := by omega
    have hb1 : b ≤ 3 := by omega
    rw [← ha, ← hb] at h
    have : 25 ≤ e := by omega
    omega
  · exact h1
theorem day_hi (e y s : Int) (h : y + 400 * e ≤ 9999) (hy0 : 0 ≤ y) (hy1 : y ≤ 399) (hs : s ≤ 305) : 146097 * e + (365 * y + y / 4 - y / 100 + s) ≤ 3652364 := by
  obtain ⟨a, ha⟩ : ∃ a, a = y / 4 := ⟨_, rfl⟩
  obtain ⟨b, hb⟩ : ∃ b, b = y / 100 := ⟨_, rfl⟩
  have ha1 : a ≤ 99 := by omega
  have hb1 : b = 3 ∨ y ≤ 299 := by omega
  have hb0 : 0 ≤ b := by omega
  rw [← ha, ← hb]
  have : e ≤ 24 := by omega
  omega
theorem civil_ok (day : Int) (h0 : 0 ≤ day) (h1 : day ≤ 2932896) :
    ∃ y m d, civilS day = (y, m, d) ∧ 1970 ≤ y ∧ y ≤ 9999 ∧ 1 ≤ m ∧ m ≤ 12 ∧ 1 ≤ d ∧ d ≤ dim y m ∧ numD y m d = day := by
  obtain ⟨e, he⟩ : ∃ e, e = (day + 719468) / 146097 := ⟨_, rfl⟩
  obtain ⟨n, hn⟩ : ∃ n, n = (day + 719468) % 146097 := ⟨_, rfl⟩
  obtain ⟨y, hy⟩ : ∃ y, y = yearsS n := ⟨_, rfl⟩
  obtain ⟨B, Q, R, s, a1, a2, a3, a4, a5, a6, a7, a8, a9, hn2, hy2⟩ := years_ok n y (by omega) (by omega) hy
  obtain ⟨p4, p100⟩ := years_parts B Q R a1 a2 a3 a4 a5 a6
  have hs : restS n = s := by unfold restS; rw [← hy, hy2, p4, p100]; omega
  obtain ⟨k, hk⟩ : ∃ k, k = monS n := ⟨_, rfl⟩
  have hk2 : k = (5 * s + 2) / 153 := by rw [hk]; unfold monS; rw [hs]
  obtain ⟨k0, k1, d0, d1⟩ := month_ok s k a7 a8 hk2
  obtain ⟨d, hd⟩ : ∃ d, d = s - (153 * k + 2) / 5 + 1 := ⟨_, rfl⟩
  rw [← hd] at d0 d1
  have hl := leap_next e B Q R a1 a2 a3 a4 a5 a6
  unfold civilS
  rw [← hn, ← he, ← hk, ← hy, hs, ← hd]
  by_cases h12 : k + 3 > 12
  · rw [if_pos h12]
    refine ⟨_, _, _, rfl, by omega, by omega, by omega, by omega, d0, ?_, ?_⟩
    · unfold dim
      unfold mlen at d1
      have hk : k = 10 ∨ k = 11 := by omega
      rcases hk with rfl | rfl
      · simp at d1 ⊢; omega
      · simp only [show (11 + 3 - 12 : Int) = 2 from rfl, if_true]
        by_cases hlp : leapP (y + 400 * e + 1)
        · rw [if_pos hlp]; simp at d1; omega
        · rw [if_neg hlp]
          have : s ≠ 365 := fun h => hlp (by rw [hy2]; exact hl.2 (a9 h))
          omega
    · unfold numD numY
      rw [if_pos (by omega)]
      have e1 : (y + 400 * e + 1 - 1) / 400 = e := by omega
      have e2 : (y + 400 * e + 1 - 1) % 400 = y := by omega
      rw [e1, e2, hy2, p4, p100]
      have : k + 3 - 12 + 9 = k := by omega
      rw [this]
      omega
  · rw [if_neg h12]
    have hs305 : s ≤ 305 := by omega
    have hn3 : n = 365 * y + y / 4 - y / 100 + s := by rw [hy2, p4, p100]; omega
    have hlo : 1970 ≤ y + 400 * e := year_lo e y s (by rw [← hn3]; omega) (by omega) (by omega) hs305
    have hhi : y + 400 * e ≤ 9999 := year_hi e y s (by rw [← hn3]; omega) (by omega) (by omega) a7
    refine ⟨_, _, _, rfl, hlo, hhi, by omega, by omega, d0, ?_, ?_⟩
    · unfold dim
      unfold mlen at d1
      rw [if_neg (by omega)]
      split at d1 <;> split <;> omega
    · unfold numD numY
      rw [if_neg (by omega)]
      have e1 : (y + 400 * e) / 400 = e := by omega
      have e2 : (y + 400 * e) % 400 = y := by omega
      rw [e1, e2, hy2, p4, p100]
      have : k + 3 - 3 = k := by omega
      rw [this]
      omega
theorem numY_parts (Y M d : Int) (hY : 0 ≤ Y) : ∃ e B Q R, 0 ≤ e ∧ 0 ≤ B ∧ B ≤ 3 ∧ 0 ≤ Q ∧ Q ≤ 24 ∧ 0 ≤ R ∧ R ≤ 3 ∧ Y = 100 * B + 4 * Q + R + 400 * e ∧ numY Y M d = 146097 * e + 36524 * B + 1461 * Q + 365 * R + (153 * M + 2) / 5 + d - 1 - 719468 := by
  refine ⟨Y / 400, (Y % 400) / 100, (Y % 100) / 4, Y % 4, by omega, by omega, by omega, by omega, by omega, by omega, by omega, by omega, ?_⟩
  unfold numY
  omega
theorem civil_num (y m d : Int) (hy0 : 1970 ≤ y) (hy1 : y ≤ 9999) (hm0 : 1 ≤ m) (hm1 : m ≤ 12) (hd0 : 1 ≤ d) (hd1 : d ≤ dim y m) :
    0 ≤ numD y m d ∧ numD y m d ≤ 2932896 ∧ civilS (numD y m d) = (y, m, d) := by
  obtain ⟨Y, M, hY, hM0, hM1, hnum, hback, hdm⟩ : ∃ Y M, 1969 ≤ Y ∧ 0 ≤ M ∧ M ≤ 11 ∧ numD y m d = numY Y M d ∧ (if M + 3 > 12 then (Y + 1, M + 3 - 12, d) else (Y, M + 3, d)) = (y, m, d) ∧ (d ≤ mlen M ∧ (M = 11 → d = 29 → leapP (Y + 1)) ∧ (M + 3 > 12 → Y ≤ 9998) ∧ Y ≤ 9999 ∧ (M + 3 ≤ 12 → 1970 ≤ Y)) := by
    unfold dim at hd1
    by_cases h2 : m ≤ 2
    · refine ⟨y - 1, m + 9, by omega, by omega, by omega, by unfold numD; rw [if_pos h2], ?_, ?_⟩
      · rw [if_pos (by omega)]
        congr 1
        · omega
        · congr 1; omega
      · unfold mlen
        have hm12 : m = 1 ∨ m = 2 := by omega
        rcases hm12 with rfl | rfl
        · simp at hd1 ⊢; omega
        · simp only [if_true] at hd1
          split at hd1
          · rename_i hl
            refine ⟨by simp; omega, fun _ _ => by rw [show y - 1 + 1 = y from by omega]; exact hl, by omega, by omega, by omega⟩
          · refine ⟨by simp; omega, fun _ h => by omega, by omega, by omega, by omega⟩
    · refine ⟨y, m - 3, by omega, by omega, by omega, by unfold numD; rw [if_neg h2], ?_, ?_⟩
      · rw [if_neg (by omega)]
        congr 2; omega
      · unfold mlen
        rw [if_neg (by omega)] at hd1
        refine ⟨?_, by omega, by omega, by omega, by omega⟩
        split at hd1 <;> split <;> omega
  obtain ⟨hdl, hlp, hYu, hYv, hYw⟩ := hdm
  obtain ⟨e, B, Q, R, he, a1, a2, a3, a4, a5, a6, hYp, hn⟩ := numY_parts Y M d (by omega)
  obtain ⟨s0, s1, hk⟩ := month_of M d hM0 hM1 hd0 hdl
  obtain ⟨s, hs⟩ : ∃ s, s = (153 * M + 2) / 5 + d - 1 := ⟨_, rfl⟩
  rw [← hs] at s0 s1 hk
  have hl := leap_next e B Q R a1 a2 a3 a4 a5 a6
  have a9 : s = 365 → R = 3 ∧ (Q ≤ 23 ∨ B = 3) := by
    intro h
    have h11 : M = 11 ∧ d = 29 := by
      unfold mlen at hdl
      split at hdl
      · omega
      · split at hdl <;> omega
    exact hl.1 (by rw [← hYp]; exact hlp h11.1 h11.2)
  have hz : numD y m d + 719468 = 146097 * e + (36524 * B + 1461 * Q + 365 * R + s) := by rw [hnum, hn, hs]; omega
  have hn1 : 36524 * B + 1461 * Q + 365 * R + s ≤ 146096 := by omega
  have hz1 : (numD y m d + 719468) / 146097 = e := by rw [hz]; omega
  have hz2 : (numD y m d + 719468) % 146097 = 36524 * B + 1461 * Q + 365 * R + s := by rw [hz]; omega
  obtain ⟨B', Q', R', s', b1, b2, b3, b4, b5, b6, b7, b8, b9, hn2, hy2⟩ := years_ok (36524 * B + 1461 * Q + 365 * R + s) (yearsS (36524 * B + 1461 * Q + 365 * R + s)) (by omega) (by omega) rfl
  obtain ⟨rfl, rfl, rfl, rfl⟩ := years_uniq B Q R s B' Q' R' s' hn2 a1 a2 a3 a4 a5 a6 s0 s1 a9 b1 b2 b3 b4 b5 b6 b7 b8 b9
  obtain ⟨p4, p100⟩ := years_parts B Q R a1 a2 a3 a4 a5 a6
  have hr : restS (36524 * B + 1461 * Q + 365 * R + s) = s := by unfold restS; rw [hy2, p4, p100]; omega
  have hmn : monS (36524 * B + 1461 * Q + 365 * R + s) = M := by unfold monS; rw [hr]; exact hk
  refine ⟨?_, ?_, ?_⟩
  · have : 0 ≤ M := hM0
    by_cases h12 : M + 3 > 12
    · have := hYu h12
      have hM10 : 10 ≤ M := by omega
      have : 306 ≤ (153 * M + 2) / 5 := by omega
      omega
    · have := hYw (by omega)
      omega
  · by_cases h12 : M + 3 > 12
    · have := hYu h12
      omega
    · have h9 : M ≤ 9 := by omega
      have : s ≤ 305 := by
        have hM : M = 0 ∨ M = 1 ∨ M = 2 ∨ M = 3 ∨ M = 4 ∨ M = 5 ∨ M = 6 ∨ M = 7 ∨ M = 8 ∨ M = 9 := by omega
        unfold mlen at hdl
        rcases hM with rfl | rfl | rfl | rfl | rfl | rfl | rfl | rfl | rfl | rfl <;> simp at hdl hs <;> omega
      obtain ⟨yy, hyy⟩ : ∃ yy, yy = 100 * B + 4 * Q + R := ⟨_, rfl⟩
      have hq : 36524 * B + 1461 * Q + 365 * R = 365 * yy + yy / 4 - yy / 100 := by rw [hyy, p4, p100]; omega
      have hYY : Y = yy + 400 * e := by rw [hyy]; exact hYp
      have hyy1 : yy ≤ 399 := by omega
      have hd9 := day_hi e yy s (by rw [← hYY]; exact hYv) (by omega) hyy1 this
      rw [← hq] at hd9
      omega
  · unfold civilS
    rw [hz1, hz2, hmn, hr, hy2, ← hYp]
    have : s - (153 * M + 2) / 5 + 1 = d := by omega
    rw [this]
    exact hback
end Go.Proofs.YtdgklgeddbfeaaaDoor.Vh
