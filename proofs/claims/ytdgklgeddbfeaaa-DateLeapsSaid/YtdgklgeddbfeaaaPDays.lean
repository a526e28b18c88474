/- Package date's Civil and Days are the calendar's. -/
import Derived.Test.YtdgklgeddbfeaaaHp1
import Derived.Test.YtdgklgeddbfeaaaPCal
set_option linter.unusedVariables false
set_option linter.unusedSimpArgs false
namespace Go.Proofs.Ytdgklgeddbfeaaa.Hp
open Go.RowKit Go.Proofs.YtdgklgeddbfeaaaW.PrintWords

theorem wdiv {x c : Int} (h0 : 0 ≤ x) (hc : 0 < c) (h1 : x ≤ 9223372036854775807) : wrap64 (Int.tdiv x c) = x / c := by
  rw [Int.tdiv_eq_ediv_of_nonneg h0]
  have h2 : x / c ≤ x := Int.ediv_le_self _ h0
  have h3 : 0 ≤ x / c := Int.ediv_nonneg h0 (Int.le_of_lt hc)
  exact wrap_id (by omega) (by omega)
theorem tmod_nn {x c : Int} (h0 : 0 ≤ x) : Int.tmod x c = x % c := Int.tmod_eq_emod_of_nonneg h0

theorem w_years (n : Int) (n0 : 0 ≤ n) (n1 : n < 146097) : wrap64 (Int.tdiv (wrap64 ((wrap64 ((wrap64 (n - (wrap64 (Int.tdiv n 1460)))) + (wrap64 (Int.tdiv n 36524)))) - (wrap64 (Int.tdiv n 146096)))) 365) = yearsS n := by
  rw [wdiv (x := n) (c := 1460) n0 (by omega) (by omega), wdiv (x := n) (c := 36524) n0 (by omega) (by omega), wdiv (x := n) (c := 146096) n0 (by omega) (by omega),
    wrap_id (x := n - n / 1460) (by omega) (by omega), wrap_id (x := n - n / 1460 + n / 36524) (by omega) (by omega), wrap_id (x := n - n / 1460 + n / 36524 - n / 146096) (by omega) (by omega),
    wdiv (x := n - n / 1460 + n / 36524 - n / 146096) (c := 365) (by omega) (by omega) (by omega)]
  rfl
theorem years_rest (n : Int) (n0 : 0 ≤ n) (n1 : n < 146097) : 0 ≤ yearsS n ∧ yearsS n ≤ 399 ∧ 0 ≤ restS n ∧ restS n ≤ 365 := by
  obtain ⟨B, Q, R, s, a1, a2, a3, a4, a5, a6, a7, a8, a9, hn2, hy2⟩ := years_ok n (yearsS n) n0 n1 rfl
  obtain ⟨p4, p100⟩ := years_parts B Q R a1 a2 a3 a4 a5 a6
  have hs : restS n = s := by unfold restS; rw [hy2, p4, p100]; omega
  rw [hs, hy2]
  omega
theorem w_rest (n : Int) (n0 : 0 ≤ n) (n1 : n < 146097) : wrap64 (n - (wrap64 ((wrap64 ((wrap64 (365 * yearsS n)) + (wrap64 (Int.tdiv (yearsS n) 4)))) - (wrap64 (Int.tdiv (yearsS n) 100))))) = restS n := by
  obtain ⟨y0, y1, _, _⟩ := years_rest n n0 n1
  unfold restS
  generalize yearsS n = y at *
  rw [wrap_id (x := 365 * y) (by omega) (by omega), wdiv (x := y) (c := 4) y0 (by omega) (by omega), wdiv (x := y) (c := 100) y0 (by omega) (by omega),
    wrap_id (x := 365 * y + y / 4) (by omega) (by omega), wrap_id (x := 365 * y + y / 4 - y / 100) (by omega) (by omega)]
  exact wrap_id (by omega) (by omega)
theorem w_mon (n : Int) (n0 : 0 ≤ n) (n1 : n < 146097) : wrap64 (Int.tdiv (wrap64 ((wrap64 (5 * restS n)) + 2)) 153) = monS n := by
  obtain ⟨_, _, s0, s1⟩ := years_rest n n0 n1
  unfold monS
  generalize restS n = s at *
  rw [wrap_id (x := 5 * s) (by omega) (by omega), wrap_id (x := 5 * s + 2) (by omega) (by omega)]
  exact wdiv (by omega) (by omega) (by omega)
theorem mon_range (n : Int) (n0 : 0 ≤ n) (n1 : n < 146097) : 0 ≤ monS n ∧ monS n ≤ 11 := by
  obtain ⟨_, _, s0, s1⟩ := years_rest n n0 n1
  obtain ⟨m0, m1, _, _⟩ := month_ok (restS n) (monS n) s0 s1 rfl
  exact ⟨m0, m1⟩
theorem w_day (n : Int) (n0 : 0 ≤ n) (n1 : n < 146097) : wrap64 ((wrap64 (restS n - (wrap64 (Int.tdiv (wrap64 ((wrap64 (153 * monS n)) + 2)) 5)))) + 1) = restS n - (153 * monS n + 2) / 5 + 1 := by
  obtain ⟨_, _, s0, s1⟩ := years_rest n n0 n1
  obtain ⟨m0, m1⟩ := mon_range n n0 n1
  generalize restS n = s at *
  generalize monS n = m at *
  rw [wrap_id (x := 153 * m) (by omega) (by omega), wrap_id (x := 153 * m + 2) (by omega) (by omega), wdiv (x := 153 * m + 2) (c := 5) (by omega) (by omega) (by omega),
    wrap_id (x := s - (153 * m + 2) / 5) (by omega) (by omega)]
  exact wrap_id (by omega) (by omega)

theorem date_civil_ev (day : Int) (h0 : 0 ≤ day) (h1 : day ≤ 2932896) : Ev (fun k => date_Civil.f k day) (civilS day) := by
  unfold date_Civil.f
  simp only [if_neg (show ¬ day < 0 from by omega), decide_eq_false (show ¬ day > 2932896 from by omega)]
  refine Ev.step (f := fun _ => some (civilS day)) (fun k => ?_) (Ev.now _)
  simp only [date_Civil.j0]
  rw [if_neg (by simp), wrap_id (x := day + 719468) (by omega) (by omega), tmod_nn (x := day + 719468) (by omega), wdiv (x := day + 719468) (by omega) (by omega) (by omega)]
  unfold civilS
  have n0 : 0 ≤ (day + 719468) % 146097 := by omega
  have n1 : (day + 719468) % 146097 < 146097 := by omega
  have e0 : 0 ≤ (day + 719468) / 146097 := by omega
  have e1 : (day + 719468) / 146097 ≤ 100 := by omega
  generalize (day + 719468) % 146097 = n at *
  generalize (day + 719468) / 146097 = e at *
  rw [w_years n n0 n1, w_rest n n0 n1, w_mon n n0 n1, w_day n n0 n1]
  obtain ⟨y0, y1, s0, s1⟩ := years_rest n n0 n1
  obtain ⟨m0, m1⟩ := mon_range n n0 n1
  generalize yearsS n = y at *
  generalize monS n = m at *
  generalize restS n = s at *
  rw [wrap_id (x := m + 3) (by omega) (by omega), wrap_id (x := 400 * e) (by omega) (by omega), wrap_id (x := y + 400 * e) (by omega) (by omega),
    wrap_id (x := y + 400 * e + 1) (by omega) (by omega), wrap_id (x := m + 3 - 12) (by omega) (by omega)]
  split <;> rfl

theorem date_civil_none (day : Int) (h : day < 0 ∨ 2932896 < day) : Ev (fun k => date_Civil.f k day) (0, 0, 0) := by
  unfold date_Civil.f
  have hj : Ev (fun k => date_Civil.j0 k day true) (0, 0, 0) := by
    refine Ev.step (f := fun _ => some (0, 0, 0)) (fun k => ?_) (Ev.now _)
    simp only [date_Civil.j0, if_true]
  by_cases h0 : day < 0
  · simp only [if_pos h0]
    exact hj
  · simp only [if_neg h0, decide_eq_true (show day > 2932896 from by omega)]
    exact hj

/-- The day of a date; -1: there is none. -/
def daysS (y m d : Int) : Int := if 1970 ≤ y ∧ y ≤ 9999 ∧ 1 ≤ m ∧ m ≤ 12 ∧ 1 ≤ d ∧ d ≤ dim y m then numD y m d else -1
theorem dim_le (y m : Int) : dim y m ≤ 31 := by
  unfold dim
  split
  · split <;> omega
  · split <;> omega
theorem numY_le (Y M d : Int) (h0 : 1969 ≤ Y) (h1 : Y ≤ 9999) (m0 : 0 ≤ M) (m1 : M ≤ 11) (d0 : 1 ≤ d) (d1 : d ≤ 31) : 0 ≤ numY Y M d + 1000000 ∧ numY Y M d ≤ 4000000 := by
  unfold numY
  have e1 : 0 ≤ (Y % 400) / 100 := by omega
  have e2 : (Y % 400) / 100 ≤ 3 := by omega
  have e3 : 0 ≤ (Y % 400) / 4 := by omega
  have e4 : (Y % 400) / 4 ≤ 99 := by omega
  have e5 : 0 ≤ (153 * M + 2) / 5 := by omega
  have e6 : (153 * M + 2) / 5 ≤ 337 := by omega
  omega

/-- What Days makes of a number: it is the date's day, if that is its date. -/
theorem days_core (y m d n : Int) (hn : n = numD y m d) (hy0 : 1970 ≤ y) (hy1 : y ≤ 9999) (hm0 : 1 ≤ m) (hm1 : m ≤ 12) (hd0 : 1 ≤ d) (t : Int × Int × Int) (ht : t = if 0 ≤ n ∧ n ≤ 2932896 then civilS n else (0, 0, 0)) :
    (if t.1 = y then (if t.2.1 = m then (if t.2.2 = d then some n else some (-1)) else some (-1)) else some (-1)) = some (daysS y m d) := by
  unfold daysS
  by_cases hd : d ≤ dim y m
  · obtain ⟨c0, c1, c2⟩ := civil_num y m d hy0 hy1 hm0 hm1 hd0 hd
    rw [← hn] at c0 c1 c2
    rw [if_pos ⟨c0, c1⟩, c2] at ht
    subst ht
    rw [if_pos rfl, if_pos rfl, if_pos rfl, if_pos ⟨hy0, hy1, hm0, hm1, hd0, hd⟩, hn]
  · rw [if_neg (show ¬ (1970 ≤ y ∧ y ≤ 9999 ∧ 1 ≤ m ∧ m ≤ 12 ∧ 1 ≤ d ∧ d ≤ dim y m) from fun h => hd h.2.2.2.2.2)]
    by_cases hr : 0 ≤ n ∧ n ≤ 2932896
    · rw [if_pos hr] at ht
      obtain ⟨y', m', d', hc, _, _, _, _, _, hd', _⟩ := civil_ok n hr.1 hr.2
      rw [hc] at ht
      subst ht
      simp only
      by_cases e1 : y' = y
      · rw [if_pos e1]
        by_cases e2 : m' = m
        · rw [if_pos e2]
          subst e1 e2
          rw [if_neg (fun e3 => hd (by rw [← e3]; exact hd'))]
        · rw [if_neg e2]
      · rw [if_neg e1]
    · rw [if_neg hr] at ht
      subst ht
      simp only
      rw [if_neg (by omega)]

theorem w_num (Y M d : Int) (h0 : 1969 ≤ Y) (h1 : Y ≤ 9999) (m0 : 0 ≤ M) (m1 : M ≤ 11) (d0 : 1 ≤ d) (d1 : d ≤ 31) :
    wrap64 ((wrap64 ((wrap64 ((wrap64 ((wrap64 ((wrap64 ((wrap64 ((wrap64 ((wrap64 (Int.tdiv Y 400)) * 146097)) + (wrap64 ((Int.tmod Y 400) * 365)))) + (wrap64 (Int.tdiv (Int.tmod Y 400) 4)))) - (wrap64 (Int.tdiv (Int.tmod Y 400) 100)))) + (wrap64 (Int.tdiv (wrap64 ((wrap64 (153 * M)) + 2)) 5)))) + d)) - 1)) - 719468) = numY Y M d := by
  rw [tmod_nn (x := Y) (by omega), wdiv (x := Y) (by omega) (by omega) (by omega)]
  unfold numY
  have e0 : 0 ≤ Y / 400 := by omega
  have e1 : Y / 400 ≤ 25 := by omega
  have r0 : 0 ≤ Y % 400 := by omega
  have r1 : Y % 400 ≤ 399 := by omega
  generalize Y / 400 = e at *
  generalize Y % 400 = r at *
  have q0 : 0 ≤ r / 4 := by omega
  have q1 : r / 4 ≤ 99 := by omega
  have c0 : 0 ≤ r / 100 := by omega
  have c1 : r / 100 ≤ 3 := by omega
  rw [wdiv (x := r) (c := 4) r0 (by omega) (by omega), wdiv (x := r) (c := 100) r0 (by omega) (by omega), wrap_id (x := 153 * M) (by omega) (by omega), wrap_id (x := 153 * M + 2) (by omega) (by omega), wdiv (x := 153 * M + 2) (c := 5) (by omega) (by omega) (by omega)]
  have v0 : 0 ≤ (153 * M + 2) / 5 := by omega
  have v1 : (153 * M + 2) / 5 ≤ 337 := by omega
  generalize r / 4 = q at *
  generalize r / 100 = c at *
  generalize (153 * M + 2) / 5 = v at *
  rw [wrap_id (x := e * 146097) (by omega) (by omega), wrap_id (x := r * 365) (by omega) (by omega), wrap_id (x := e * 146097 + r * 365) (by omega) (by omega), wrap_id (x := e * 146097 + r * 365 + q) (by omega) (by omega),
    wrap_id (x := e * 146097 + r * 365 + q - c) (by omega) (by omega), wrap_id (x := e * 146097 + r * 365 + q - c + v) (by omega) (by omega), wrap_id (x := e * 146097 + r * 365 + q - c + v + d) (by omega) (by omega), wrap_id (x := e * 146097 + r * 365 + q - c + v + d - 1) (by omega) (by omega)]
  exact wrap_id (by omega) (by omega)

theorem civil_all (n : Int) : Ev (fun k => date_Civil.f k n) (if 0 ≤ n ∧ n ≤ 2932896 then civilS n else (0, 0, 0)) := by
  by_cases h : 0 ≤ n ∧ n ≤ 2932896
  · rw [if_pos h]
    exact date_civil_ev n h.1 h.2
  · rw [if_neg h]
    exact date_civil_none n (by omega)

theorem date_days_ev (y m d : Int) : Ev (fun k => date_Days.f k y m d) (daysS y m d) := by
  have hj : Ev (fun k => date_Days.j0 k y m d true) (-1) := by
    refine Ev.step (f := fun _ => some (-1)) (fun k => ?_) (Ev.now _)
    simp only [date_Days.j0, if_true]
  unfold date_Days.f
  by_cases h1 : y < 1970
  · simp only [if_pos h1]
    rw [show daysS y m d = -1 from if_neg (by omega)]
    exact hj
  simp only [if_neg h1]
  by_cases h2 : y > 9999
  · simp only [if_pos h2]
    rw [show daysS y m d = -1 from if_neg (by omega)]
    exact hj
  simp only [if_neg h2]
  by_cases h3 : m < 1
  · simp only [if_pos h3]
    rw [show daysS y m d = -1 from if_neg (by omega)]
    exact hj
  simp only [if_neg h3]
  by_cases h4 : m > 12
  · simp only [if_pos h4]
    rw [show daysS y m d = -1 from if_neg (by omega)]
    exact hj
  simp only [if_neg h4]
  by_cases h5 : d < 1
  · simp only [if_pos h5]
    rw [show daysS y m d = -1 from if_neg (by omega)]
    exact hj
  simp only [if_neg h5]
  by_cases h6 : d > 31
  · simp only [decide_eq_true h6]
    rw [show daysS y m d = -1 from if_neg (by have := dim_le y m; omega)]
    exact hj
  simp only [decide_eq_false h6]
  have hnum : ∃ n, n = numD y m d := ⟨_, rfl⟩
  obtain ⟨n, hn⟩ := hnum
  have hc := days_core y m d n hn (by omega) (by omega) (by omega) (by omega) (by omega) _ rfl
  by_cases h7 : m ≤ 2
  · have hnum : numY (y - 1) (m + 9) d = n := by rw [hn]; unfold numD; rw [if_pos h7]
    have hw := w_num (y - 1) (m + 9) d (by omega) (by omega) (by omega) (by omega) (by omega) (by omega)
    rw [hnum] at hw
    refine Ev.step (fun k => ?_) (Ev.bind (civil_all n) (f := fun _ t => if t.1 = y then (if t.2.1 = m then (if t.2.2 = d then some n else some (-1)) else some (-1)) else some (-1)) (by rw [hc]; exact Ev.now _))
    simp only [date_Days.j0]
    rw [if_neg (by simp), if_pos h7, wrap_id (x := y - 1) (by omega) (by omega), wrap_id (x := m + 9) (by omega) (by omega), hw]
  · have hnum : numY y (m - 3) d = n := by rw [hn]; unfold numD; rw [if_neg h7]
    have hw := w_num y (m - 3) d (by omega) (by omega) (by omega) (by omega) (by omega) (by omega)
    rw [hnum] at hw
    refine Ev.step (fun k => ?_) (Ev.bind (civil_all n) (f := fun _ t => if t.1 = y then (if t.2.1 = m then (if t.2.2 = d then some n else some (-1)) else some (-1)) else some (-1)) (by rw [hc]; exact Ev.now _))
    simp only [date_Days.j0]
    rw [if_neg (by simp), if_neg h7, wrap_id (x := m - 3) (by omega) (by omega), hw]
end Go.Proofs.Ytdgklgeddbfeaaa.Hp
