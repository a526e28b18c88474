/- What date's forms make of a told date; plain. -/
import Derived.Test.YtdgklgeddbfeaaaDoorVPieces
import Derived.Test.YtdgklgeddbfeaaaDoorVWeeks
set_option linter.unusedVariables false
set_option linter.unusedSimpArgs false
namespace Go.Proofs.YtdgklgeddbfeaaaDoor.Vh
open Go.Vm Go.Vt
theorem need_end {p : Bs} {ok : Bool} : needR p (p, ok) = ([], ok) := by simpa using need_app (p := p) (b := []) (ok := ok)
theorem num_four' {n : Nat} {b : Bs} {ok : Bool} (h : n < 10000) : numR 4 (two (n / 100) ++ (two (n % 100) ++ b), ok) = ((n : Int), (b, ok)) := by
  rw [← List.append_assoc]; exact num_four h
theorem num_four_end {n : Nat} {ok : Bool} (h : n < 10000) : numR 4 (two (n / 100) ++ two (n % 100), ok) = ((n : Int), ([], ok)) := by
  simpa using num_four (b := []) (ok := ok) h
/-- A told second's parts. -/
theorem fmt_form {sec : Int} (h0 : 0 ≤ sec) (h1 : sec / 86400 ≤ 2932896) : ∃ w y m d a i c : Nat, w < 7 ∧ y < 10000 ∧ 1970 ≤ y ∧ m < 12 ∧ d < 100 ∧ a < 24 ∧ i < 60 ∧ c < 60 ∧
    daysS y (m + 1) d = sec / 86400 ∧ (sec / 86400 + 3) % 7 = w ∧ sec = sec / 86400 * 86400 + ((a : Int) * 3600 + i * 60 + c) ∧ 1 ≤ d ∧ (sec / 86400 < 36525 → y < 2070) ∧
    fmtS sec = (dayLs.getD w []).take 3 ++ ([44, 32] ++ (two d ++ ([32] ++ (monLs.getD m [] ++ ([32] ++ (two (y / 100) ++ (two (y % 100) ++ ([32] ++ (two a ++ ([58] ++ (two i ++ ([58] ++ (two c ++ [32, 71, 77, 84]))))))))))))) := by
  obtain ⟨y, m, d, hc, y0, y1, m0, m1, d0, d1, hn⟩ := civil_ok (sec / 86400) (by omega) h1
  have dl := dim_le y m
  have hd : daysS y m d = sec / 86400 := by rw [← hn]; exact if_pos ⟨y0, y1, m0, m1, d0, d1⟩
  obtain ⟨y, rfl⟩ : ∃ k : Nat, y = k := ⟨y.toNat, by omega⟩
  obtain ⟨m, rfl⟩ : ∃ k : Nat, m = k + 1 := ⟨(m - 1).toNat, by omega⟩
  obtain ⟨d, rfl⟩ : ∃ k : Nat, d = k := ⟨d.toNat, by omega⟩
  have hy : sec / 86400 < 36525 → y < 2070 := by
    intro hlt
    rw [← hn] at hlt
    rcases Nat.lt_or_ge y 2070 with h | h
    · exact h
    · exfalso
      unfold numD numY at hlt
      split at hlt <;> omega
  refine ⟨((sec / 86400 + 3) % 7).toNat, y, m, d, (sec % 86400 / 3600).toNat, (sec % 86400 / 60 % 60).toNat, (sec % 86400 % 60).toNat, by omega, by omega, by omega, by omega, by omega, by omega, by omega, by omega, hd, by omega, by omega, by omega, hy, ?_⟩
  unfold fmtS
  simp only [hc, List.append_assoc, Int.toNat_natCast, Int.add_sub_cancel]
theorem fixed_fmt {sec : Int} (h0 : 0 ≤ sec) (h1 : sec / 86400 ≤ 2932896) : fixedR (fmtS sec, true) = .tup [.int .i64 sec, .bool true] := by
  obtain ⟨w, y, m, d, a, i, c, w0, y0, y1, m0, d0, a0, i0, c0, hd, hw, hs, _, _, e⟩ := fmt_form h0 h1
  rw [e]
  unfold fixedR
  simp only [day_app w0 (show 0 < ([44, 32] ++ (two d ++ ([32] ++ (monLs.getD m [] ++ ([32] ++ (two (y / 100) ++ (two (y % 100) ++ ([32] ++ (two a ++ ([58] ++ (two i ++ ([58] ++ (two c ++ [32, 71, 77, 84]))))))))))))).length by simp), need_app, num_two d0, mon_app m0, num_four' y0, clk_app a0 i0 c0, need_end]
  unfold secR
  rw [if_pos ⟨rfl, rfl, by rw [hd]; omega, by rw [hd]; exact hw⟩, hd, ← hs]
theorem date_fmt {sec : Int} (h0 : 0 ≤ sec) (h1 : sec / 86400 ≤ 2932896) : dateS (fmtS sec) = some sec := by
  unfold dateS formR
  simp only [fixed_fmt h0 h1]
  rfl
/-- The next day's date. -/
theorem civil_next {day y m d : Int} (h0 : 0 ≤ day) (h1 : day + 1 ≤ 2932896) (hc : civilS day = (y, m, d)) :
    d ≤ 31 ∧ daysS y m d = day ∧ (civilS (day + 1) = (y, m, d + 1) ∨ civilS (day + 1) = (y, m + 1, 1) ∨ (civilS (day + 1) = (y + 1, 1, 1) ∧ m = 12 ∧ d = 31)) := by
  obtain ⟨y', m', d', hc', y0, y1, m0, m1, d0, d1, hn⟩ := civil_ok day h0 (by omega)
  rw [hc] at hc'
  simp only [Prod.mk.injEq] at hc'
  obtain ⟨rfl, rfl, rfl⟩ := hc'
  have dl := dim_le y m
  refine ⟨by omega, by rw [← hn]; exact if_pos ⟨y0, y1, m0, m1, d0, d1⟩, ?_⟩
  by_cases a1 : d + 1 ≤ dim y m
  · have := civil_num y m (d + 1) y0 y1 m0 m1 (by omega) a1
    have e : numD y m (d + 1) = day + 1 := by rw [← hn]; unfold numD numY; split <;> omega
    rw [e] at this
    exact .inl this.2.2
  · have ed : d = dim y m := by omega
    by_cases a2 : m < 12
    · right; left
      have p1 : 1 ≤ dim y (m + 1) := by unfold dim; split <;> (try split) <;> omega
      have := civil_num y (m + 1) 1 y0 y1 (by omega) (by omega) (by omega) p1
      have e : numD y (m + 1) 1 = day + 1 := by
        rw [← hn, ed]
        have hm : m = 1 ∨ m = 2 ∨ m = 3 ∨ m = 4 ∨ m = 5 ∨ m = 6 ∨ m = 7 ∨ m = 8 ∨ m = 9 ∨ m = 10 ∨ m = 11 := by omega
        rcases hm with rfl | rfl | rfl | rfl | rfl | rfl | rfl | rfl | rfl | rfl | rfl
        case inr.inl =>
          unfold numD numY dim
          simp only [show (2 : Int) + 1 = 3 from rfl, if_true]
          by_cases hl : leapP y
          · rw [if_pos hl]; unfold leapP at hl; simp; omega
          · rw [if_neg hl]; unfold leapP at hl; simp; omega
        all_goals (unfold numD numY dim; simp; try omega)
      rw [e] at this
      exact this.2.2
    · right; right
      have em : m = 12 := by omega
      subst em
      have ed' : d = 31 := by rw [ed]; unfold dim; simp
      subst ed'
      have y9 : y ≤ 9998 := by
        rcases Int.lt_or_le 9998 y with h | h
        · exfalso
          have : y = 9999 := by omega
          subst this
          have : numD 9999 12 31 = 2932896 := by decide
          omega
        · exact h
      have p1 : 1 ≤ dim (y + 1) 1 := by unfold dim; simp
      have := civil_num (y + 1) 1 1 (by omega) (by omega) (by omega) (by omega) (by omega) p1
      have e : numD (y + 1) 1 1 = day + 1 := by rw [← hn]; unfold numD numY; simp; omega
      rw [e] at this
      exact ⟨this.2.2, rfl, rfl⟩
end Go.Proofs.YtdgklgeddbfeaaaDoor.Vh
