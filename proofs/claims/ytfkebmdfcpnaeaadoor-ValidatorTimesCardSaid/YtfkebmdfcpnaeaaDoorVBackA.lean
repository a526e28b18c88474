/- What the reader makes of a date's pieces; plain. -/
import Derived.Test.YtfkebmdfcpnaeaaDoorVFormsA
import Derived.Test.YtfkebmdfcpnaeaaDoorVFormatA
set_option linter.unusedVariables false
set_option linter.unusedSimpArgs false
namespace Go.Proofs.YtfkebmdfcpnaeaaDoor.Vh
open Go.Vm Go.Vt
theorem take_app {a b : Bs} {n : Nat} {ok : Bool} (h : a.length = n) : takeR n (a ++ b, ok) = (a, (b, ok)) := by
  unfold takeR
  rw [if_neg (by simp only [List.length_append]; omega)]
  simp only [List.take_left' h, List.drop_left' h]
theorem need_app {p b : Bs} {ok : Bool} : needR p (p ++ b, ok) = (b, ok) := by
  unfold needR
  rw [take_app rfl]
  simp only [if_true]
theorem two_dig : ∀ n, n < 100 → numV (two n) = (n : Int) ∧ (two n).all isDig = true := by decide +kernel
theorem num_two {n : Nat} {b : Bs} {ok : Bool} (h : n < 100) : numR 2 (two n ++ b, ok) = ((n : Int), (b, ok)) := by
  obtain ⟨h1, h2⟩ := two_dig n h
  unfold numR
  rw [take_app (n := 2) (a := two n) rfl]
  simp only [h1, h2, Bool.and_true]
theorem numV_app (s t : Bs) (a b : UInt8) (h : t = [a, b]) : numV (s ++ t) = 100 * numV s + numV t := by
  subst h
  simp only [numV, List.foldl_append, List.foldl_cons, List.foldl_nil]
  omega
theorem num_four {n : Nat} {b : Bs} {ok : Bool} (h : n < 10000) : numR 4 (two (n / 100) ++ two (n % 100) ++ b, ok) = ((n : Int), (b, ok)) := by
  obtain ⟨h1, h2⟩ := two_dig (n / 100) (by omega)
  obtain ⟨h3, h4⟩ := two_dig (n % 100) (by omega)
  unfold numR
  rw [take_app (n := 4) (a := two (n / 100) ++ two (n % 100)) rfl]
  simp only [List.all_append, h2, h4, Bool.and_true, Bool.and_self]
  rw [numV_app _ (two (n % 100)) _ _ rfl, h1, h3]
  congr 1; omega
theorem mon_at : ∀ i, i < 12 → lpos (monLs.getD i []) monLs = i := by decide +kernel
theorem mon_app {i : Nat} {b : Bs} {ok : Bool} (h : i < 12) : monR (monLs.getD i [] ++ b, ok) = ((i : Int) + 1, (b, ok)) := by
  unfold monR
  rw [take_app (mon3 i h)]
  simp only [mon_at i h, if_pos h]
theorem clk_app {a m c : Nat} {b : Bs} {ok : Bool} (ha : a < 24) (hm : m < 60) (hc : c < 60) : clkR (two a ++ ([58] ++ (two m ++ ([58] ++ (two c ++ b)))), ok) = ((a : Int) * 3600 + m * 60 + c, (b, ok)) := by
  unfold clkR
  simp only [num_two (show a < 100 by omega), num_two (show m < 100 by omega), num_two (show c < 100 by omega), need_app]
  rw [if_neg (by omega)]
  congr 1; omega
theorem day_ne : ∀ w, w < 7 → ∀ j, j < w → ((dayLs.getD w []).take 3 == nmD false j) = false := by decide +kernel
theorem day_same : ∀ w, w < 7 → nmD false w = (dayLs.getD w []).take 3 := fun _ _ => rfl
theorem nm3 (w : Nat) (h : w < 7) : (nmD false w).length = 3 := (day3 w h).2
theorem day_app {w : Nat} {b : Bs} {ok : Bool} (h : w < 7) (hb : 0 < b.length) : dayR false ((dayLs.getD w []).take 3 ++ b, ok) = ((w : Int), (b, ok)) := by
  have l3 := (day3 w h).2
  have hit : ∀ j, j < 7 → hitD false ((dayLs.getD w []).take 3 ++ b) j = ((dayLs.getD w []).take 3 == nmD false j) := by
    intro j hj
    unfold hitD
    rw [nm3 j hj, List.take_left' l3]
    have : decide (((dayLs.getD w []).take 3 ++ b).length > 3) = true := by
      rw [decide_eq_true_eq, List.length_append, l3]; omega
    rw [this, Bool.true_and]
  have hf : firstN (hitD false ((dayLs.getD w []).take 3 ++ b)) 7 = w := by
    refine firstN_at ?_ (fun j hj => ?_) h
    · rw [hit w h, day_same w h]; simp
    · rw [hit j (by omega)]; exact day_ne w h j hj
  unfold dayR
  simp only [hf, if_pos h, nm3 w h, List.drop_left' l3]
open Go.Vm Go.Vt
attribute [local congr] wi_congr wg_congr wgd_congr wb_congr wl_congr cf_congr
variable {L : FuncId → List V → V → Prop} {h : Heap}
theorem app_drop {a b : Bs} {n : Nat} (h : a.length = n) : (a ++ b).drop n = b := by rw [← h]; exact List.drop_left ..
theorem app_take {a b : Bs} {n : Nat} (h : a.length = n) : (a ++ b).take n = a := by rw [← h]; exact List.take_left ..
/-- A date's parts. -/
theorem fmt_parts {sec : Int} (h0 : 0 ≤ sec) (h1 : sec / 86400 ≤ 2932896) : ∃ dn ps : Bs, dn = (dayLs.getD ((sec / 86400 + 3) % 7).toNat []).take 3 ∧ dn.length = 3 ∧ ps.length = 14 ∧
    fmtS sec = dn ++ ps ++ (two (sec % 86400 / 3600).toNat ++ [58] ++ two (sec % 86400 / 60 % 60).toNat ++ [58] ++ two (sec % 86400 % 60).toNat) ++ [32, 71, 77, 84] := by
  obtain ⟨y, m, d, hc, y0, y1, m0, m1, d0, d1, _⟩ := civil_ok (sec / 86400) (by omega) h1
  refine ⟨_, [44, 32] ++ two d.toNat ++ [32] ++ monLs.getD (m - 1).toNat [] ++ [32] ++ (two (y.toNat / 100) ++ two (y.toNat % 100)) ++ [32], rfl, ?_, ?_, ?_⟩
  · exact (day3 ((sec / 86400 + 3) % 7).toNat (by omega)).2
  · have := mon3 (m - 1).toNat (by omega)
    simp only [List.length_append, this, two, List.length_cons, List.length_nil]
  · unfold fmtS
    simp only [hc, List.append_assoc]
theorem fmt_len {sec : Int} (h0 : 0 ≤ sec) (h1 : sec / 86400 ≤ 2932896) : (fmtS sec).length = 29 := by
  obtain ⟨dn, ps, _, e1, e2, e3⟩ := fmt_parts h0 h1
  rw [e3]
  simp only [List.length_append, e1, e2, two, List.length_cons, List.length_nil]
theorem fmt_day {sec : Int} (h0 : 0 ≤ sec) (h1 : sec / 86400 ≤ 2932896) : (fmtS sec).take 3 = (dayLs.getD ((sec / 86400 + 3) % 7).toNat []).take 3 := by
  obtain ⟨dn, ps, e0, e1, e2, e3⟩ := fmt_parts h0 h1
  rw [e3, ← e0, List.append_assoc, List.append_assoc, app_take e1]
theorem fmt_clock {sec : Int} (h0 : 0 ≤ sec) (h1 : sec / 86400 ≤ 2932896) : ((fmtS sec).take 25).drop 17 = two (sec % 86400 / 3600).toNat ++ [58] ++ two (sec % 86400 / 60 % 60).toNat ++ [58] ++ two (sec % 86400 % 60).toNat := by
  obtain ⟨dn, ps, e0, e1, e2, e3⟩ := fmt_parts h0 h1
  rw [e3]
  rw [app_take (n := 25) (by simp only [List.length_append, e1, e2, two, List.length_cons, List.length_nil]), app_drop (n := 17) (by simp only [List.length_append, e1, e2])]
theorem day_next : ∀ w, w < 7 → (dayLs.getD w []).take 3 ≠ (dayLs.getD ((w + 1) % 7) []).take 3 := by decide
open Go.Vm Go.Vt
theorem need_end {p : Bs} {ok : Bool} : needR p (p, ok) = ([], ok) := by simpa using need_app (p := p) (b := []) (ok := ok)
theorem num_four' {n : Nat} {b : Bs} {ok : Bool} (h : n < 10000) : numR 4 (two (n / 100) ++ (two (n % 100) ++ b), ok) = ((n : Int), (b, ok)) := by
  rw [← List.append_assoc]; exact num_four h
theorem num_four_end {n : Nat} {ok : Bool} (h : n < 10000) : numR 4 (two (n / 100) ++ two (n % 100), ok) = ((n : Int), ([], ok)) := by
  simpa using num_four (b := []) (ok := ok) h
/-- A told second's parts. -/
theorem fmt_form {sec : Int} (h0 : 0 ≤ sec) (h1 : sec / 86400 ≤ 2932896) : ∃ w y m d a i c : Nat, w < 7 ∧ y < 10000 ∧ 1970 ≤ y ∧ m < 12 ∧ d < 100 ∧ a < 24 ∧ i < 60 ∧ c < 60 ∧
    daysS y (m + 1) d = sec / 86400 ∧ (sec / 86400 + 3) % 7 = w ∧ sec = sec / 86400 * 86400 + ((a : Int) * 3600 + i * 60 + c) ∧ 1 ≤ d ∧ (sec / 86400 < 36525 → y < 2070) ∧
    fmtS sec = (dayLs.getD w []).take 3 ++ ([44, 32] ++ (two d ++ ([32] ++ (monLs.getD m [] ++ ([32] ++ (two (y / 100) ++ (two (y % 100) ++ ([32] ++ (two a ++ ([58] ++ (two i ++ ([58] ++ (two c ++ [32, 71, 77, 84]))))))))))))) := by
  obtain ⟨y, m, d, hc, y0, y1, m0, m1, d0, d1, hn⟩ := civil_ok (sec / 86400) (by omega) h1
  have dl := dim_le y m
  have hd : daysS y m d = sec / 86400 := by rw [← hn]; exact if_pos ⟨y0, y1, m0, m1, d0, d1⟩
  obtain ⟨y, rfl⟩ : ∃ k : Nat, y = k := ⟨y.toNat, by omega⟩
  obtain ⟨m, rfl⟩ : ∃ k : Nat, m = k + 1 := ⟨(m - 1).toNat, by omega⟩
  obtain ⟨d, rfl⟩ : ∃ k : Nat, d = k := ⟨d.toNat, by omega⟩
  have hy : sec / 86400 < 36525 → y < 2070 := by
    intro hlt
    rw [← hn] at hlt
    rcases Nat.lt_or_ge y 2070 with h | h
    · exact h
    · exfalso
      unfold numD numY at hlt
      split at hlt <;> omega
  refine ⟨((sec / 86400 + 3) % 7).toNat, y, m, d, (sec % 86400 / 3600).toNat, (sec % 86400 / 60 % 60).toNat, (sec % 86400 % 60).toNat, by omega, by omega, by omega, by omega, by omega, by omega, by omega, by omega, hd, by omega, by omega, by omega, hy, ?_⟩
  unfold fmtS
  simp only [hc, List.append_assoc, Int.toNat_natCast, Int.add_sub_cancel]
theorem fixed_fmt {sec : Int} (h0 : 0 ≤ sec) (h1 : sec / 86400 ≤ 2932896) : fixedR (fmtS sec, true) = .tup [.int .i64 sec, .bool true] := by
  obtain ⟨w, y, m, d, a, i, c, w0, y0, y1, m0, d0, a0, i0, c0, hd, hw, hs, _, _, e⟩ := fmt_form h0 h1
  rw [e]
  unfold fixedR
  simp only [day_app w0 (show 0 < ([44, 32] ++ (two d ++ ([32] ++ (monLs.getD m [] ++ ([32] ++ (two (y / 100) ++ (two (y % 100) ++ ([32] ++ (two a ++ ([58] ++ (two i ++ ([58] ++ (two c ++ [32, 71, 77, 84]))))))))))))).length by simp), need_app, num_two d0, mon_app m0, num_four' y0, clk_app a0 i0 c0, need_end]
  unfold secR
  rw [if_pos ⟨rfl, rfl, by rw [hd]; omega, by rw [hd]; exact hw⟩, hd, ← hs]
theorem date_fmt {sec : Int} (h0 : 0 ≤ sec) (h1 : sec / 86400 ≤ 2932896) : dateS (fmtS sec) = some sec := by
  unfold dateS formR
  simp only [fixed_fmt h0 h1]
  rfl
/-- The next day's date. -/
theorem civil_next {day y m d : Int} (h0 : 0 ≤ day) (h1 : day + 1 ≤ 2932896) (hc : civilS day = (y, m, d)) :
    d ≤ 31 ∧ daysS y m d = day ∧ (civilS (day + 1) = (y, m, d + 1) ∨ civilS (day + 1) = (y, m + 1, 1) ∨ (civilS (day + 1) = (y + 1, 1, 1) ∧ m = 12 ∧ d = 31)) := by
  obtain ⟨y', m', d', hc', y0, y1, m0, m1, d0, d1, hn⟩ := civil_ok day h0 (by omega)
  rw [hc] at hc'
  simp only [Prod.mk.injEq] at hc'
  obtain ⟨rfl, rfl, rfl⟩ := hc'
  have dl := dim_le y m
  refine ⟨by omega, by rw [← hn]; exact if_pos ⟨y0, y1, m0, m1, d0, d1⟩, ?_⟩
  by_cases a1 : d + 1 ≤ dim y m
  · have := civil_num y m (d + 1) y0 y1 m0 m1 (by omega) a1
    have e : numD y m (d + 1) = day + 1 := by rw [← hn]; unfold numD numY; split <;> omega
    rw [e] at this
    exact .inl this.2.2
  · have ed : d = dim y m := by omega
    by_cases a2 : m < 12
    · right; left
      have p1 : 1 ≤ dim y (m + 1) := by unfold dim; split <;> (try split) <;> omega
      have := civil_num y (m + 1) 1 y0 y1 (by omega) (by omega) (by omega) p1
      have e : numD y (m + 1) 1 = day + 1 := by
        rw [← hn, ed]
        have hm : m = 1 ∨ m = 2 ∨ m = 3 ∨ m = 4 ∨ m = 5 ∨ m = 6 ∨ m = 7 ∨ m = 8 ∨ m = 9 ∨ m = 10 ∨ m = 11 := by omega
        rcases hm with rfl | rfl | rfl | rfl | rfl | rfl | rfl | rfl | rfl | rfl | rfl
        case inr.inl =>
          unfold numD numY dim
          simp only [show (2 : Int) + 1 = 3 from rfl, if_true]
          by_cases hl : leapP y
          · rw [if_pos hl]; unfold leapP at hl; simp; omega
          · rw [if_neg hl]; unfold leapP at hl; simp; omega
        all_goals (unfold numD numY dim; simp; try omega)
      rw [e] at this
      exact this.2.2
    · right; right
      have em : m = 12 := by omega
      subst em
      have ed' : d = 31 := by rw [ed]; unfold dim; simp
      subst ed'
      have y9 : y ≤ 9998 := by
        rcases Int.lt_or_le 9998 y with h | h
        · exfalso
          have : y = 9999 := by omega
          subst this
          have : numD 9999 12 31 = 2932896 := by decide
          omega
        · exact h
      have p1 : 1 ≤ dim (y + 1) 1 := by unfold dim; simp
      have := civil_num (y + 1) 1 1 (by omega) (by omega) (by omega) (by omega) (by omega) p1
      have e : numD (y + 1) 1 1 = day + 1 := by rw [← hn]; unfold numD numY; simp; omega
      rw [e] at this
      exact ⟨this.2.2, rfl, rfl⟩
end Go.Proofs.YtfkebmdfcpnaeaaDoor.Vh
