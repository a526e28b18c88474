/- What the reader makes of a date's pieces; plain. -/
import Derived.Test.YtdgklgeddbfeaaaDoorVDParse
set_option linter.unusedVariables false
set_option linter.unusedSimpArgs false
namespace Go.Proofs.YtdgklgeddbfeaaaDoor.Vh
open Go.Vm Go.Vt
theorem take_app {a b : Bs} {n : Nat} {ok : Bool} (h : a.length = n) : takeR n (a ++ b, ok) = (a, (b, ok)) := by
  unfold takeR
  rw [if_neg (by simp only [List.length_append]; omega)]
  simp only [List.take_left' h, List.drop_left' h]
theorem need_app {p b : Bs} {ok : Bool} : needR p (p ++ b, ok) = (b, ok) := by
  unfold needR
  rw [take_app rfl]
  simp only [if_true]
theorem two_dig : ∀ n, n < 100 → numV (two n) = (n : Int) ∧ (two n).all isDig = true := by decide +kernel
theorem num_two {n : Nat} {b : Bs} {ok : Bool} (h : n < 100) : numR 2 (two n ++ b, ok) = ((n : Int), (b, ok)) := by
  obtain ⟨h1, h2⟩ := two_dig n h
  unfold numR
  rw [take_app (n := 2) (a := two n) rfl]
  simp only [h1, h2, Bool.and_true]
theorem numV_app (s t : Bs) (a b : UInt8) (h : t = [a, b]) : numV (s ++ t) = 100 * numV s + numV t := by
  subst h
  simp only [numV, List.foldl_append, List.foldl_cons, List.foldl_nil]
  omega
theorem num_four {n : Nat} {b : Bs} {ok : Bool} (h : n < 10000) : numR 4 (two (n / 100) ++ two (n % 100) ++ b, ok) = ((n : Int), (b, ok)) := by
  obtain ⟨h1, h2⟩ := two_dig (n / 100) (by omega)
  obtain ⟨h3, h4⟩ := two_dig (n % 100) (by omega)
  unfold numR
  rw [take_app (n := 4) (a := two (n / 100) ++ two (n % 100)) rfl]
  simp only [List.all_append, h2, h4, Bool.and_true, Bool.and_self]
  rw [numV_app _ (two (n % 100)) _ _ rfl, h1, h3]
  congr 1; omega
theorem mon_at : ∀ i, i < 12 → lpos (monLs.getD i []) monLs = i := by decide +kernel
theorem mon_app {i : Nat} {b : Bs} {ok : Bool} (h : i < 12) : monR (monLs.getD i [] ++ b, ok) = ((i : Int) + 1, (b, ok)) := by
  unfold monR
  rw [take_app (mon3 i h)]
  simp only [mon_at i h, if_pos h]
theorem clk_app {a m c : Nat} {b : Bs} {ok : Bool} (ha : a < 24) (hm : m < 60) (hc : c < 60) : clkR (two a ++ ([58] ++ (two m ++ ([58] ++ (two c ++ b)))), ok) = ((a : Int) * 3600 + m * 60 + c, (b, ok)) := by
  unfold clkR
  simp only [num_two (show a < 100 by omega), num_two (show m < 100 by omega), num_two (show c < 100 by omega), need_app]
  rw [if_neg (by omega)]
  congr 1; omega
theorem day_ne : ∀ w, w < 7 → ∀ j, j < w → ((dayLs.getD w []).take 3 == nmD false j) = false := by decide +kernel
theorem day_same : ∀ w, w < 7 → nmD false w = (dayLs.getD w []).take 3 := fun _ _ => rfl
theorem nm3 (w : Nat) (h : w < 7) : (nmD false w).length = 3 := (day3 w h).2
theorem day_app {w : Nat} {b : Bs} {ok : Bool} (h : w < 7) (hb : 0 < b.length) : dayR false ((dayLs.getD w []).take 3 ++ b, ok) = ((w : Int), (b, ok)) := by
  have l3 := (day3 w h).2
  have hit : ∀ j, j < 7 → hitD false ((dayLs.getD w []).take 3 ++ b) j = ((dayLs.getD w []).take 3 == nmD false j) := by
    intro j hj
    unfold hitD
    rw [nm3 j hj, List.take_left' l3]
    have : decide (((dayLs.getD w []).take 3 ++ b).length > 3) = true := by
      rw [decide_eq_true_eq, List.length_append, l3]; omega
    rw [this, Bool.true_and]
  have hf : firstN (hitD false ((dayLs.getD w []).take 3 ++ b)) 7 = w := by
    refine firstN_at ?_ (fun j hj => ?_) h
    · rw [hit w h, day_same w h]; simp
    · rw [hit j (by omega)]; exact day_ne w h j hj
  unfold dayR
  simp only [hf, if_pos h, nm3 w h, List.drop_left' l3]
end Go.Proofs.YtdgklgeddbfeaaaDoor.Vh
