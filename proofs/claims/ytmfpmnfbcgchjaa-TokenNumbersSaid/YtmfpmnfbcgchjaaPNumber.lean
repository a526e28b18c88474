/- What package token's Number and the document's come to: digit by digit, at most so much. -/
import Derived.Test.YtmfpmnfbcgchjaaHp1
import Derived.Test.YtmfpmnfbcgchjaaHToken1
import Derived.Test.YtmfpmnfbcgchjaaPLib
set_option linter.unusedVariables false
set_option linter.unusedSimpArgs false
namespace Go.Proofs.Ytmfpmnfbcgchjaa.Hp
open Go.RowKit Go.Proofs.YtmfpmnfbcgchjaaW.PrintWords

/-- A digit's number, as the code makes it of any byte. -/
def digOf (c : UInt8) : Int := ((c.toNat : Int) - 48) % 256
theorem digOf_range (c : UInt8) : 0 ≤ digOf c ∧ digOf c < 256 := by unfold digOf; omega
/-- The number of digits, on from n. -/
def numL (most : Int) : Int → List UInt8 → Int × Bool
  | n, [] => (n, true)
  | n, c :: cs => if digOf c > most then (most, true) else if n > Int.tdiv (most - digOf c) 10 then (most, true) else numL most (10 * n + digOf c) cs
/-- The document's number, and the program's. -/
def numberS (l : List UInt8) (most : Int) : Int × Bool :=
  if l = [] then (0, false) else if most < 0 then (0, false) else if allF isDig l = true then numL most 0 l else (0, false)

theorem tdiv_step {most n d : Int} (h0 : 0 ≤ most) (hn : 0 ≤ n) (hd : 0 ≤ d) (h1 : ¬ d > most) (h2 : ¬ n > Int.tdiv (most - d) 10) : 10 * n + d ≤ most ∧ 0 ≤ 10 * n + d := by
  rw [Int.tdiv_eq_ediv_of_nonneg (by omega)] at h2
  omega

theorem wrap_tdiv {most d : Int} (h0 : 0 ≤ most) (hm : most ≤ 9223372036854775807) (hd : 0 ≤ d) (h1 : ¬ d > most) : wrap64 (Int.tdiv (wrap64 (most - d)) 10) = Int.tdiv (most - d) 10 := by
  rw [wrap_id (x := most - d) (by omega) (by omega)]
  have e := Int.tdiv_eq_ediv_of_nonneg (a := most - d) (b := 10) (by omega)
  rw [e]
  exact wrap_id (by omega) (by omega)

theorem token_number_l0 (s : ByteArray) (most : Int) (h0 : 0 ≤ most) (hm : most ≤ 9223372036854775807) (hs : s.size ≤ 140737488351232) (l : List UInt8) :
    ∀ (i : Nat) (n : Int), (bs s).drop i = l → 0 ≤ n → n ≤ most → Ev (fun k => token_Number.l0 k s most n (s.size : Int) (i : Int)) (numL most n l) := by
  induction l with
  | nil =>
    intro i n hl hn hnm
    have := drop_nil hl
    refine Ev.step (f := fun _ => some (n, true)) (fun k => ?_) (Ev.now _)
    simp only [token_Number.l0]
    rw [if_neg (by omega)]
  | cons c cs ih =>
    intro i n hl hn hnm
    obtain ⟨hi, hc0, hd⟩ := drop_cons hl
    have hc : (bt s (i : Int) - 48) % 256 = digOf c := by rw [hc0]; rfl
    have hr := digOf_range c
    unfold numL
    by_cases h1 : digOf c > most
    · rw [if_pos h1]
      refine Ev.step (f := fun _ => some (most, true)) (fun k => ?_) (Ev.now _)
      simp only [token_Number.l0]
      rw [if_pos (by omega), if_pos (by omega), if_pos (by omega), hc, if_pos h1]
    · rw [if_neg h1]
      have e := wrap_tdiv h0 hm hr.1 h1
      by_cases h2 : n > Int.tdiv (most - digOf c) 10
      · rw [if_pos h2]
        refine Ev.step (f := fun _ => some (most, true)) (fun k => ?_) (Ev.now _)
        simp only [token_Number.l0]
        rw [if_pos (by omega), if_pos (by omega), if_pos (by omega), hc, if_neg h1, if_pos (by rw [e]; exact h2)]
      · rw [if_neg h2]
        obtain ⟨h3, h4⟩ := tdiv_step h0 hn hr.1 h1 h2
        refine Ev.step (fun k => ?_) (ih (i + 1) (10 * n + digOf c) hd h4 h3)
        simp only [token_Number.l0]
        rw [if_pos (by omega), if_pos (by omega), if_pos (by omega), hc, if_neg h1, e, if_neg h2, wrap_id (x := 10 * n) (by omega) (by omega), wrap_id (x := 10 * n + digOf c) (by omega) (by omega), wrap_id (x := (i : Int) + 1) (by omega) (by omega)]
        rfl

theorem token_number_ev (s : ByteArray) (most : Int) (hm : most ≤ 9223372036854775807) (hs : s.size ≤ 140737488351232) : Ev (fun k => token_Number.f k s most) (numberS (bs s) most) := by
  unfold numberS token_Number.f
  rw [toList_bs]
  have hj : Ev (fun k => token_Number.j0 k s most true) (0, false) := by
    refine Ev.step (f := fun _ => some (0, false)) (fun k => ?_) (Ev.now _)
    simp only [token_Number.j0, if_true]
  by_cases h1 : bs s = []
  · simp only [if_pos h1]
    exact hj
  · simp only [if_neg h1]
    by_cases h2 : most < 0
    · simp only [if_pos h2]
      exact hj
    · simp only [if_neg h2]
      have ha : all_Number1.f s = some (allF isDig (bs s)) := by unfold all_Number1.f; rw [if_pos hs]; rfl
      simp only [ha, Option.bind_some]
      by_cases h3 : allF isDig (bs s) = true
      · simp only [h3, if_true, Bool.not_true]
        refine Ev.step (fun k => ?_) (token_number_l0 s most (by omega) hm hs (bs s) 0 0 (by simp) (by omega) (by omega))
        simp only [token_Number.j0]
        rw [if_neg (by simp)]
        rfl
      · have h3' : allF isDig (bs s) = false := by simpa using h3
        simp only [h3', Bool.not_false]
        exact hj

theorem ref_number_l1 (s : ByteArray) (most : Int) (h0 : 0 ≤ most) (hm : most ≤ 9223372036854775807) (hs : s.size ≤ 140737488351232) (l : List UInt8) :
    ∀ (i : Nat) (n : Int), (bs s).drop i = l → allF isDig l = true → 0 ≤ n → n ≤ most → Ev (fun k => gatepostref01_Number.l1 k s most n (i : Int)) (numL most n l) := by
  induction l with
  | nil =>
    intro i n hl _ hn hnm
    have := drop_nil hl
    refine Ev.step (f := fun _ => some (n, true)) (fun k => ?_) (Ev.now _)
    simp only [gatepostref01_Number.l1]
    rw [if_neg (by omega)]
  | cons c cs ih =>
    intro i n hl ha hn hnm
    obtain ⟨hi, hc0, hd⟩ := drop_cons hl
    have hc : (bt s (i : Int) - 48) % 256 = digOf c := by rw [hc0]; rfl
    have hr := digOf_range c
    simp only [allF, List.all_cons, Bool.and_eq_true] at ha
    have hdig : digOf c ≤ 9 := by have := ha.1; simp only [isDig, decide_eq_true_eq] at this; unfold digOf; omega
    unfold numL
    by_cases h1 : digOf c > most
    · rw [if_pos h1]
      refine Ev.step (f := fun _ => some (most, true)) (fun k => ?_) (Ev.now _)
      simp only [gatepostref01_Number.l1]
      rw [if_pos (by omega), if_pos (by omega), hc]
      by_cases h4 : n > wrap64 (Int.tdiv (wrap64 (most - digOf c)) 10)
      · rw [if_pos h4]
      · rw [if_neg h4, if_pos (by omega)]
    · rw [if_neg h1]
      have e := wrap_tdiv h0 hm hr.1 h1
      by_cases h2 : n > Int.tdiv (most - digOf c) 10
      · rw [if_pos h2]
        refine Ev.step (f := fun _ => some (most, true)) (fun k => ?_) (Ev.now _)
        simp only [gatepostref01_Number.l1]
        rw [if_pos (by omega), if_pos (by omega), hc, if_pos (by rw [e]; exact h2)]
      · rw [if_neg h2]
        obtain ⟨h3, h4⟩ := tdiv_step h0 hn hr.1 h1 h2
        refine Ev.step (fun k => ?_) (ih (i + 1) (10 * n + digOf c) hd ha.2 h4 h3)
        simp only [gatepostref01_Number.l1]
        rw [if_pos (by omega), if_pos (by omega), hc, e, if_neg h2, if_neg (by omega), wrap_id (x := n * 10) (by omega) (by omega), Int.mul_comm n 10, wrap_id (x := 10 * n + digOf c) (by omega) (by omega), wrap_id (x := (i : Int) + 1) (by omega) (by omega)]
        rfl

theorem ref_number_l0 (s : ByteArray) (most : Int) (h0 : 0 ≤ most) (hm : most ≤ 9223372036854775807) (hs : s.size ≤ 140737488351232) (hall : allF isDig (bs s) = allF isDig (bs s)) (l : List UInt8) :
    ∀ (i : Nat), (bs s).drop i = l → (allF isDig l = allF isDig (bs s)) → Ev (fun k => gatepostref01_Number.l0 k s most 0 (i : Int)) (if allF isDig (bs s) = true then numL most 0 (bs s) else (0, false)) := by
  induction l with
  | nil =>
    intro i hl ha
    have := drop_nil hl
    have ht : allF isDig (bs s) = true := by rw [← ha]; rfl
    rw [if_pos ht]
    refine Ev.step (fun k => ?_) (ref_number_l1 s most h0 hm hs (bs s) 0 0 (by simp) ht (by omega) (by omega))
    simp only [gatepostref01_Number.l0]
    rw [if_neg (by omega)]
    rfl
  | cons c cs ih =>
    intro i hl ha
    obtain ⟨hi, hc, hd⟩ := drop_cons hl
    simp only [allF, List.all_cons] at ha
    by_cases hdig : isDig (c.toNat : Int) = true
    · rw [hdig, Bool.true_and] at ha
      refine Ev.step (fun k => ?_) (ih (i + 1) hd ha)
      simp only [isDig, decide_eq_true_eq] at hdig
      simp only [gatepostref01_Number.l0]
      rw [if_pos (by omega), if_pos (by omega), hc, if_neg (by omega), if_neg (by omega), wrap_id (x := (i : Int) + 1) (by omega) (by omega)]
      rfl
    · have hf : isDig (c.toNat : Int) = false := by simpa using hdig
      rw [hf, Bool.false_and] at ha
      have : allF isDig (bs s) = false := ha.symm
      rw [if_neg (by rw [this]; simp)]
      refine Ev.step (f := fun _ => some (0, false)) (fun k => ?_) (Ev.now _)
      simp only [isDig, decide_eq_false_iff_not] at hf
      simp only [gatepostref01_Number.l0]
      rw [if_pos (by omega), if_pos (by omega), hc]
      by_cases h5 : (c.toNat : Int) < 48
      · rw [if_pos h5]
      · rw [if_neg h5, if_pos (by omega)]

theorem ref_number_ev (s : ByteArray) (most : Int) (hm : most ≤ 9223372036854775807) (hs : s.size ≤ 140737488351232) : Ev (fun k => gatepostref01_Number.f k s most) (numberS (bs s) most) := by
  unfold numberS gatepostref01_Number.f
  have hj : Ev (fun k => gatepostref01_Number.j0 k s most true) (0, false) := by
    refine Ev.step (f := fun _ => some (0, false)) (fun k => ?_) (Ev.now _)
    simp only [gatepostref01_Number.j0, if_true]
  by_cases h2 : most < 0
  · simp only [if_pos h2]
    have e : (if bs s = [] then ((0 : Int), false) else (0, false)) = (0, false) := by split <;> rfl
    rw [e]
    exact hj
  · simp only [if_neg h2]
    by_cases h1 : bs s = []
    · have hz : s.size = 0 := by rw [← bs_length, h1]; rfl
      rw [if_pos h1, show (((s.size : Int) == 0) = true) from by rw [hz]; rfl]
      exact hj
    · have hz : s.size ≠ 0 := by rw [← bs_length]; intro h; exact h1 (List.length_eq_zero_iff.1 h)
      rw [if_neg h1, show (((s.size : Int) == 0) = false) from by simpa using hz]
      refine Ev.step (fun k => ?_) (ref_number_l0 s most (by omega) hm hs rfl (bs s) 0 (by simp) rfl)
      simp only [gatepostref01_Number.j0]
      rw [if_neg (by simp)]
      rfl
end Go.Proofs.Ytmfpmnfbcgchjaa.Hp
