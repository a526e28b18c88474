/- Numbers told in digits are read as they were; plain. -/
import Derived.Test.YtbcnhkgiabobiaaDoorVNum
import Derived.Lib.ItoaNum
set_option linter.unusedVariables false
set_option linter.unusedSimpArgs false
namespace Go.Proofs.YtbcnhkgiabobiaaDoor.Vh
open Go.Vm Go.Vt
theorem itoa_nat' (n : Nat) : Go.Lib.itoa (n : Int) = Go.Lib.decDigits n := by
  unfold Go.Lib.itoa
  rw [if_neg (by omega)]; rfl
theorem dec_step {n : Nat} (h : 10 ≤ n) : Go.Lib.decDigits n = Go.Lib.decDigits (n / 10) ++ [UInt8.ofNat (48 + n % 10)] := by
  rw [Go.Lib.decDigits, dif_neg (by omega)]
theorem dec_len : ∀ (k n : Nat), n < 10 ^ (k + 1) → (Go.Lib.decDigits n).length ≤ k + 1
  | k, n, h => by
    by_cases h1 : n < 10
    · rw [Go.Lib.decDigits_one h1]; simp
    · match k with
      | 0 => simp at h; omega
      | k + 1 =>
        rw [dec_step (by omega), List.length_append, List.length_singleton]
        have := dec_len k (n / 10) (by rw [Nat.pow_succ] at h; omega)
        omega
theorem dec_pos (n : Nat) : 0 < (Go.Lib.decDigits n).length := by
  by_cases h1 : n < 10
  · rw [Go.Lib.decDigits_one h1]; simp
  · rw [dec_step (by omega)]; simp
theorem dig_ch : ∀ d, d < 10 → digB (UInt8.ofNat (48 + d)) = true ∧ ((UInt8.ofNat (48 + d)).toNat : Int) - 48 = d := by decide +kernel
theorem dec_dig : ∀ n : Nat, (Go.Lib.decDigits n).all digB = true
  | n => by
    by_cases h1 : n < 10
    · rw [Go.Lib.decDigits_one h1, List.all_cons, List.all_nil, (dig_ch n h1).1]; rfl
    · rw [dec_step (by omega), List.all_append, dec_dig (n / 10)]
      rw [List.all_cons, List.all_nil, (dig_ch (n % 10) (by omega)).1]; rfl
theorem numG_dec : ∀ (n : Nat) {most : Int} {r : Bs}, (n : Int) ≤ most → numG (Go.Lib.decDigits n ++ r) 0 most = numG r n most
  | n, most, r, hm => by
    have st : ∀ (m d : Nat) (r : Bs), d < 10 → (10 * m + d : Int) ≤ most → numG (UInt8.ofNat (48 + d) :: r) m most = numG r (10 * m + d : Nat) most := by
      intro m d r hd hle
      have e : numG (UInt8.ofNat (48 + d) :: r) m most = if ((UInt8.ofNat (48 + d)).toNat : Int) - 48 > most ∨ (m : Int) > (most - (((UInt8.ofNat (48 + d)).toNat : Int) - 48)) / 10 then most else numG r (10 * (m : Int) + (((UInt8.ofNat (48 + d)).toNat : Int) - 48)) most := rfl
      rw [e, (dig_ch d hd).2, if_neg (by omega)]
      congr 1
    by_cases h1 : n < 10
    · rw [Go.Lib.decDigits_one h1]
      have := st 0 n r h1 (by omega)
      simpa using this
    · rw [dec_step (by omega), List.append_assoc, numG_dec (n / 10) (by omega)]
      have := st (n / 10) (n % 10) r (by omega) (by omega)
      rw [List.singleton_append, this]
      congr 1; omega
theorem num_itoa {n most : Int} (h0 : 0 ≤ n) (h1 : n ≤ most) : numS (Go.Lib.itoa n) most = (n, true) := by
  obtain ⟨k, rfl⟩ : ∃ k : Nat, n = k := ⟨n.toNat, by omega⟩
  rw [itoa_nat']
  have hp := dec_pos k
  have he : (Go.Lib.decDigits k).isEmpty = false := by
    cases h : Go.Lib.decDigits k
    · rw [h] at hp; simp at hp
    · rfl
  unfold numS
  have := numG_dec k (most := most) (r := []) h1
  rw [List.append_nil] at this
  rw [this, he, dec_dig, decide_eq_false (by omega)]
  rfl
theorem itoa_dig {n : Int} (h0 : 0 ≤ n) : (Go.Lib.itoa n).all digB = true := by
  obtain ⟨k, rfl⟩ : ∃ k : Nat, n = k := ⟨n.toNat, by omega⟩
  rw [itoa_nat']; exact dec_dig k
theorem itoa_pos {n : Int} (h0 : 0 ≤ n) : 0 < (Go.Lib.itoa n).length := by
  obtain ⟨k, rfl⟩ : ∃ k : Nat, n = k := ⟨n.toNat, by omega⟩
  rw [itoa_nat']; exact dec_pos k
theorem itoa_len {n : Int} (h0 : 0 ≤ n) (h1 : n ≤ 9999999) : (Go.Lib.itoa n).length ≤ 7 := by
  obtain ⟨k, rfl⟩ : ∃ k : Nat, n = k := ⟨n.toNat, by omega⟩
  rw [itoa_nat']
  exact dec_len 6 k (by omega)
theorem not_dig {c : UInt8} {s : Bs} (hs : s.all digB = true) (hc : digB c = false) : ∀ x ∈ s, x ≠ c := by
  intro x hx e
  have := List.all_eq_true.1 hs x hx
  rw [e, hc] at this; cases this
end Go.Proofs.YtbcnhkgiabobiaaDoor.Vh
