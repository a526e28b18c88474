/- What keys tell: plain. -/
import Derived.Test.YtfihnnebffkbfaaDoorVKeyL
set_option linter.unusedVariables false
set_option linter.unusedSimpArgs false
namespace Go.Proofs.YtfihnnebffkbfaaDoor.Vh
open Go.Vm Go.Vt
def dval (s : Bs) : Nat := s.foldl (fun a c => 10 * a + (c.toNat - 48)) 0
theorem dec_step {n : Nat} (h : 10 ≤ n) : Go.Lib.decDigits n = Go.Lib.decDigits (n / 10) ++ [UInt8.ofNat (48 + n % 10)] := by
  rw [Go.Lib.decDigits, dif_neg (by omega)]
theorem dig_ch : ∀ d, d < 10 → (UInt8.ofNat (48 + d)).toNat = 48 + d := by decide +kernel
theorem dval_dec : ∀ n : Nat, dval (Go.Lib.decDigits n) = n
  | n => by
    by_cases h : n < 10
    · rw [Go.Lib.decDigits_one h]
      show 10 * 0 + ((UInt8.ofNat (48 + n)).toNat - 48) = n
      rw [dig_ch n h]; omega
    · rw [dec_step (by omega)]
      have ih := dval_dec (n / 10)
      unfold dval at *
      rw [List.foldl_append, ih]
      show 10 * (n / 10) + ((UInt8.ofNat (48 + n % 10)).toNat - 48) = n
      rw [dig_ch _ (by omega)]; omega
theorem dec_dig : ∀ n : Nat, ∀ c ∈ Go.Lib.decDigits n, 48 ≤ c.toNat ∧ c.toNat ≤ 57
  | n => by
    by_cases h : n < 10
    · rw [Go.Lib.decDigits_one h]
      intro c hc
      rw [List.mem_singleton.1 hc, dig_ch n h]; omega
    · rw [dec_step (by omega)]
      intro c hc
      rcases List.mem_append.1 hc with hc | hc
      · exact dec_dig (n / 10) c hc
      · rw [List.mem_singleton.1 hc, dig_ch _ (by omega)]; omega
theorem dec_ne (n : Nat) : Go.Lib.decDigits n ≠ [] := by
  by_cases h1 : n < 10
  · rw [Go.Lib.decDigits_one h1]; simp
  · rw [dec_step (by omega)]; simp
theorem itoa_nat (n : Nat) : Go.Lib.itoa (n : Int) = Go.Lib.decDigits n := by
  unfold Go.Lib.itoa
  rw [if_neg (by omega)]; rfl
/-- Two texts up to the same mark, that both lack. -/
theorem cut_same {c : UInt8} : ∀ {a b x y : Bs}, (∀ d ∈ a, d ≠ c) → (∀ d ∈ b, d ≠ c) → a ++ c :: x = b ++ c :: y → a = b ∧ x = y
  | [], [], x, y, _, _, h => ⟨rfl, by simpa using h⟩
  | [], d :: b, x, y, _, hb, h => by
    simp at h
    exact absurd h.1.symm (hb d (by simp))
  | d :: a, [], x, y, ha, _, h => by
    simp at h
    exact absurd h.1 (ha d (by simp))
  | d :: a, f :: b, x, y, ha, hb, h => by
    simp only [List.cons_append, List.cons.injEq] at h
    obtain ⟨h1, h2⟩ := cut_same (fun z hz => ha z (by simp [hz])) (fun z hz => hb z (by simp [hz])) h.2
    exact ⟨by rw [h.1, h1], h2⟩
theorem not58 (n : Nat) : ∀ d ∈ Go.Lib.decDigits n, d ≠ 58 := by
  intro d hd e
  have := dec_dig n d hd
  rw [e] at this
  have h58 : (58 : UInt8).toNat = 58 := rfl
  omega
def likeB (a b : Bs × Nat) : Bool := a.1 == b.1 && decide (a.2 = 0) == decide (b.2 = 0)
theorem part_eq {x va vb ra rb : Bs} {na nb : Nat} (ha : na = 0 → va = []) (hb : nb = 0 → vb = []) :
    Kq.part x va na ++ ra = Kq.part x vb nb ++ rb ↔ likeB (va, na) (vb, nb) = true ∧ ra = rb := by
  unfold Kq.part likeB
  simp only [itoa_nat, List.append_assoc, List.append_cancel_left_eq, Bool.and_eq_true, beq_iff_eq]
  by_cases h1 : na = 0 <;> by_cases h2 : nb = 0
  · simp [h1, h2, ha h1, hb h2]
  · rw [if_pos h1, if_neg h2]
    have hd := dec_ne vb.length
    have hc := dec_dig vb.length
    constructor
    · intro h
      cases hq : Go.Lib.decDigits vb.length with
      | nil => exact absurd hq hd
      | cons c r =>
        rw [hq] at h hc
        simp at h
        have := hc c (by simp)
        rw [← h.1] at this
        have h45 : (45 : UInt8).toNat = 45 := rfl
        omega
    · simp [h1, h2]
  · rw [if_neg h1, if_pos h2]
    have hd := dec_ne va.length
    have hc := dec_dig va.length
    constructor
    · intro h
      cases hq : Go.Lib.decDigits va.length with
      | nil => exact absurd hq hd
      | cons c r =>
        rw [hq] at h hc
        simp at h
        have := hc c (by simp)
        rw [h.1] at this
        have h45 : (45 : UInt8).toNat = 45 := rfl
        omega
    · simp [h1, h2]
  · rw [if_neg h1, if_neg h2]
    constructor
    · intro h
      simp only [List.append_assoc, List.singleton_append] at h
      obtain ⟨e1, e2⟩ := cut_same (not58 _) (not58 _) h
      have e3 : va.length = vb.length := by rw [← dval_dec va.length, ← dval_dec vb.length, e1]
      have e2 : va ++ ([44] ++ ra) = vb ++ ([44] ++ rb) := by
        have := e2
        simpa using this
      obtain ⟨e4, e5⟩ := List.append_inj e2 e3
      exact ⟨⟨e4, by simp [h1, h2]⟩, by simpa using e5⟩
    · rintro ⟨⟨rfl, _⟩, rfl⟩
      rfl
theorem gv_none (l : List Fld) (s : Bs) : (gv l s).2 = 0 → (gv l s).1 = [] := by
  intro h
  have : valsOf l s = [] := List.length_eq_zero_iff.1 h
  show joinS (valsOf l s) = []
  rw [this]; rfl
/-- Two requests have one key just if of each name both have no field, or fields with the same text. -/
theorem keyS_eq (a b : List Fld) : ∀ names : List Bs, (keyS names a == keyS names b) = names.all fun s => likeB (gv a s) (gv b s)
  | [] => rfl
  | x :: r => by
    have ih := keyS_eq a b r
    have e := part_eq (x := x) (ra := keyS r a) (rb := keyS r b) (gv_none a x) (gv_none b x)
    rw [Bool.eq_iff_iff, beq_iff_eq, List.all_cons, Bool.and_eq_true, ← ih, beq_iff_eq]
    exact e
theorem likeB_eq (a b : Bs × Nat) : likeB a b = (a.1 == b.1 && (decide ((a.2 : Int) > 0) == decide ((b.2 : Int) > 0))) := by
  unfold likeB
  congr 1
  by_cases h1 : a.2 = 0 <;> by_cases h2 : b.2 = 0 <;> simp [h1, h2] <;> omega
end Go.Proofs.YtfihnnebffkbfaaDoor.Vh
