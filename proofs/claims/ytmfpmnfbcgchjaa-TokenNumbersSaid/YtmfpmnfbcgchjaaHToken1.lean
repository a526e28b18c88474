/- Walks of the small functions of package token that take a function: what they answer, in the print's form. -/
import Derived.Test.YtmfpmnfbcgchjaaProg
import Derived.WalkKit
import Derived.LoopTactic
import Derived.Lib.Hide
import Derived.Test.YtmfpmnfbcgchjaaWWords
namespace Go.Proofs.Ytmfpmnfbcgchjaa.Hp
open Go.RowKit Go.Proofs.YtmfpmnfbcgchjaaW.PrintWords

theorem drawn_trans {w w1 w2 : World} (h : Drawn0 w w1) (g : Drawn0 w1 w2) : Drawn0 w w2 := by
  obtain ⟨n, rfl⟩ := g
  exact h.step n

def allF (p : Int → Bool) (l : List UInt8) : Bool := l.all fun c => p c.toNat
theorem allF_take (p : Int → Bool) (l : List UInt8) (k : Nat) (h : allF p (l.take k) = true) (hk : k < l.length) (hp : p (l[k]'hk).toNat = true) : allF p (l.take (k + 1)) = true := by
  rw [List.take_succ_eq_append_getElem hk]
  unfold allF at *
  rw [List.all_append, h]
  simpa using hp
theorem allF_false (p : Int → Bool) (l : List UInt8) (k : Nat) (hk : k < l.length) (hp : p (l[k]'hk).toNat = false) : allF p l = false := by
  unfold allF
  rw [List.all_eq_false]
  exact ⟨l[k], List.getElem_mem hk, by simpa using hp⟩

def isDig (c : Int) : Bool := decide (48 ≤ c ∧ c ≤ 57)
set_option maxHeartbeats 400000 in
theorem number1_calls (c : Int) (w : World) (_h0 : 0 ≤ c) (_h1 : c ≤ 255) :
    Calls Try.prog 10 #[.int .u8 c] w fun e w' => e = .returned (.bool (isDig c)) ∧ Drawn0 w w' := by
  go_enter Try.func10, Try.ntmps10
  unfold isDig
  by_cases k0 : 48 ≤ c
  · by_cases k1 : c ≤ 57
    · go_wp2
      go_ret
      exact ⟨by simp [k0, k1], Drawn0.refl _⟩
    · go_wp2
      go_ret
      exact ⟨by simp [k1], Drawn0.refl _⟩
  · go_wp2
    go_ret
    exact ⟨by simp; omega, Drawn0.refl _⟩

set_option maxHeartbeats 400000 in
theorem all_dig (p : Int → Bool) (hf : ∀ (c : Int) (w : World), 0 ≤ c → c ≤ 255 → Calls Try.prog 10 #[.int .u8 c] w fun e w' => e = .returned (.bool (p c)) ∧ Drawn0 w w')
    (s : ByteArray) (w : World) (hs : s.size ≤ 140737488351232) :
    Calls Try.prog 9 #[.string s, .func (.func 10) #[] #[]] w fun e w' => e = .returned (.bool (allF p s.data.toList)) ∧ Drawn0 w w' := by
  have HF := Lib.hid hf; clear hf
  go_enter Try.func9, Try.ntmps9
  go_wp2
  go_loopw [5, 8] (fun _ i w' => ∃ k : Nat, k ≤ s.size ∧ i = .int .i64 k ∧ allF p (s.data.toList.take k) = true ∧ Drawn0 w w') (fun _ i _ => s.size - (intOf i).toNat)
  case atStart => exact ⟨0, Nat.zero_le _, rfl, rfl, Drawn0.refl _⟩
  case round =>
    obtain ⟨k, hk, rfl, ha, hb⟩ := hrel
    have HA := Lib.hid ha; clear ha
    by_cases hlt : k < s.size
    · have H1 := Lib.hid (HF.out (s[k]'hlt).toNat wr (by omega) (by have := (s[k]'hlt).toNat_lt; omega))
      by_cases hp : p ((s[k]'hlt).toNat : Int) = true
      · go_wp2_with (go_at_call 10; refine H1.out.mono ?_; rintro e w' ⟨rfl, hb2⟩)
        go_roundw
        case rel => exact ⟨k + 1, by omega, by go_num, allF_take p s.data.toList k HA.out (by simpa using hlt) (by rw [Array.getElem_toList]; exact hp), drawn_trans hb hb2⟩
        case measure => simp [intOf]; omega
      · have hp' : p ((s[k]'hlt).toNat : Int) = false := by simpa using hp
        clear hp
        go_wp2_with (go_at_call 10; refine H1.out.mono ?_; rintro e w' ⟨rfl, hb2⟩)
        go_ret
        exact ⟨congrArg (fun b => Ending.returned (.bool b)) (allF_false p s.data.toList k (by simpa using hlt) (by rw [Array.getElem_toList]; exact hp')).symm, drawn_trans hb hb2⟩
    · go_wp2
      go_ret
      exact ⟨congrArg (fun b => Ending.returned (.bool b)) (by have := HA.out; rw [List.take_of_length_le (by simp; omega)] at this; exact this.symm), hb⟩

def all_Number1.f (a0 : ByteArray) : Option Bool := if a0.size ≤ 140737488351232 then some (allF isDig a0.data.toList) else none
theorem all_Number1.calls (a0 : ByteArray) (r : Bool) (w : World) (h : all_Number1.f a0 = some r) :
    Calls Try.prog 9 #[.string a0, .func (.func 10) #[] #[]] w fun e w' => e = .returned (.bool r) ∧ Drawn0 w w' := by
  unfold all_Number1.f at h
  split at h
  · rename_i hs
    injection h with h
    subst h
    exact all_dig isDig number1_calls a0 w hs
  · cases h
end Go.Proofs.Ytmfpmnfbcgchjaa.Hp
