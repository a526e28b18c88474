/- The document's layer 1 on the small machine: bytes, Is, Value, Lower, Same, Trim. -/
import Derived.Test.YtfkebmdfcpnaeaaDoorVTrim
set_option linter.unusedVariables false
set_option linter.unusedSimpArgs false
namespace Go.Proofs.YtfkebmdfcpnaeaaDoor.Vh
open Go.Vm Go.Vt
attribute [local congr] wi_congr wg_congr wgd_congr wb_congr wl_congr cf_congr
variable {L : FuncId → List V → V → Prop} {h : Heap}
theorem tokB_az (c : UInt8) : (c.toNat : Int) ≥ 97 → (c.toNat : Int) ≤ 122 → tokB c = true :=
  byte_all (p := fun c => (c.toNat : Int) ≥ 97 → (c.toNat : Int) ≤ 122 → tokB c = true) (by decide +kernel) c
theorem tokB_AZ (c : UInt8) : (c.toNat : Int) ≥ 65 → (c.toNat : Int) ≤ 90 → tokB c = true :=
  byte_all (p := fun c => (c.toNat : Int) ≥ 65 → (c.toNat : Int) ≤ 90 → tokB c = true) (by decide +kernel) c
theorem tokB_no2 (c : UInt8) : ¬ ((c.toNat : Int) ≥ 97 ∧ (c.toNat : Int) ≤ 122) → ¬ ((c.toNat : Int) ≥ 65 ∧ (c.toNat : Int) ≤ 90) → ¬ ((c.toNat : Int) ≥ 48 ∧ (c.toNat : Int) ≤ 57) → ¬ (c.toNat : Int) ∈ marksL → tokB c = false :=
  byte_all (p := fun c => ¬ ((c.toNat : Int) ≥ 97 ∧ (c.toNat : Int) ≤ 122) → ¬ ((c.toNat : Int) ≥ 65 ∧ (c.toNat : Int) ≤ 90) → ¬ ((c.toNat : Int) ≥ 48 ∧ (c.toNat : Int) ≤ 57) → ¬ (c.toNat : Int) ∈ marksL → tokB c = false) (by decide +kernel) c
theorem isVal_ref (s : Bs) : isVal s = (s.all valB && (s == [] || (!blankB (s.getD 0 0) && !blankB (s.getD (s.length - 1) 0)))) := by
  have key : (decide (trim s = s)) = (s == [] || (!blankB (s.getD 0 0) && !blankB (s.getD (s.length - 1) 0))) := by
    cases hn : s.length with
    | zero =>
      obtain rfl : s = [] := List.eq_nil_of_length_eq_zero hn
      rfl
    | succ n =>
      obtain ⟨q, c, rfl, hq, hc, ht⟩ := last_at hn
      have e1 : ((q ++ [c] : Bs) == []) = false := by cases q <;> rfl
      rw [e1, Nat.add_sub_cancel, hc, Bool.false_or]
      cases hb : blankB c with
      | true =>
        have : trim (q ++ [c]) ≠ q ++ [c] := by
          intro he
          have := congrArg List.length he
          unfold trim at this
          rw [trimR_blank hb] at this
          have h1 := trimL_length (trimR q)
          have h2 := trimR_length q
          simp at this
          omega
        simp [this]
      | false =>
        unfold trim
        rw [trimR_full hb]
        cases q with
        | nil => simp [trimL, hb]
        | cons d q =>
          rw [List.cons_append]
          cases hd : blankB d with
          | true =>
            rw [trimL_blank hd]
            have : trimL (q ++ [c]) ≠ d :: (q ++ [c]) := by
              intro he
              have := congrArg List.length he
              have h1 := trimL_length (q ++ [c])
              simp at this h1
              omega
            simp [this, hd]
          | false =>
            rw [trimL_full hd]
            simp [hd]
  rw [isVal, key, Bool.and_comm]
theorem val_ref (c : UInt8) : valB c = !(!blankB c && (decide ((c.toNat : Int) < 33) || decide ((c.toNat : Int) = 127))) :=
  byte_all (p := fun c => valB c = !(!blankB c && (decide ((c.toNat : Int) < 33) || decide ((c.toNat : Int) = 127)))) (by decide +kernel) c
theorem low_up (c : UInt8) : (c.toNat : Int) ≥ 65 → (c.toNat : Int) ≤ 90 → IntKind.u8.wrap ((c.toNat : Int) + 32) = ((lowB c).toNat : Int) :=
  byte_all (p := fun c => (c.toNat : Int) ≥ 65 → (c.toNat : Int) ≤ 90 → IntKind.u8.wrap ((c.toNat : Int) + 32) = ((lowB c).toNat : Int)) (by decide +kernel) c
theorem toStr_one {c : UInt8} {h : Heap} : stepI (.toStr (.c (.sl 1 .full [byV c]))) E0 h = some (.str [c], h) := by
  simp [stepI, Arg.get, srcElems, toBytesL, toByte]
end Go.Proofs.YtfkebmdfcpnaeaaDoor.Vh
