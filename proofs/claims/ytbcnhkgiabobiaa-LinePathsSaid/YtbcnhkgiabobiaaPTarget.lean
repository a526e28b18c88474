/- Targets: the program's and the document's. -/
import Derived.Test.YtbcnhkgiabobiaaPLib
import Derived.Test.YtbcnhkgiabobiaaHp1
import Derived.Test.YtbcnhkgiabobiaaHp2
set_option linter.unusedVariables false
set_option linter.unusedSimpArgs false
namespace Go.Proofs.Ytbcnhkgiabobiaa.Hp
open Go.RowKit Go.Proofs.YtbcnhkgiabobiaaW.PrintWords

def inTarget (c : UInt8) : Bool := decide (33 ≤ (c.toNat : Int) ∧ (c.toNat : Int) ≤ 126)
def targetS (l : List UInt8) : Bool := l.all inTarget && !l.isEmpty
theorem target_l0 (s : ByteArray) (hs : s.size ≤ 140737488351232) (l : List UInt8) : ∀ (i : Nat), (bs s).drop i = l → Ev (fun k => line_isTarget.l0 k s (s.size : Int) (i : Int)) (l.all inTarget && !(bs s).isEmpty) := by
  induction l with
  | nil =>
    intro i hl
    have := drop_nil hl
    refine Ev.step (f := fun _ => some (!(bs s).isEmpty)) (fun k => ?_) (by simpa using Ev.now _)
    simp only [line_isTarget.l0]
    rw [if_neg (by omega), toList_bs]
    cases bs s <;> simp
  | cons c cs ih =>
    intro i hl
    obtain ⟨hi, hc, hd⟩ := drop_cons hl
    by_cases hb : inTarget c = true
    · rw [List.all_cons, hb, Bool.true_and]
      refine Ev.step (fun k => ?_) (ih (i + 1) hd)
      unfold inTarget at hb
      simp only [decide_eq_true_eq] at hb
      simp only [line_isTarget.l0]
      rw [if_pos (by omega), if_pos (by omega), if_pos (by omega), hc, if_neg (by omega), if_neg (by omega), wrap_id (x := (i : Int) + 1) (by omega) (by omega)]
      rfl
    · have hb' : inTarget c = false := by simpa using hb
      rw [List.all_cons, hb', Bool.false_and, Bool.false_and]
      refine Ev.step (f := fun _ => some false) (fun k => ?_) (Ev.now _)
      unfold inTarget at hb
      simp only [decide_eq_true_eq] at hb
      simp only [line_isTarget.l0]
      rw [if_pos (by omega), if_pos (by omega), if_pos (by omega), hc]
      by_cases h1 : (c.toNat : Int) ≤ 32
      · rw [if_pos h1]
      · rw [if_neg h1, if_pos (by omega)]
theorem target_ev (s : ByteArray) (hs : s.size ≤ 140737488351232) : Ev (fun k => line_isTarget.f k s) (targetS (bs s)) := by
  unfold line_isTarget.f
  exact target_l0 s hs (bs s) 0 rfl
theorem ref_target_l0 (s : ByteArray) (hs : s.size ≤ 140737488351232) (l : List UInt8) : ∀ (i : Nat), (bs s).drop i = l → Ev (fun k => gatepostref03_target.l0 k s (i : Int)) (l.all inTarget && !(bs s).isEmpty) := by
  induction l with
  | nil =>
    intro i hl
    have := drop_nil hl
    refine Ev.step (f := fun _ => some (!(bs s).isEmpty)) (fun k => ?_) (by simpa using Ev.now _)
    simp only [gatepostref03_target.l0]
    rw [if_neg (by omega), ← bs_length]
    cases bs s <;> simp
  | cons c cs ih =>
    intro i hl
    obtain ⟨hi, hc, hd⟩ := drop_cons hl
    by_cases hb : inTarget c = true
    · rw [List.all_cons, hb, Bool.true_and]
      refine Ev.step (fun k => ?_) (ih (i + 1) hd)
      unfold inTarget at hb
      simp only [decide_eq_true_eq] at hb
      simp only [gatepostref03_target.l0]
      rw [if_pos (by omega), if_pos (by omega), hc, if_neg (by omega), if_neg (by omega), wrap_id (x := (i : Int) + 1) (by omega) (by omega)]
      rfl
    · have hb' : inTarget c = false := by simpa using hb
      rw [List.all_cons, hb', Bool.false_and, Bool.false_and]
      refine Ev.step (f := fun _ => some false) (fun k => ?_) (Ev.now _)
      unfold inTarget at hb
      simp only [decide_eq_true_eq] at hb
      simp only [gatepostref03_target.l0]
      rw [if_pos (by omega), if_pos (by omega), hc]
      by_cases h1 : (c.toNat : Int) < 33
      · rw [if_pos h1]
      · rw [if_neg h1, if_pos (by omega)]
theorem ref_target_ev (s : ByteArray) (hs : s.size ≤ 140737488351232) : Ev (fun k => gatepostref03_target.f k s) (targetS (bs s)) := by
  unfold gatepostref03_target.f
  exact ref_target_l0 s hs (bs s) 0 rfl
end Go.Proofs.Ytbcnhkgiabobiaa.Hp
