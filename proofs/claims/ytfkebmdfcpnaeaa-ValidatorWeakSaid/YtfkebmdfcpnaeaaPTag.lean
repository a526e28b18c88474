/- Package validator's Parse: what a text's tag is. -/
import Derived.Test.YtfkebmdfcpnaeaaHp2
import Derived.Test.YtfkebmdfcpnaeaaPCut
set_option linter.unusedVariables false
set_option linter.unusedSimpArgs false
namespace Go.Proofs.Ytfkebmdfcpnaeaa.Hp
open Go.RowKit Go.Proofs.YtfkebmdfcpnaeaaW.PrintWords

def tagBad (c : UInt8) : Bool := decide ((c.toNat : Int) ≤ 32 ∨ (c.toNat : Int) = 34 ∨ (c.toNat : Int) = 92 ∨ (c.toNat : Int) = 127)
/-- A tag: whether it is weak, its text, whether it is one. -/
def tagS (l : List UInt8) : Bool × List UInt8 × Bool :=
  if (cutP [34] (cutP [87, 47] l).1).2 = true ∧ (cutS [34] (cutP [34] (cutP [87, 47] l).1).1).2 = true ∧ (cutS [34] (cutP [34] (cutP [87, 47] l).1).1).1.any tagBad = false
  then ((cutP [87, 47] l).2, (cutS [34] (cutP [34] (cutP [87, 47] l).1).1).1, true) else (false, [], false)
def tagB (s : ByteArray) : Bool × ByteArray × Bool := ((tagS (bs s)).1, ofL (tagS (bs s)).2.1, (tagS (bs s)).2.2)

theorem cutP_len (p l : List UInt8) : (cutP p l).1.length ≤ l.length := by
  unfold cutP
  split
  · simp
  · exact Nat.le_refl _
theorem cutS_len (p l : List UInt8) : (cutS p l).1.length ≤ l.length := by
  unfold cutS
  split
  · simp
  · exact Nat.le_refl _

theorem parse_l0 (w : Bool) (s : ByteArray) (hs : s.size ≤ 140737488351232) (l : List UInt8) : ∀ (i : Nat), (bs s).drop i = l →
    Ev (fun k => validator_Parse.l0 k w s (s.size : Int) (i : Int)) (if l.any tagBad = true then (false, (⟨#[]⟩ : ByteArray), false) else (w, s, true)) := by
  induction l with
  | nil =>
    intro i hl
    have := drop_nil hl
    rw [if_neg (by simp)]
    refine Ev.step (f := fun _ => some (w, s, true)) (fun k => ?_) (Ev.now _)
    simp only [validator_Parse.l0]
    rw [if_neg (by omega)]
  | cons c cs ih =>
    intro i hl
    obtain ⟨hi, hc, hd⟩ := drop_cons hl
    by_cases hb : tagBad c = true
    · rw [if_pos (by simp [hb])]
      refine Ev.step (f := fun _ => some (false, (⟨#[]⟩ : ByteArray), false)) (fun k => ?_) (Ev.now _)
      simp only [validator_Parse.l0]
      rw [if_pos (by omega), if_pos (by omega), if_pos (by omega), hc]
      unfold tagBad at hb
      simp only [decide_eq_true_eq] at hb
      by_cases h1 : (c.toNat : Int) ≤ 32
      · rw [if_pos h1]
      · rw [if_neg h1]
        by_cases h2 : (c.toNat : Int) = 34
        · rw [if_pos h2]
        · rw [if_neg h2]
          by_cases h3 : (c.toNat : Int) = 92
          · rw [if_pos h3]
          · rw [if_neg h3, if_pos (by omega)]
    · have hb' : tagBad c = false := by simpa using hb
      rw [show (c :: cs).any tagBad = cs.any tagBad from by simp [hb']]
      refine Ev.step (fun k => ?_) (ih (i + 1) hd)
      simp only [validator_Parse.l0]
      unfold tagBad at hb
      simp only [decide_eq_true_eq] at hb
      rw [if_pos (by omega), if_pos (by omega), if_pos (by omega), hc, if_neg (by omega), if_neg (by omega), if_neg (by omega), if_neg (by omega), wrap_id (x := (i : Int) + 1) (by omega) (by omega)]
      rfl

theorem parse_ev (s : ByteArray) (hs : s.size ≤ 140737488351232) : Ev (fun k => validator_Parse.f k s) (tagB s) := by
  unfold validator_Parse.f
  rw [cutPrefix_f]
  simp only [Option.bind_some]
  rw [cutPrefix_f, bs_ofL]
  simp only [Option.bind_some]
  have h1 := cutP_len [87, 47] (bs s)
  have h2 := cutP_len [34] (cutP [87, 47] (bs s)).1
  rw [show bs ⟨#[87, 47]⟩ = [87, 47] from rfl, show bs ⟨#[34]⟩ = [34] from rfl, cutSuffix_f _ _ (by rw [ofL_size]; rw [bs_length] at h1; omega), bs_ofL, show bs ⟨#[34]⟩ = [34] from rfl]
  simp only [Option.bind_some]
  unfold tagB tagS
  generalize (cutP [87, 47] (bs s)).2 = w
  have h3 := cutS_len [34] (cutP [34] (cutP [87, 47] (bs s)).1).1
  generalize (cutP [34] (cutP [87, 47] (bs s)).1).2 = b at *
  generalize (cutS [34] (cutP [34] (cutP [87, 47] (bs s)).1).1).2 = e at *
  have h4 : (cutS [34] (cutP [34] (cutP [87, 47] (bs s)).1).1).1.length ≤ 140737488351232 := by rw [bs_length] at h1; omega
  generalize (cutS [34] (cutP [34] (cutP [87, 47] (bs s)).1).1).1 = t at *
  clear h1 h2 h3
  have hj : ∀ t, Ev (fun k => validator_Parse.j0 k w t true) (false, (⟨#[]⟩ : ByteArray), false) := fun t => by
    refine Ev.step (f := fun _ => some (false, (⟨#[]⟩ : ByteArray), false)) (fun k => ?_) (Ev.now _)
    simp only [validator_Parse.j0, if_true]
  cases b with
  | false => simpa [show ofL [] = ⟨#[]⟩ from rfl] using hj (ofL t)
  | true =>
    cases e with
    | false => simpa [show ofL [] = ⟨#[]⟩ from rfl] using hj (ofL t)
    | true =>
      simp only [if_true, Bool.not_true, true_and]
      refine Ev.step (fun k => ?_) (f := fun k => validator_Parse.l0 k w (ofL t) ((ofL t).size : Int) ((0 : Nat) : Int)) ?_
      · simp only [validator_Parse.j0]
        rw [if_neg (by simp)]
        rfl
      · have := parse_l0 w (ofL t) (by rw [ofL_size]; exact h4) t 0 (by rw [bs_ofL]; rfl)
        by_cases ha : t.any tagBad = true
        · rw [if_pos ha] at this
          rw [if_neg (by simp [ha])]
          exact this
        · rw [if_neg ha] at this
          rw [if_pos (by simpa using ha)]
          exact this

theorem cutP_back (p l : List UInt8) (h : (cutP p l).2 = true) : l = p ++ (cutP p l).1 := by
  unfold cutP at *
  split at h
  · rename_i hp
    rw [if_pos hp]
    have := List.take_append_drop p.length l
    rw [hp] at this
    exact this.symm
  · cases h
theorem cutP_none (p l : List UInt8) (h : (cutP p l).2 = false) : (cutP p l).1 = l := by
  unfold cutP at *
  split at h
  · cases h
  · rename_i hp
    rw [if_neg hp]
theorem cutS_back (p l : List UInt8) (h : (cutS p l).2 = true) : l = (cutS p l).1 ++ p := by
  unfold cutS at *
  split at h
  · rename_i hp
    rw [if_pos hp]
    have := List.take_append_drop (l.length - p.length) l
    rw [hp.2] at this
    exact this.symm
  · cases h
/-- A text with a tag is its tag, told. -/
theorem tagS_back (l : List UInt8) (h : (tagS l).2.2 = true) : l = (if (tagS l).1 = true then [87, 47] else []) ++ ([34] ++ ((tagS l).2.1 ++ [34])) := by
  unfold tagS at *
  split at h
  · rename_i hc
    simp only [if_pos hc]
    obtain ⟨h1, h2, h3⟩ := hc
    have e1 : l = (if (cutP [87, 47] l).2 = true then [87, 47] else []) ++ (cutP [87, 47] l).1 := by
      by_cases hw : (cutP [87, 47] l).2 = true
      · rw [if_pos hw]
        exact cutP_back _ _ hw
      · rw [if_neg hw]
        exact (cutP_none _ _ (by simpa using hw)).symm
    have e2 := cutP_back _ _ h1
    have e3 := cutS_back _ _ h2
    rw [← e3, ← e2, ← e1]
  · cases h
theorem tagS_none (l : List UInt8) (h : (tagS l).2.2 = false) : tagS l = (false, [], false) := by
  unfold tagS at *
  split at h
  · cases h
  · rename_i hc
    rw [if_neg hc]
end Go.Proofs.Ytfkebmdfcpnaeaa.Hp
