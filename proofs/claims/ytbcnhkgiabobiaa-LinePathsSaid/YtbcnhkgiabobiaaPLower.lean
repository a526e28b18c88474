/- Small letters: the program's Lower and Same, and the document's. -/
import Derived.Test.YtbcnhkgiabobiaaPLib
import Derived.Test.YtbcnhkgiabobiaaHLower
import Derived.Test.YtbcnhkgiabobiaaHp2
set_option linter.unusedVariables false
set_option linter.unusedSimpArgs false
namespace Go.Proofs.Ytbcnhkgiabobiaa.Hp
open Go.RowKit Go.Proofs.YtbcnhkgiabobiaaW.PrintWords

theorem lowerS_ofL (s : ByteArray) : lowerS s = ofL ((bs s).map lowB) := rfl
theorem lower_f (s : ByteArray) (hs : s.size ≤ 140737488351232) : token_Lower.f s = some (ofL ((bs s).map lowB)) := by
  unfold token_Lower.f
  rw [if_pos hs]
  rfl
theorem ofL_append (l m : List UInt8) : ofL l ++ ofL m = ofL (l ++ m) := by
  apply bs_inj
  rw [bs_ofL]
  unfold bs ofL
  rw [ByteArray.data_append]
  simp
theorem append_ofL (s t : ByteArray) : s ++ t = ofL (bs s ++ bs t) := by rw [← ofL_append, ofL_bs, ofL_bs]
theorem strOf_one (n : Int) (c : UInt8) (h : n = (c.toNat : Int)) : strOfNums [n] = ofL [c] := by
  unfold strOfNums ofL
  rw [h]
  simp
theorem low_up (c : UInt8) (h1 : (65 : Int) ≤ (c.toNat : Int)) (h2 : (c.toNat : Int) ≤ 90) : ((c.toNat : Int) + 32) % 256 = ((lowB c).toNat : Int) := by
  have h : ∀ n : Fin 256, 65 ≤ n.val → n.val ≤ 90 → (((n.val : Nat) : Int) + 32) % 256 = (((lowB (UInt8.ofNat n.val)).toNat : Nat) : Int) := by decide +kernel
  have := h ⟨c.toNat, c.toNat_lt⟩ (by simp; omega) (by simp; omega)
  simpa using this

theorem ref_lower_l0 (s : ByteArray) (hs : s.size ≤ 140737488351232) (l : List UInt8) : ∀ (i : Nat) (o : List UInt8), (bs s).drop i = l → o.length ≤ i →
    Ev (fun k => gatepostref01_Lower.l0 k s (ofL o) (i : Int)) (ofL (o ++ l.map lowB)) := by
  induction l with
  | nil =>
    intro i o hl ho
    have := drop_nil hl
    refine Ev.step (f := fun _ => some (ofL (o ++ [].map lowB))) (fun k => ?_) (Ev.now _)
    simp only [gatepostref01_Lower.l0]
    rw [if_neg (by omega)]
    simp
  | cons c cs ih =>
    intro i o hl ho
    obtain ⟨hi, hc, hd⟩ := drop_cons hl
    have e : o ++ (c :: cs).map lowB = (o ++ [lowB c]) ++ cs.map lowB := by simp
    rw [e]
    refine Ev.step (fun k => ?_) (ih (i + 1) (o ++ [lowB c]) hd (by simp; omega))
    simp only [gatepostref01_Lower.l0]
    rw [if_pos (by omega), if_pos (by omega), hc]
    have key : ∀ n : Int, n = ((lowB c).toNat : Int) → (some ([n] : List Int)).bind (fun y109 => (if (ofL o).size + (strOfNums y109).size ≤ 9223372036854775807 then (gatepostref01_Lower.l0 k s ((ofL o) ++ (strOfNums y109)) (wrap64 ((i : Int) + 1))) else (none))) = gatepostref01_Lower.l0 k s (ofL (o ++ [lowB c])) ((i + 1 : Nat) : Int) := fun n hn => by
      simp only [Option.bind_some]
      rw [strOf_one n (lowB c) hn, ofL_size, ofL_size, if_pos (by simp; omega), ofL_append, wrap_id (x := (i : Int) + 1) (by omega) (by omega)]
      rfl
    by_cases h1 : (c.toNat : Int) ≥ 65
    · rw [if_pos h1]
      by_cases h2 : (c.toNat : Int) ≤ 90
      · rw [if_pos h2]
        exact key _ (low_up c h1 h2)
      · rw [if_neg h2]
        exact key _ (by rw [low_same c (by omega)])
    · rw [if_neg h1]
      exact key _ (by rw [low_same c (by omega)])
theorem ref_lower_ev (s : ByteArray) (hs : s.size ≤ 140737488351232) : Ev (fun k => gatepostref01_Lower.f k s) (ofL ((bs s).map lowB)) := by
  unfold gatepostref01_Lower.f
  exact ref_lower_l0 s hs (bs s) 0 [] rfl (by simp)
end Go.Proofs.Ytbcnhkgiabobiaa.Hp
