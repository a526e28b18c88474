/- Small letters: the program's Lower and Same, and the document's. -/
import Derived.Test.YtmfpmnfbcgchjaaPLib
import Derived.Test.YtmfpmnfbcgchjaaHLower
set_option linter.unusedVariables false
set_option linter.unusedSimpArgs false
namespace Go.Proofs.Ytmfpmnfbcgchjaa.Hp
open Go.RowKit Go.Proofs.YtmfpmnfbcgchjaaW.PrintWords

theorem lowerS_ofL (s : ByteArray) : lowerS s = ofL ((bs s).map lowB) := rfl
theorem lower_f (s : ByteArray) (hs : s.size ≤ 140737488351232) : token_Lower.f s = some (ofL ((bs s).map lowB)) := by
  unfold token_Lower.f
  rw [if_pos hs]
  rfl
theorem ofL_append (l m : List UInt8) : ofL l ++ ofL m = ofL (l ++ m) := by
  apply bs_inj
  rw [bs_ofL]
  unfold bs ofL
  rw [ByteArray.data_append]
  simp
theorem append_ofL (s t : ByteArray) : s ++ t = ofL (bs s ++ bs t) := by rw [← ofL_append, ofL_bs, ofL_bs]
theorem strOf_one (n : Int) (c : UInt8) (h : n = (c.toNat : Int)) : strOfNums [n] = ofL [c] := by
  unfold strOfNums ofL
  rw [h]
  simp
theorem low_up (c : UInt8) (h1 : (65 : Int) ≤ (c.toNat : Int)) (h2 : (c.toNat : Int) ≤ 90) : ((c.toNat : Int) + 32) % 256 = ((lowB c).toNat : Int) := by
  have h : ∀ n : Fin 256, 65 ≤ n.val → n.val ≤ 90 → (((n.val : Nat) : Int) + 32) % 256 = (((lowB (UInt8.ofNat n.val)).toNat : Nat) : Int) := by decide +kernel
  have := h ⟨c.toNat, c.toNat_lt⟩ (by simp; omega) (by simp; omega)
  simpa using this

end Go.Proofs.Ytmfpmnfbcgchjaa.Hp
