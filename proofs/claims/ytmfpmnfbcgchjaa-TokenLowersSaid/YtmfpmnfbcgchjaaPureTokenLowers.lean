/- Small letters of small letters are these, and the rest of the law: the plain law, over what the walks show. -/
import Derived.Test.YtmfpmnfbcgchjaaHp1
import Derived.Test.YtmfpmnfbcgchjaaPLower
set_option linter.unusedVariables false
set_option linter.unusedSimpArgs false
namespace Go.Proofs.Ytmfpmnfbcgchjaa.Pure
open Go.RowKit Go.Proofs.Ytmfpmnfbcgchjaa.Hp Go.Proofs.YtmfpmnfbcgchjaaW.PrintWords Go.Proofs.YtmfpmnfbcgchjaaW.PrintLast

theorem low_low (c : UInt8) : lowB (lowB c) = lowB c := by
  have h : ∀ n : Fin 256, lowB (lowB (UInt8.ofNat n.val)) = lowB (UInt8.ofNat n.val) := by decide +kernel
  have := h ⟨c.toNat, c.toNat_lt⟩
  simpa using this
theorem low_flip (c : UInt8) : lowB c ≠ lowB (c ^^^ 1) := by
  have h : ∀ n : Fin 256, lowB (UInt8.ofNat n.val) ≠ lowB (UInt8.ofNat n.val ^^^ 1) := by decide +kernel
  have := h ⟨c.toNat, c.toNat_lt⟩
  simpa using this
def lowL (l : List UInt8) : List UInt8 := l.map lowB
theorem lowL_low (l : List UInt8) : lowL (lowL l) = lowL l := by
  unfold lowL
  rw [List.map_map]
  exact List.map_congr_left fun c _ => low_low c
theorem lowL_length (l : List UInt8) : (lowL l).length = l.length := by simp [lowL]
theorem same_f (a b : ByteArray) (ha : a.size ≤ 140737488351232) (hb : b.size ≤ 140737488351232) (hs : a.size = b.size) : token_Same.f a b = some (lowL (bs a) == lowL (bs b)) := by
  unfold token_Same.f
  rw [if_pos (by rw [hs]), lower_f a ha, lower_f b hb]
  simp only [Option.bind_some, toList_bs, bs_ofL]
  rfl
theorem flip_bs (a1 : Int) (s : ByteArray) : bs (flipS a1 s) = flipL (placeS a1 s.size) (bs s) := by
  unfold flipS bs
  simp
theorem flip_ne (i : Nat) (l : List UInt8) (hi : i < l.length) : lowL l ≠ lowL (flipL i l) := by
  intro h
  have h1 : (lowL l)[i]? = some (lowB l[i]) := by simp [lowL, hi]
  have h2 : (lowL (flipL i l))[i]? = some (lowB (l[i] ^^^ 1)) := by
    unfold lowL flipL
    rw [List.map_set, List.getElem?_set]
    simp [hi]
  rw [h, h2] at h1
  exact low_flip _ (Option.some.inj h1).symm

theorem lowers_j1 (a1 : Int) (s : ByteArray) (hs : s.size ≤ 140737488351231) : Ev (fun k => gatepostlaw01_TokenLowers.j1 a1 k s false) true := by
  refine Ev.step (f := fun _ => some true) (fun k => ?_) (Ev.now _)
  simp only [gatepostlaw01_TokenLowers.j1]
  rw [if_neg (by simp)]
  by_cases h0 : (s.size : Int) = 0
  · rw [if_pos h0]
  · rw [if_neg h0, if_pos (by omega)]
    obtain ⟨_, hp⟩ := place_ok a1 s.size (by omega) (by omega)
    have hz : (flipS a1 s).size = s.size := by
      rw [← bs_length, flip_bs]
      simp [flipL, bs_length]
    rw [same_f s _ (by omega) (by omega) hz.symm, flip_bs, beq_eq_false_iff_ne.mpr (flip_ne _ _ (by rw [bs_length]; exact hp))]
    simp only [Option.bind_some]
    rw [if_neg (by simp)]
    have hz2 : (s ++ (⟨#[97]⟩ : ByteArray)).size = s.size + 1 := by rw [ByteArray.size_append]; rfl
    unfold token_Same.f
    rw [if_neg (by rw [hz2]; omega)]
    rfl
theorem lowers_j0 (a1 : Int) (s : ByteArray) (hs : s.size ≤ 140737488351231) : Ev (fun k => gatepostlaw01_TokenLowers.j0 a1 k s) true := by
  refine Ev.step (f := fun k => gatepostlaw01_TokenLowers.j1 a1 k s false) (fun k => ?_) (lowers_j1 a1 s hs)
  simp only [gatepostlaw01_TokenLowers.j0]
  have hz : (ofL (lowL (bs s))).size = s.size := by rw [ofL_size, lowL_length, bs_length]
  have e1 : token_Lower.f s = some (ofL (lowL (bs s))) := lower_f s (by omega)
  have e2 : token_Lower.f (ofL (lowL (bs s))) = some (ofL (lowL (bs s))) := by
    rw [lower_f _ (by omega), bs_ofL]
    show some (ofL (lowL (lowL (bs s)))) = _
    rw [lowL_low]
  have e3 : token_Same.f s (ofL (lowL (bs s))) = some true := by
    rw [same_f _ _ (by omega) (by omega) hz.symm, bs_ofL, lowL_low, beq_self_eq_true]
  have e4 : token_Same.f (ofL (lowL (bs s))) s = some true := by
    rw [same_f _ _ (by omega) (by omega) hz, bs_ofL, lowL_low, beq_self_eq_true]
  have e5 : token_Same.f (⟨#[97, 90]⟩ : ByteArray) (⟨#[65, 122]⟩ : ByteArray) = some true := by
    rw [same_f ⟨#[97, 90]⟩ ⟨#[65, 122]⟩ (by decide) (by decide) rfl]
    have : lowL (bs ⟨#[97, 90]⟩) = lowL (bs ⟨#[65, 122]⟩) := by decide
    rw [this, beq_self_eq_true]
  simp only [e1, e2, e3, e4, e5, Option.bind_some, if_true, hz, Bool.not_true]
theorem TokenLowers : gatepostlaw01_TokenLowers.Pure := by
  intro s a hs ha
  refine Ev.rounds ?_
  unfold gatepostlaw01_TokenLowers.f
  by_cases h : (s.size : Int) > 3000
  · simp only [if_pos h, if_pos (show (0 : Int) ≤ 3000 by decide), if_pos (show (3000 : Int) ≤ (s.size : Int) by omega), if_pos (show 0 ≤ 3000 by decide)]
    exact lowers_j0 a _ (by rw [ByteArray.size_extract]; omega)
  · simp only [if_neg h]
    exact lowers_j0 a s (by omega)
end Go.Proofs.Ytmfpmnfbcgchjaa.Pure
