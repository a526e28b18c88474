/- strings.Trim at blanks, token.Trim and token.Value on the small machine. -/
import Derived.Test.YtbcnhkgiabobiaaDoorVTok1
set_option linter.unusedVariables false
set_option linter.unusedSimpArgs false
namespace Go.Proofs.YtbcnhkgiabobiaaDoor.Vh
open Go.Vm Go.Vt
attribute [local congr] wi_congr wg_congr wgd_congr wb_congr wl_congr cf_congr
variable {L : FuncId → List V → V → Prop} {h : Heap}
theorem splice_set {cs : List V} {i : Nat} {x : V} (hi : i < cs.length) : cs.take i ++ x :: cs.drop (i + 1) = cs.set i x := by
  rw [List.set_eq_take_append_cons_drop, if_pos hi]
/-- The table of blanks. -/
def blankT : List V := ((List.replicate 256 (V.bool false)).set 32 (.bool true)).set 9 (.bool true)
def blankAt : Nat → List V
  | 0 => List.replicate 256 (.bool false)
  | 1 => (List.replicate 256 (V.bool false)).set 32 (.bool true)
  | _ => blankT
theorem blankAt_len : ∀ i, (blankAt i).length = 256
  | 0 => List.length_replicate ..
  | 1 => by simp only [blankAt, List.length_set, List.length_replicate]
  | i + 2 => by simp only [blankAt, blankT, List.length_set, List.length_replicate]
theorem blankT_at (c : UInt8) : blankT.getD c.toNat (.tup []) = .bool (blankB c) := by
  have : ∀ n : Fin 256, blankT.getD (UInt8.ofNat n.val).toNat (.tup []) = .bool (blankB (UInt8.ofNat n.val)) := by
    intro n
    have h : (blankT.map fun | .bool b => b | _ => false) = (List.range 256).map fun n => blankB (UInt8.ofNat n) := by decide +kernel
    have h2 : ∀ v ∈ blankT, ∃ b, v = V.bool b := by
      intro v hv
      unfold blankT at hv
      rcases List.mem_or_eq_of_mem_set hv with hv | rfl
      · rcases List.mem_or_eq_of_mem_set hv with hv | rfl
        · exact ⟨false, (List.mem_replicate.1 hv).2⟩
        · exact ⟨true, rfl⟩
      · exact ⟨true, rfl⟩
    have hl : n.val < blankT.length := by simp only [blankT, List.length_set, List.length_replicate]; exact n.isLt
    have e : (UInt8.ofNat n.val).toNat = n.val := by simp
    obtain ⟨b, hb⟩ := h2 blankT[n.val] (List.getElem_mem _)
    rw [e, List.getD_eq_getElem?_getD, List.getElem?_eq_getElem hl, Option.getD_some, hb]
    have h3 := congrArg (fun l => l[n.val]?) h
    simp only [List.getElem?_map, List.getElem?_eq_getElem hl, Option.map_some, hb, List.getElem?_range n.isLt] at h3
    injection h3 with h3
    rw [h3]
  have := this ⟨c.toNat, c.toNat_lt⟩
  simpa using this
/-- One byte off the right end. -/
theorem last_at {s : Bs} {n : Nat} (h : s.length = n + 1) : ∃ t c, s = t ++ [c] ∧ t.length = n ∧ s.getD n 0 = c ∧ s.take n = t := by
  have hne : s ≠ [] := by intro he; rw [he] at h; cases h
  obtain ⟨t, c, rfl⟩ : ∃ t c, s = t ++ [c] := ⟨s.dropLast, s.getLast hne, (List.dropLast_concat_getLast hne).symm⟩
  have hl : t.length = n := by simpa using h
  exact ⟨t, c, rfl, hl, by rw [List.getD_eq_getElem?_getD, List.getElem?_append_right (by omega)]; simp [hl], by rw [← hl]; simp⟩
end Go.Proofs.YtbcnhkgiabobiaaDoor.Vh
