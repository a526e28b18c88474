/- Sorted lists without a text twice; the law's names: plain. -/
import Derived.Test.YtfihnnebffkbfaaDoorVVNames
set_option linter.unusedVariables false
set_option linter.unusedSimpArgs false
namespace Go.Proofs.YtfihnnebffkbfaaDoor.Vh
open Go.Vm Go.Vt
theorem ins_nodup {ks : List Bs} {k : Bs} (h : ks.Nodup) : (insK ks k).Nodup := by
  unfold insK
  split
  · exact h
  · rename_i hk
    refine List.nodup_append.2 ⟨h, by simp, fun a ha b hb => ?_⟩
    rw [List.mem_singleton.1 hb]
    rintro rfl
    exact hk ha
theorem ded_nodup_aux : ∀ (all ks : List Bs), ks.Nodup → (all.foldl insK ks).Nodup
  | [], ks, h => h
  | a :: r, ks, h => ded_nodup_aux r _ (ins_nodup h)
theorem ded_nodup (all : List Bs) : (dedS all).Nodup := ded_nodup_aux all [] List.nodup_nil
/-- What is sorted, without a text twice, is told by its texts. -/
theorem sort_ded {all want : List Bs} (hs : want.Pairwise fun a b => a ≤ b) (hn : want.Nodup) (hm : ∀ x, x ∈ want ↔ x ∈ all) : sortS (dedS all) = want := by
  have hp : (sortS (dedS all)).Perm want := (List.mergeSort_perm _ _).trans ((List.perm_ext_iff_of_nodup (ded_nodup all) hn).2 fun x => by rw [mem_ded, hm])
  refine List.Perm.eq_of_pairwise (le := fun a b => a ≤ b) (fun a b _ _ h1 h2 => List.le_antisymm h1 h2) ?_ hs hp
  have := List.pairwise_mergeSort (le := fun (x y : Bs) => decide (x ≤ y)) (fun a b c h1 h2 => by
    simp only [decide_eq_true_eq] at *
    exact List.le_trans h1 h2) (fun a b => by
    simp only [Bool.or_eq_true, decide_eq_true_eq]
    exact List.le_total a b) (dedS all)
  unfold sortS
  simpa using this
/-! The law's names. -/
def wN : Nat → Bs
  | 0 => [97, 99, 99, 101, 112, 116]
  | 1 => [98]
  | _ => [120, 45, 121]
def wU : Nat → Bs
  | 0 => [65, 67, 67, 69, 80, 84]
  | 1 => [66]
  | _ => [88, 45, 89]
theorem splitG_run : ∀ (w r own : Bs) (out : List Bs), (∀ c ∈ w, c ≠ 34 ∧ c ≠ 44) → splitG (w ++ r) own false out = splitG r (own ++ w) false out
  | [], r, own, out, _ => by simp
  | c :: w, r, own, out, h => by
    obtain ⟨h1, h2⟩ := h c (by simp)
    rw [List.cons_append, splitG_step, if_neg h1, if_neg (by simp), if_neg (by simpa using h2), splitG_run w r _ out fun d hd => h d (by simp [hd])]
    simp
theorem splitG_word {w r : Bs} {out : List Bs} (h : ∀ c ∈ w, c ≠ 34 ∧ c ≠ 44) (ht : trim (w ++ [32]) = w) (hw : w ≠ []) : splitG (w ++ 32 :: 44 :: r) [] false out = splitG r [] false (out ++ [w]) := by
  rw [splitG_run w _ _ _ h, splitG_step, if_neg (by decide), if_neg (by simp), if_neg (by decide), splitG_step, if_neg (by decide), if_neg (by simp), if_pos (by decide), List.nil_append]
  unfold flush
  rw [ht, if_neg hw]
def TextI (T : Bs) (ks : List Nat) : Prop := ∃ ws : List Bs, (∀ (out : List Bs) (r : Bs), splitG (T ++ r) [] false out = splitG r [] false (out ++ ws)) ∧ ws.map low = ks.map wN ∧ ws.all isTok = true
theorem TextI.nil : TextI [] [] := ⟨[], fun out r => by simp, rfl, rfl⟩
theorem TextI.add {T w : Bs} {ks : List Nat} {k : Nat} (h : TextI T ks) (h1 : ∀ c ∈ w, c ≠ 34 ∧ c ≠ 44) (h2 : trim (w ++ [32]) = w) (h3 : w ≠ []) (h4 : low w = wN k) (h5 : isTok w = true) : TextI (T ++ w ++ [32, 44]) (ks ++ [k]) := by
  obtain ⟨ws, g1, g2, g3⟩ := h
  refine ⟨ws ++ [w], fun out r => ?_, by simp [g2, h4], by simp [g3, h5]⟩
  rw [List.append_assoc, List.append_assoc, g1]
  have := splitG_word (r := r) (out := out ++ ws) h1 h2 h3
  simpa using this
theorem TextI.addN {T : Bs} {ks : List Nat} {k : Nat} (h : TextI T ks) (hk : k < 3) : TextI (T ++ wN k ++ [32, 44]) (ks ++ [k]) := by
  obtain rfl | rfl | rfl : k = 0 ∨ k = 1 ∨ k = 2 := by omega
  all_goals exact h.add (by decide +kernel) (by decide +kernel) (by decide +kernel) (by decide +kernel) (by decide +kernel)
theorem TextI.addU {T : Bs} {ks : List Nat} {k : Nat} (h : TextI T ks) (hk : k < 3) : TextI (T ++ wU k ++ [32, 44]) (ks ++ [k]) := by
  obtain rfl | rfl | rfl : k = 0 ∨ k = 1 ∨ k = 2 := by omega
  all_goals exact h.add (by decide +kernel) (by decide +kernel) (by decide +kernel) (by decide +kernel) (by decide +kernel)
def wantL (ks : List Nat) : List Bs := ([0, 1, 2].filter fun k => decide (k ∈ ks)).map wN
theorem wN_inj : ∀ a, a < 3 → ∀ b, b < 3 → wN a = wN b → a = b := by decide +kernel
theorem order_plain {T : Bs} {ks : List Nat} (h : TextI T ks) (hk : ∀ k ∈ ks, k < 3) : vnO T = some (wantL ks) := by
  obtain ⟨ws, g1, g2, g3⟩ := h
  have e1 : split T = some ws := by
    have := g1 [] []
    rw [List.append_nil, List.nil_append] at this
    show splitG T [] false [] = _
    rw [this]; rfl
  have e2 : namesO T = some (ks.map wN) := by unfold namesO; rw [e1]; simp only; rw [if_pos g3, g2]
  unfold vnO
  rw [e2]
  simp only
  have hstar : ∀ k, k < 3 → wN k ≠ [42] := by decide +kernel
  rw [if_neg (by
    intro hm
    obtain ⟨k, h1, h2⟩ := List.mem_map.1 hm
    exact hstar k (hk k h1) h2)]
  congr 1
  have hb : ∀ b0 b1 b2 : Bool, ∃ f : Nat → Bool, f 0 = b0 ∧ f 1 = b1 ∧ f 2 = b2 := fun b0 b1 b2 => ⟨fun | 0 => b0 | 1 => b1 | _ => b2, rfl, rfl, rfl⟩
  have hsort : ∀ b0 b1 b2 : Bool, ((([0, 1, 2].filter fun k => if k = 0 then b0 else if k = 1 then b1 else b2).map wN).Pairwise fun a b => a ≤ b) ∧ (([0, 1, 2].filter fun k => if k = 0 then b0 else if k = 1 then b1 else b2).map wN).Nodup := by decide +kernel
  have hw : wantL ks = ([0, 1, 2].filter fun k => if k = 0 then decide (0 ∈ ks) else if k = 1 then decide (1 ∈ ks) else decide (2 ∈ ks)).map wN := by
    unfold wantL
    congr 1
  obtain ⟨s1, s2⟩ := hsort (decide (0 ∈ ks)) (decide (1 ∈ ks)) (decide (2 ∈ ks))
  rw [← hw] at s1 s2
  refine sort_ded s1 s2 fun x => ?_
  unfold wantL
  simp only [List.mem_map, List.mem_filter, decide_eq_true_eq]
  constructor
  · rintro ⟨k, ⟨_, h1⟩, rfl⟩
    exact ⟨k, h1, rfl⟩
  · rintro ⟨k, h1, rfl⟩
    have := hk k h1
    exact ⟨k, ⟨by simp; omega, h1⟩, rfl⟩
end Go.Proofs.YtfihnnebffkbfaaDoor.Vh
