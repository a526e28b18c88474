/- The texts of a list are no longer than the list; plain. -/
import Derived.Test.YtfihnnebffkbfaaDoorVSplit3
set_option linter.unusedVariables false
set_option linter.unusedSimpArgs false
namespace Go.Proofs.YtfihnnebffkbfaaDoor.Vh
open Go.Vm Go.Vt
theorem trimL_len (s : Bs) : (trimL s).length ≤ s.length := (List.dropWhile_sublist _).length_le
theorem trimR_len : ∀ s : Bs, (trimR s).length ≤ s.length
  | [] => by simp [trimR]
  | c :: r => by
    have := trimR_len r
    unfold trimR
    split
    · split
      · simp
      · simp
    · rename_i h
      simp only [List.length_cons]; omega
theorem trim_len (s : Bs) : (trim s).length ≤ s.length := Nat.le_trans (trimL_len _) (trimR_len _)
theorem flush_mem {out : List Bs} {own x : Bs} (h : x ∈ flush out own) : x ∈ out ∨ x.length ≤ own.length := by
  unfold flush at h
  split at h
  · exact .inl h
  · rcases List.mem_append.1 h with h | h
    · exact .inl h
    · right; rw [List.mem_singleton.1 h]; exact trim_len _
theorem splitG_mem : ∀ {n : Nat} {s own : Bs} {q : Bool} {out l : List Bs}, s.length ≤ n → splitG s own q out = some l → ∀ x ∈ l, x ∈ out ∨ x.length ≤ own.length + s.length
  | n, [], own, q, out, l, hn, h, x, hx => by
    have e : splitG [] own q out = if q then none else some (flush out own) := rfl
    rw [e] at h
    split at h
    · cases h
    · injection h with h; subst h
      exact (flush_mem hx).imp_right fun h => by simpa using h
  | 0, c :: r, own, q, out, l, hn, h, x, hx => by simp at hn
  | n + 1, c :: r, own, q, out, l, hn, h, x, hx => by
    simp at hn
    rw [splitG_step] at h
    split at h
    · refine (splitG_mem hn h x hx).imp_right fun this => ?_; simp only [List.length_append, List.length_cons, List.length_nil] at this ⊢; omega
    split at h
    · cases r with
      | nil => cases h
      | cons d r =>
        refine (splitG_mem (n := n) (by simp at hn; omega) h x hx).imp_right fun this => ?_; simp only [List.length_append, List.length_cons, List.length_nil] at this ⊢; omega
    split at h
    · rcases splitG_mem hn h x hx with h1 | h1
      · refine (flush_mem h1).imp_right fun this => ?_; simp only [List.length_cons]; omega
      · right; simp only [List.length_cons, List.length_nil] at h1 ⊢; omega
    · refine (splitG_mem hn h x hx).imp_right fun this => ?_; simp only [List.length_append, List.length_cons, List.length_nil] at this ⊢; omega
theorem split_mem {s : Bs} {l : List Bs} (h : split s = some l) : ∀ x ∈ l, x.length ≤ s.length := by
  intro x hx
  have := splitG_mem (Nat.le_refl _) h x hx
  simpa using this
theorem list_at' {α : Type} {l : List α} {i : Nat} (d : α) (hi : i ≤ l.length) : (¬ (i : Int) < l.length ∧ i = l.length ∧ l.drop i = []) ∨ ((i : Int) < l.length ∧ i < l.length ∧ l.drop i = l.getD i d :: l.drop (i + 1) ∧ l.take (i + 1) = l.take i ++ [l.getD i d]) := by
  rcases Nat.lt_or_eq_of_le hi with h | h
  · right
    have e : l.getD i d = l[i] := by rw [List.getD_eq_getElem?_getD, List.getElem?_eq_getElem h]; rfl
    exact ⟨by omega, h, by rw [e]; exact List.drop_eq_getElem_cons h, by rw [e, List.take_add_one, List.getElem?_eq_getElem h]; rfl⟩
  · exact .inl ⟨by omega, h, by rw [h]; simp⟩
theorem splitG_len : ∀ {n : Nat} {s own : Bs} {q : Bool} {out l : List Bs}, s.length ≤ n → splitG s own q out = some l → l.length ≤ out.length + s.length + 1
  | 0, s, own, q, out, l, hn, h => by
    obtain rfl : s = [] := List.eq_nil_of_length_eq_zero (by omega)
    rw [splitG_none rfl] at h
    split at h
    · cases h
    · injection h with h; subst h
      have := flush_len out own; simp; omega
  | n + 1, [], own, q, out, l, hn, h => splitG_len (n := n) (by simp) h
  | n + 1, c :: r, own, q, out, l, hn, h => by
    simp at hn
    rw [splitG_step] at h
    split at h
    · have := splitG_len hn h; simp; omega
    split at h
    · cases r with
      | nil => cases h
      | cons d r =>
        have := splitG_len (n := n) (by simp at hn; omega) h; simp; omega
    split at h
    · have := splitG_len hn h
      have := flush_len out own; simp; omega
    · have := splitG_len hn h; simp; omega
end Go.Proofs.YtfihnnebffkbfaaDoor.Vh
