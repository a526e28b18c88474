/- Part 4's few and texts, and the reference's Same. -/
import Derived.Test.YtfihnnebffkbfaaDoorVField
import Derived.Test.YtfihnnebffkbfaaDoorVmOpen
set_option linter.unusedVariables false
set_option linter.unusedSimpArgs false
namespace Go.Proofs.YtfihnnebffkbfaaDoor.Vh
open Go.Vm Go.Vt
attribute [local congr] wi_congr wg_congr wgd_congr wb_congr wl_congr cf_congr
variable {L : FuncId → List V → V → Prop} {h : Heap}
def sumF (l : List Fld) : Nat := (l.map fun f => f.1.length + f.2.length).sum
theorem sumF_take {l : List Fld} {i : Nat} (hi : i < l.length) : sumF (l.take (i + 1)) = sumF (l.take i) + ((l.getD i ([], [])).1.length + (l.getD i ([], [])).2.length) := by
  have e : l.getD i ([], []) = l[i] := by rw [List.getD_eq_getElem?_getD, List.getElem?_eq_getElem hi, Option.getD_some]
  unfold sumF
  rw [List.take_add_one, List.getElem?_eq_getElem hi, e]
  simp only [List.map_append, List.sum_append, Option.toList_some, List.map_cons, List.map_nil, List.sum_cons, List.sum_nil, Nat.add_zero]
theorem sumF_le (l : List Fld) (i : Nat) : sumF (l.take i) ≤ sumF l := by
  conv => rhs; rw [← List.take_append_drop i l]
  unfold sumF
  rw [List.map_append, List.sum_append]
  omega
theorem sumF_mem {l : List Fld} {f : Fld} (hf : f ∈ l) : f.1.length + f.2.length ≤ sumF l := by
  unfold sumF
  induction l with
  | nil => cases hf
  | cons a r ih =>
    rw [List.map_cons, List.sum_cons]
    rcases List.mem_cons.1 hf with rfl | hf
    · omega
    · have := ih hf; omega
/-- A list of fields as a parameter. -/
theorem fields_par {x : V} (v : VPar [.sl [.s, .s]] x) : ∃ l, ListV 2 x (flds l) ∧ l.length ≤ 140737488351232 ∧ ∀ f ∈ l, f.1.length ≤ 140737488351232 ∧ f.2.length ≤ 140737488351232 := by
  rcases v with rfl | ⟨es, rfl, hl, he⟩
  · exact ⟨[], .inl ⟨rfl, rfl⟩, by simp, by simp⟩
  · have : ∃ l, flds l = es ∧ ∀ f ∈ l, f.1.length ≤ 140737488351232 ∧ f.2.length ≤ 140737488351232 := by
      clear hl
      induction es with
      | nil => exact ⟨[], rfl, by simp⟩
      | cons e r ih =>
        obtain ⟨l, h1, h2⟩ := ih fun x hx => he x (by simp [hx])
        obtain ⟨a1, _, a3⟩ := he e (by simp)
        have a3 := a3 (by simp)
        generalize cells e = cs at a1 a3
        subst a3
        match cs, a1 with
        | [x, y], ⟨⟨s, e1, b1⟩, ⟨t, e2, b2⟩, _⟩ =>
          subst e1; subst e2
          refine ⟨(s, t) :: l, by rw [← h1]; rfl, ?_⟩
          intro f hf
          rcases List.mem_cons.1 hf with rfl | hf
          · exact ⟨b1, b2⟩
          · exact h2 f hf
    obtain ⟨l, rfl, h2⟩ := this
    exact ⟨l, .inr ⟨_, rfl⟩, by rwa [flds_len] at hl, h2⟩
def without (l : List Fld) (name : Bs) : List Fld := l.filter (stays [name])
theorem stays_one (name : Bs) (f : Fld) : stays [name] f = !(low name == low f.1) := by simp [stays]
theorem vals_without_same {l : List Fld} {name other : Bs} (h : low name = low other) : valsOf (without l name) other = [] := by
  unfold valsOf without
  rw [List.filter_filter]
  rw [List.filter_eq_nil_iff.2 ?_]; rfl
  intro f _
  rw [stays_one, h]
  by_cases hf : low f.1 = low other
  · simp [hf]
  · simp [hf]
theorem vals_without_other {l : List Fld} {name other : Bs} (h : low name ≠ low other) : valsOf (without l name) other = valsOf l other := by
  unfold valsOf without
  rw [List.filter_filter]
  congr 1
  apply List.filter_congr
  intro f _
  rw [stays_one]
  by_cases hf : low f.1 = low other
  · simp [hf, h]
  · simp [hf]
theorem vals_app (l m : List Fld) (name : Bs) : valsOf (l ++ m) name = valsOf l name ++ valsOf m name := by simp [valsOf]
theorem without_app (l m : List Fld) (name : Bs) : without (l ++ m) name = without l name ++ without m name := by simp [without]
theorem without_twice (l : List Fld) (name : Bs) : without (without l name) name = without l name := by simp [without, List.filter_filter]
theorem vals_one_same {name other v : Bs} (h : low name = low other) : valsOf [(name, v)] other = [v] := by simp [valsOf, h]
theorem vals_one_other {name other v : Bs} (h : low name ≠ low other) : valsOf [(name, v)] other = [] := by simp [valsOf, h]
theorem without_one (name v : Bs) : without [(name, v)] name = [] := by simp [without, stays]
theorem join_len : ∀ l : List Bs, (joinS l).length ≤ (l.map List.length).sum + 2 * l.length
  | [] => by simp [joinS]
  | [a] => by simp [joinS]
  | a :: b :: r => by
    have := join_len (b :: r)
    have e : joinS (a :: b :: r) = a ++ ([44, 32] ++ joinS (b :: r)) := by simp [joinS, List.intercalate]
    rw [e]
    simp only [List.length_append, List.length_cons, List.length_nil, List.map_cons, List.sum_cons] at this ⊢
    omega
theorem vals_sum (l : List Fld) (name : Bs) : ((valsOf l name).map List.length).sum ≤ sumF l := by
  induction l with
  | nil => simp [valsOf, sumF]
  | cons f r ih =>
    unfold valsOf sumF at *
    rw [List.filter_cons]
    split <;> simp only [List.map_cons, List.sum_cons] at * <;> omega
theorem vals_join (l : List Fld) (name : Bs) : (joinS (valsOf l name)).length ≤ sumF l + 2 * l.length := by
  have h1 := join_len (valsOf l name)
  have h2 := vals_sum l name
  have h3 := vals_len l name
  omega
theorem join_one (v : Bs) : joinS [v] = v := by simp [joinS]
theorem join_none : joinS [] = [] := rfl
theorem sum_without (l : List Fld) (name : Bs) : sumF (without l name) ≤ sumF l := by
  induction l with
  | nil => simp [without, sumF]
  | cons f r ih =>
    unfold without sumF at *
    rw [List.filter_cons]
    split <;> simp only [List.map_cons, List.sum_cons] at * <;> omega
theorem without_len (l : List Fld) (name : Bs) : (without l name).length ≤ l.length := List.length_filter_le _ _
end Go.Proofs.YtfihnnebffkbfaaDoor.Vh
