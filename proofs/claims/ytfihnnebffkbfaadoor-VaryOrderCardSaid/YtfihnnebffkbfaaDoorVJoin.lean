/- strings.Join by the shelf's contract, as a function of the machine's library. -/
import Derived.Test.YtfihnnebffkbfaaDoorVField
import Derived.Test.YtfihnnebffkbfaaDoorVmLib
import Derived.Test.YtfihnnebffkbfaaDoorHShelf
set_option linter.unusedVariables false
set_option linter.unusedSimpArgs false
namespace Go.Proofs.YtfihnnebffkbfaaDoor.Vh
open Go.Vm Go.Vt
theorem rv_texts {B : Nat} {G : Gh} {w : World} {x : V} {l : List Bs} {v : Value} (hx : ListV 1 x (strs l)) (h : Rv B G w x v) : (l = [] ∧ ∃ a cap, v = .slice a 0 cap) ∨ (l ≠ [] ∧ ∃ b o cap, v = .slice (some ⟨b, o, none⟩) l.length cap ∧ l.length ≤ cap ∧ ∀ (j : Nat) s, l[j]? = some s → w.cell? ⟨b, o + j, none⟩ = some (.string ⟨s.toArray⟩)) := by
  rcases hx with ⟨he, rfl⟩ | ⟨own, rfl⟩
  · have : l = [] := by simpa [strs] using he
    subst this
    cases h
    exact .inl ⟨rfl, _, _, rfl⟩
  · generalize he : strs l = es at h
    cases h with
    | sl vs hsz hsp hcap hc h1 hr hfull htip =>
      rename_i a cap
      subst he
      rcases List.eq_nil_or_concat l with rfl | hcc
      · exact .inl ⟨rfl, _, _, rfl⟩
      · have hne : l ≠ [] := by rintro rfl; obtain ⟨l', b, h⟩ := hcc; simp at h
        have ha := hsp (by simpa [strs] using hne)
        have hf : flat (strs l) = strs l := flat_ones (by intro e he; obtain ⟨s, _, rfl⟩ := List.mem_map.1 he; rfl)
        obtain ⟨ab, ao, asp⟩ := a
        simp only at ha; subst ha
        refine .inr ⟨hne, ab, ao, cap, by rw [strs_len], by rwa [strs_len] at hcap, fun j s hj => ?_⟩
        have hjl := (List.getElem?_eq_some_iff.1 hj).1
        have h2 := (hc j (by rw [hf, strs_len]; exact hjl)).2
        have h3 := hr j (.str s) (by rw [hf]; simp [strs, hj])
        simp only at h2
        generalize hv : vs j = vj at h2 h3
        cases h3
        exact h2
def LJoin : FuncId → List V → V → Prop := fun f args v => f = i_strings_Join ∧ ∃ (x : V) (l : List Bs), ListV 1 x (strs l) ∧ l.length ≤ 140737488355328 ∧ (joinS l).length ≤ 140737488355328 ∧ args = [x, .str [44, 32]] ∧ v = .str (joinS l)
theorem join_at (w0 : World) : LibAt Tryd.prog w0 LJoin := by
  rintro f args v ⟨rfl, x, l, hx, hl, hj, rfl, rfl⟩
  refine ⟨by kernel_rfl, good_below fun B G h w vs hr hb hv => ?_⟩
  obtain ⟨a, b, rfl, ha, hs⟩ := rvs_two hv
  cases hs
  rcases rv_texts hx ha with ⟨rfl, a', cap, rfl⟩ | ⟨hne, bk, o, cap, rfl, hcap, hc⟩
  · refine (Tryd.strings_Join_none a' cap _ w).mono fun e w' ⟨h1, h2⟩ => ?_
    subst h2
    exact ⟨_, h1, .str [], Go.RowKit.Below.refl ..⟩
  · have hlt : bk < w.heap.size := by
      obtain ⟨s, hs⟩ : ∃ s, l[0]? = some s := by
        cases l with
        | nil => exact absurd rfl hne
        | cons s _ => exact ⟨s, rfl⟩
      exact World.block_lt_of_cell? w _ (hc 0 s hs)
    have hm : (l.map fun s : Bs => (⟨s.toArray⟩ : ByteArray)).map (fun x => x.data.toList) = l := by rw [List.map_map]; exact List.map_id' l
    have := Tryd.strings_Join bk o cap (l.map fun s => ⟨s.toArray⟩) ⟨[44, 32].toArray⟩ w (by
        intro j x hx
        rw [List.getElem?_map] at hx
        obtain ⟨s, h1, rfl⟩ := Option.map_eq_some_iff.1 hx
        exact hc j s h1) hlt (by simpa using hl) (by simpa using hcap) (by rw [hm]; exact hj)
    rw [hm, List.length_map] at this
    exact this.mono fun e w' ⟨h1, h2⟩ => ⟨_, h1, .str _, h2⟩
theorem joinOk {L : FuncId → List V → V → Prop} (hL : ∀ f a v, LJoin f a v → L f a v) : JoinOk L := by
  intro x l h hx hl hj
  exact wlib (hL _ _ _ ⟨rfl, x, l, hx, by omega, hj, rfl, rfl⟩) ⟨rfl, [], by simp⟩
end Go.Proofs.YtfihnnebffkbfaaDoor.Vh
