/- Equality of plain values and structs. -/
import Derived.Test.YtfihnnebffkbfaaDoorVmInsA
import Derived.Laws.StructEq
namespace Go.Vm
set_option linter.unusedVariables false
set_option linter.unusedSimpArgs false

section
variable {P : Program} {B : Nat} {G : Gh} {h h' : Heap} {w : World} {n : Nat} {e : Env} {a : Act} {o : Oper} {v : V}

theorem eqLeaves_length : ∀ {ks : List LK} {as bs : List V} {r : Bool}, eqLeaves ks as bs = some r → as.length = ks.length ∧ bs.length = ks.length
  | [], [], [], _, _ => ⟨rfl, rfl⟩
  | k :: ks, a :: as, b :: bs, r, h => by
    simp only [eqLeaves] at h
    cases e1 : eqLeaf k a b with
    | none => simp [e1] at h
    | some r1 =>
      cases e2 : eqLeaves ks as bs with
      | none => simp [e1, e2] at h
      | some r2 => have := eqLeaves_length e2; simp [this.1, this.2]
  | [], [], _ :: _, _, h => by simp [eqLeaves] at h
  | [], _ :: _, [], _, h => by simp [eqLeaves] at h
  | [], _ :: _, _ :: _, _, h => by simp [eqLeaves] at h
  | _ :: _, [], [], _, h => by simp [eqLeaves] at h
  | _ :: _, [], _ :: _, _, h => by simp [eqLeaves] at h
  | _ :: _, _ :: _, [], _, h => by simp [eqLeaves] at h

theorem eqLeaves_append : ∀ {ks ls : List LK} {as bs : List V} {r : Bool}, eqLeaves (ks ++ ls) as bs = some r →
    ∃ r1 r2, eqLeaves ks (as.take ks.length) (bs.take ks.length) = some r1 ∧ eqLeaves ls (as.drop ks.length) (bs.drop ks.length) = some r2 ∧ r = (r1 && r2)
  | [], ls, as, bs, r, h => ⟨true, r, by simp [eqLeaves], by simpa using h, by simp⟩
  | k :: ks, ls, as, bs, r, h => by
    cases as with
    | nil => simp [eqLeaves] at h
    | cons a as =>
      cases bs with
      | nil => simp [eqLeaves] at h
      | cons b bs =>
        simp only [List.cons_append, eqLeaves] at h
        cases e1 : eqLeaf k a b with
        | none => simp [e1] at h
        | some r1 =>
          cases e2 : eqLeaves (ks ++ ls) as bs with
          | none => simp [e1, e2] at h
          | some r2 =>
            simp [e1, e2] at h
            obtain ⟨s1, s2, h1, h2, h3⟩ := eqLeaves_append e2
            exact ⟨r1 && s1, s2, by simp [eqLeaves, e1, h1], by simpa using h2, by rw [← h, h3, Bool.and_assoc]⟩

theorem scalar_eq {t : TypeId} {k : LK} {D : Nat} {x y : V} {u z : Value} {r : Bool} (hk : (k = .b ∧ P.underlying t = some .bool) ∨ (k = .i ∧ ∃ kk, P.underlying t = some (.int kk)) ∨ (k = .s ∧ P.underlying t = some .string))
    (he : eqLeaf k x y = some r) (hx : Rv B G w x u) (hy : Rv B G w y z) : (Op.equalIn (D + 1) t u z).run P w = .ok r w := by
  rcases hk with ⟨rfl, hu⟩ | ⟨rfl, kk, hu⟩ | ⟨rfl, hu⟩
  · unfold eqLeaf at he
    split at he <;> first | (cases he; done) | skip
    all_goals (first | contradiction | skip)
    cases hx; cases hy
    simp at he
    subst he
    exact run_equalIn_bool w D t _ _ hu
  · unfold eqLeaf at he
    split at he <;> first | (cases he; done) | skip
    all_goals (first | contradiction | skip)
    split at he <;> first | (cases he; done) | skip
    rename_i hkk
    subst hkk
    cases hx; cases hy
    simp at he
    subst he
    rw [run_equalIn_int w D t _ kk _ _ hu]
    congr 1
  · unfold eqLeaf at he
    split at he <;> first | (cases he; done) | skip
    all_goals (first | contradiction | skip)
    cases hx; cases hy
    simp at he
    subst he
    rw [run_equalIn_string w D t _ _ hu]
    simp [ByteArray.toList_eq]

/-- A part, by kinds. -/
def PartEq (P : Program) (d : Nat) (g : TypeId → Option (List LK)) : Prop :=
  ∀ t ks D B G w as bs vs us r, d ≤ D → g t = some ks → eqLeaves ks as bs = some r → Rvs B G w as vs → Rvs B G w bs us → (∀ c ∈ as, oneC c) → (∀ c ∈ bs, oneC c) →
    sizeT P t = some ks.length → ∀ (xs ys : Array Value) off, (xs.toList.drop off).take ks.length = vs → (ys.toList.drop off).take ks.length = us →
    ∃ x y, (Go.part t xs off).run P w = .ok x w ∧ (Go.part t ys off).run P w = .ok y w ∧ (Op.equalIn D t x y).run P w = .ok r w

theorem fields_eq {d : Nat} {g : TypeId → Option (List LK)} (hg : PartEq P d g) {D : Nat} (hD : d ≤ D) {xs ys : Array Value} : ∀ {fs : List Field} {acc : Nat} {ks : List LK} {as bs : List V} {r : Bool},
    plainFs P g acc fs = some ks → eqLeaves ks as bs = some r → Rvs B G w as (xs.toList.drop acc) → Rvs B G w bs (ys.toList.drop acc) → (∀ c ∈ as, oneC c) → (∀ c ∈ bs, oneC c) →
    (Op.eqFields D xs ys fs).run P w = .ok r w
  | [], acc, ks, as, bs, r, hp, he, _, _, _, _ => by
    simp [plainFs] at hp
    subst hp
    have := eqLeaves_length he
    have h1 : as = [] := by simpa using this.1
    have h2 : bs = [] := by simpa using this.2
    subst h1; subst h2
    simp [eqLeaves] at he
    subst he
    simp [Op.eqFields]
  | f :: fs, acc, ks, as, bs, r, hp, he, ha, hb, h1, h2 => by
    simp only [plainFs] at hp
    split at hp <;> first | (cases hp; done) | skip
    rename_i hf
    obtain ⟨hf1, rfl⟩ := hf
    split at hp <;> first | (cases hp; done) | skip
    rename_i k1 eg
    split at hp <;> first | (cases hp; done) | skip
    rename_i hsz
    obtain ⟨k2, e2, rfl⟩ := map_some hp
    obtain ⟨r1, r2, he1, he2, rfl⟩ := eqLeaves_append he
    have hl := eqLeaves_length he1
    have tk : ∀ {as : List V} {l : List Value} {m : Nat}, Rvs B G w as l → Rvs B G w (as.take m) (l.take m) := fun ha => ⟨by simp [ha.1], fun k x v hx hv => by
      rw [List.getElem?_take] at hx hv
      split at hx <;> rename_i hk
      · rw [if_pos hk] at hv
        exact ha.2 k x v hx hv
      · cases hx⟩
    have dr : ∀ {as : List V} {l : List Value} {m : Nat}, Rvs B G w as l → Rvs B G w (as.drop m) (l.drop m) := fun ha => ⟨by simp [ha.1], fun k x v hx hv => by
      rw [List.getElem?_drop] at hx hv
      exact ha.2 _ x v hx hv⟩
    obtain ⟨x, y, hx, hy, hxy⟩ := hg f.type k1 D B G w _ _ _ _ r1 hD eg he1 (tk ha) (tk hb) (fun c hc => h1 c (List.mem_of_mem_take hc)) (fun c hc => h2 c (List.mem_of_mem_take hc)) hsz xs ys f.offset rfl rfl
    have ih := fields_eq hg hD (xs := xs) (ys := ys) e2 he2 (by have := dr (m := k1.length) ha; rwa [List.drop_drop] at this) (by have := dr (m := k1.length) hb; rwa [List.drop_drop] at this)
      (fun c hc => h1 c (List.mem_of_mem_drop hc)) (fun c hc => h2 c (List.mem_of_mem_drop hc))
    simp only [Op.eqFields, if_pos hf1, Sem.run_bind, hx, hy, hxy, Result.andThen_ok]
    cases r1
    · simp
    · simpa using ih

theorem plain_part : ∀ d, PartEq P d (plainK P d)
  | 0 => by intro t ks D B G w as bs vs us r hD hg; simp [plainK] at hg
  | d + 1 => by
    intro t ks D B G w as bs vs us r hD hg he ha hb h1 h2 hsz xs ys off hxs hys
    obtain ⟨D, rfl⟩ : ∃ m, D = m + 1 := ⟨D - 1, by omega⟩
    simp only [plainK] at hg
    have hl := eqLeaves_length he
    have scal : ∀ k, ks = [k] → ((k = .b ∧ P.underlying t = some .bool) ∨ (k = .i ∧ ∃ kk, P.underlying t = some (.int kk)) ∨ (k = .s ∧ P.underlying t = some .string)) →
        ∃ x y, (Go.part t xs off).run P w = .ok x w ∧ (Go.part t ys off).run P w = .ok y w ∧ (Op.equalIn (D + 1) t x y).run P w = .ok r w := by
      intro k hk hu
      subst hk
      obtain ⟨x, rfl⟩ := List.length_eq_one_iff.1 (show as.length = 1 by simpa using hl.1)
      obtain ⟨y, rfl⟩ := List.length_eq_one_iff.1 (show bs.length = 1 by simpa using hl.2)
      obtain ⟨u, rfl⟩ := List.length_eq_one_iff.1 (show vs.length = 1 by simpa using ha.1)
      obtain ⟨z, rfl⟩ := List.length_eq_one_iff.1 (show us.length = 1 by simpa using hb.1)
      simp only [eqLeaves] at he
      cases e1 : eqLeaf k x y with
      | none => simp [e1] at he
      | some r1 =>
        simp [e1] at he
        subst he
        have get : ∀ {zs : Array Value} {v : Value}, (zs.toList.drop off).take [k].length = [v] → zs[off]? = some v := by
          intro zs v hz
          have h3 : ((zs.toList.drop off).take [k].length)[0]? = some v := by rw [hz]; rfl
          rw [List.getElem?_take, if_pos (by simp), List.getElem?_drop] at h3
          simpa using h3
        have hagg : aggT P t = some false := by
          rcases hu with ⟨_, hu⟩ | ⟨_, kk, hu⟩ | ⟨_, hu⟩ <;> simp [aggT, hu]
        refine ⟨u, z, ?_, ?_, scalar_eq hu e1 (ha.2 0 _ _ rfl rfl) (hb.2 0 _ _ rfl rfl)⟩
        · simp [Go.part, run_aggT hagg, get hxs]
        · simp [Go.part, run_aggT hagg, get hys]
    split at hg <;> first | (cases hg; done) | skip
    · rename_i hu; injection hg with hg; exact scal _ hg.symm (.inl ⟨rfl, hu⟩)
    · rename_i kk hu; injection hg with hg; exact scal _ hg.symm (.inr (.inl ⟨rfl, kk, hu⟩))
    · rename_i hu; injection hg with hg; exact scal _ hg.symm (.inr (.inr ⟨rfl, hu⟩))
    · rename_i fs hu
      split at hg <;> first | (cases hg; done) | skip
      rename_i hst
      have hst' : P.stoodInHeld t = false := by simpa using hst
      have hagg : aggT P t = some true := by simp [aggT, hu]
      refine ⟨.agg vs.toArray, .agg us.toArray, ?_, ?_, ?_⟩
      · simp [Go.part, run_aggT hagg, run_sizeT hsz]
        rw [← hxs]; apply Array.ext'; simp [List.take_drop]
      · simp [Go.part, run_aggT hagg, run_sizeT hsz]
        rw [← hys]; apply Array.ext'; simp [List.take_drop]
      · have hf : P.fieldsOf t = fs := by simp [Program.fieldsOf, hu]
        rw [run_equalIn_struct (P := P) w D t _ _ (by rw [hf]; exact hu) hst', hf]
        exact fields_eq (plain_part d) (by omega) hg he (by simpa using ha) (by simpa using hb) h1 h2

/-- '==' of two structs. -/
theorem eq_agg {t : TypeId} {ks : List LK} {x y : List V} {u z : Value} {r : Bool} (hk : plainK P 8 t = some ks) (hst : ∃ fs, P.underlying t = some (.struct fs)) (he : eqLeaves ks x y = some r)
    (hx : Rv B G w (.agg x) u) (hy : Rv B G w (.agg y) z) : (Op.equal t u z).run P w = .ok r w := by
  obtain ⟨fs, hu⟩ := hst
  cases hx with
  | agg hl h1 hr =>
    cases hy with
    | agg hl' h1' hr' =>
      have hk' := hk
      simp only [plainK, hu] at hk
      split at hk <;> first | (cases hk; done) | skip
      rename_i hst
      have hst' : P.stoodInHeld t = false := by simpa using hst
      have hf : P.fieldsOf t = fs := by simp [Program.fieldsOf, hu]
      unfold Op.equal Op.maxDepth
      rw [show (10000 : Nat) = 9999 + 1 from rfl, run_equalIn_struct (P := P) w 9999 t _ _ (by rw [hf]; exact hu) hst', hf]
      exact fields_eq (plain_part 7) (by omega) hk he (by simpa using ⟨hl, hr⟩) (by simpa using ⟨hl', hr'⟩) h1 h1'

end
end Go.Vm
