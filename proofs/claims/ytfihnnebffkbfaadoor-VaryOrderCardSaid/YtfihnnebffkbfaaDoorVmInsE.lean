/- New boxes, structs, stores, maps that are written. -/
import Derived.Test.YtfihnnebffkbfaaDoorVmInsD
namespace Go.Vm
set_option linter.unusedVariables false
set_option linter.unusedSimpArgs false

section
variable {P : Program} {B : Nat} {G : Gh} {h h' : Heap} {w : World} {n : Nat} {e : Env} {a : Act} {o : Oper} {v : V}

theorem splice_get {α : Type} (cs xs : List α) (off : Nat) (hle : off + xs.length ≤ cs.length) (k : Nat) :
    (cs.take off ++ xs ++ cs.drop (off + xs.length))[k]? = if off ≤ k ∧ k < off + xs.length then xs[k - off]? else cs[k]? := by
  by_cases h1 : k < off
  · rw [if_neg (by omega), List.append_assoc, List.getElem?_append_left (by simp; omega), List.getElem?_take, if_pos h1]
  · by_cases h2 : k < off + xs.length
    · rw [if_pos ⟨by omega, h2⟩, List.append_assoc, List.getElem?_append_right (by simp; omega), List.getElem?_append_left (by simp; omega)]
      congr 1; simp; omega
    · rw [if_neg (by omega), List.getElem?_append_right (by simp; omega), List.getElem?_drop]
      congr 1; simp; omega

theorem splice_length {α : Type} (cs xs : List α) (off : Nat) (hle : off + xs.length ≤ cs.length) : (cs.take off ++ xs ++ cs.drop (off + xs.length)).length = cs.length := by
  simp; omega

/-- Stores into a row of cells. -/
theorem storeCells_run (P : Program) {b o : Nat} {T : TypeId} {fz : Nat × Nat} : ∀ (us : List Value) (i : Nat) (arr : Array Value) (w : World), w.heap[b]? = some (.cells arr T fz) →
    (∀ k, k < arr.size → ¬ (fz.1 ≤ k ∧ k < fz.2)) → o + i + us.length ≤ arr.size → (∀ u ∈ us, u.oneCell' = true) →
    ∃ w', (storeCells ⟨b, o, none⟩ us i).run P w = .ok () w' ∧ Sm w w' ∧ w'.heap.size = w.heap.size ∧ (∀ c, c ≠ b → w'.heap[c]? = w.heap[c]?) ∧
      ∃ arr', w'.heap[b]? = some (.cells arr' T fz) ∧ arr'.size = arr.size ∧ ∀ k, arr'[k]? = if o + i ≤ k ∧ k < o + i + us.length then us[k - (o + i)]? else arr[k]?
  | [], i, arr, w, hb, hf, hle, h1 => ⟨w, by simp [storeCells], .refl w, rfl, fun _ _ => rfl, arr, hb, rfl, fun k => by rw [if_neg (by simp only [List.length_nil]; omega)]⟩
  | u :: us, i, arr, w, hb, hf, hle, h1 => by
    have hlt : o + i < arr.size := by simp at hle; omega
    have hc : w.cell? ⟨b, o + i, none⟩ = some arr[o + i] := by simp [World.cell?, hb, hlt]
    have hfr : w.frozen? ⟨b, o + i, none⟩ = false := by
      have := hf (o + i) hlt
      simp only [World.frozen?, hb]
      rw [Bool.and_eq_false_iff]
      simp
      omega
    have hst : (store ⟨b, o + i, none⟩ u).run P w = .ok () (w.setCell ⟨b, o + i, none⟩ u) := by
      rw [run_store P w _ u .plain (h1 u (by simp)), hc]
      simp [hfr]
    have hb' : (w.setCell ⟨b, o + i, none⟩ u).heap[b]? = some (.cells (arr.setIfInBounds (o + i) u) T fz) := by
      simp [World.setCell, Array.getElem?_modify, hb]
    obtain ⟨w', h2, h3, h4, h5, arr', h6, h7, h8⟩ := storeCells_run P (o := o) us (i + 1) (arr.setIfInBounds (o + i) u) (w.setCell ⟨b, o + i, none⟩ u) hb'
      (by simpa using hf) (by simp at hle ⊢; omega) (fun x hx => h1 x (by simp [hx]))
    refine ⟨w', ?_, ⟨h3.os, h3.tape, h3.output⟩, by rw [h4]; simp [World.setCell], fun c hc => by rw [h5 c hc]; simp [World.setCell, Array.getElem?_modify, Ne.symm hc], arr', h6, by rw [h7]; simp, fun k => ?_⟩
    · simp only [storeCells, Sem.run_bind, add_at, hst, Result.andThen_ok]
      exact h2
    · rw [h8 k]
      by_cases hk : k = o + i
      · subst hk
        rw [if_neg (by omega), if_pos ⟨Nat.le_refl _, by simp⟩]
        simp [hlt]
      · rw [Array.getElem?_setIfInBounds_ne (Ne.symm hk)]
        by_cases hk2 : o + (i + 1) ≤ k ∧ k < o + (i + 1) + us.length
        · rw [if_pos hk2, if_pos ⟨by omega, by simp; omega⟩]
          rw [show k - (o + i) = (k - (o + (i + 1))) + 1 by omega]
          simp
        · rw [if_neg hk2, if_neg (by simp; omega)]

/-- A new box. -/
theorem outc_box {arr : Array Value} {T : TypeId} {cs : List V} (hr : Rel B G h w) (hx : (execOp a.eval o).run P w = .ok (.value (.pointer (some ⟨w.heap.size, 0, none⟩))) { w with heap := w.heap.push (.cells arr T) })
    (hv : Rvs B G w cs arr.toList) (h1 : ∀ c ∈ cs, oneC c) : Outc P B G h w o a (.ptr h.length 0) (h ++ [.box cs]) := by
  obtain ⟨hrel, hevo⟩ := push_blk (o := .box cs) (n := arr.size) hr (w' := { w with heap := w.heap.push (.cells arr T) }) ⟨rfl, rfl, rfl⟩ rfl (by
    intro hle b m hb
    have : (b, m) = (w.heap.size, arr.size) := by simpa [Gh.addBlk] using hb.symm
    injection this with e1 e2
    subst e1; subst e2
    refine ⟨arr, T, (0, 0), push_new rfl, rfl, .inl rfl, by have := hv.1; simp at this; omega, h1, fun k x hk => ?_⟩
    have hlt : k < arr.size := by have := (List.getElem?_eq_some_iff.1 hk).1; have := hv.1; simp at this; omega
    exact ⟨arr[k], by simp [hlt], (hv.2 k x arr[k] hk (by simp [hlt])).mono hle⟩)
  exact ⟨_, _, _, _, hx, .inl rfl, .ptr (n := arr.size) (by simp [Gh.addBlk]), hrel, hevo⟩

theorem o_alloc {t : TypeId} {i : Ins} (hop : o.op = .alloc t) (hc : insC P n o = some i) (hs : stepI i e h = some (v, h')) (he : EnvRel B G w n e a.tmps) (hr : Rel B G h w) : Outc P B G h w o a v h' := by
  simp only [insC, hop] at hc
  obtain ⟨cs, hz, rfl⟩ := map_some hc
  simp [stepI] at hs
  obtain ⟨rfl, rfl⟩ := hs
  obtain ⟨z, hzr, hzz⟩ := zeroT_run hz w
  refine outc_box hr (arr := z.cells) (T := t) ?_ (hzz B G w).1 (hzz B G w).2
  simp [execOp, hop, Instr.alloc, hzr, newVar, newRow]

theorem o_box {t : TypeId} {x : Operand} {i : Ins} (hop : o.op = .box t x) (hc : insC P n o = some i) (hs : stepI i e h = some (v, h')) (he : EnvRel B G w n e a.tmps) (hr : Rel B G h w) : Outc P B G h w o a v h' := by
  simp only [insC, hop] at hc
  obtain ⟨g, hg, rfl⟩ := map_some hc
  simp only [stepI] at hs
  split at hs <;> first | (cases hs; done) | skip
  rename_i hst
  injection hs with hs
  injection hs with h1 h2; subst h1; subst h2
  obtain ⟨hv, h1⟩ := cells_rv (argC_rv he hg) hst
  refine outc_box hr (arr := (a.eval x).cells) (T := t) ?_ hv h1
  simp [execOp, hop, Instr.box, newVar, newRow]

/-! ### Structs that are built -/

theorem fold_set (off : Nat) : ∀ (us : List Value) (i : Nat) (arr : Array Value), off + i + us.length ≤ arr.size →
    ((us.zipIdx i).foldl (fun cs (c, j) => cs.setIfInBounds (off + j) c) arr).size = arr.size ∧
    ∀ k, ((us.zipIdx i).foldl (fun cs (c, j) => cs.setIfInBounds (off + j) c) arr)[k]? = if off + i ≤ k ∧ k < off + i + us.length then us[k - (off + i)]? else arr[k]?
  | [], i, arr, _ => ⟨rfl, fun k => by rw [if_neg (by simp only [List.length_nil]; omega)]; rfl⟩
  | u :: us, i, arr, hle => by
    have ih := fold_set off us (i + 1) (arr.setIfInBounds (off + i) u) (by simp at hle ⊢; omega)
    simp only [List.zipIdx_cons, List.foldl_cons]
    refine ⟨by rw [ih.1]; simp, fun k => ?_⟩
    rw [ih.2 k]
    have hlt : off + i < arr.size := by simp at hle; omega
    by_cases hk : k = off + i
    · subst hk
      rw [if_neg (by omega), if_pos ⟨Nat.le_refl _, by simp⟩]
      simp [hlt]
    · rw [Array.getElem?_setIfInBounds_ne (Ne.symm hk)]
      by_cases hk2 : off + (i + 1) ≤ k ∧ k < off + (i + 1) + us.length
      · rw [if_pos hk2, if_pos ⟨by omega, by simp; omega⟩]
        rw [show k - (off + i) = (k - (off + (i + 1))) + 1 by omega]
        simp
      · rw [if_neg hk2, if_neg (by simp; omega)]

theorem rvs_splice {cs xs : List V} {vs us : List Value} {off : Nat} (hv : Rvs B G w cs vs) (hu : Rvs B G w xs us) (hle : off + xs.length ≤ cs.length) {out : List Value} (hl : out.length = vs.length)
    (ho : ∀ k, out[k]? = if off ≤ k ∧ k < off + us.length then us[k - off]? else vs[k]?) : Rvs B G w (splice cs off xs) out := by
  refine ⟨by rw [hl, hv.1]; exact (splice_length cs xs off hle).symm, fun k x u hx hu2 => ?_⟩
  unfold splice at hx
  rw [splice_get cs xs off hle] at hx
  rw [ho k, hu.1] at hu2
  split at hx <;> rename_i hk
  · rw [if_pos hk] at hu2
    exact hu.2 _ x u hx hu2
  · rw [if_neg hk] at hu2
    exact hv.2 k x u hx hu2

theorem splice_one {cs xs : List V} {off : Nat} (h1 : ∀ c ∈ cs, oneC c) (h2 : ∀ c ∈ xs, oneC c) : ∀ c ∈ splice cs off xs, oneC c := by
  intro c hc
  unfold splice at hc
  rcases List.mem_append.1 hc with hc | hc
  · rcases List.mem_append.1 hc with hc | hc
    · exact h1 c (List.mem_of_mem_take hc)
    · exact h2 c hc
  · exact h1 c (List.mem_of_mem_drop hc)

theorem fill_run {place place' : Nat → Option (Nat × Nat)} (he : EnvRel B G w n e a.tmps) : ∀ {pl : List (Nat × Operand)} {parts : List (Nat × Nat × Arg)} {cs cs' : List V} {arr : Array Value}, partsC n place pl = some parts → (∀ i p, place i = some p → place' i = some p) →
    fillC e cs parts = some cs' → Rvs B G w cs arr.toList → (∀ c ∈ cs, oneC c) →
    ∃ arr', Instr.fill place' arr (pl.map fun (i, x) => (i, a.eval x)) = some arr' ∧ Rvs B G w cs' arr'.toList ∧ ∀ c ∈ cs', oneC c
  | [], parts, cs, cs', arr, hp, hpl, hf, hv, h1 => by
    simp [partsC] at hp; subst hp
    simp [fillC] at hf; subst hf
    exact ⟨arr, rfl, hv, h1⟩
  | (i, x) :: pl, parts, cs, cs', arr, hp, hpl, hf, hv, h1 => by
    simp only [partsC] at hp
    split at hp <;> first | (cases hp; done) | skip
    rename_i off sz g ps e1 e2 e3
    injection hp with hp; subst hp
    simp only [fillC] at hf
    split at hf <;> first | (cases hf; done) | skip
    rename_i hcond
    obtain ⟨hc1, hc2, hc3⟩ := hcond
    obtain ⟨hu, h2⟩ := cells_rv (argC_rv he e2) hc3
    have hul : (a.eval x).cells.size = sz := by have := hu.1; simp at this; omega
    have hal : arr.size = cs.length := by have := hv.1; simpa using this
    have hfs := fold_set off (a.eval x).cells.toList 0 arr (by simp; omega)
    have hmid : Rvs B G w (splice cs off (cells (g.get e))) (((a.eval x).cells.toList.zipIdx 0).foldl (fun cs (c, j) => cs.setIfInBounds (off + j) c) arr).toList := by
      refine rvs_splice hv hu (by omega) (by simp [hfs.1]) (fun k => ?_)
      have := hfs.2 k
      simpa using this
    obtain ⟨arr', hf', hv', h1'⟩ := fill_run he (pl := pl) e3 hpl hf hmid (splice_one h1 h2)
    refine ⟨arr', ?_, hv', h1'⟩
    simp only [List.map_cons, Instr.fill, hpl i _ e1]
    rw [if_neg (by simp; omega)]
    rw [← Array.foldl_toList, Array.toList_zipIdx]
    exact hf'

theorem run_mapM_fields (P : Program) (w : World) : ∀ (fs : List Field), (∀ f ∈ fs, ∃ s, sizeT P f.type = some s) →
    (fs.mapM (m := Sem) fun f => do pure (f.offset, ← sizeOf f.type)).run P w = .ok (fs.map fun f => (f.offset, (sizeT P f.type).getD 0)) w
  | [], _ => by simp
  | f :: fs, hf => by
    obtain ⟨s, hs⟩ := hf f (by simp)
    have ih := run_mapM_fields P w fs (fun g hg => hf g (by simp [hg]))
    simp [List.mapM_cons, run_sizeT hs, hs] at ih ⊢
    rw [ih]; simp

theorem o_build {t : TypeId} {parts : Array (Nat × Operand)} {i : Ins} (hop : o.op = .build t parts) (hc : insC P n o = some i) (hs : stepI i e h = some (v, h')) (he : EnvRel B G w n e a.tmps) (hr : Rel B G h w) : Outc P B G h w o a v h' := by
  simp only [insC, hop] at hc
  split at hc <;> first | (cases hc; done) | skip
  rename_i zs hz
  obtain ⟨z, hzr, hzz⟩ := zeroT_run hz w
  split at hc <;> first | (cases hc; done) | skip
  · rename_i fs hu
    split at hc
    · cases hc
    rename_i hall
    obtain ⟨ps, hps, rfl⟩ := map_some hc
    simp only [stepI] at hs
    obtain ⟨cs, hcs, h2⟩ := map_some hs
    injection h2 with h1 h2; subst h1; subst h2
    have hsz : ∀ f ∈ fs.toList, ∃ s, sizeT P f.type = some s := by
      intro f hf
      have : (fs.toList.all fun f => (sizeT P f.type).isSome) = true := by
        rw [Bool.not_eq_true'] at hall
        exact Classical.byContradiction fun hne => hall (by simpa using hne)
      exact Option.isSome_iff_exists.1 (List.all_eq_true.1 this f hf)
    have hplaces := run_mapM_fields P w fs.toList hsz
    obtain ⟨arr', hf', hv', h1'⟩ := fill_run (place' := fun i => ((fs.toList.map fun f => (f.offset, (sizeT P f.type).getD 0)).toArray)[i]?) he (pl := parts.toList) hps (by
      intro k p hp
      cases ef : fs[k]? with
      | none => simp [ef] at hp
      | some f =>
        simp only [ef, Option.bind_some] at hp
        obtain ⟨s, hs1, hs2⟩ := map_some hp
        simp [ef, hs1, ← hs2]) hcs (hzz B G w).1 (hzz B G w).2
    refine Outc.same hr (val := .agg arr'.toList.toArray) ?_ (.agg hv'.1 h1' hv'.2)
    have hm : (fs.mapM (m := Sem) fun f => do pure (f.offset, ← sizeOf f.type)).run P w = .ok (fs.toList.map fun f => (f.offset, (sizeT P f.type).getD 0)).toArray w := by
      rw [Array.mapM_eq_mapM_toList]
      simp only [Sem.run_map, hplaces, Result.andThen_ok]
    have hparts : (parts.map fun (i, x) => (i, a.eval x)).toList = parts.toList.map fun (i, x) => (i, a.eval x) := by simp
    simp only [execOp, hop, Instr.build, Sem.run_bind, hzr, Result.andThen_ok, run_underlying hu, hm, hparts]
    rw [hf']
    simp
  · rename_i k el hu
    split at hc <;> first | (cases hc; done) | skip
    rename_i s hsz
    obtain ⟨ps, hps, rfl⟩ := map_some hc
    simp only [stepI] at hs
    obtain ⟨cs, hcs, h2⟩ := map_some hs
    injection h2 with h1 h2; subst h1; subst h2
    obtain ⟨arr', hf', hv', h1'⟩ := fill_run he (pl := parts.toList) hps (fun i p hp => hp) hcs (hzz B G w).1 (hzz B G w).2
    refine Outc.same hr (val := .agg arr'.toList.toArray) ?_ (.agg hv'.1 h1' hv'.2)
    have hparts : (parts.map fun (i, x) => (i, a.eval x)).toList = parts.toList.map fun (i, x) => (i, a.eval x) := by simp
    simp only [execOp, hop, Instr.build, Sem.run_bind, hzr, Result.andThen_ok, run_underlying hu, run_sizeT hsz, hparts]
    rw [hf']
    simp

end
end Go.Vm
