/- What the model's small steps come to, in the relation's words. -/
import Derived.Test.YtfihnnebffkbfaaDoorVmStep
import Derived.Laws.Entries
import Derived.Laws.Cells
namespace Go.Vm
set_option linter.unusedVariables false
set_option linter.unusedSimpArgs false

section
variable {P : Program} {B : Nat} {G : Gh} {h : Heap} {w : World}

def EnvRel (B : Nat) (G : Gh) (w : World) (n : Nat) (e : Env) (tmps : Array Value) : Prop :=
  tmps.size = n ∧ ∀ t, t < n → Rv B G w (e t) (tmps.getD t undef)

theorem rv_undef : Rv B G w (.tup []) undef := by
  have := Rv.tup (B := B) (G := G) (w := w) (cs := []) (vs := []) rfl (fun k x v hx => by simp at hx)
  simpa [undef] using this

theorem rvs_nil : Rvs B G w [] [] := ⟨rfl, fun k x v hx => by simp at hx⟩

theorem rvs_cons {x : V} {v : Value} {xs : List V} {vs : List Value} (h1 : Rv B G w x v) (h2 : Rvs B G w xs vs) : Rvs B G w (x :: xs) (v :: vs) :=
  ⟨by simp [h2.1], fun k y u hy hu => by
    cases k with
    | zero => simp at hy hu; subst hy; subst hu; exact h1
    | succ k => simp at hy hu; exact h2.2 k y u hy hu⟩

theorem rvs_append {xs ys : List V} {vs us : List Value} (h1 : Rvs B G w xs vs) (h2 : Rvs B G w ys us) : Rvs B G w (xs ++ ys) (vs ++ us) := by
  refine ⟨by simp [h1.1, h2.1], fun k x v hx hv => ?_⟩
  by_cases hk : k < xs.length
  · rw [List.getElem?_append_left hk] at hx
    rw [List.getElem?_append_left (by rw [h1.1]; exact hk)] at hv
    exact h1.2 k x v hx hv
  · rw [List.getElem?_append_right (by omega)] at hx
    rw [List.getElem?_append_right (by rw [h1.1]; omega), h1.1] at hv
    exact h2.2 _ x v hx hv

/-! ### Constants and operands -/

theorem ofScalar_rv {v : Value} {x : V} (hx : ofScalar v = some x) : Rv B G w x v ∧ oneC x := by
  unfold ofScalar at hx
  split at hx <;> first | (cases hx; done) | skip
  all_goals (injection hx with hx; subst hx)
  · exact ⟨.bool _, trivial⟩
  · exact ⟨.int _ _, trivial⟩
  · rename_i s
    refine ⟨?_, trivial⟩
    have := Rv.str (B := B) (G := G) (w := w) s.data.toList
    simpa using this
  · exact ⟨.nilp, trivial⟩
  · exact ⟨.nsl, trivial⟩
  · exact ⟨.nmap, trivial⟩
  · exact ⟨.nfn, trivial⟩

theorem ofScalars_rv : ∀ {vs : List Value} {xs : List V}, ofScalars vs = some xs → Rvs B G w xs vs ∧ ∀ c ∈ xs, oneC c
  | [], xs, hx => by
    simp [ofScalars] at hx; subst hx; exact ⟨rvs_nil, fun c hc => by simp at hc⟩
  | v :: r, xs, hx => by
    simp only [ofScalars] at hx
    split at hx
    · rename_i x ys e1 e2
      injection hx with hx
      subst hx
      obtain ⟨a, b⟩ := ofScalar_rv (B := B) (G := G) (w := w) e1
      obtain ⟨c, d⟩ := ofScalars_rv (vs := r) e2
      exact ⟨rvs_cons a c, fun z hz => by
        rcases List.mem_cons.1 hz with rfl | hz
        · exact b
        · exact d z hz⟩
    · cases hx

theorem ofConst_rv {v : Value} {x : V} (hx : ofConst v = some x) : Rv B G w x v := by
  unfold ofConst at hx
  split at hx
  · rename_i cs
    cases e : ofScalars cs.toList with
    | none => simp [e] at hx
    | some xs =>
      simp [e] at hx
      subst hx
      obtain ⟨a, b⟩ := ofScalars_rv (B := B) (G := G) (w := w) e
      have := Rv.agg a.1 b a.2
      simpa using this
  · rename_i vs
    split at hx
    · rename_i h0
      injection hx with hx
      subst hx
      have : vs = #[] := by simpa using h0
      subst this
      exact rv_undef
    · cases hx
  · exact (ofScalar_rv hx).1

theorem argC_rv {n : Nat} {e : Env} {a : Act} (he : EnvRel B G w n e a.tmps) {x : Operand} {g : Arg} (hx : argC n x = some g) : Rv B G w (g.get e) (a.eval x) := by
  cases x with
  | tmp t =>
    simp only [argC] at hx
    split at hx
    · rename_i ht
      injection hx with hx
      subst hx
      exact he.2 t ht
    · cases hx
  | const v =>
    simp only [argC] at hx
    cases ec : ofConst v with
    | none => simp [ec] at hx
    | some c =>
      simp [ec] at hx
      subst hx
      exact ofConst_rv ec
  | global g => simp [argC] at hx
  | func f =>
    simp [argC] at hx
    subst hx
    have := Rv.fn (B := B) (G := G) (w := w) (f := f) (caps := []) (vs := []) rfl (fun k x v hx => by simp at hx)
    simpa [Act.eval, Arg.get] using this

theorem argsC_rv {n : Nat} {e : Env} {a : Act} (he : EnvRel B G w n e a.tmps) : ∀ {xs : List Operand} {gs : List Arg}, argsC n xs = some gs →
    Rvs B G w (gs.map (·.get e)) (xs.map a.eval)
  | [], gs, hx => by simp [argsC] at hx; subst hx; exact rvs_nil
  | x :: r, gs, hx => by
    simp only [argsC] at hx
    split at hx
    · rename_i g hs e1 e2
      injection hx with hx
      subst hx
      exact rvs_cons (argC_rv he e1) (argsC_rv he e2)
    · cases hx

/-! ### Cells of values -/

theorem one_of_rv {x : V} {v : Value} (h : Rv B G w x v) (h1 : oneC x) : v.oneCell' = true := by
  cases h <;> first | rfl | exact h1.elim

theorem cells_rv {x : V} {v : Value} (h : Rv B G w x v) (hs : stor x = true) : Rvs B G w (cells x) v.cells.toList ∧ ∀ c ∈ cells x, oneC c := by
  have single : ∀ {x : V} {v : Value}, Rv B G w x v → oneC x → Rvs B G w [x] [v] ∧ ∀ c ∈ [x], oneC c := fun h h1 => ⟨rvs_cons h rvs_nil, fun c hc => by
    rcases List.mem_cons.1 hc with rfl | hc
    · exact h1
    · simp at hc⟩
  have hh := h
  cases h with
  | agg hl h1 hr => exact ⟨⟨by simp [cells, Value.cells, hl], by simpa [cells, Value.cells] using hr⟩, by simpa [cells] using h1⟩
  | tup hl hr => simp [stor] at hs
  | _ => exact single hh trivial

theorem mem_flat {es : List V} {e : V} (he : e ∈ es) : ∀ c ∈ cells e, c ∈ flat es := fun c hc => List.mem_flatMap.2 ⟨e, he, hc⟩

theorem flat_get : ∀ {es : List V} {sz m k : Nat} {el : V}, (∀ e ∈ es, (cells e).length = sz) → es[m]? = some el → k < (cells el).length → (flat es)[m * sz + k]? = (cells el)[k]?
  | [], sz, m, k, el, _, hel, _ => by simp at hel
  | x :: es, sz, m, k, el, hsz, hel, hk => by
    have hx : (cells x).length = sz := hsz x (by simp)
    cases m with
    | zero =>
      simp at hel
      subst hel
      simp only [flat, List.flatMap_cons, Nat.zero_mul, Nat.zero_add]
      rw [List.getElem?_append_left hk]
    | succ m =>
      simp at hel
      have ih := flat_get (es := es) (fun e he => hsz e (by simp [he])) hel hk
      simp only [flat, List.flatMap_cons]
      rw [List.getElem?_append_right (by rw [hx, Nat.succ_mul]; omega), hx, show (m + 1) * sz + k - sz = m * sz + k by rw [Nat.succ_mul]; omega]
      exact ih

theorem flat_length : ∀ {es : List V} {sz : Nat}, (∀ e ∈ es, (cells e).length = sz) → (flat es).length = es.length * sz
  | [], sz, _ => by simp [flat]
  | x :: es, sz, hsz => by
    have hx : (cells x).length = sz := hsz x (by simp)
    have ih := flat_length (es := es) (fun e he => hsz e (by simp [he]))
    simp only [flat, List.flatMap_cons, List.length_append, List.length_cons] at ih ⊢
    rw [hx, ih, Nat.succ_mul]; omega

theorem flat_append (xs ys : List V) : flat (xs ++ ys) = flat xs ++ flat ys := by simp [flat]

/-! ### Runs -/

theorem run_sizeT {t s : Nat} (h : sizeT P t = some s) (w : World) : (sizeOf t).run P w = .ok s w := by
  unfold sizeT at h
  cases e : P.info? t with
  | none => simp [e] at h
  | some i => simp [e] at h; subst h; simp [sizeOf, typeInfo, e]

theorem run_info {t : TypeId} {i : TypeInfo} (h : P.info? t = some i) (w : World) : (typeInfo t).run P w = .ok i w := by simp [typeInfo, h]

theorem run_aggT {t : TypeId} {g : Bool} (h : aggT P t = some g) (w : World) : (isAgg t).run P w = .ok g w := by
  unfold aggT at h
  cases e : P.underlying t with
  | none => simp [e] at h
  | some d =>
    cases d <;> simp [e] at h <;> subst h <;> simp [isAgg, run_underlying e]

theorem zeroT_run {t : TypeId} {zs : List V} (h : zeroT P t = some zs) (w : World) : ∃ z, (zeroValue t).run P w = .ok z w ∧ ∀ B G w', Rvs B G w' zs z.cells.toList ∧ ∀ c ∈ zs, oneC c := by
  unfold zeroT at h
  split at h
  · rename_i i ei
    split at h
    · rename_i z ez
      exact ⟨z, by simp [zeroValue, run_info ei, ez], fun B G w' => ofScalars_rv h⟩
    · cases h
  · cases h

theorem add_at (b o n : Nat) : Addr.add ⟨b, o, none⟩ n = ⟨b, o + n, none⟩ := Addr.add_lit b o n

theorem run_cells (P : Program) (w : World) (b o n : Nat) (vs : List Value) (hn : vs.length = n) (hc : ∀ k v, vs[k]? = some v → at? w b (o + k) = some v) :
    (loadCells ⟨b, o, none⟩ n).run P w = .ok vs.toArray w := by
  subst hn
  exact run_loadCells_list w _ vs fun j v hv => by rw [add_at]; exact hc j v hv

/-- A whole variable, of cells that are known. -/
theorem run_load {t : TypeId} {g : Bool} {s : Nat} (hg : aggT P t = some g) (hs : sizeT P t = some s) (w : World) (b o : Nat) (vs : List Value) (hn : vs.length = s)
    (h1 : g = false → s = 1) (hc : ∀ k v, vs[k]? = some v → at? w b (o + k) = some v) :
    ∃ v, (loadVar t ⟨b, o, none⟩).run P w = .ok v w ∧ (g = true → v = .agg vs.toArray) ∧ (g = false → vs = [v]) := by
  cases g with
  | true =>
    exact ⟨.agg vs.toArray, by simp [loadVar, run_aggT hg, run_sizeT hs, run_cells P w b o s vs hn hc], fun _ => rfl, (fun h => by cases h)⟩
  | false =>
    have h1' := h1 rfl
    subst h1'
    obtain ⟨v, rfl⟩ := List.length_eq_one_iff.1 hn
    refine ⟨v, ?_, (fun h => by cases h), fun _ => rfl⟩
    have h0 : w.cell? ⟨b, o, none⟩ = some v := by have := hc 0 v rfl; simpa [at?] using this
    simp [loadVar, run_aggT hg, h0]

end
end Go.Vm
