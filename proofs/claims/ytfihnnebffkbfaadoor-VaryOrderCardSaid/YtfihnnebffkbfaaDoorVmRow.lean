/- From a run of the small machine to a call in the model, where nothing stands yet. -/
import Derived.Test.YtfihnnebffkbfaaDoorVmWp
namespace Go.Vm
set_option linter.unusedVariables false
set_option linter.unusedSimpArgs false
section
variable {P : Program} {F : FuncId → Option FnC} {L : FuncId → List V → V → Prop}
def G0 : Gh := ⟨fun _ => none, fun _ => none, fun _ => none⟩
theorem rel0 (w : World) : Rel w.heap.size G0 [] w where
  wf := {
    base := Nat.le_refl _
    blk := by intro _ _ h; cases h
    tip := by intro _ _ h; cases h
    lim := by intro _ _ h; cases h
    inj := by intro _ _ _ _ h; cases h
    tinj := by intro _ _ _ _ h; cases h
    tipo := by intro _ _ h; cases h }
  obj id o h := by simp at h
theorem not_mapped0 (b : Nat) : ¬ Mapped G0 b := by
  rintro (⟨_, _, h, _⟩ | ⟨_, _, h, _⟩) <;> cases h
/-- What the library's contracts must be, whatever world one starts from. -/
def LibGood (P : Program) (L : FuncId → List V → V → Prop) : Prop := ∀ w0 f args v, L f args v → isFn P f = true ∧ ∀ h, CallGood P w0 f args h v h
theorem sort_none {w0 : World} : SortAt P w0 (fun _ _ _ => False) := fun _ h => h.elim
theorem lib_none : LibGood P (fun _ _ _ => False) := fun _ _ _ _ h => h.elim
theorem calls_of (hm : P.follows .mixedOrders = true) (hF : ∀ f fn, F f = some fn → compF P f = some fn) (hL : LibGood P L) (hS : ∀ w0, SortAt P w0 L) {f : FuncId} {args : List V} {b : Bool}
    (hc : Cf F L f args [] fun v _ => v = .bool b) {w : World} {vs : List Value} (ha : Rvs w.heap.size G0 w args vs) :
    Calls P f vs.toArray w fun e w' => e = .returned (.bool b) ∧ RowKit.Below w.heap.size w w' := by
  obtain ⟨v, h', hev, rfl⟩ := hc
  refine ((sound (w0 := w) hm hF (hL w) (hS w) hev).2 _ G0 w vs (rel0 w) ⟨Nat.le_refl _, .refl _ _⟩ ha).mono ?_
  rintro en w' ⟨G', val, rfl, hv, hr, he⟩
  cases hv
  exact ⟨rfl, he.os, he.tape, he.output, he.size, fun k hk => he.frame k hk (not_mapped0 k)⟩

theorem rvs_of {B : Nat} {G : Gh} {w : World} : ∀ {xs : List V} {vs : List Value}, (xs.length = vs.length) → (∀ k (hk : k < xs.length) (hk' : k < vs.length), Rv B G w xs[k] vs[k]) → Rvs B G w xs vs :=
  fun hl h => ⟨hl.symm, fun k x v hx hv => by
    obtain ⟨h1, rfl⟩ := List.getElem?_eq_some_iff.1 hx
    obtain ⟨h2, rfl⟩ := List.getElem?_eq_some_iff.1 hv
    exact h k h1 h2⟩
variable {B : Nat} {G : Gh} {w : World}
theorem rv_str (s : ByteArray) : Rv B G w (.str s.data.toList) (.string s) := by
  have := Rv.str (B := B) (G := G) (w := w) s.data.toList
  simpa using this
theorem rv_agg {cs : List V} {vs : List Value} {arr : Array Value} (ha : arr = vs.toArray) (h : Rvs B G w cs vs) (h1 : ∀ c ∈ cs, oneC c) : Rv B G w (.agg cs) (.agg arr) := by
  subst ha; exact .agg h.1 h1 h.2
end
end Go.Vm
