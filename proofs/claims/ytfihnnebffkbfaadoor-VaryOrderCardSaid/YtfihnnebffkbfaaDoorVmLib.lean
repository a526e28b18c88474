/- Functions of the library, by their contracts. -/
import Derived.Test.YtfihnnebffkbfaaDoorVmRow
namespace Go.Vm
set_option linter.unusedVariables false
set_option linter.unusedSimpArgs false
section
variable {P : Program} {B : Nat} {G : Gh} {h : Heap} {w w' w0 : World}
/-- New blocks alone: all stands as it did. -/
theorem Rel.below (hr : Rel B G h w) (hb : RowKit.Below w.heap.size w w') : Rel B G h w' ∧ Evo B G h w G h w' := by
  have hw := hr.wf
  have hle : Le B G w G w' := by
    refine ⟨fun _ _ e => e, fun _ t e => ⟨t, e, Nat.le_refl _, fun _ => rfl⟩, fun b o hs => ⟨hs, at?_of_block (hb.block b ?_)⟩⟩
    rcases hs with hs | ⟨n, hs, _⟩
    · exact Nat.lt_of_lt_of_le hs hw.base
    · exact (hw.lim b n hs).2
  refine ⟨⟨⟨Nat.le_trans hw.base hb.size, fun id p e => ?_, fun id t e => ?_, fun b n e => ?_, hw.inj, hw.tinj, hw.tipo⟩, fun id o ho => ?_⟩, ?_⟩
  · obtain ⟨h1, h2, h3, h4⟩ := hw.blk id p e
    exact ⟨h1, Nat.lt_of_lt_of_le h2 hb.size, h3, h4⟩
  · obtain ⟨h1, h2, h3, h4⟩ := hw.tip id t e
    exact ⟨h1, Nat.lt_of_lt_of_le h2 hb.size, h3, h4⟩
  · obtain ⟨h1, h2⟩ := hw.lim b n e
    exact ⟨h1, Nat.lt_of_lt_of_le h2 hb.size⟩
  · exact (hr.obj id o ho).mono hle (fun _ p e => ⟨e, hb.block _ (hw.blk id p e).2.1⟩) (fun _ t e => ⟨e, hb.block _ (hw.tip id t e).2.1⟩)
  · exact { Evo.refl (w := w) hw with
      le := hle, os := hb.os, tape := hb.tape, output := hb.output, size := hb.size
      frame := fun b hlt _ => hb.block b hlt }
/-- A function of the library that leaves what is there. -/
theorem good_below {f : FuncId} {args : List V} {v : V} (hc : ∀ B G (h : Heap) w vs, Rel B G h w → Base w0 B w → Rvs B G w args vs → Calls P f vs.toArray w fun en w' => ∃ val, en = .returned val ∧ Rv B G w' v val ∧ RowKit.Below w.heap.size w w') (h : Heap) :
    CallGood P w0 f args h v h := fun B G w vs hr hb hv =>
  (hc B G h w vs hr hb hv).mono fun en w' ⟨val, he, hv', hbel⟩ => ⟨G, val, he, hv', (hr.below hbel).1, (hr.below hbel).2⟩
/-- What the library's contracts must be, from one world on. -/
def LibAt (P : Program) (w0 : World) (L : FuncId → List V → V → Prop) : Prop := ∀ f args v, L f args v → isFn P f = true ∧ ∀ h, CallGood P w0 f args h v h
theorem calls_at {F : FuncId → Option FnC} {L : FuncId → List V → V → Prop} (hm : P.follows .mixedOrders = true) (hF : ∀ f fn, F f = some fn → compF P f = some fn) {f : FuncId} {args : List V} {b : Bool} {w : World} (hL : LibAt P w L) (hS : SortAt P w L)
    (hc : Cf F L f args [] fun v _ => v = .bool b) {vs : List Value} (ha : Rvs w.heap.size G0 w args vs) :
    Calls P f vs.toArray w fun e w' => e = .returned (.bool b) ∧ RowKit.Below w.heap.size w w' := by
  obtain ⟨v, h', hev, rfl⟩ := hc
  refine ((sound (w0 := w) hm hF hL hS hev).2 _ G0 w vs (rel0 w) ⟨Nat.le_refl _, .refl _ _⟩ ha).mono ?_
  rintro en w' ⟨G', val, rfl, hv, hr, he⟩
  cases hv
  exact ⟨rfl, he.os, he.tape, he.output, he.size, fun k hk => he.frame k hk (not_mapped0 k)⟩
end
theorem rvs_one {B : Nat} {G : Gh} {w : World} {x : V} {vs : List Value} (h : Rvs B G w [x] vs) : ∃ a, vs = [a] ∧ Rv B G w x a := by
  obtain ⟨h1, h2⟩ := h
  match vs, h1 with
  | [a], _ => exact ⟨a, rfl, h2 0 _ _ rfl rfl⟩
theorem rvs_two {B : Nat} {G : Gh} {w : World} {x y : V} {vs : List Value} (h : Rvs B G w [x, y] vs) : ∃ a b, vs = [a, b] ∧ Rv B G w x a ∧ Rv B G w y b := by
  obtain ⟨h1, h2⟩ := h
  match vs, h1 with
  | [a, b], _ => exact ⟨a, b, rfl, h2 0 _ _ rfl rfl, h2 1 _ _ rfl rfl⟩
end Go.Vm
