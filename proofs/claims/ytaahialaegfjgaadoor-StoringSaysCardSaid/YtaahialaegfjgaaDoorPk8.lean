/- Lists that grow by append: nothing yet, or the tip of a row of one's own. -/
import Derived.Test.YtaahialaegfjgaaDoorPk2
section
namespace Go.Vm
set_option linter.unusedVariables false
set_option linter.unusedSimpArgs false
/-- x is the list es, grown since h. -/
def Grow (sz : Nat) (h h' : Heap) (x : V) (es : List V) : Prop :=
  (∃ t, h' = h ++ t) ∧ ((es = [] ∧ x = .nsl) ∨ (es ≠ [] ∧ ∃ k, x = .sl sz (.tip k) es ∧ h.length ≤ k ∧ h'[k]? = some (.tip (flat es).length)))
theorem Grow.nil {sz : Nat} {h t : Heap} : Grow sz h (h ++ t) .nsl [] := ⟨⟨t, rfl⟩, .inl ⟨rfl, rfl⟩⟩
theorem Grow.nil0 {sz : Nat} {h : Heap} : Grow sz h h .nsl [] := ⟨⟨[], by simp⟩, .inl ⟨rfl, rfl⟩⟩
theorem Grow.more {sz : Nat} {h h' t : Heap} {x : V} {es : List V} (g : Grow sz h h' x es) : Grow sz h (h' ++ t) x es := by
  obtain ⟨⟨t0, rfl⟩, g⟩ := g
  refine ⟨⟨t0 ++ t, by simp⟩, g.imp_right fun ⟨hne, k, e1, e2, e3⟩ => ⟨hne, k, e1, e2, get_old e3⟩⟩
theorem Grow.app {sz bytes : Nat} {h h' : Heap} {x y : V} {es : List V} (g : Grow sz h h' x es) (hr : (es.length + 1) * bytes ≤ 140737488355328) :
    ∃ x' h'', appV h' sz bytes false x (.sl sz .full [y]) = some (x', h'') ∧ Grow sz h h'' x' (es ++ [y]) := by
  obtain ⟨⟨t, rfl⟩, g⟩ := g
  rcases g with ⟨rfl, rfl⟩ | ⟨hne, k, rfl, hk, hb⟩
  · refine ⟨.sl sz (.tip (h ++ t).length) [y], (h ++ t) ++ [.tip (flat [y]).length], ?_, ⟨t ++ [.tip (flat [y]).length], by simp⟩, .inr ⟨by simp, (h ++ t).length, rfl, by simp, by simp⟩⟩
    have r : room [y].length bytes = true := by simpa [room] using hr
    simp only [appV, srcElems, if_true, Option.bind_some, List.isEmpty_cons, Bool.false_eq_true, if_false, r, newRowV]
  · refine ⟨.sl sz (.tip k) (es ++ [y]), (h ++ t).set k (.tip (flat (es ++ [y])).length), ?_, ?_, .inr ⟨by simp, k, rfl, hk, ?_⟩⟩
    · have r : room (es.length + [y].length) bytes = true := by simpa [room] using hr
      have i : isTip (h ++ t) k (flat es).length = true := by simp [isTip, hb]
      simp only [appV, srcElems, if_true, Option.bind_some, r, i, Bool.and_self]
    · rw [List.set_append_right _ _ hk]; exact ⟨_, rfl⟩
    · have hl := (List.getElem?_eq_some_iff.1 hb).1
      rw [List.getElem?_set_self hl]
section
variable {F : FuncId → Option FnC} {L : FuncId → List V → V → Prop} {K : V → Heap → Prop}
theorem Grow.len {sz : Nat} {h h' : Heap} {x : V} {es : List V} {e : Env} (g : Grow sz h h' x es) : wi F L (.len 1 (.c x)) e h' K = K (.int .i64 es.length) h' := by
  obtain ⟨_, ⟨rfl, rfl⟩ | ⟨_, k, rfl, _⟩⟩ := g <;> rfl
end
/-- A list that is read alone. -/
def ListV (sz : Nat) (x : V) (es : List V) : Prop := (es = [] ∧ x = .nsl) ∨ ∃ o, x = .sl sz o es
theorem Grow.list {sz : Nat} {h h' : Heap} {x : V} {es : List V} (g : Grow sz h h' x es) : ListV sz x es := g.2.imp_right fun ⟨_, k, e, _⟩ => ⟨_, e⟩
section
variable {F : FuncId → Option FnC} {L : FuncId → List V → V → Prop} {K : V → Heap → Prop} {h : Heap} {e : Env}
theorem ListV.len {sz : Nat} {x : V} {es : List V} (g : ListV sz x es) : wi F L (.len 1 (.c x)) e h K = K (.int .i64 es.length) h := by
  rcases g with ⟨rfl, rfl⟩ | ⟨o, rfl⟩ <;> rfl
theorem ListV.at {sz i : Nat} {x : V} {es : List V} (g : ListV sz x es) (hi : i < es.length) : wi F L (.ixaSl sz (.c x) (.c (.int .i64 i))) e h K = K (.iptr (cells (es.getD i (.tup [])))) h := by
  rcases g with ⟨rfl, rfl⟩ | ⟨o, rfl⟩
  · simp at hi
  · rw [wi_ixaSl]
    simp [Arg.get, hi]
end
theorem flat_ones {es : List V} (h : ∀ e ∈ es, cells e = [e]) : flat es = es := by
  induction es with
  | nil => rfl
  | cons a r ih =>
    have : flat (a :: r) = cells a ++ flat r := rfl
    rw [this, h a (by simp), ih fun e he => h e (by simp [he])]; rfl
/-- x is the list es, which may be appended to. -/
def Ow (sz : Nat) (h h' : Heap) (x : V) (es : List V) : Prop :=
  (∃ t, h' = h ++ t) ∧ ((es = [] ∧ x = .nsl) ∨ x = .sl sz .full es ∨ ∃ k, x = .sl sz (.tip k) es ∧ h.length ≤ k ∧ h'[k]? = some (.tip (flat es).length))
theorem Ow.full {sz : Nat} {h t : Heap} {es : List V} : Ow sz h (h ++ t) (.sl sz .full es) es := ⟨⟨t, rfl⟩, .inr (.inl rfl)⟩
theorem Ow.nil {sz : Nat} {h t : Heap} : Ow sz h (h ++ t) .nsl [] := ⟨⟨t, rfl⟩, .inl ⟨rfl, rfl⟩⟩
theorem Ow.list {sz : Nat} {h h' : Heap} {x : V} {es : List V} (g : Ow sz h h' x es) : ListV sz x es := by
  rcases g.2 with h | rfl | ⟨k, rfl, _⟩
  · exact .inl h
  · exact .inr ⟨_, rfl⟩
  · exact .inr ⟨_, rfl⟩
theorem Ow.more {sz : Nat} {h h' t : Heap} {x : V} {es : List V} (g : Ow sz h h' x es) : Ow sz h (h' ++ t) x es := by
  obtain ⟨⟨t0, rfl⟩, g⟩ := g
  refine ⟨⟨t0 ++ t, by simp⟩, ?_⟩
  rcases g with g | g | ⟨k, e1, e2, e3⟩
  · exact .inl g
  · exact .inr (.inl g)
  · exact .inr (.inr ⟨k, e1, e2, get_old e3⟩)
theorem Ow.app {sz bytes : Nat} {h h' : Heap} {x y : V} {es ys : List V} (g : Ow sz h h' x es) (hy : ListV sz y ys) (hr : (es.length + ys.length) * bytes ≤ 140737488355328) :
    ∃ x' h'', appV h' sz bytes false x y = some (x', h'') ∧ Ow sz h h'' x' (es ++ ys) := by
  have hs : srcElems h' sz y = some ys := by
    rcases hy with ⟨rfl, rfl⟩ | ⟨o, rfl⟩
    · rfl
    · simp [srcElems]
  have r : room (es.length + ys.length) bytes = true := by simpa [room] using hr
  obtain ⟨⟨t, rfl⟩, g⟩ := g
  simp only [appV, hs, Option.bind_some]
  rcases g with ⟨rfl, rfl⟩ | rfl | ⟨k, rfl, hk, hb⟩
  · cases ys with
    | nil => exact ⟨_, _, rfl, ⟨t, rfl⟩, .inl ⟨rfl, rfl⟩⟩
    | cons a r' =>
      have r2 : room (a :: r').length bytes = true := by simpa using r
      simp only [List.isEmpty_cons, Bool.false_eq_true, if_false, if_pos r2, newRowV, List.nil_append]
      exact ⟨_, _, rfl, ⟨t ++ [_], by rw [List.append_assoc]⟩, .inr (.inr ⟨(h ++ t).length, rfl, by simp, by simp⟩)⟩
  · simp only [if_true]
    cases ys with
    | nil =>
      simp only [List.isEmpty_nil, if_true]
      exact ⟨_, _, rfl, ⟨t, rfl⟩, .inr (.inl (by simp))⟩
    | cons a r' =>
      simp only [List.isEmpty_cons, Bool.false_eq_true, if_false, if_pos r, newRowV]
      exact ⟨_, _, rfl, ⟨t ++ [_], by rw [List.append_assoc]⟩, .inr (.inr ⟨(h ++ t).length, rfl, by simp, by simp⟩)⟩
  · have i : isTip (h ++ t) k (flat es).length = true := by simp [isTip, hb]
    simp only [if_true, r, i, Bool.and_self]
    refine ⟨_, _, rfl, ?_, .inr (.inr ⟨k, rfl, hk, ?_⟩)⟩
    · rw [List.set_append_right _ _ hk]; exact ⟨_, rfl⟩
    · have hl := (List.getElem?_eq_some_iff.1 hb).1
      rw [List.getElem?_set_self hl]
end Go.Vm
end
