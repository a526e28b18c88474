/- Several texts in one: VmGrow, VSplit3, VNum, VCtl1, VSplitN, VCtl2, VPairR, VCtl3, VCtl4, VField, VFew, VRGet, VCtlOf, VNamesE, VNamesF, VDateA, VFormatA, VReaders, VFormsA, VFresh, VStor1, VStor2. -/
import Derived.Test.YtaahialaegfjgaaGreatDoorPk1
import Derived.Test.YtaahialaegfjgaaGreatDoorPk6
import Derived.Test.YtaahialaegfjgaaGreatDoorPk5
import Derived.Test.YtaahialaegfjgaaGreatDoorPk4
import Derived.Lib.ItoaNum
import Derived.Lib.AppendIntMem
section
namespace Go.Vm
set_option linter.unusedVariables false
set_option linter.unusedSimpArgs false
def Grow (sz : Nat) (h h' : Heap) (x : V) (es : List V) : Prop :=
  (∃ t, h' = h ++ t) ∧ ((es = [] ∧ x = .nsl) ∨ (es ≠ [] ∧ ∃ k, x = .sl sz (.tip k) es ∧ h.length ≤ k ∧ h'[k]? = some (.tip (flat es).length)))
theorem Grow.nil {sz : Nat} {h t : Heap} : Grow sz h (h ++ t) .nsl [] := ⟨⟨t, rfl⟩, .inl ⟨rfl, rfl⟩⟩
theorem Grow.nil0 {sz : Nat} {h : Heap} : Grow sz h h .nsl [] := ⟨⟨[], by simp⟩, .inl ⟨rfl, rfl⟩⟩
theorem Grow.more {sz : Nat} {h h' t : Heap} {x : V} {es : List V} (g : Grow sz h h' x es) : Grow sz h (h' ++ t) x es := by
  obtain ⟨⟨t0, rfl⟩, g⟩ := g
  refine ⟨⟨t0 ++ t, by simp⟩, g.imp_right fun ⟨hne, k, e1, e2, e3⟩ => ⟨hne, k, e1, e2, Qp e3⟩⟩
theorem Grow.less {sz : Nat} {h h' t : Heap} {x : V} {es : List V} (g : Grow sz (h ++ t) h' x es) : Grow sz h h' x es := by
  obtain ⟨⟨t0, rfl⟩, g⟩ := g
  refine ⟨⟨t ++ t0, by simp⟩, g.imp_right fun ⟨hne, k, e1, e2, e3⟩ => ⟨hne, k, e1, by simp at e2; omega, e3⟩⟩
theorem Grow.app {sz bytes : Nat} {h h' : Heap} {x y : V} {es : List V} (g : Grow sz h h' x es) (hr : (es.length + 1) * bytes ≤ 140737488355328) :
    ∃ x' h'', Qb7 h' sz bytes false x (.sl sz .full [y]) = some (x', h'') ∧ Grow sz h h'' x' (es ++ [y]) := by
  obtain ⟨⟨t, rfl⟩, g⟩ := g
  rcases g with ⟨rfl, rfl⟩ | ⟨hne, k, rfl, hk, hb⟩
  · refine ⟨.sl sz (.tip (h ++ t).length) [y], (h ++ t) ++ [.tip (flat [y]).length], ?_, ⟨t ++ [.tip (flat [y]).length], by simp⟩, .inr ⟨by simp, (h ++ t).length, rfl, by simp, by simp⟩⟩
    have r : room [y].length bytes = true := by simpa [room] using hr
    simp only [Qb7, QaW, if_true, Option.bind_some, List.isEmpty_cons, Bool.false_eq_true, if_false, r, Qc9]
  · refine ⟨.sl sz (.tip k) (es ++ [y]), (h ++ t).set k (.tip (flat (es ++ [y])).length), ?_, ?_, .inr ⟨by simp, k, rfl, hk, ?_⟩⟩
    · have r : room (es.length + [y].length) bytes = true := by simpa [room] using hr
      have i : QeS (h ++ t) k (flat es).length = true := by simp [QeS, hb]
      simp only [Qb7, QaW, if_true, Option.bind_some, r, i, Bool.and_self]
    · rw [List.set_append_right _ _ hk]; exact ⟨_, rfl⟩
    · have hl := (List.getElem?_eq_some_iff.1 hb).1
      rw [List.getElem?_set_self hl]
section
variable {F : FuncId → Option FnC} {L : FuncId → List V → V → Prop} {K : V → Heap → Prop}
theorem Grow.len {sz : Nat} {h h' : Heap} {x : V} {es : List V} {e : Env} (g : Grow sz h h' x es) : wi F L (.len 1 (.c x)) e h' K = K (.int .i64 es.length) h' := by
  obtain ⟨_, ⟨rfl, rfl⟩ | ⟨_, k, rfl, _⟩⟩ := g <;> rfl
end
def Qf (sz : Nat) (x : V) (es : List V) : Prop := (es = [] ∧ x = .nsl) ∨ ∃ o, x = .sl sz o es
theorem Grow.list {sz : Nat} {h h' : Heap} {x : V} {es : List V} (g : Grow sz h h' x es) : Qf sz x es := g.2.imp_right fun ⟨_, k, e, _⟩ => ⟨_, e⟩
section
variable {F : FuncId → Option FnC} {L : FuncId → List V → V → Prop} {K : V → Heap → Prop} {h : Heap} {e : Env}
theorem Qf.len {sz : Nat} {x : V} {es : List V} (g : Qf sz x es) : wi F L (.len 1 (.c x)) e h K = K (.int .i64 es.length) h := by
  rcases g with ⟨rfl, rfl⟩ | ⟨o, rfl⟩ <;> rfl
theorem Qf.at {sz i : Nat} {x : V} {es : List V} (g : Qf sz x es) (hi : i < es.length) : wi F L (.ixaSl sz (.c x) (.c (.int .i64 i))) e h K = K (.iptr (cells (es.getD i (.tup [])))) h := by
  rcases g with ⟨rfl, rfl⟩ | ⟨o, rfl⟩
  · simp at hi
  · rw [Qvt]
    simp [Arg.get, hi]
end
theorem QCQ {es : List V} (h : ∀ e ∈ es, cells e = [e]) : flat es = es := by
  induction es with
  | nil => rfl
  | cons a r ih =>
    have : flat (a :: r) = cells a ++ flat r := rfl
    rw [this, h a (by simp), ih fun e he => h e (by simp [he])]; rfl
def Ow (sz : Nat) (h h' : Heap) (x : V) (es : List V) : Prop :=
  (∃ t, h' = h ++ t) ∧ ((es = [] ∧ x = .nsl) ∨ x = .sl sz .full es ∨ ∃ k, x = .sl sz (.tip k) es ∧ h.length ≤ k ∧ h'[k]? = some (.tip (flat es).length))
theorem Grow.ow {sz : Nat} {h h' : Heap} {x : V} {es : List V} (g : Grow sz h h' x es) : Ow sz h h' x es :=
  ⟨g.1, g.2.imp_right fun ⟨_, k, e1, e2, e3⟩ => .inr ⟨k, e1, e2, e3⟩⟩
theorem Ow.full {sz : Nat} {h t : Heap} {es : List V} : Ow sz h (h ++ t) (.sl sz .full es) es := ⟨⟨t, rfl⟩, .inr (.inl rfl)⟩
theorem Ow.nil {sz : Nat} {h t : Heap} : Ow sz h (h ++ t) .nsl [] := ⟨⟨t, rfl⟩, .inl ⟨rfl, rfl⟩⟩
theorem Ow.list {sz : Nat} {h h' : Heap} {x : V} {es : List V} (g : Ow sz h h' x es) : Qf sz x es := by
  rcases g.2 with h | rfl | ⟨k, rfl, _⟩
  · exact .inl h
  · exact .inr ⟨_, rfl⟩
  · exact .inr ⟨_, rfl⟩
theorem Ow.more {sz : Nat} {h h' t : Heap} {x : V} {es : List V} (g : Ow sz h h' x es) : Ow sz h (h' ++ t) x es := by
  obtain ⟨⟨t0, rfl⟩, g⟩ := g
  refine ⟨⟨t0 ++ t, by simp⟩, ?_⟩
  rcases g with g | g | ⟨k, e1, e2, e3⟩
  · exact .inl g
  · exact .inr (.inl g)
  · exact .inr (.inr ⟨k, e1, e2, Qp e3⟩)
theorem Ow.app {sz bytes : Nat} {h h' : Heap} {x y : V} {es ys : List V} (g : Ow sz h h' x es) (hy : Qf sz y ys) (hr : (es.length + ys.length) * bytes ≤ 140737488355328) :
    ∃ x' h'', Qb7 h' sz bytes false x y = some (x', h'') ∧ Ow sz h h'' x' (es ++ ys) := by
  have hs : QaW h' sz y = some ys := by
    rcases hy with ⟨rfl, rfl⟩ | ⟨o, rfl⟩
    · rfl
    · simp [QaW]
  have r : room (es.length + ys.length) bytes = true := by simpa [room] using hr
  obtain ⟨⟨t, rfl⟩, g⟩ := g
  simp only [Qb7, hs, Option.bind_some]
  rcases g with ⟨rfl, rfl⟩ | rfl | ⟨k, rfl, hk, hb⟩
  · cases ys with
    | nil => exact ⟨_, _, rfl, ⟨t, rfl⟩, .inl ⟨rfl, rfl⟩⟩
    | cons a r' =>
      have r2 : room (a :: r').length bytes = true := by simpa using r
      simp only [List.isEmpty_cons, Bool.false_eq_true, if_false, if_pos r2, Qc9, List.nil_append]
      exact ⟨_, _, rfl, ⟨t ++ [_], by rw [List.append_assoc]⟩, .inr (.inr ⟨(h ++ t).length, rfl, by simp, by simp⟩)⟩
  · simp only [if_true]
    cases ys with
    | nil =>
      simp only [List.isEmpty_nil, if_true]
      exact ⟨_, _, rfl, ⟨t, rfl⟩, .inr (.inl (by simp))⟩
    | cons a r' =>
      simp only [List.isEmpty_cons, Bool.false_eq_true, if_false, if_pos r, Qc9]
      exact ⟨_, _, rfl, ⟨t ++ [_], by rw [List.append_assoc]⟩, .inr (.inr ⟨(h ++ t).length, rfl, by simp, by simp⟩)⟩
  · have i : QeS (h ++ t) k (flat es).length = true := by simp [QeS, hb]
    simp only [if_true, r, i, Bool.and_self]
    refine ⟨_, _, rfl, ?_, .inr (.inr ⟨k, rfl, hk, ?_⟩)⟩
    · rw [List.set_append_right _ _ hk]; exact ⟨_, rfl⟩
    · have hl := (List.getElem?_eq_some_iff.1 hb).1
      rw [List.getElem?_set_self hl]
end Go.Vm
end
section
set_option linter.unusedVariables false
set_option linter.unusedSimpArgs false
namespace Go.Proofs.YtaahialaegfjgaaGreatDoor.Vh
open Go.Vm Go.Vt
attribute [local congr] QF QI QE QG QD QJ
variable {L : QL} {h : Heap}
theorem QiX (out : List Bs) : Qf 1 (Qed out) (strs out) := by
  unfold Qed Qf
  by_cases h : out = []
  · simp [h, strs]
  · simp [h, strs]
theorem QEE {s own : Bs} {q : Bool} {out : List Bs} (h : s = []) : Qah s own q out = if q then none else some (flush out own) := by subst h; rfl
def QEy (h : Heap) (s : Bs) (n : Nat) (e : Env) (h' : Heap) : Prop :=
  ∃ (i : Nat) (own : Bs) (q : Bool) (out : List Bs), n = s.length - i ∧ i ≤ s.length ∧ own.length ≤ i ∧ out.length ≤ i ∧ Grow 1 h h' (e 4) (strs out) ∧
    e 0 = .str s ∧ e 5 = .str own ∧ e 6 = .bool q ∧ e 7 = .int .i64 i ∧ split s = Qah (s.drop i) own q out
def Qik (h : Heap) (o : Option (List Bs)) (v : V) (h' : Heap) : Prop := (∃ t, h' = h ++ t) ∧ ((o = none ∧ v = .tup [.nsl, .bool false]) ∨ ∃ out x, o = some out ∧ v = .tup [x, .bool true] ∧ Qf 1 x (strs out))
theorem Qik.no {h h' : Heap} (hh : ∃ t, h' = h ++ t) : Qik h none (.tup [.nsl, .bool false]) h' := ⟨hh, .inl ⟨rfl, rfl⟩⟩
theorem Qik.yes {h h' : Heap} {x : V} {out : List Bs} (hh : ∃ t, h' = h ++ t) (hl : Qf 1 x (strs out)) : Qik h (some out) (.tup [x, .bool true]) h' := ⟨hh, .inr ⟨out, x, rfl, rfl, hl⟩⟩
theorem QhT {s : Bs} (hs : s.length < 1000000000) : Cf F L Qc4 [.str s] h (Qik h (split s)) := by
  refine QF1 ?_
  simp only [Qlf]
  refine Qyg (QEy h s) ?_ (n := s.length) ⟨0, [], false, [], by simp, by simp, by simp, by simp, .nil0, rfl, rfl, rfl, rfl, by simp [split]⟩
  rintro n e h' ⟨i, own, q, out, rfl, hi, how, hol, G, e0, e5, e6, e7, hst⟩
  simp only [Qol]
  generalize e4 : e 4 = x4 at *
  have hown : own.length < 9223372036854775807 := by omega
  have hfl := Qkv out own
  rcases QbQ hi with ⟨hn, rfl, hd⟩ | ⟨c, hl, hl', hc, hd⟩
  · rw [hd] at hst
    simp (maxSteps := 4000000) only [vm, vl, Arg.get, cells, stor, Qi, Qa, Qc, reduceIte, QbP, Qci, Qb2, QbM, Qb6, Qcr, QbS, Qcg, e0, e4, e5, e6, e7, hn]
    refine Cf.pu (QrC hown) fun t => ?_
    have G' := G.more (t := t)
    rw [hst]
    cases q with
    | true =>
      simp (maxSteps := 4000000) only [vm, vl, QbP, Qci, Qb2, QbM, Qb6, Qcr, QbS, Qcg]
      exact .no G'.1
    | false =>
      show _
      have ef2 : Qah [] own false out = some (flush out own) := rfl
      rw [ef2]
      by_cases he : trim own = []
      · have q : (trim own == []) = true := by rw [he]; rfl
        have ef : flush out own = out := by simp [flush, he]
        rw [ef]
        simp (maxSteps := 4000000) only [vm, vl, QbP, Qci, Qb2, QbM, Qb6, Qcr, QbS, Qcg, q]
        exact .yes G'.1 G'.list
      · have q : (trim own == []) = false := by simpa using he
        have ef : flush out own = out ++ [trim own] := by simp [flush, he]
        rw [ef]
        obtain ⟨x', h'', ha, G''⟩ := G'.app (bytes := 16) (y := .str (trim own)) (by rw [QW]; omega)
        rw [QhG] at G''
        simp (maxSteps := 4000000) only [vm, vl, QbP, Qci, Qb2, QbM, Qb6, Qcr, QbS, Qcg, q, ha]
        exact .yes G''.1 G''.list
  · have w := Qe (x := (i : Int) + 1) (by omega) (by omega)
    rw [hd, QhD] at hst
    have k0 : i ≤ i + 1 := by omega
    have ec : List.drop i (List.take (i + 1) s) = [c] := by
      rw [Qea hl' hd, List.drop_append]
      simp [Nat.min_eq_left (Nat.le_of_lt hl'), List.drop_eq_nil_of_le]
    have hadd : Qx .add (.str own) (.str [c]) = some (.str (own ++ [c])) := Qer (by simp; omega)
    by_cases c44 : q = false ∧ c = 44
    · obtain ⟨rfl, rfl⟩ := c44
      have k1 : ¬ (44 : UInt8) = 34 := by decide
      rw [if_neg k1, if_neg (by simp), if_pos (by simp)] at hst
      simp (maxSteps := 4000000) only [vm, vl, Arg.get, cells, stor, Qi, Qa, Qc, reduceIte, QbP, Qci, Qb2, QbM, Qb6, Qcr, QbS, Qcg, e0, e4, e5, e6, e7, hl, hl', hc, u44]
      refine Cf.pu (QrC hown) fun t => ?_
      have G' := G.more (t := t)
      by_cases he : trim own = []
      · have q : (trim own == []) = true := by rw [he]; rfl
        have ef : flush out own = out := by simp [flush, he]
        rw [ef] at hst
        simp (maxSteps := 4000000) only [vm, vl, QbP, Qci, Qb2, QbM, Qb6, Qcr, QbS, Qcg, q, w]
        exact ⟨s.length - (i + 1), by omega, i + 1, [], false, out, rfl, hl', by simp, by omega, by simpa [upd, e4] using G', by simp [upd, e0], by simp [upd], by simp [upd, e6], by simp [upd], hst⟩
      · have q : (trim own == []) = false := by simpa using he
        have ef : flush out own = out ++ [trim own] := by simp [flush, he]
        rw [ef] at hst
        obtain ⟨x', h'', ha, G''⟩ := G'.app (bytes := 16) (y := .str (trim own)) (by rw [QW]; omega)
        rw [QhG] at G''
        simp (maxSteps := 4000000) only [vm, vl, QbP, Qci, Qb2, QbM, Qb6, Qcr, QbS, Qcg, q, ha, w]
        exact ⟨s.length - (i + 1), by omega, i + 1, [], false, out ++ [trim own], rfl, hl', by simp, by simp; omega, by simpa [upd] using G'', by simp [upd, e0], by simp [upd], by simp [upd, e6], by simp [upd], hst⟩
    · by_cases c34 : c = 34
      · subst c34
        have k1 : ¬ (34 : UInt8) = 44 := by decide
        have k2 : ¬ (34 : UInt8) = 92 := by decide
        rw [if_pos rfl] at hst
        have g := Qea hl' hd
        cases q <;> simp (maxSteps := 4000000) only [vm, vl, Arg.get, cells, stor, Qi, Qa, Qc, reduceIte, QbP, Qci, Qb2, QbM, Qb6, Qcr, QbS, Qcg, e0, e4, e5, e6, e7, hl, hl', hc, u44, u34, u92, k0, k1, k2, w, ec, hadd]
        · exact ⟨hl', s.length - (i + 1), by omega, i + 1, own ++ [34], true, out, rfl, hl', by simp; omega, by omega, by simpa [upd, e4] using G, by simp [upd, e0], by simp [upd], by simp [upd], by simp [upd], hst⟩
        · exact ⟨hl', s.length - (i + 1), by omega, i + 1, own ++ [34], false, out, rfl, hl', by simp; omega, by omega, by simpa [upd, e4] using G, by simp [upd, e0], by simp [upd], by simp [upd], by simp [upd], hst⟩
      · rw [if_neg c34] at hst
        cases q with
        | false =>
          have k1 : ¬ c = 44 := fun h => c44 ⟨rfl, h⟩
          rw [if_neg (by simp), if_neg (by simp [k1])] at hst
          simp (maxSteps := 4000000) only [vm, vl, Arg.get, cells, stor, Qi, Qa, Qc, reduceIte, QbP, Qci, Qb2, QbM, Qb6, Qcr, QbS, Qcg, e0, e4, e5, e6, e7, hl, hl', hc, u44, u34, u92, k0, k1, c34, w, ec, hadd]
          exact ⟨hl', s.length - (i + 1), by omega, i + 1, own ++ [c], false, out, rfl, hl', by simp; omega, by omega, by simpa [upd, e4] using G, by simp [upd, e0], by simp [upd], by simp [upd, e6], by simp [upd], hst⟩
        | true =>
          by_cases c92 : c = 92
          · subst c92
            have k1 : ¬ (92 : UInt8) = 34 := by decide
            rw [if_pos (by simp)] at hst
            rcases QbQ (s := s) (i := i + 1) (by omega) with ⟨hn1, hn2, hd1⟩ | ⟨d, hl2, hl1, _, hd1⟩
            · rw [hd1] at hst
              have hn3 : ¬ (i : Int) + 1 < s.length := by omega
              simp (maxSteps := 4000000) only [vm, vl, Arg.get, cells, stor, Qi, Qa, Qc, reduceIte, QbP, Qci, Qb2, QbM, Qb6, Qcr, QbS, Qcg, e0, e4, e5, e6, e7, hl, hl', hc, u44, u34, u92, k0, k1, w, ec, hadd, hn3]
              have hd0 : Qah (s.drop (i + 1)) (own ++ [92]) true out = none := by rw [hd1]; rfl
              exact ⟨hl', s.length - (i + 1), by omega, i + 1, own ++ [92], true, out, rfl, hl', by simp; omega, by omega, by simpa [upd, e4] using G, by simp [upd, e0], by simp [upd], by simp [upd, e6], by simp [upd], by rw [hst, hd0]⟩
            · rw [hd1] at hst
              have hl3 : (i : Int) + 1 < s.length := by omega
              have w2 := Qe (x := (i : Int) + 1 + 1) (by omega) (by omega)
              have t1 : ((i : Int) + 1 + 1).toNat = i + 2 := by omega
              have t2 : 0 ≤ (i : Int) + 1 + 1 := by omega
              have k3 : i + 1 ≤ i + 2 := by omega
              have k4 : i + 2 ≤ s.length := by omega
              have ec2 : List.drop (i + 1) (List.take (i + 2) s) = [d] := by
                rw [show i + 2 = (i + 1) + 1 by rfl, Qea hl1 hd1, List.drop_append]
                simp [Nat.min_eq_left (Nat.le_of_lt hl1), List.drop_eq_nil_of_le]
              have hadd2 : Qx .add (.str (own ++ [92])) (.str [d]) = some (.str (own ++ [92, d])) := by
                rw [Qer (by simp; omega)]; simp
              simp (maxSteps := 4000000) only [vm, vl, Arg.get, cells, stor, Qi, Qa, Qc, reduceIte, QbP, Qci, Qb2, QbM, Qb6, Qcr, QbS, Qcg, e0, e4, e5, e6, e7, hl, hl', hc, u44, u34, u92, k0, k1, w, ec, hadd, hl3, w2, t1, t2, k3, k4, ec2, hadd2]
              exact ⟨hl', s.length - (i + 2), by omega, i + 2, own ++ [92, d], true, out, rfl, by omega, by simp; omega, by omega, by simpa [upd, e4] using G, by simp [upd, e0], by simp [upd], by simp [upd, e6], by simp [upd]; omega, hst⟩
          · rw [if_neg (by simp [c92]), if_neg (by simp)] at hst
            simp (maxSteps := 4000000) only [vm, vl, Arg.get, cells, stor, Qi, Qa, Qc, reduceIte, QbP, Qci, Qb2, QbM, Qb6, Qcr, QbS, Qcg, e0, e4, e5, e6, e7, hl, hl', hc, u44, u34, u92, k0, c34, c92, w, ec, hadd]
            exact ⟨hl', s.length - (i + 1), by omega, i + 1, own ++ [c], true, out, rfl, hl', by simp; omega, by omega, by simpa [upd, e4] using G, by simp [upd, e0], by simp [upd], by simp [upd, e6], by simp [upd], hst⟩
end Go.Proofs.YtaahialaegfjgaaGreatDoor.Vh
end
section
set_option linter.unusedVariables false
set_option linter.unusedSimpArgs false
namespace Go.Proofs.YtaahialaegfjgaaGreatDoor.Vh
open Go.Vm Go.Vt
attribute [local congr] QF QI QE QG QD QJ
variable {L : QL} {h : Heap}
theorem wquo {x c : Int} (h0 : 0 ≤ x) (hc : 0 < c) (h1 : x ≤ 9223372036854775807) : IntKind.i64.wrap (Int.tdiv x c) = x / c := by
  rw [Int.tdiv_eq_ediv_of_nonneg h0]
  have : 0 ≤ x / c := Int.ediv_nonneg h0 (by omega)
  have := Int.ediv_le_self c h0
  exact Qe (by omega) (by omega)
theorem Qhk {x y : Int} : Qx .quo (.int .i64 x) (.int .i64 y) = if y = 0 then none else some (.int .i64 (IntKind.i64.wrap (x.tdiv y))) := by
  by_cases h : y = 0 <;> simp [Qx, QaY, h]
theorem Qlj (c : UInt8) : QbG c = (decide ((c.toNat : Int) ≥ 48) && decide ((c.toNat : Int) ≤ 57)) := Qa2 (p := fun c => QbG c = (decide ((c.toNat : Int) ≥ 48) && decide ((c.toNat : Int) ≤ 57))) (by decide +kernel) c
theorem QiK {c : UInt8} (h : QbG c = true) : 48 ≤ (c.toNat : Int) ∧ (c.toNat : Int) ≤ 57 := by
  rw [Qlj, Bool.and_eq_true, decide_eq_true_eq, decide_eq_true_eq] at h; exact h
theorem Qzc {c : UInt8} (h : QbG c = false) : (c.toNat : Int) < 48 ∨ ((¬ (c.toNat : Int) < 48) ∧ (c.toNat : Int) > 57) := by
  rw [Qlj, Bool.and_eq_false_iff, decide_eq_false_iff_not, decide_eq_false_iff_not] at h; omega
theorem QtU (c : UInt8) : (decide (48 ≤ (c.toNat : Int)) && decide ((c.toNat : Int) ≤ 57)) = true → IntKind.u8.wrap ((c.toNat : Int) - 48) = (c.toNat : Int) - 48 :=
  Qa2 (p := fun c => (decide (48 ≤ (c.toNat : Int)) && decide ((c.toNat : Int) ≤ 57)) = true → IntKind.u8.wrap ((c.toNat : Int) - 48) = (c.toNat : Int) - 48) (by decide +kernel) c
theorem Qr5 : ∀ {s : Bs} {n most : Int}, s.all QbG = true → 0 ≤ n → n ≤ most → 0 ≤ QbB s n most ∧ QbB s n most ≤ most
  | [], n, most, _, h0, h1 => ⟨h0, h1⟩
  | c :: r, n, most, ha, h0, h1 => by
    rw [List.all_cons, Bool.and_eq_true] at ha
    have hd := QiK ha.1
    unfold QbB
    split
    · omega
    · exact Qr5 ha.2 (by omega) (by omega)
theorem QsX (s : Bs) {most : Int} (h : 0 ≤ most) : 0 ≤ (Q3 s most).1 ∧ (Q3 s most).1 ≤ most := by
  unfold Q3
  split
  · exact ⟨Int.le_refl _, h⟩
  · rename_i q
    simp only [Bool.or_eq_true, Bool.not_eq_true', not_or, Bool.not_eq_false] at q
    exact Qr5 q.2 (Int.le_refl _) h
theorem Qr6 {c : UInt8} : Cf F L Qgv [byV c] h (Pu h (.bool (QbG c))) := by
  refine QIW ?_
  simp only [QkM]
  rw [Qlj]
  by_cases a : (c.toNat : Int) ≥ 48
  · simp (maxSteps := 4000000) only [vm, vl, Arg.get, reduceIte, a, decide_true, Bool.true_and]
  · simp (maxSteps := 4000000) only [vm, vl, Arg.get, reduceIte, a, decide_false, Bool.false_and]
theorem Qes {n : Int} {b : Bool} {x : Int × Bool} (h : x = (n, b)) : V.tup [.int .i64 x.1, .bool x.2] = .tup [.int .i64 n, .bool b] := by subst h; rfl
theorem Qvj {s : Bs} {most : Int} (hs : s.length ≤ 9223372036854775806) (h0 : -4000000000000000000 ≤ most) (h1 : most ≤ 4000000000000000000) : Cf F L Qeu [.str s, .int .i64 most] h (Pu h (.tup [.int .i64 (Q3 s most).1, .bool (Q3 s most).2])) := by
  refine QAX ?_
  simp only [Qos]
  by_cases a : s = []
  · subst a
    rw [Qes (show Q3 [] most = (0, false) from rfl)]
    have e1 : (([] : Bs) == []) = true := rfl
    simp (maxSteps := 4000000) only [vm, vl, Arg.get, Qa, Qc, reduceIte, beq_self_eq_true, QcE, QcX, QcY, Qc7, Qc2, e1]
  have a' : (s == []) = false := beq_eq_false_iff_ne.2 a
  have ae : s.isEmpty = false := by cases s; exact absurd rfl a; rfl
  by_cases b : most < 0
  · rw [Qes (show Q3 s most = (0, false) by unfold Q3; simp [b])]
    simp (maxSteps := 4000000) only [vm, vl, Arg.get, Qa, Qc, reduceIte, QcE, QcX, QcY, Qc7, Qc2, a', b, decide_true]
  cases hd : s.all QbG with
  | false =>
    rw [Qes (show Q3 s most = (0, false) by unfold Q3; simp [hd])]
    simp (maxSteps := 4000000) only [vm, vl, Arg.get, Qa, Qc, reduceIte, QcE, QcX, QcY, Qc7, Qc2, a', b, decide_false]
    refine Cf.pu (QpK (caps := []) (by omega) fun c h => Qr6) fun u => ?_
    simp (maxSteps := 4000000) only [vm, vl, QcE, QcX, QcY, Qc7, Qc2, hd, Bool.not_false]
  | true =>
    rw [Qes (show Q3 s most = (QbB s 0 most, true) by unfold Q3; simp [hd, b, ae])]
    simp (maxSteps := 4000000) only [vm, vl, Arg.get, Qa, Qc, reduceIte, QcE, QcX, QcY, Qc7, Qc2, a', b, decide_false]
    refine Cf.pu (QpK (caps := []) (by omega) fun c h => Qr6) fun u => ?_
    simp (maxSteps := 4000000) only [vm, vl, QcE, QcX, QcY, Qc7, Qc2, hd, Bool.not_true]
    refine QFJ (fun n e h' => ∃ (i : Nat) (v : Int), n = s.length - i ∧ i ≤ s.length ∧ e 0 = .str s ∧ e 1 = .int .i64 most ∧ e 6 = .int .i64 v ∧ e 21 = .int .i64 s.length ∧ e 22 = .int .i64 i ∧ 0 ≤ v ∧ v ≤ most ∧ QbB s 0 most = QbB (s.drop i) v most ∧ ∃ t, h' = h ++ t) ?_ (n := s.length) ⟨0, 0, by simp, by simp, rfl, rfl, rfl, rfl, rfl, by omega, by omega, rfl, u, rfl⟩
    rintro n e h' ⟨i, v, rfl, hi, e0, e1, e6, e21, e22, v0, v1, hg, t, rfl⟩
    simp only [Qk9]
    rw [hg]
    rcases QbQ hi with ⟨hn, rfl, hdr⟩ | ⟨c, hl, hl', hc, hdr⟩
    · rw [hdr]
      simp (maxSteps := 4000000) only [vm, vl, Arg.get, Qa, Qc, reduceIte, reduceCtorEq, Nat.reduceEqDiff, QcE, QcX, QcY, Qc7, Qc2, e0, e1, e6, e21, e22, hn, decide_false]
      rfl
    · have w := Qe (x := (i : Int) + 1) (by omega) (by omega)
      have dc : QbG c = true := by
        rw [← hc]
        refine (List.all_eq_true.1 hd) _ ?_
        rw [List.getD_eq_getElem?_getD, List.getElem?_eq_getElem hl', Option.getD_some]; exact List.getElem_mem _
      have di := QiK dc
      have dw := QtU c (by simp [di])
      have d64 : IntKind.i64.wrap ((c.toNat : Int) - 48) = (c.toNat : Int) - 48 := Qe (by omega) (by omega)
      have eg : QbB (c :: s.drop (i + 1)) v most = if (c.toNat : Int) - 48 > most ∨ v > (most - ((c.toNat : Int) - 48)) / 10 then most else QbB (s.drop (i + 1)) (10 * v + ((c.toNat : Int) - 48)) most := rfl
      rw [hdr, eg]
      generalize hD : (c.toNat : Int) - 48 = D at *
      by_cases p : D > most
      · rw [if_pos (.inl p)]
        simp (maxSteps := 4000000) only [vm, vl, Arg.get, Qa, Qc, reduceIte, reduceCtorEq, Nat.reduceEqDiff, QcE, QcX, QcY, Qc7, Qc2, e0, e1, e6, e21, e22, hl, hl', hc, hD, dw, d64, p, decide_true]
      have w1 : IntKind.i64.wrap (most - D) = most - D := Qe (by omega) (by omega)
      have w2 : IntKind.i64.wrap ((most - D).tdiv 10) = (most - D) / 10 := wquo (by omega) (by omega) (by omega)
      by_cases q : v > (most - D) / 10
      · rw [if_pos (.inr q)]
        simp (maxSteps := 4000000) only [vm, vl, Arg.get, Qa, Qc, reduceIte, reduceCtorEq, Nat.reduceEqDiff, Int.reduceEq, QcE, QcX, QcY, Qc7, Qc2, e0, e1, e6, e21, e22, hl, hl', hc, hD, dw, d64, p, q, w1, w2, Qhk, decide_true, decide_false]
      · rw [if_neg (fun h => h.elim p q)]
        have w3 : IntKind.i64.wrap (10 * v) = 10 * v := Qe (by omega) (by omega)
        have w4 : IntKind.i64.wrap (10 * v + D) = 10 * v + D := Qe (by omega) (by omega)
        simp (maxSteps := 4000000) only [vm, vl, Arg.get, Qa, Qc, reduceIte, reduceCtorEq, Nat.reduceEqDiff, Int.reduceEq, QcE, QcX, QcY, Qc7, Qc2, e0, e1, e6, e21, e22, hl, hl', hc, hD, dw, d64, p, q, w, w1, w2, w3, w4, Qhk, decide_true, decide_false]
        exact ⟨s.length - (i + 1), by omega, i + 1, 10 * v + D, rfl, hl', rfl, rfl, by omega, by omega, rfl, _, rfl⟩
theorem QuY {s : Bs} {most : Int} (hs : s.length ≤ 9223372036854775806) (h0 : -4000000000000000000 ≤ most) (h1 : most ≤ 4000000000000000000) : Cf F L Qeh [.str s, .int .i64 most] h (Pu h (.tup [.int .i64 (Q3 s most).1, .bool (Q3 s most).2])) := by
  refine QBl ?_
  simp only [QpH]
  by_cases b : most < 0
  · rw [Qes (show Q3 s most = (0, false) by unfold Q3; simp [b])]
    simp (maxSteps := 4000000) only [vm, vl, Arg.get, Qa, Qc, reduceIte, Qb1, Qce, Qcf, Qcx, Qb5, Qcj, Qck, Qcs, b, decide_true]
  by_cases a : s = []
  · subst a
    rw [Qes (show Q3 [] most = (0, false) from rfl)]
    have e1 : (([] : Bs).length : Int) = 0 := rfl
    simp (maxSteps := 4000000) only [vm, vl, Arg.get, Qa, Qc, reduceIte, Qb1, Qce, Qcf, Qcx, Qb5, Qcj, Qck, Qcs, b, e1, decide_true, decide_false]
  have a' : ¬ (s.length : Int) = 0 := by
    have : s.length ≠ 0 := fun h => a (List.eq_nil_of_length_eq_zero h)
    omega
  have ae : s.isEmpty = false := by cases s; exact absurd rfl a; rfl
  simp (maxSteps := 4000000) only [vm, vl, Arg.get, Qa, Qc, reduceIte, Qb1, Qce, Qcf, Qcx, Qb5, Qcj, Qck, Qcs, b, a', decide_false]
  refine QJm (fun n e h' => ∃ (i : Nat), n = s.length - i ∧ i ≤ s.length ∧ e 0 = .str s ∧ e 1 = .int .i64 most ∧ e 6 = .int .i64 0 ∧ e 7 = .int .i64 i ∧ s.all QbG = (s.drop i).all QbG ∧ h = h') ?_ (n := s.length) ⟨0, by simp, by simp, rfl, rfl, rfl, rfl, rfl, rfl⟩
  rintro n e h' ⟨i, rfl, hi, e0, e1, e6, e7, ha, rfl⟩
  simp only [QlX]
  rcases QbQ hi with ⟨hn, rfl, hdr⟩ | ⟨c, hl, hl', hc, hdr⟩
  · have hd : s.all QbG = true := by rw [ha, hdr]; rfl
    rw [Qes (show Q3 s most = (QbB s 0 most, true) by unfold Q3; simp [hd, b, ae])]
    simp (maxSteps := 4000000) only [vm, vl, Arg.get, Qa, Qc, reduceIte, reduceCtorEq, Nat.reduceEqDiff, Qb1, Qce, Qcf, Qcx, Qb5, Qcj, Qck, Qcs, e0, e1, e6, e7, hn, decide_false]
    refine QJA (fun n e h' => ∃ (i : Nat) (v : Int), n = s.length - i ∧ i ≤ s.length ∧ e 0 = .str s ∧ e 1 = .int .i64 most ∧ e 6 = .int .i64 v ∧ e 8 = .int .i64 i ∧ 0 ≤ v ∧ v ≤ most ∧ QbB s 0 most = QbB (s.drop i) v most ∧ h = h') ?_ (n := s.length) ⟨0, 0, by simp, by simp, by simp [upd, e0], by simp [upd, e1], by simp [upd, e6], rfl, by omega, by omega, rfl, rfl⟩
    rintro n e h' ⟨i, v, rfl, hi, e0, e1, e6, e8, v0, v1, hg, rfl⟩
    simp only [Qls]
    rw [hg]
    rcases QbQ hi with ⟨hn, rfl, hdr⟩ | ⟨c, hl, hl', hc, hdr⟩
    · rw [hdr]
      simp (maxSteps := 4000000) only [vm, vl, Arg.get, Qa, Qc, reduceIte, reduceCtorEq, Nat.reduceEqDiff, Qb1, Qce, Qcf, Qcx, Qb5, Qcj, Qck, Qcs, e0, e1, e6, e8, hn, decide_false]
      rfl
    · have w := Qe (x := (i : Int) + 1) (by omega) (by omega)
      have dc : QbG c = true := by
        rw [← hc]
        refine (List.all_eq_true.1 hd) _ ?_
        rw [List.getD_eq_getElem?_getD, List.getElem?_eq_getElem hl', Option.getD_some]; exact List.getElem_mem _
      have di := QiK dc
      have dw := QtU c (by simp [di])
      have d64 : IntKind.i64.wrap ((c.toNat : Int) - 48) = (c.toNat : Int) - 48 := Qe (by omega) (by omega)
      have eg : QbB (c :: s.drop (i + 1)) v most = if (c.toNat : Int) - 48 > most ∨ v > (most - ((c.toNat : Int) - 48)) / 10 then most else QbB (s.drop (i + 1)) (10 * v + ((c.toNat : Int) - 48)) most := rfl
      rw [hdr, eg]
      generalize hD : (c.toNat : Int) - 48 = D at *
      have w1 : IntKind.i64.wrap (most - D) = most - D := Qe (by omega) (by omega)
      by_cases p : most < D
      · rw [if_pos (.inl p)]
        have z : (most - D).tdiv 10 = 0 := by
          obtain ⟨k, hk⟩ : ∃ k : Nat, D - most = k := ⟨(D - most).toNat, by omega⟩
          have : most - D = -(k : Int) := by omega
          rw [this, Int.neg_tdiv]
          have : (k : Int).tdiv 10 = 0 := by rw [Int.tdiv_eq_ediv_of_nonneg (by omega)]; omega
          rw [this]; rfl
        have z0 : IntKind.i64.wrap 0 = 0 := rfl
        by_cases q : v > 0
        · simp (maxSteps := 4000000) only [vm, vl, Arg.get, Qa, Qc, reduceIte, reduceCtorEq, Nat.reduceEqDiff, Int.reduceEq, Qb1, Qce, Qcf, Qcx, Qb5, Qcj, Qck, Qcs, e0, e1, e6, e8, hl, hl', hc, hD, dw, d64, p, q, w1, z, z0, Qhk, decide_true, decide_false]
        · simp (maxSteps := 4000000) only [vm, vl, Arg.get, Qa, Qc, reduceIte, reduceCtorEq, Nat.reduceEqDiff, Int.reduceEq, Qb1, Qce, Qcf, Qcx, Qb5, Qcj, Qck, Qcs, e0, e1, e6, e8, hl, hl', hc, hD, dw, d64, p, q, w1, z, z0, Qhk, decide_true, decide_false]
      have w2 : IntKind.i64.wrap ((most - D).tdiv 10) = (most - D) / 10 := wquo (by omega) (by omega) (by omega)
      by_cases q : v > (most - D) / 10
      · rw [if_pos (.inr q)]
        simp (maxSteps := 4000000) only [vm, vl, Arg.get, Qa, Qc, reduceIte, reduceCtorEq, Nat.reduceEqDiff, Int.reduceEq, Qb1, Qce, Qcf, Qcx, Qb5, Qcj, Qck, Qcs, e0, e1, e6, e8, hl, hl', hc, hD, dw, d64, p, q, w1, w2, Qhk, decide_true, decide_false]
      · rw [if_neg (fun h => h.elim (by omega) q)]
        have w3 : IntKind.i64.wrap (v * 10) = v * 10 := Qe (by omega) (by omega)
        have w4 : IntKind.i64.wrap (v * 10 + D) = 10 * v + D := by rw [Qe (by omega) (by omega)]; omega
        simp (maxSteps := 4000000) only [vm, vl, Arg.get, Qa, Qc, reduceIte, reduceCtorEq, Nat.reduceEqDiff, Int.reduceEq, Qb1, Qce, Qcf, Qcx, Qb5, Qcj, Qck, Qcs, e0, e1, e6, e8, hl, hl', hc, hD, dw, d64, p, q, w, w1, w2, w3, w4, Qhk, decide_true, decide_false]
        exact ⟨s.length - (i + 1), by omega, i + 1, 10 * v + D, rfl, hl', rfl, rfl, by omega, by omega, rfl⟩
  · have w := Qe (x := (i : Int) + 1) (by omega) (by omega)
    rw [hdr, List.all_cons] at ha
    cases dc : QbG c with
    | false =>
      rw [dc, Bool.false_and] at ha
      rw [Qes (show Q3 s most = (0, false) by unfold Q3; simp [ha])]
      rcases Qzc dc with p | ⟨p, q⟩
      · simp (maxSteps := 4000000) only [vm, vl, Arg.get, Qa, Qc, reduceIte, reduceCtorEq, Nat.reduceEqDiff, Qb1, Qce, Qcf, Qcx, Qb5, Qcj, Qck, Qcs, e0, e1, e6, e7, hl, hl', hc, p, decide_true]
      · simp (maxSteps := 4000000) only [vm, vl, Arg.get, Qa, Qc, reduceIte, reduceCtorEq, Nat.reduceEqDiff, Qb1, Qce, Qcf, Qcx, Qb5, Qcj, Qck, Qcs, e0, e1, e6, e7, hl, hl', hc, p, q, decide_true, decide_false]
    | true =>
      rw [dc, Bool.true_and] at ha
      have di := QiK dc
      have p : ¬ (c.toNat : Int) < 48 := by omega
      have q : ¬ (c.toNat : Int) > 57 := by omega
      simp (maxSteps := 4000000) only [vm, vl, Arg.get, Qa, Qc, reduceIte, reduceCtorEq, Nat.reduceEqDiff, Qb1, Qce, Qcf, Qcx, Qb5, Qcj, Qck, Qcs, e0, e1, e6, e7, hl, hl', hc, p, q, w, decide_true, decide_false]
      exact ⟨s.length - (i + 1), by omega, i + 1, rfl, hl', rfl, ha⟩
end Go.Proofs.YtaahialaegfjgaaGreatDoor.Vh
end
section
set_option linter.unusedVariables false
set_option linter.unusedSimpArgs false
namespace Go.Proofs.YtaahialaegfjgaaGreatDoor.Vh
open Go.Vm Go.Vt
attribute [local congr] QF QI QE QG QD QJ
variable {L : QL} {h : Heap}
structure Ct where
  f : Nat → Bool
  n : Nat → Int
def ctV (c : Ct) : List V := [.bool (c.f 0), .bool (c.f 1), .bool (c.f 2), .bool (c.f 3), .bool (c.f 4), .bool (c.f 5), .bool (c.f 6), .int .i64 (c.n 0), .int .i64 (c.n 1), .int .i64 (c.n 2), .int .i64 (c.n 3), .int .i64 (c.n 4), .int .i64 (c.n 5)]
def ct0 : Ct := ⟨fun _ => false, fun _ => -1⟩
def Qai (c : Ct) (i : Nat) : Ct := ⟨fun k => if k = i then true else c.f k, c.n⟩
def Qat (c : Ct) (j : Nat) (v : Int) : Ct := ⟨c.f, fun k => if k = j then v else c.n k⟩
inductive Rl where
  | no
  | flag (i : Nat)
  | num (j : Nat) (m b : Int)
def Qgw : List (Bs × Rl) := [([110, 111, 45, 115, 116, 111, 114, 101], .flag 0), ([110, 111, 45, 99, 97, 99, 104, 101], .flag 1), ([112, 114, 105, 118, 97, 116, 101], .flag 2), ([112, 117, 98, 108, 105, 99], .flag 3), ([109, 117, 115, 116, 45, 114, 101, 118, 97, 108, 105, 100, 97, 116, 101], .flag 4), ([112, 114, 111, 120, 121, 45, 114, 101, 118, 97, 108, 105, 100, 97, 116, 101], .flag 5), ([111, 110, 108, 121, 45, 105, 102, 45, 99, 97, 99, 104, 101, 100], .flag 6), ([109, 97, 120, 45, 97, 103, 101], .num 0 0 0), ([115, 45, 109, 97, 120, 97, 103, 101], .num 1 0 0), ([115, 116, 97, 108, 101, 45, 119, 104, 105, 108, 101, 45, 114, 101, 118, 97, 108, 105, 100, 97, 116, 101], .num 2 (-1) (-1)), ([115, 116, 97, 108, 101, 45, 105, 102, 45, 101, 114, 114, 111, 114], .num 3 (-1) (-1)), ([109, 105, 110, 45, 102, 114, 101, 115, 104], .num 4 (-1) (-1)), ([109, 97, 120, 45, 115, 116, 97, 108, 101], .num 5 2147483648 (-1))]
def QbZ (nm : Bs) : Rl := (Qgw.lookup nm).getD .no
def Qag (text : Bs) (has : Bool) (m b : Int) : Int := if has then (if (Q3 text 2147483648).2 then (Q3 text 2147483648).1 else b) else m
inductive Ac where
  | nop
  | flag (i : Nat)
  | num (j : Nat) (v : Int)
def Qb8 (x : Bs) : Ac := match QbZ (low (Qr x).1) with
  | .no => .nop
  | .flag i => .flag i
  | .num j m b => if Qag (Qr x).2.1 (Qr x).2.2.1 m b = -1 then .nop else .num j (Qag (Qr x).2.1 (Qr x).2.2.1 m b)
def lst (a v : Int) : Int := if a = -1 ∨ v < a then v else a
def QHn (c : Ct) : Ac → Ct
  | .nop => c
  | .flag i => Qai c i
  | .num j v => Qat c j (lst (c.n j) v)
def Qq (c : Ct) (x : Bs) : Ct := QHn c (Qb8 x)
def Qc6 (s : Bs) : Ct × Bool := match split s with
  | none => (Qai (Qai ct0 0) 1, false)
  | some l => (l.foldl Qq ct0, true)
def QdX (p : Ct × Bool) : V := .tup [.agg (ctV p.1), .bool p.2]
def Qv5 : List FuncId := [QeZ, Qfg, QeD, QeJ, Qev, QeH, QeU]
def QrU : List FuncId := [QeQ, QeV, QeX, QeK, Qe4, Qfc]
def Qd5 : Rl → V
  | .no => .agg [.nfn, .nfn, .int .i64 0, .int .i64 0]
  | .flag i => .agg [.fn (Qv5.getD i 0) [], .nfn, .int .i64 0, .int .i64 0]
  | .num j m b => .agg [.nfn, .fn (QrU.getD j 0) [], .int .i64 m, .int .i64 b]
def Qbb : List (V × V) := Qgw.map fun p => (.str p.1, Qd5 p.2)
theorem QsM (nm : Bs) : ∀ (l : List (Bs × Rl)) (k : Nat), ∃ r, QbE .s (.str nm) (l.map fun p => (V.str p.1, Qd5 p.2)) k = some r ∧ (match l.lookup nm with | none => r = none | some a => ∃ i, r = some (i, Qd5 a))
  | [], k => ⟨none, rfl, rfl⟩
  | (n, a) :: l, k => by
    by_cases hn : nm = n
    · subst hn
      refine ⟨some (k, Qd5 a), ?_, ?_⟩
      · simp [QbE, QaF]
      · rw [List.lookup_cons, show (nm == nm) = true from beq_self_eq_true nm]; exact ⟨k, rfl⟩
    · obtain ⟨r, h1, h2⟩ := QsM nm l (k + 1)
      have hb : (nm == n) = false := beq_eq_false_iff_ne.2 hn
      refine ⟨r, ?_, ?_⟩
      · rw [List.map_cons, QbE]
        simp only [QaF, hb, Option.bind_some, Bool.false_eq_true, if_false]
        exact h1
      · rw [List.lookup_cons, hb]; exact h2
theorem Quc : Cf F L QeN [] h (fun v h' => v = .agg (ctV ct0) ∧ h' = h ++ [.box (ctV ct0)]) := by
  refine QFA ?_
  simp only [Ql5]
  simp (maxSteps := 4000000) only [vm, vl, Arg.get, cells, stor, Qa, Qc, QA, Vm.part, Qu, splice, reduceIte, Nat.reduceEqDiff, Nat.reduceAdd, Nat.reduceLeDiff, Int.reduceNeg]
  exact ⟨rfl, rfl⟩
theorem Qw4 {f g : V} {m b : Int} {text : Bs} {has : Bool} (hs : text.length ≤ 9223372036854775806) : Cf F L QeR [.agg [f, g, .int .i64 m, .int .i64 b], .str text, .bool has] h (Pu h (.int .i64 (Qag text has m b))) := by
  refine QzH ?_
  simp only [Qoh]
  unfold Qag
  cases has with
  | false => simp (maxSteps := 4000000) only [vm, vl, Arg.get, cells, stor, Qb, reduceIte, Nat.reduceAdd, Nat.reduceLeDiff, Qh9, QhA, Bool.not_false]
  | true =>
    simp (maxSteps := 4000000) only [vm, vl, Arg.get, cells, stor, Qb, reduceIte, Nat.reduceAdd, Qh9, QhA, Bool.not_true]
    refine Cf.pu (Qvj hs (by decide) (by decide)) fun u => ?_
    cases hn : (Q3 text 2147483648).2 with
    | true => simp (maxSteps := 4000000) only [vm, vl, reduceIte, Nat.reduceAdd, Qh9, QhA, hn]
    | false => simp (maxSteps := 4000000) only [vm, vl, reduceIte, Nat.reduceAdd, Qh9, QhA, hn]
theorem QFH {c : Ct} {p : Nat} {K : QK} (hb : h[p]? = some (.box (ctV c))) (hk : K (.tup []) (h.set p (.box (ctV (Qai c 0))))) : Cf F L QeZ [.ptr p 0] h K := by
  have hb' := hb
  unfold ctV at hb'
  refine Qyj ?_
  simp only [Qpz]
  simp (maxSteps := 4000000) only [vm, vl, Arg.get, cells, stor, Qa, splice, Nat.reduceAdd, Nat.reduceLeDiff, hb']
  exact hk
theorem Qx4 {c : Ct} {p : Nat} {K : QK} (hb : h[p]? = some (.box (ctV c))) (hk : K (.tup []) (h.set p (.box (ctV (Qai c 1))))) : Cf F L Qfg [.ptr p 0] h K := by
  have hb' := hb
  unfold ctV at hb'
  refine QCs ?_
  simp only [Qq1]
  simp (maxSteps := 4000000) only [vm, vl, Arg.get, cells, stor, Qa, splice, Nat.reduceAdd, Nat.reduceLeDiff, hb']
  exact hk
theorem QGs {c : Ct} {p : Nat} {K : QK} (hb : h[p]? = some (.box (ctV c))) (hk : K (.tup []) (h.set p (.box (ctV (Qai c 2))))) : Cf F L QeD [.ptr p 0] h K := by
  have hb' := hb
  unfold ctV at hb'
  refine QAu ?_
  simp only [Qo8]
  simp (maxSteps := 4000000) only [vm, vl, Arg.get, cells, stor, Qa, splice, Nat.reduceAdd, Nat.reduceLeDiff, hb']
  exact hk
theorem QB3 {c : Ct} {p : Nat} {K : QK} (hb : h[p]? = some (.box (ctV c))) (hk : K (.tup []) (h.set p (.box (ctV (Qai c 3))))) : Cf F L QeJ [.ptr p 0] h K := by
  have hb' := hb
  unfold ctV at hb'
  refine QI7 ?_
  simp only [Qna]
  simp (maxSteps := 4000000) only [vm, vl, Arg.get, cells, stor, Qa, splice, Nat.reduceAdd, Nat.reduceLeDiff, hb']
  exact hk
theorem QGg {c : Ct} {p : Nat} {K : QK} (hb : h[p]? = some (.box (ctV c))) (hk : K (.tup []) (h.set p (.box (ctV (Qai c 4))))) : Cf F L Qev [.ptr p 0] h K := by
  have hb' := hb
  unfold ctV at hb'
  refine QDT ?_
  simp only [QqU]
  simp (maxSteps := 4000000) only [vm, vl, Arg.get, cells, stor, Qa, splice, Nat.reduceAdd, Nat.reduceLeDiff, hb']
  exact hk
theorem QFg {c : Ct} {p : Nat} {K : QK} (hb : h[p]? = some (.box (ctV c))) (hk : K (.tup []) (h.set p (.box (ctV (Qai c 5))))) : Cf F L QeH [.ptr p 0] h K := by
  have hb' := hb
  unfold ctV at hb'
  refine QxD ?_
  simp only [QmM]
  simp (maxSteps := 4000000) only [vm, vl, Arg.get, cells, stor, Qa, splice, Nat.reduceAdd, Nat.reduceLeDiff, hb']
  exact hk
theorem QxP {c : Ct} {p : Nat} {K : QK} (hb : h[p]? = some (.box (ctV c))) (hk : K (.tup []) (h.set p (.box (ctV (Qai c 6))))) : Cf F L QeU [.ptr p 0] h K := by
  have hb' := hb
  unfold ctV at hb'
  refine QH4 ?_
  simp only [QlQ]
  simp (maxSteps := 4000000) only [vm, vl, Arg.get, cells, stor, Qa, splice, Nat.reduceAdd, Nat.reduceLeDiff, hb']
  exact hk
theorem QyO {p : Nat} : Cf F L QeQ [.ptr p 0] h (fun v h' => v = .ptr p 7 ∧ h' = h) := by
  refine Qyo ?_
  simp only [Qlb]
  simp (maxSteps := 4000000) only [vm, vl, Arg.get, reduceCtorEq]
theorem QHQ {p : Nat} : Cf F L QeV [.ptr p 0] h (fun v h' => v = .ptr p 8 ∧ h' = h) := by
  refine QEa ?_
  simp only [QlL]
  simp (maxSteps := 4000000) only [vm, vl, Arg.get, reduceCtorEq]
theorem QwJ {p : Nat} : Cf F L QeX [.ptr p 0] h (fun v h' => v = .ptr p 9 ∧ h' = h) := by
  refine QF2 ?_
  simp only [QmC]
  simp (maxSteps := 4000000) only [vm, vl, Arg.get, reduceCtorEq]
theorem QGG {p : Nat} : Cf F L QeK [.ptr p 0] h (fun v h' => v = .ptr p 10 ∧ h' = h) := by
  refine Qw2 ?_
  simp only [QlH]
  simp (maxSteps := 4000000) only [vm, vl, Arg.get, reduceCtorEq]
theorem QDr {p : Nat} : Cf F L Qe4 [.ptr p 0] h (fun v h' => v = .ptr p 11 ∧ h' = h) := by
  refine QET ?_
  simp only [QoP]
  simp (maxSteps := 4000000) only [vm, vl, Arg.get, reduceCtorEq]
theorem QAI {p : Nat} : Cf F L Qfc [.ptr p 0] h (fun v h' => v = .ptr p 12 ∧ h' = h) := by
  refine QBi ?_
  simp only [Qly]
  simp (maxSteps := 4000000) only [vm, vl, Arg.get, reduceCtorEq]
theorem QFa {c : Ct} {p i : Nat} {K : QK} (hi : i < 7) (hb : h[p]? = some (.box (ctV c))) (hk : K (.tup []) (h.set p (.box (ctV (Qai c i))))) : Cf F L (Qv5.getD i 0) [.ptr p 0] h K := by
  match i, hi with
  | 0, _ => exact QFH hb hk
  | 1, _ => exact Qx4 hb hk
  | 2, _ => exact QGs hb hk
  | 3, _ => exact QB3 hb hk
  | 4, _ => exact QGg hb hk
  | 5, _ => exact QFg hb hk
  | 6, _ => exact QxP hb hk
theorem QAD {p j : Nat} (hj : j < 6) : Cf F L (QrU.getD j 0) [.ptr p 0] h (fun v h' => v = .ptr p (7 + j) ∧ h' = h) := by
  match j, hj with
  | 0, _ => exact QyO
  | 1, _ => exact QHQ
  | 2, _ => exact QwJ
  | 3, _ => exact QGG
  | 4, _ => exact QDr
  | 5, _ => exact QAI
theorem QfD {es es' : List (V × V)} {name : Bs} {f : FuncId} {K : QK} (he : Qfh .s (.str name) (.agg [.fn f [], .nfn, .int .i64 0, .int .i64 0]) es = some es')
    (hk : K (.tup []) (h ++ [.map es', .box [.map h.length]])) : Cf F L Qf1 [.str name, .fn f [], .ptr (h.length + 1) 0] (h ++ [.map es, .box [.map h.length]]) K := by
  refine QKa ?_
  simp only [QlU]
  simp (maxSteps := 4000000) only [vm, vl, Arg.get, cells, stor, Qa, Qb, Qu, splice, reduceIte, Nat.reduceAdd, Nat.reduceLeDiff, he]
  exact hk
theorem Qhr {es es' : List (V × V)} {name : Bs} {f : FuncId} {m b : Int} {K : QK} (he : Qfh .s (.str name) (.agg [.nfn, .fn f [], .int .i64 m, .int .i64 b]) es = some es')
    (hk : K (.tup []) (h ++ [.map es', .box [.map h.length]])) : Cf F L Qgu [.str name, .int .i64 m, .int .i64 b, .fn f [], .ptr (h.length + 1) 0] (h ++ [.map es, .box [.map h.length]]) K := by
  refine QDB ?_
  simp only [Qml]
  simp (maxSteps := 4000000) only [vm, vl, Arg.get, cells, stor, Qa, Qb, Qu, splice, reduceIte, Nat.reduceAdd, Nat.reduceLeDiff, he]
  exact hk
theorem QG1 : Cf F L QfO [] h (fun v h' => v = .map h.length ∧ h' = h ++ [.map Qbb, .box [.map h.length]]) := by
  refine QyH ?_
  simp only [Qo5]
  simp (maxSteps := 4000000) only [vm, vl, Arg.get, cells, stor, Qb, splice, reduceIte, reduceCtorEq, Int.reduceNeg]
  refine QfD (es' := Qbb.take 1) rfl ?_
  try simp (maxSteps := 4000000) only [vm, vl, Arg.get, cells, stor, Qi, Qa, Qc, Qb, QA, Vm.part, Qu, splice, reduceIte, reduceCtorEq, Nat.reduceEqDiff, Nat.reduceAdd, Nat.reduceSub, Nat.reduceMul, Nat.reduceLeDiff, ne_eq, not_false_eq_true, Int.reduceEq, Int.reduceLT, Int.reduceLE, Int.reduceNeg, Int.reduceToNat, Int.reduceGT, Int.reduceGE, Nat.reduceLT, Nat.lt_add_one, Nat.zero_lt_succ, Nat.succ_pos, Nat.zero_le, beq_self_eq_true]
  refine QfD (es' := Qbb.take 2) rfl ?_
  try simp (maxSteps := 4000000) only [vm, vl, Arg.get, cells, stor, Qi, Qa, Qc, Qb, QA, Vm.part, Qu, splice, reduceIte, reduceCtorEq, Nat.reduceEqDiff, Nat.reduceAdd, Nat.reduceSub, Nat.reduceMul, Nat.reduceLeDiff, ne_eq, not_false_eq_true, Int.reduceEq, Int.reduceLT, Int.reduceLE, Int.reduceNeg, Int.reduceToNat, Int.reduceGT, Int.reduceGE, Nat.reduceLT, Nat.lt_add_one, Nat.zero_lt_succ, Nat.succ_pos, Nat.zero_le, beq_self_eq_true]
  refine QfD (es' := Qbb.take 3) rfl ?_
  try simp (maxSteps := 4000000) only [vm, vl, Arg.get, cells, stor, Qi, Qa, Qc, Qb, QA, Vm.part, Qu, splice, reduceIte, reduceCtorEq, Nat.reduceEqDiff, Nat.reduceAdd, Nat.reduceSub, Nat.reduceMul, Nat.reduceLeDiff, ne_eq, not_false_eq_true, Int.reduceEq, Int.reduceLT, Int.reduceLE, Int.reduceNeg, Int.reduceToNat, Int.reduceGT, Int.reduceGE, Nat.reduceLT, Nat.lt_add_one, Nat.zero_lt_succ, Nat.succ_pos, Nat.zero_le, beq_self_eq_true]
  refine QfD (es' := Qbb.take 4) rfl ?_
  try simp (maxSteps := 4000000) only [vm, vl, Arg.get, cells, stor, Qi, Qa, Qc, Qb, QA, Vm.part, Qu, splice, reduceIte, reduceCtorEq, Nat.reduceEqDiff, Nat.reduceAdd, Nat.reduceSub, Nat.reduceMul, Nat.reduceLeDiff, ne_eq, not_false_eq_true, Int.reduceEq, Int.reduceLT, Int.reduceLE, Int.reduceNeg, Int.reduceToNat, Int.reduceGT, Int.reduceGE, Nat.reduceLT, Nat.lt_add_one, Nat.zero_lt_succ, Nat.succ_pos, Nat.zero_le, beq_self_eq_true]
  refine QfD (es' := Qbb.take 5) rfl ?_
  try simp (maxSteps := 4000000) only [vm, vl, Arg.get, cells, stor, Qi, Qa, Qc, Qb, QA, Vm.part, Qu, splice, reduceIte, reduceCtorEq, Nat.reduceEqDiff, Nat.reduceAdd, Nat.reduceSub, Nat.reduceMul, Nat.reduceLeDiff, ne_eq, not_false_eq_true, Int.reduceEq, Int.reduceLT, Int.reduceLE, Int.reduceNeg, Int.reduceToNat, Int.reduceGT, Int.reduceGE, Nat.reduceLT, Nat.lt_add_one, Nat.zero_lt_succ, Nat.succ_pos, Nat.zero_le, beq_self_eq_true]
  refine QfD (es' := Qbb.take 6) rfl ?_
  try simp (maxSteps := 4000000) only [vm, vl, Arg.get, cells, stor, Qi, Qa, Qc, Qb, QA, Vm.part, Qu, splice, reduceIte, reduceCtorEq, Nat.reduceEqDiff, Nat.reduceAdd, Nat.reduceSub, Nat.reduceMul, Nat.reduceLeDiff, ne_eq, not_false_eq_true, Int.reduceEq, Int.reduceLT, Int.reduceLE, Int.reduceNeg, Int.reduceToNat, Int.reduceGT, Int.reduceGE, Nat.reduceLT, Nat.lt_add_one, Nat.zero_lt_succ, Nat.succ_pos, Nat.zero_le, beq_self_eq_true]
  refine QfD (es' := Qbb.take 7) rfl ?_
  try simp (maxSteps := 4000000) only [vm, vl, Arg.get, cells, stor, Qi, Qa, Qc, Qb, QA, Vm.part, Qu, splice, reduceIte, reduceCtorEq, Nat.reduceEqDiff, Nat.reduceAdd, Nat.reduceSub, Nat.reduceMul, Nat.reduceLeDiff, ne_eq, not_false_eq_true, Int.reduceEq, Int.reduceLT, Int.reduceLE, Int.reduceNeg, Int.reduceToNat, Int.reduceGT, Int.reduceGE, Nat.reduceLT, Nat.lt_add_one, Nat.zero_lt_succ, Nat.succ_pos, Nat.zero_le, beq_self_eq_true]
  refine Qhr (es' := Qbb.take 8) rfl ?_
  try simp (maxSteps := 4000000) only [vm, vl, Arg.get, cells, stor, Qi, Qa, Qc, Qb, QA, Vm.part, Qu, splice, reduceIte, reduceCtorEq, Nat.reduceEqDiff, Nat.reduceAdd, Nat.reduceSub, Nat.reduceMul, Nat.reduceLeDiff, ne_eq, not_false_eq_true, Int.reduceEq, Int.reduceLT, Int.reduceLE, Int.reduceNeg, Int.reduceToNat, Int.reduceGT, Int.reduceGE, Nat.reduceLT, Nat.lt_add_one, Nat.zero_lt_succ, Nat.succ_pos, Nat.zero_le, beq_self_eq_true]
  refine Qhr (es' := Qbb.take 9) rfl ?_
  try simp (maxSteps := 4000000) only [vm, vl, Arg.get, cells, stor, Qi, Qa, Qc, Qb, QA, Vm.part, Qu, splice, reduceIte, reduceCtorEq, Nat.reduceEqDiff, Nat.reduceAdd, Nat.reduceSub, Nat.reduceMul, Nat.reduceLeDiff, ne_eq, not_false_eq_true, Int.reduceEq, Int.reduceLT, Int.reduceLE, Int.reduceNeg, Int.reduceToNat, Int.reduceGT, Int.reduceGE, Nat.reduceLT, Nat.lt_add_one, Nat.zero_lt_succ, Nat.succ_pos, Nat.zero_le, beq_self_eq_true]
  refine Qhr (es' := Qbb.take 10) rfl ?_
  try simp (maxSteps := 4000000) only [vm, vl, Arg.get, cells, stor, Qi, Qa, Qc, Qb, QA, Vm.part, Qu, splice, reduceIte, reduceCtorEq, Nat.reduceEqDiff, Nat.reduceAdd, Nat.reduceSub, Nat.reduceMul, Nat.reduceLeDiff, ne_eq, not_false_eq_true, Int.reduceEq, Int.reduceLT, Int.reduceLE, Int.reduceNeg, Int.reduceToNat, Int.reduceGT, Int.reduceGE, Nat.reduceLT, Nat.lt_add_one, Nat.zero_lt_succ, Nat.succ_pos, Nat.zero_le, beq_self_eq_true]
  refine Qhr (es' := Qbb.take 11) rfl ?_
  try simp (maxSteps := 4000000) only [vm, vl, Arg.get, cells, stor, Qi, Qa, Qc, Qb, QA, Vm.part, Qu, splice, reduceIte, reduceCtorEq, Nat.reduceEqDiff, Nat.reduceAdd, Nat.reduceSub, Nat.reduceMul, Nat.reduceLeDiff, ne_eq, not_false_eq_true, Int.reduceEq, Int.reduceLT, Int.reduceLE, Int.reduceNeg, Int.reduceToNat, Int.reduceGT, Int.reduceGE, Nat.reduceLT, Nat.lt_add_one, Nat.zero_lt_succ, Nat.succ_pos, Nat.zero_le, beq_self_eq_true]
  refine Qhr (es' := Qbb.take 12) rfl ?_
  try simp (maxSteps := 4000000) only [vm, vl, Arg.get, cells, stor, Qi, Qa, Qc, Qb, QA, Vm.part, Qu, splice, reduceIte, reduceCtorEq, Nat.reduceEqDiff, Nat.reduceAdd, Nat.reduceSub, Nat.reduceMul, Nat.reduceLeDiff, ne_eq, not_false_eq_true, Int.reduceEq, Int.reduceLT, Int.reduceLE, Int.reduceNeg, Int.reduceToNat, Int.reduceGT, Int.reduceGE, Nat.reduceLT, Nat.lt_add_one, Nat.zero_lt_succ, Nat.succ_pos, Nat.zero_le, beq_self_eq_true]
  refine Qhr (es' := Qbb.take 13) rfl ?_
  try simp (maxSteps := 4000000) only [vm, vl]
  rfl
end Go.Proofs.YtaahialaegfjgaaGreatDoor.Vh
end
section
set_option linter.unusedVariables false
set_option linter.unusedSimpArgs false
namespace Go.Proofs.YtaahialaegfjgaaGreatDoor.Vh
open Go.Vm Go.Vt
theorem QBc (s : Bs) : (QaS s).length ≤ s.length := (List.dropWhile_sublist _).length_le
theorem Qrv : ∀ s : Bs, (QX s).length ≤ s.length
  | [] => by simp [QX]
  | c :: r => by
    have := Qrv r
    unfold QX
    split
    · split
      · simp
      · simp
    · rename_i h
      simp only [List.length_cons]; omega
theorem QIU (s : Bs) : (trim s).length ≤ s.length := Nat.le_trans (QBc _) (Qrv _)
theorem Qrs {out : List Bs} {own x : Bs} (h : x ∈ flush out own) : x ∈ out ∨ x.length ≤ own.length := by
  unfold flush at h
  split at h
  · exact .inl h
  · rcases List.mem_append.1 h with h | h
    · exact .inl h
    · right; rw [List.mem_singleton.1 h]; exact QIU _
theorem Qib : ∀ {n : Nat} {s own : Bs} {q : Bool} {out l : List Bs}, s.length ≤ n → Qah s own q out = some l → ∀ x ∈ l, x ∈ out ∨ x.length ≤ own.length + s.length
  | n, [], own, q, out, l, hn, h, x, hx => by
    have e : Qah [] own q out = if q then none else some (flush out own) := rfl
    rw [e] at h
    split at h
    · cases h
    · injection h with h; subst h
      exact (Qrs hx).imp_right fun h => by simpa using h
  | 0, c :: r, own, q, out, l, hn, h, x, hx => by simp at hn
  | n + 1, c :: r, own, q, out, l, hn, h, x, hx => by
    simp at hn
    rw [QhD] at h
    split at h
    · refine (Qib hn h x hx).imp_right fun this => ?_; simp only [List.length_append, List.length_cons, List.length_nil] at this ⊢; omega
    split at h
    · cases r with
      | nil => cases h
      | cons d r =>
        refine (Qib (n := n) (by simp at hn; omega) h x hx).imp_right fun this => ?_; simp only [List.length_append, List.length_cons, List.length_nil] at this ⊢; omega
    split at h
    · rcases Qib hn h x hx with h1 | h1
      · refine (Qrs h1).imp_right fun this => ?_; simp only [List.length_cons]; omega
      · right; simp only [List.length_cons, List.length_nil] at h1 ⊢; omega
    · refine (Qib hn h x hx).imp_right fun this => ?_; simp only [List.length_append, List.length_cons, List.length_nil] at this ⊢; omega
theorem QgA {s : Bs} {l : List Bs} (h : split s = some l) : ∀ x ∈ l, x.length ≤ s.length := by
  intro x hx
  have := Qib (Nat.le_refl _) h x hx
  simpa using this
theorem QiH {α : Type} {l : List α} {i : Nat} (d : α) (hi : i ≤ l.length) : (¬ (i : Int) < l.length ∧ i = l.length ∧ l.drop i = []) ∨ ((i : Int) < l.length ∧ i < l.length ∧ l.drop i = l.getD i d :: l.drop (i + 1) ∧ l.take (i + 1) = l.take i ++ [l.getD i d]) := by
  rcases Nat.lt_or_eq_of_le hi with h | h
  · right
    have e : l.getD i d = l[i] := by rw [List.getD_eq_getElem?_getD, List.getElem?_eq_getElem h]; rfl
    exact ⟨by omega, h, by rw [e]; exact List.drop_eq_getElem_cons h, by rw [e, List.take_add_one, List.getElem?_eq_getElem h]; rfl⟩
  · exact .inl ⟨by omega, h, by rw [h]; simp⟩
theorem QdZ : ∀ {n : Nat} {s own : Bs} {q : Bool} {out l : List Bs}, s.length ≤ n → Qah s own q out = some l → l.length ≤ out.length + s.length + 1
  | 0, s, own, q, out, l, hn, h => by
    obtain rfl : s = [] := List.eq_nil_of_length_eq_zero (by omega)
    rw [QEE rfl] at h
    split at h
    · cases h
    · injection h with h; subst h
      have := Qkv out own; simp; omega
  | n + 1, [], own, q, out, l, hn, h => QdZ (n := n) (by simp) h
  | n + 1, c :: r, own, q, out, l, hn, h => by
    simp at hn
    rw [QhD] at h
    split at h
    · have := QdZ hn h; simp; omega
    split at h
    · cases r with
      | nil => cases h
      | cons d r =>
        have := QdZ (n := n) (by simp at hn; omega) h; simp; omega
    split at h
    · have := QdZ hn h
      have := Qkv out own; simp; omega
    · have := QdZ hn h; simp; omega
end Go.Proofs.YtaahialaegfjgaaGreatDoor.Vh
end
section
set_option linter.unusedVariables false
set_option linter.unusedSimpArgs false
namespace Go.Proofs.YtaahialaegfjgaaGreatDoor.Vh
open Go.Vm Go.Vt
attribute [local congr] QF QI QE QG QD QJ
variable {L : QL} {h : Heap}
theorem Qzy (nm : Bs) : QbZ nm = .no ∨ (∃ i, i < 7 ∧ QbZ nm = .flag i) ∨ ∃ j m b, j < 6 ∧ QbZ nm = .num j m b := by
  unfold QbZ Qgw
  simp only [List.lookup]
  repeat' split
  all_goals simp
theorem QaM (c : Ct) : (ctV c).length = 13 := rfl
theorem QEM {c : Ct} {j : Nat} (hj : j < 6) : (ctV c).getD (7 + j) (.tup []) = .int .i64 (c.n j) := by
  match j, hj with
  | 0, _ => rfl
  | 1, _ => rfl
  | 2, _ => rfl
  | 3, _ => rfl
  | 4, _ => rfl
  | 5, _ => rfl
theorem Qxo {c : Ct} {j : Nat} {v : Int} (hj : j < 6) : List.take (7 + j) (ctV c) ++ V.int .i64 v :: List.drop (7 + (j + 1)) (ctV c) = ctV (Qat c j v) := by
  match j, hj with
  | 0, _ => rfl
  | 1, _ => rfl
  | 2, _ => rfl
  | 3, _ => rfl
  | 4, _ => rfl
  | 5, _ => rfl
theorem Qx6 (text : Bs) (has : Bool) {m b : Int} (hm : m = -1 ∨ 0 ≤ m) (hb : b = -1 ∨ 0 ≤ b) : Qag text has m b = -1 ∨ 0 ≤ Qag text has m b := by
  unfold Qag
  split
  · split
    · exact .inr (QsX text (by decide)).1
    · exact hb
  · exact hm
theorem Qo9 : ∀ (n : Nat) (s bs : Bs), s.length ≤ n → (Qaw s bs).1.length ≤ bs.length + s.length
  | _, [], bs, _ => by rw [QrK]; simp
  | 0, c :: r, bs, hn => by simp at hn
  | n + 1, c :: t, bs, hn => by
    simp at hn
    by_cases c34 : c = 34
    · subst c34
      rw [Qvq]; simp
    · by_cases c92 : c = 92
      · subst c92
        cases t with
        | nil => rw [QvU]; simp
        | cons d t =>
          rw [QuM]
          simp at hn
          split
          · have := Qo9 n t (bs ++ [d]) (by omega)
            simp at this ⊢; omega
          · simp
      · rw [QuH c34 c92]
        split
        · have := Qo9 n t (bs ++ [c]) hn
          simp at this ⊢; omega
        · simp
theorem QGd (s : Bs) : (QbK s).1.length ≤ s.length := by
  unfold QbK
  split
  · have := Qo9 _ (s.drop 1) [] (Nat.le_refl _)
    rw [List.length_drop, List.length_nil] at this
    omega
  · simp
theorem Qsw (s : Bs) : (Qr s).1.length ≤ s.length := by
  unfold Qr
  simp only
  split
  · split
    · split
      · rw [List.length_take]; omega
      · split
        · rw [List.length_take]; omega
        · simp
    · rw [List.length_take]; omega
  · simp
theorem QrI (s : Bs) : (Qr s).2.1.length ≤ s.length := by
  have h1 : (s.drop (pos 61 s + 1)).length ≤ s.length := by rw [List.length_drop]; omega
  have h2 := QGd (s.drop (pos 61 s + 1))
  unfold Qr
  simp only
  split
  · split
    · split
      · exact h1
      · split
        · exact Nat.le_trans h2 h1
        · simp
    · exact h1
  · simp
theorem QAY (s : Bs) (h : (Qr s).2.2.2 = false) : (Qr s).1 = [] := by
  unfold Qr at h ⊢
  simp only at h ⊢
  repeat' split at h
  all_goals first | (cases h; done) | simp_all
theorem QFT (nm : Bs) : ∃ r, QbE .s (.str nm) Qbb 0 = some r ∧ ((r = none ∧ QbZ nm = .no) ∨ ∃ i, r = some (i, Qd5 (QbZ nm))) := by
  obtain ⟨r, h1, h2⟩ := QsM nm Qgw 0
  refine ⟨r, h1, ?_⟩
  unfold QbZ
  cases hl : Qgw.lookup nm with
  | none => rw [hl] at h2; exact .inl ⟨h2, rfl⟩
  | some a => rw [hl] at h2; exact .inr h2
def Qid (h : Heap) (l : List Bs) (x : V) (n : Nat) (e : Env) (h' : Heap) : Prop :=
  ∃ (i : Nat) (c : Ct) (km : Nat) (R A : O) (t : Heap), n = l.length - i ∧ i ≤ l.length ∧ e 2 = .ptr h.length 0 ∧ e 4 = .ptr (h.length + 2) 0 ∧ e 7 = .map (h.length + (km + 3)) ∧ e 29 = x ∧ e 30 = .int .i64 l.length ∧ e 31 = .int .i64 i ∧
    (∃ cs, R = .box cs ∧ cs.length = 13) ∧ h' = h ++ (R :: A :: .box (ctV c) :: t) ∧ t[km]? = some (.map Qbb) ∧ l.foldl Qq ct0 = (l.drop i).foldl Qq c
theorem Qzr {l : List Bs} {x : V} (HI : QaZ L) (HU : Qa1 L) (hx : Qf 1 x (strs l)) (hl : l.length < 100000000) (hb : ∀ s ∈ l, s.length < 100000000) {n : Nat} {e : Env} {h' : Heap} (hI : Qid h l x n e h') :
    Qj1 L (Pu h (QdX (l.foldl Qq ct0, true))) (fun e' h' => ∃ m, m < n ∧ Qid h l x m e' h') e h' := by
  obtain ⟨i, c, km, R, A, t, rfl, hi, e2, e4, e7, e29, e30, e31, ⟨cs, rfl, hcs⟩, rfl, hk, hf⟩ := hI
  simp only [Qj1]
  
  rcases QiH [] hi with ⟨hn, rfl, hd⟩ | ⟨hl1, hl2, hd, _⟩
  · rw [hd] at hf
    have hcs1 : List.drop 13 cs = [] := List.drop_eq_nil_of_le (by omega)
    have hc13 := QaM c
    have ht13 : List.take 13 (ctV c) = ctV c := rfl
    simp (maxSteps := 4000000) only [vm, vl, Arg.get, e2, e4, e30, e31, hn]
    unfold QnI
    simp (maxSteps := 4000000) only [vm, vl, Arg.get, cells, stor, Qa, Qc, Qb, QA, Vm.part, splice, reduceIte, Nat.reduceEqDiff, hcs, hc13, ht13, hcs1, List.append_nil]
    rw [hf]; rfl
  · obtain ⟨o, rfl⟩ : ∃ o, x = .sl 1 o (strs l) := by
      rcases hx with ⟨he, _⟩ | h
      · have := QW l
        rw [he] at this
        simp at this
        omega
      · exact h
    have hsl : i < (strs l).length := by rw [QW]; exact hl2
    have hi0 : (0 : Int) ≤ (i : Int) := by omega
    have g : (strs l).getD i (.tup []) = .str (l.getD i []) := by
      unfold strs
      rw [List.getD_eq_getElem?_getD, List.getD_eq_getElem?_getD, List.getElem?_map, List.getElem?_eq_getElem hl2]; rfl
    have hyb : (l.getD i []).length < 100000000 := by
      rw [List.getD_eq_getElem?_getD, List.getElem?_eq_getElem hl2]; exact hb _ (List.getElem_mem hl2)
    rw [hd, List.foldl_cons] at hf
    generalize l.getD i [] = y at *
    have w := Qe (x := (i : Int) + 1) (by omega) (by omega)
    have hplen : (Qr y).1.length ≤ y.length := Qsw y
    have hplen2 : (Qr y).2.1.length ≤ y.length := QrI y
    simp (maxSteps := 4000000) only [vm, vl, Arg.get, e2, e4, e7, e29, e30, e31, hl1]
    unfold Qu3
    simp (maxSteps := 4000000) only [vm, vl, Arg.get, cells, Qb, reduceIte, hsl, hi0, g]
    refine Cf.pu (QG4 HI HU (by omega)) fun u1 => ?_
    unfold QsO
    simp (maxSteps := 4000000) only [vm, vl, Arg.get, reduceIte, Qbc]
    refine Cf.pu (Qe9 (by omega)) fun u2 => ?_
    have hmap : (h ++ (O.box cs :: A :: O.box (ctV c) :: (t ++ u1)) ++ u2)[h.length + (km + 3)]? = some (.map Qbb) := by
      refine Qp ?_
      rw [Qd7]; exact Qp hk
    obtain ⟨r, hr1, hr2⟩ := QFT (low (Qr y).1)
    simp only [hmap, hr1]
    have main : Qm0 L (Pu h (QdX (List.foldl Qq ct0 l, true)))
        (fun e' h' => ∃ m, m < l.length - i ∧ Qid h l (V.sl 1 o (strs l)) m e' h') (upd e 32 (V.bool true))
        (V.ptr (List.length h + 2) 0) (V.map (List.length h + (km + 3))) (V.int IntKind.i64 ↑i) (V.iptr [V.str y])
        (V.str y)
        (V.tup
          [V.str (Qr y).fst, V.str (Qr y).snd.fst, V.bool (Qr y).snd.snd.fst, V.bool (Qr y).snd.snd.snd])
        (V.str (Qr y).fst) (V.str (Qr y).snd.fst) (V.bool (Qr y).snd.snd.fst) (V.bool (Qr y).snd.snd.snd)
        (V.str (low (Qr y).fst)) (Qd5 (QbZ (low (Qr y).1)))
        (h ++ O.box cs :: A :: O.box (ctV c) :: (t ++ u1) ++ u2) := by
      have hfin : ∀ (c' : Ct) (e' : Env) (t' : Heap), (∃ u, t' = t ++ u) → Qq c y = c' → e' 2 = .ptr h.length 0 → e' 4 = .ptr (h.length + 2) 0 → e' 7 = .map (h.length + (km + 3)) → e' 29 = V.sl 1 o (strs l) → e' 30 = .int .i64 l.length → e' 31 = .int .i64 ((i : Int) + 1) →
          ∃ m, m < l.length - i ∧ Qid h l (V.sl 1 o (strs l)) m e' (h ++ (O.box cs :: A :: O.box (ctV c') :: t')) := by
        rintro c' e' t' ⟨u, rfl⟩ hs f2 f4 f7 f29 f30 f31
        rw [hs] at hf
        exact ⟨l.length - (i + 1), by omega, i + 1, c', km, _, A, t ++ u, rfl, hl2, f2, f4, f7, f29, f30, f31, ⟨cs, rfl, hcs⟩, rfl, Qp hk, hf⟩
      have ha : Qb8 y = match QbZ (low (Qr y).1) with
        | .no => .nop
        | .flag i => .flag i
        | .num j m b => if Qag (Qr y).2.1 (Qr y).2.2.1 m b = -1 then .nop else .num j (Qag (Qr y).2.1 (Qr y).2.2.1 m b) := rfl
      clear hmap hr1 hr2 hf
      generalize low (Qr y).1 = nm at *
      generalize (Qr y).1 = pn at *
      generalize (Qr y).2.1 = text at *
      generalize (Qr y).2.2.1 = has at *
      generalize (Qr y).2.2.2 = ok at *
      unfold Qm0
      rcases Qzy nm with hr | ⟨k, hk7, hr⟩ | ⟨j, m, b, hj, hr⟩
      · rw [hr] at ha ⊢
        have hs : Qq c y = c := by unfold Qq; rw [ha]; rfl
        unfold Qd5
        simp (maxSteps := 4000000) only [vm, vl, Arg.get, cells, stor, Qb, splice, reduceIte, Nat.reduceAdd, Nat.reduceLeDiff, QcL, w]
        exact hfin c _ _ ⟨_, rfl⟩ hs e2 e4 e7 e29 e30 rfl
      · rw [hr] at ha ⊢
        have hs : Qq c y = Qai c k := by unfold Qq; rw [ha]; rfl
        unfold Qd5
        simp (maxSteps := 4000000) only [vm, vl, Arg.get, cells, stor, Qb, splice, reduceIte, Nat.reduceAdd, Nat.reduceLeDiff, QcL, w]
        refine QFa hk7 (c := c) (by rw [Qd7]; rfl) ?_
        simp (maxSteps := 4000000) only [vm, vl, QcL, w]
        exact hfin (Qai c k) _ _ ⟨_, rfl⟩ hs e2 e4 e7 e29 e30 rfl
      · rw [hr] at ha ⊢
        have hc13 := QaM c
        have h13 : 7 + (j + 1) ≤ 13 := by omega
        have hnj := QEM (c := c) hj
        unfold Qd5
        simp (maxSteps := 4000000) only [vm, vl, Arg.get, cells, stor, Qb, splice, reduceIte, Nat.reduceEqDiff, Nat.reduceAdd, Nat.reduceLeDiff, QcL, w]
        refine (QAD hj).mono fun v h' hv => ?_
        obtain ⟨rfl, rfl⟩ := hv
        simp (maxSteps := 4000000) only [vm, vl, Nat.reduceAdd]
        refine Cf.pu (Qw4 (by omega)) fun u3 => ?_
        unfold Qt1
        have ha' : Qb8 y = if Qag text has m b = -1 then .nop else .num j (Qag text has m b) := ha
        clear ha
        generalize hval : Qag text has m b = vv at *
        by_cases hv : vv = -1
        · have hs : Qq c y = c := by unfold Qq; rw [ha', if_pos hv]; rfl
          simp (maxSteps := 4000000) only [vm, vl, Arg.get, cells, stor, splice, reduceIte, Int.reduceNeg, hv, decide_true, Bool.not_true, QcL, w]
          exact hfin c _ _ ⟨_, rfl⟩ hs e2 e4 e7 e29 e30 rfl
        · rw [if_neg hv] at ha'
          have hs : Qq c y = Qat c j (lst (c.n j) vv) := by unfold Qq; rw [ha']; rfl
          have hput := Qxo (c := c) (j := j) (v := vv) hj
          by_cases h1 : c.n j = -1
          · have hl : lst (c.n j) vv = vv := if_pos (.inl h1)
            rw [hl] at hs
            simp (maxSteps := 4000000) only [vm, vl, Arg.get, cells, stor, Qb, splice, reduceIte, Int.reduceNeg, hv, decide_false, Bool.not_false, hc13, h13, hnj, h1, decide_true, hput, QcL, w]
            exact hfin (Qat c j vv) _ _ ⟨_, rfl⟩ hs e2 e4 e7 e29 e30 rfl
          · by_cases h2 : vv < c.n j
            · have hl : lst (c.n j) vv = vv := if_pos (.inr h2)
              rw [hl] at hs
              simp (maxSteps := 4000000) only [vm, vl, Arg.get, cells, stor, Qb, splice, reduceIte, Int.reduceNeg, hv, decide_false, Bool.not_false, hc13, h13, hnj, h1, h2, decide_true, hput, QcL, w]
              exact hfin (Qat c j vv) _ _ ⟨_, rfl⟩ hs e2 e4 e7 e29 e30 rfl
            · have hl : lst (c.n j) vv = c.n j := if_neg (by omega)
              have hss : Qat c j (c.n j) = c := by
                unfold Qat
                have : (fun k => if k = j then c.n j else c.n k) = c.n := funext fun k => by split <;> simp_all
                rw [this]
              rw [hl, hss] at hs
              simp (maxSteps := 4000000) only [vm, vl, Arg.get, cells, stor, Qb, splice, reduceIte, Int.reduceNeg, hv, decide_false, Bool.not_false, hc13, h13, hnj, h1, h2, QcL, w]
              exact hfin c _ _ ⟨_, rfl⟩ hs e2 e4 e7 e29 e30 rfl
    rcases hr2 with ⟨rfl, hr⟩ | ⟨k, rfl⟩
    · rw [hr] at main; exact main
    · exact main
theorem QxS (HI : QaZ L) (HU : Qa1 L) {s : Bs} (hs : s.length < 1000000) : Cf F L Qf7 [.str s] h (Pu h (QdX (Qc6 s))) := by
  refine Qy4 ?_
  simp only [Qm5]
  
  simp (maxSteps := 4000000) only [vm, vl, Arg.get, cells, stor, splice, Nat.reduceAdd]
  refine (Quc).mono fun v h' hv => ?_
  obtain ⟨rfl, rfl⟩ := hv
  have hc13 := QaM ct0
  have hd13 : List.drop 13 (ctV ct0) = [] := rfl
  simp (maxSteps := 4000000) only [vm, vl, Nat.reduceAdd, hc13]
  refine Cf.pu (Qh3 (by omega)) fun u1 => ?_
  unfold QsU Qc6
  cases hsp : split s with
  | none =>
    simp only [Qcm]
    simp (maxSteps := 4000000) only [vm, vl, Arg.get, cells, stor, Qa, Qc, Qb, QA, Vm.part, splice, reduceIte, Nat.reduceEqDiff, Nat.reduceAdd, Nat.reduceLeDiff, ctV, Bool.not_false]
    rfl
  | some l =>
    simp only [Qcm]
    simp (maxSteps := 4000000) only [vm, vl, Arg.get, cells, stor, Qa, Qc, Qb, QA, Vm.part, splice, reduceIte, Nat.reduceEqDiff, Nat.reduceAdd, Nat.reduceLeDiff, Bool.not_true]
    unfold Quu
    simp (maxSteps := 4000000) only [vm, vl, Arg.get]
    refine (QG1).mono fun v h' hv => ?_
    obtain ⟨rfl, rfl⟩ := hv
    have hlen : l.length < 100000000 := by
      have := QdZ (Nat.le_refl _) (show Qah s [] false [] = some l from hsp)
      simp at this; omega
    have hmem := QgA hsp
    have hx := QiX l
    have hbs : ∀ x ∈ l, x.length < 100000000 := fun x hx => by have := hmem x hx; omega
    have fin : ∀ (e : Env), e 2 = .ptr h.length 0 → e 4 = .ptr (h.length + 2) 0 → e 7 = .map (h.length + (u1.length + 3)) → e 29 = Qed l → e 30 = .int .i64 l.length → e 31 = .int .i64 ((0 : Nat) : Int) →
        Wl F L QkU (QlJ L (Pu h (QdX (List.foldl Qq ct0 l, true)))) e (h ++
        O.box
            [V.bool false, V.bool false, V.bool false, V.bool false, V.bool false, V.bool false, V.bool false,
              V.int IntKind.i64 0, V.int IntKind.i64 0, V.int IntKind.i64 0, V.int IntKind.i64 0, V.int IntKind.i64 0,
              V.int IntKind.i64 0] ::
          O.box (ctV ct0) ::
            O.box (ctV ct0 ++ []) :: (u1 ++ [O.map Qbb, O.box [V.map (List.length h + (List.length u1 + 3))]])) := by
      intro e f2 f4 f7 f29 f30 f31
      rw [List.append_nil]
      exact QEN (Qid h l (Qed l)) (fun n e h' hI => Qzr HI HU hx hlen hbs hI) (n := l.length) ⟨0, ct0, u1.length, _, _, _, by simp, by simp, f2, f4, f7, f29, f30, f31, ⟨_, rfl, rfl⟩, rfl, by rw [List.getElem?_append_right (Nat.le_refl _)]; simp, by simp⟩
    rcases hx with ⟨he, e⟩ | ⟨o, e⟩
    · have hl0 : l.length = 0 := by rw [← QW, he]; rfl
      rw [hl0] at fin
      rw [e] at fin ⊢
      simp (maxSteps := 4000000) only [vm, vl, Nat.reduceAdd]
      exact fin _ rfl rfl rfl rfl rfl rfl
    · rw [e] at fin ⊢
      have hsl := QW l
      simp (maxSteps := 4000000) only [vm, vl, Nat.reduceAdd, hsl]
      exact fin _ rfl rfl rfl rfl rfl rfl
end Go.Proofs.YtaahialaegfjgaaGreatDoor.Vh
end
section
set_option linter.unusedVariables false
set_option linter.unusedSimpArgs false
namespace Go.Proofs.YtaahialaegfjgaaGreatDoor.Vh
open Go.Vm Go.Vt
attribute [local congr] QF QI QE QG QD QJ
variable {L : QL} {h : Heap}
theorem q61 {c : UInt8} : decide ((c.toNat : Int) = 61) = decide (c = 61) := Qa2 (p := fun c => decide ((c.toNat : Int) = 61) = decide (c = 61)) (by decide +kernel) c
theorem QvY {s : Bs} {t : Heap} {k : Nat} (hs : s.length < 1000000000) (hk : k ≤ s.length) (hp : pos 61 s = k) :
    Qkb L (Pu h (Qbc (Qr s))) (.str s) (.int .i64 k) (h ++ t) := by
  
  unfold Qkb
  have b1 : (s.take k).length < 1000000000 := by rw [List.length_take]; omega
  have b2 : (s.drop (k + 1)).length < 1000000000 := by rw [List.length_drop]; omega
  unfold Qr
  simp only
  rw [hp]
  have t0 : (0 : Int) ≤ (k : Int) := by omega
  have t1 : ((k : Nat) : Int).toNat = k := by omega
  by_cases hlt : k < s.length
  · rw [if_pos hlt]
    have h1 : k + 1 ≤ s.length := hlt
    have e1 : decide ((k : Int) = (s.length : Int)) = false := by simp; omega
    have w := Qe (x := (k : Int) + 1) (by omega) (by omega)
    have t2 : (0 : Int) ≤ (k : Int) + 1 := by omega
    have t3 : ((k : Int) + 1).toNat = k + 1 := by omega
    
    simp (maxSteps := 4000000) only [vm, vl, Arg.get, Qi, Qa, Qc, reduceIte, Nat.zero_le, t0, t1, hk, Nat.zero_le, List.drop_zero]
    generalize hn : s.take k = n at *
    refine Cf.pu (QjR (by omega)) fun u => ?_
    cases q1 : QaO n with
    | false => simp (maxSteps := 4000000) only [vm, vl, reduceIte, Qbc, Bool.not_false]
    | true =>
      simp (maxSteps := 4000000) only [vm, vl, Arg.get, Qi, Qa, Qc, reduceIte, Nat.zero_le, q1, Bool.not_true, Qn8, Qvz, e1, w, t2, t3, h1, hlt, Nat.le_refl, List.take_length]
      generalize hv : s.drop (k + 1) = v at *
      refine Cf.pu (QjR (by omega)) fun u2 => ?_
      cases q2 : QaO v with
      | true => simp (maxSteps := 4000000) only [vm, vl, reduceIte, q2, t0, t1, hk, List.drop_zero, hn, Qbc]
      | false =>
        simp (maxSteps := 4000000) only [vm, vl, Arg.get, Qa, Qc, reduceIte, q2, Qtf]
        refine (QDC (by omega)).mono fun x h' hx => ?_
        obtain ⟨x, ⟨rfl, r, rfl⟩, hx⟩ := hx
        cases q3 : (QbK v).2 with
        | false => simp (maxSteps := 4000000) only [vm, vl, reduceIte, q3, Bool.not_false, Qbc]
        | true =>
          have := hx q3
          subst this
          simp (maxSteps := 4000000) only [vm, vl, Arg.get, Qi, Qa, Qc, reduceIte, Nat.zero_le, q3, Bool.not_true, Qs7, t0, t1, hk, Nat.zero_le, List.drop_zero, hn, Qbc]
  · rw [if_neg hlt]
    have he : k = s.length := by omega
    subst he
    have e1 : decide ((s.length : Int) = (s.length : Int)) = true := by simp
    have tk : s.take s.length = s := List.take_length
    have dk : s.drop (s.length + 1) = [] := by rw [List.drop_eq_nil_iff]; omega
    rw [tk, dk]
    
    simp (maxSteps := 4000000) only [vm, vl, Arg.get, Qi, Qa, Qc, reduceIte, Nat.zero_le, t0, t1, hk, Nat.zero_le, List.drop_zero, tk]
    refine Cf.pu (QjR (by omega)) fun u => ?_
    cases q1 : QaO s with
    | false => simp (maxSteps := 4000000) only [vm, vl, reduceIte, q1, Qbc, Bool.not_false]
    | true => simp (maxSteps := 4000000) only [vm, vl, Arg.get, Qa, Qc, reduceIte, q1, Bool.not_true, Qn8, e1, Qbc]
theorem QAP {s : Bs} (hs : s.length < 1000000000) : Cf F L Qet [.str s] h (Pu h (Qbc (Qr s))) := by
  refine QJH ?_
  simp only [Qlu]
  
  refine QwR (fun n e h' => ∃ k : Nat, n = s.length - k ∧ k ≤ s.length ∧ e 0 = .str s ∧ e 6 = .int .i64 k ∧ (∀ j, j < k → s.getD j 0 ≠ 61) ∧ ∃ t, h' = h ++ t) ?_ (n := s.length) ⟨0, by simp, by simp, rfl, rfl, by simp, [], by simp⟩
  rintro n e h' ⟨k, rfl, hk, e0, e6, hno, t, rfl⟩
  simp only [Qpt]
  rcases QbQ hk with ⟨hn, rfl, hd⟩ | ⟨c, hl, hl', hc, hd⟩
  · simp (maxSteps := 4000000) only [vm, vl, Arg.get, reduceIte, ne_eq, e0, e6, hn]
    exact QvY hs hk (Qr0 hno)
  · have w := Qe (x := (k : Int) + 1) (by omega) (by omega)
    have k61 := q61 (c := c)
    by_cases c61 : c = 61
    · subst c61
      have k61' : ((UInt8.toNat 61 : Nat) : Int) = 61 := rfl
      simp (maxSteps := 4000000) only [vm, vl, Arg.get, reduceIte, ne_eq, e0, e6, hl, hl', hc, k61', decide_true, Bool.not_true]
      exact QvY hs hk (Qsz hl' hno hc)
    · have k61' : ¬ (c.toNat : Int) = 61 := by rw [← decide_eq_false_iff_not, k61]; simpa using c61
      simp (maxSteps := 4000000) only [vm, vl, Arg.get, reduceIte, reduceCtorEq, Nat.reduceEqDiff, ne_eq, e0, e6, hl, hl', hc, k61', decide_false, Bool.not_false, Qsu, w]
      refine ⟨s.length - (k + 1), by omega, k + 1, rfl, hl', rfl, ?_, t, rfl⟩
      intro j hj
      rcases Nat.lt_or_ge j k with h1 | h1
      · exact hno j h1
      · have : j = k := by omega
        subst this; rw [hc]; exact c61
end Go.Proofs.YtaahialaegfjgaaGreatDoor.Vh
end
section
set_option linter.unusedVariables false
set_option linter.unusedSimpArgs false
namespace Go.Proofs.YtaahialaegfjgaaGreatDoor.Vh
open Go.Vm Go.Vt
attribute [local congr] QF QI QE QG QD QJ
variable {L : QL} {h : Heap}
def QkC (a b : Int) : Int := if a < 0 ∨ b < a then b else a
theorem QdP {a b : Int} (h : -1 ≤ a) : QkC a b = lst a b := by
  unfold QkC lst
  by_cases h1 : a < 0 ∨ b < a
  · rw [if_pos h1, if_pos (by omega)]
  · rw [if_neg h1, if_neg (by omega)]
theorem Qd1 {a b : Int} : Cf F L QaV [.int .i64 a, .int .i64 b] h (Pu h (.int .i64 (QkC a b))) := by
  refine QJS ?_
  simp only [Qoa]
  unfold QkC
  by_cases h1 : a < 0
  · rw [if_pos (.inl h1)]
    simp (maxSteps := 4000000) only [vm, vl, Arg.get, reduceIte, Qku, h1, decide_true]
  · by_cases h2 : b < a
    · rw [if_pos (.inr h2)]
      simp (maxSteps := 4000000) only [vm, vl, Arg.get, reduceIte, Qku, h1, h2, decide_true, decide_false]
    · rw [if_neg (by omega)]
      simp (maxSteps := 4000000) only [vm, vl, Arg.get, reduceIte, Qku, h1, h2, decide_true, decide_false]
theorem QvI : Cf F L Qen [] h (fun v h' => v = .agg (ctV ct0) ∧ h' = h ++ [.box (ctV ct0)]) := by
  refine QDl ?_
  simp only [QnS]
  simp (maxSteps := 4000000) only [vm, vl, Arg.get, cells, stor, Qa, Qc, QA, Vm.part, Qu, splice, reduceIte, Nat.reduceEqDiff, Nat.reduceAdd, Nat.reduceLeDiff, Int.reduceNeg]
  exact ⟨rfl, rfl⟩
def Qio (h : Heap) (l : List Bs) (x : V) (n : Nat) (e : Env) (h' : Heap) : Prop :=
  ∃ (i : Nat) (c : Ct) (R A : O) (t : Heap), n = l.length - i ∧ i ≤ l.length ∧ (∀ j, -1 ≤ c.n j) ∧ e 2 = .ptr h.length 0 ∧ e 4 = .ptr (h.length + 2) 0 ∧ e 5 = x ∧ e 7 = .int .i64 i ∧
    (∃ cs, R = .box cs ∧ cs.length = 13) ∧ h' = h ++ (R :: A :: .box (ctV c) :: t) ∧ l.foldl Qq ct0 = (l.drop i).foldl Qq c
theorem Qwy {a v : Int} (h1 : -1 ≤ a) (h2 : -1 ≤ v) : -1 ≤ lst a v := by unfold lst; split <;> omega
theorem QCO (c : Ct) (y : Bs) (h : ∀ j, -1 ≤ c.n j) : ∀ j, -1 ≤ (Qq c y).n j := by
  intro k
  unfold Qq
  have hv : ∀ j v, Qb8 y = .num j v → -1 ≤ v := by
    intro j v hh
    unfold Qb8 at hh
    split at hh
    · cases hh
    · cases hh
    · rename_i j m b hr
      have hmb : (m = -1 ∨ 0 ≤ m) ∧ (b = -1 ∨ 0 ≤ b) := by
        unfold QbZ Qgw at hr
        simp only [List.lookup] at hr
        repeat' split at hr
        all_goals first | (cases hr; done) | (simp at hr; omega)
      have := Qx6 (Qr y).2.1 (Qr y).2.2.1 hmb.1 hmb.2
      split at hh
      · cases hh
      · injection hh with h1 h2; omega
  cases ha : Qb8 y with
  | nop => exact h k
  | flag i => exact h k
  | num j v =>
    show -1 ≤ if k = j then lst (c.n j) v else c.n k
    split
    · exact Qwy (h j) (hv j v ha)
    · exact h k
set_option maxHeartbeats 2000000 in
theorem QDW {l : List Bs} {x : V} (hx : Qf 1 x (strs l)) (hl : l.length < 100000000) (hb : ∀ s ∈ l, s.length < 100000000) {n : Nat} {e : Env} {h' : Heap} (hI : Qio h l x n e h') :
    Qj6 L (Pu h (QdX (l.foldl Qq ct0, true))) (fun e' h' => ∃ m, m < n ∧ Qio h l x m e' h') e h' := by
  obtain ⟨i, c, R, A, t, rfl, hi, hc, e2, e4, e5, e7, ⟨cs, rfl, hcs⟩, rfl, hf⟩ := hI
  simp only [Qj6]
  
  have l1 := fun {K : QK} {h : Heap} => hx.len (F := F) (L := L) (e := E0) (K := K) (h := h)
  simp only [QW] at l1
  rcases QiH [] hi with ⟨hn, rfl, hd⟩ | ⟨hl1, hl2, hd, _⟩
  · rw [hd] at hf
    have hcs1 : List.drop 13 cs = [] := List.drop_eq_nil_of_le (by omega)
    have hc13 := QaM c
    have ht13 : List.take 13 (ctV c) = ctV c := rfl
    simp (maxSteps := 4000000) only [vm, vl, Arg.get, e2, e4, e5, e7, l1, hn]
    unfold Qnz
    simp (maxSteps := 4000000) only [vm, vl, Arg.get, cells, stor, Qa, Qc, Qb, QA, Vm.part, splice, reduceIte, Nat.reduceEqDiff, hcs, hc13, ht13, hcs1, List.append_nil]
    rw [hf]; rfl
  · obtain ⟨o, rfl⟩ : ∃ o, x = .sl 1 o (strs l) := by
      rcases hx with ⟨he, _⟩ | h
      · have := QW l
        rw [he] at this
        simp at this
        omega
      · exact h
    have hsl : i < (strs l).length := by rw [QW]; exact hl2
    have hsl0 := QW l
    have hi0 : (0 : Int) ≤ (i : Int) := by omega
    have g : (strs l).getD i (.tup []) = .str (l.getD i []) := by
      unfold strs
      rw [List.getD_eq_getElem?_getD, List.getD_eq_getElem?_getD, List.getElem?_map, List.getElem?_eq_getElem hl2]; rfl
    have hyb : (l.getD i []).length < 100000000 := by
      rw [List.getD_eq_getElem?_getD, List.getElem?_eq_getElem hl2]; exact hb _ (List.getElem_mem hl2)
    rw [hd, List.foldl_cons] at hf
    generalize l.getD i [] = y at *
    have w := Qe (x := (i : Int) + 1) (by omega) (by omega)
    have hplen : (Qr y).1.length ≤ y.length := Qsw y
    have hplen2 : (Qr y).2.1.length ≤ y.length := QrI y
    have hno : (Qr y).2.2.2 = false → (Qr y).1 = [] := QAY y
    have hlow := QCO c y hc
    simp (maxSteps := 4000000) only [vm, vl, Arg.get, e2, e4, e5, e7, hsl0, hl1]
    unfold QuF
    simp (maxSteps := 4000000) only [vm, vl, Arg.get, cells, Qb, reduceIte, hsl, hi0, g]
    refine Cf.pu (QAP (by omega)) fun u1 => ?_
    unfold Qs4
    have hfin : ∀ (c' : Ct) (e' : Env) (t' : Heap), Qq c y = c' → e' 2 = .ptr h.length 0 → e' 4 = .ptr (h.length + 2) 0 → e' 5 = V.sl 1 o (strs l) → e' 7 = .int .i64 ((i : Int) + 1) →
        ∃ m, m < l.length - i ∧ Qio h l (V.sl 1 o (strs l)) m e' (h ++ (O.box cs :: A :: O.box (ctV c') :: t')) := by
      rintro c' e' t' hs f2 f4 f5 f7
      rw [hs] at hf hlow
      exact ⟨l.length - (i + 1), by omega, i + 1, c', _, A, t', rfl, hl2, hlow, f2, f4, f5, f7, ⟨cs, rfl, hcs⟩, rfl, hf⟩
    have ha : Qb8 y = match QbZ (low (Qr y).1) with
      | .no => .nop
      | .flag i => .flag i
      | .num j m b => if Qag (Qr y).2.1 (Qr y).2.2.1 m b = -1 then .nop else .num j (Qag (Qr y).2.1 (Qr y).2.2.1 m b) := rfl
    clear hf hlow
    cases hok : (Qr y).2.2.2 with
    | false =>
      rw [hno hok] at ha
      have hs : Qq c y = c := by unfold Qq; rw [ha]; rfl
      simp (maxSteps := 4000000) only [vm, vl, Arg.get, Qbc, hok, Bool.not_false, QQ, w]
      exact hfin c _ _ hs e2 e4 e5 rfl
    | true =>
    clear hno
    simp (maxSteps := 4000000) only [vm, vl, Arg.get, Qbc, hok, Bool.not_true, Qr3]
    refine Cf.pu (QuY (by omega) (by decide) (by decide)) fun u2 => ?_
    have hvs : ∀ m b, Qag (Qr y).2.1 (Qr y).2.2.1 m b = if (Qr y).2.2.1 then (if (Q3 (Qr y).2.1 2147483648).2 then (Q3 (Qr y).2.1 2147483648).1 else b) else m := fun _ _ => rfl
    have hn0 := (QsX (Qr y).2.1 (most := 2147483648) (by decide)).1
    generalize (Qr y).1 = pn at *
    generalize Q3 (Qr y).2.1 2147483648 = nt at *
    obtain ⟨n1, t2⟩ := nt
    generalize (Qr y).2.1 = text at *
    generalize (Qr y).2.2.1 = has at *
    have hlo : ∀ hh, Cf F L Qb4 [.str pn] hh (Pu hh (.str (low pn))) := fun hh => Qie (by omega)
    have htold : ∀ (P : V → Prop), P (.bool (t2 && has)) → P (if t2 = true then .bool has else .bool false) := by
      intro P hp
      cases t2 <;> exact hp
    simp only at hvs hn0
    have ht3 : (t2 && has) = true → t2 = true ∧ has = true := by cases t2 <;> cases has <;> simp
    generalize low pn = nm at *
    have base : ∀ (u3 : Heap) (f : Env), f 2 = .ptr h.length 0 → f 4 = .ptr (h.length + 2) 0 → f 5 = V.sl 1 o (strs l) → ∀ a45 a47 a50 : V,
        Qix L (Pu h (QdX (List.foldl Qq ct0 l, true))) (fun e' h' => ∃ m, m < l.length - i ∧ Qio h l (V.sl 1 o (strs l)) m e' h') f (V.ptr (List.length h + 2) 0) (V.int IntKind.i64 ↑i) (.str pn) (.str text) (.bool has) a45 (.int .i64 n1) a47 a50 (.bool (t2 && has)) (.str nm)
          (h ++ O.box cs :: A :: O.box (ctV c) :: u3) := by
      intro u3 f f2 f4 f5 a45 a47 a50
      unfold Qix
      by_cases c0 : nm = [110, 111, 45, 115, 116, 111, 114, 101]
      · subst c0
        have bt : (([110, 111, 45, 115, 116, 111, 114, 101] : Bs) == [110, 111, 45, 115, 116, 111, 114, 101]) = true := rfl
        have hs : Qq c y = Qai c 0 := by unfold Qq; rw [ha]; rfl
        simp (maxSteps := 4000000) only [vm, vl, Arg.get, cells, stor, Qb, splice, reduceIte, Nat.reduceAdd, Nat.reduceLeDiff, beq_self_eq_true, bt, ctV, QQ, w]
        exact hfin (Qai c 0) _ _ hs f2 f4 f5 rfl
      have b0 : (nm == [110, 111, 45, 115, 116, 111, 114, 101]) = false := beq_eq_false_iff_ne.2 c0
      by_cases c1 : nm = [110, 111, 45, 99, 97, 99, 104, 101]
      · subst c1
        have bt : (([110, 111, 45, 99, 97, 99, 104, 101] : Bs) == [110, 111, 45, 99, 97, 99, 104, 101]) = true := rfl
        have bf0 : (([110, 111, 45, 99, 97, 99, 104, 101] : Bs) == [110, 111, 45, 115, 116, 111, 114, 101]) = false := rfl
        have hs : Qq c y = Qai c 1 := by unfold Qq; rw [ha]; rfl
        simp (maxSteps := 4000000) only [vm, vl, Arg.get, cells, stor, Qb, splice, reduceIte, Nat.reduceAdd, Nat.reduceLeDiff, beq_self_eq_true, bt, bf0, ctV, QQ, w]
        exact hfin (Qai c 1) _ _ hs f2 f4 f5 rfl
      have b1 : (nm == [110, 111, 45, 99, 97, 99, 104, 101]) = false := beq_eq_false_iff_ne.2 c1
      by_cases c2 : nm = [112, 114, 105, 118, 97, 116, 101]
      · subst c2
        have bt : (([112, 114, 105, 118, 97, 116, 101] : Bs) == [112, 114, 105, 118, 97, 116, 101]) = true := rfl
        have bf0 : (([112, 114, 105, 118, 97, 116, 101] : Bs) == [110, 111, 45, 115, 116, 111, 114, 101]) = false := rfl
        have bf1 : (([112, 114, 105, 118, 97, 116, 101] : Bs) == [110, 111, 45, 99, 97, 99, 104, 101]) = false := rfl
        have hs : Qq c y = Qai c 2 := by unfold Qq; rw [ha]; rfl
        simp (maxSteps := 4000000) only [vm, vl, Arg.get, cells, stor, Qb, splice, reduceIte, Nat.reduceAdd, Nat.reduceLeDiff, beq_self_eq_true, bt, bf0, bf1, ctV, QQ, w]
        exact hfin (Qai c 2) _ _ hs f2 f4 f5 rfl
      have b2 : (nm == [112, 114, 105, 118, 97, 116, 101]) = false := beq_eq_false_iff_ne.2 c2
      by_cases c3 : nm = [112, 117, 98, 108, 105, 99]
      · subst c3
        have bt : (([112, 117, 98, 108, 105, 99] : Bs) == [112, 117, 98, 108, 105, 99]) = true := rfl
        have bf0 : (([112, 117, 98, 108, 105, 99] : Bs) == [110, 111, 45, 115, 116, 111, 114, 101]) = false := rfl
        have bf1 : (([112, 117, 98, 108, 105, 99] : Bs) == [110, 111, 45, 99, 97, 99, 104, 101]) = false := rfl
        have bf2 : (([112, 117, 98, 108, 105, 99] : Bs) == [112, 114, 105, 118, 97, 116, 101]) = false := rfl
        have hs : Qq c y = Qai c 3 := by unfold Qq; rw [ha]; rfl
        simp (maxSteps := 4000000) only [vm, vl, Arg.get, cells, stor, Qb, splice, reduceIte, Nat.reduceAdd, Nat.reduceLeDiff, beq_self_eq_true, bt, bf0, bf1, bf2, ctV, QQ, w]
        exact hfin (Qai c 3) _ _ hs f2 f4 f5 rfl
      have b3 : (nm == [112, 117, 98, 108, 105, 99]) = false := beq_eq_false_iff_ne.2 c3
      by_cases c4 : nm = [109, 117, 115, 116, 45, 114, 101, 118, 97, 108, 105, 100, 97, 116, 101]
      · subst c4
        have bt : (([109, 117, 115, 116, 45, 114, 101, 118, 97, 108, 105, 100, 97, 116, 101] : Bs) == [109, 117, 115, 116, 45, 114, 101, 118, 97, 108, 105, 100, 97, 116, 101]) = true := rfl
        have bf0 : (([109, 117, 115, 116, 45, 114, 101, 118, 97, 108, 105, 100, 97, 116, 101] : Bs) == [110, 111, 45, 115, 116, 111, 114, 101]) = false := rfl
        have bf1 : (([109, 117, 115, 116, 45, 114, 101, 118, 97, 108, 105, 100, 97, 116, 101] : Bs) == [110, 111, 45, 99, 97, 99, 104, 101]) = false := rfl
        have bf2 : (([109, 117, 115, 116, 45, 114, 101, 118, 97, 108, 105, 100, 97, 116, 101] : Bs) == [112, 114, 105, 118, 97, 116, 101]) = false := rfl
        have bf3 : (([109, 117, 115, 116, 45, 114, 101, 118, 97, 108, 105, 100, 97, 116, 101] : Bs) == [112, 117, 98, 108, 105, 99]) = false := rfl
        have hs : Qq c y = Qai c 4 := by unfold Qq; rw [ha]; rfl
        simp (maxSteps := 4000000) only [vm, vl, Arg.get, cells, stor, Qb, splice, reduceIte, Nat.reduceAdd, Nat.reduceLeDiff, beq_self_eq_true, bt, bf0, bf1, bf2, bf3, ctV, QQ, w]
        exact hfin (Qai c 4) _ _ hs f2 f4 f5 rfl
      have b4 : (nm == [109, 117, 115, 116, 45, 114, 101, 118, 97, 108, 105, 100, 97, 116, 101]) = false := beq_eq_false_iff_ne.2 c4
      by_cases c5 : nm = [112, 114, 111, 120, 121, 45, 114, 101, 118, 97, 108, 105, 100, 97, 116, 101]
      · subst c5
        have bt : (([112, 114, 111, 120, 121, 45, 114, 101, 118, 97, 108, 105, 100, 97, 116, 101] : Bs) == [112, 114, 111, 120, 121, 45, 114, 101, 118, 97, 108, 105, 100, 97, 116, 101]) = true := rfl
        have bf0 : (([112, 114, 111, 120, 121, 45, 114, 101, 118, 97, 108, 105, 100, 97, 116, 101] : Bs) == [110, 111, 45, 115, 116, 111, 114, 101]) = false := rfl
        have bf1 : (([112, 114, 111, 120, 121, 45, 114, 101, 118, 97, 108, 105, 100, 97, 116, 101] : Bs) == [110, 111, 45, 99, 97, 99, 104, 101]) = false := rfl
        have bf2 : (([112, 114, 111, 120, 121, 45, 114, 101, 118, 97, 108, 105, 100, 97, 116, 101] : Bs) == [112, 114, 105, 118, 97, 116, 101]) = false := rfl
        have bf3 : (([112, 114, 111, 120, 121, 45, 114, 101, 118, 97, 108, 105, 100, 97, 116, 101] : Bs) == [112, 117, 98, 108, 105, 99]) = false := rfl
        have bf4 : (([112, 114, 111, 120, 121, 45, 114, 101, 118, 97, 108, 105, 100, 97, 116, 101] : Bs) == [109, 117, 115, 116, 45, 114, 101, 118, 97, 108, 105, 100, 97, 116, 101]) = false := rfl
        have hs : Qq c y = Qai c 5 := by unfold Qq; rw [ha]; rfl
        simp (maxSteps := 4000000) only [vm, vl, Arg.get, cells, stor, Qb, splice, reduceIte, Nat.reduceAdd, Nat.reduceLeDiff, beq_self_eq_true, bt, bf0, bf1, bf2, bf3, bf4, ctV, QQ, w]
        exact hfin (Qai c 5) _ _ hs f2 f4 f5 rfl
      have b5 : (nm == [112, 114, 111, 120, 121, 45, 114, 101, 118, 97, 108, 105, 100, 97, 116, 101]) = false := beq_eq_false_iff_ne.2 c5
      by_cases c6 : nm = [111, 110, 108, 121, 45, 105, 102, 45, 99, 97, 99, 104, 101, 100]
      · subst c6
        have bt : (([111, 110, 108, 121, 45, 105, 102, 45, 99, 97, 99, 104, 101, 100] : Bs) == [111, 110, 108, 121, 45, 105, 102, 45, 99, 97, 99, 104, 101, 100]) = true := rfl
        have bf0 : (([111, 110, 108, 121, 45, 105, 102, 45, 99, 97, 99, 104, 101, 100] : Bs) == [110, 111, 45, 115, 116, 111, 114, 101]) = false := rfl
        have bf1 : (([111, 110, 108, 121, 45, 105, 102, 45, 99, 97, 99, 104, 101, 100] : Bs) == [110, 111, 45, 99, 97, 99, 104, 101]) = false := rfl
        have bf2 : (([111, 110, 108, 121, 45, 105, 102, 45, 99, 97, 99, 104, 101, 100] : Bs) == [112, 114, 105, 118, 97, 116, 101]) = false := rfl
        have bf3 : (([111, 110, 108, 121, 45, 105, 102, 45, 99, 97, 99, 104, 101, 100] : Bs) == [112, 117, 98, 108, 105, 99]) = false := rfl
        have bf4 : (([111, 110, 108, 121, 45, 105, 102, 45, 99, 97, 99, 104, 101, 100] : Bs) == [109, 117, 115, 116, 45, 114, 101, 118, 97, 108, 105, 100, 97, 116, 101]) = false := rfl
        have bf5 : (([111, 110, 108, 121, 45, 105, 102, 45, 99, 97, 99, 104, 101, 100] : Bs) == [112, 114, 111, 120, 121, 45, 114, 101, 118, 97, 108, 105, 100, 97, 116, 101]) = false := rfl
        have hs : Qq c y = Qai c 6 := by unfold Qq; rw [ha]; rfl
        simp (maxSteps := 4000000) only [vm, vl, Arg.get, cells, stor, Qb, splice, reduceIte, Nat.reduceAdd, Nat.reduceLeDiff, beq_self_eq_true, bt, bf0, bf1, bf2, bf3, bf4, bf5, ctV, QQ, w]
        exact hfin (Qai c 6) _ _ hs f2 f4 f5 rfl
      have b6 : (nm == [111, 110, 108, 121, 45, 105, 102, 45, 99, 97, 99, 104, 101, 100]) = false := beq_eq_false_iff_ne.2 c6
      by_cases c7 : nm = [109, 97, 120, 45, 97, 103, 101]
      · subst c7
        have bt : (([109, 97, 120, 45, 97, 103, 101] : Bs) == [109, 97, 120, 45, 97, 103, 101]) = true := rfl
        have bf0 : (([109, 97, 120, 45, 97, 103, 101] : Bs) == [110, 111, 45, 115, 116, 111, 114, 101]) = false := rfl
        have bf1 : (([109, 97, 120, 45, 97, 103, 101] : Bs) == [110, 111, 45, 99, 97, 99, 104, 101]) = false := rfl
        have bf2 : (([109, 97, 120, 45, 97, 103, 101] : Bs) == [112, 114, 105, 118, 97, 116, 101]) = false := rfl
        have bf3 : (([109, 97, 120, 45, 97, 103, 101] : Bs) == [112, 117, 98, 108, 105, 99]) = false := rfl
        have bf4 : (([109, 97, 120, 45, 97, 103, 101] : Bs) == [109, 117, 115, 116, 45, 114, 101, 118, 97, 108, 105, 100, 97, 116, 101]) = false := rfl
        have bf5 : (([109, 97, 120, 45, 97, 103, 101] : Bs) == [112, 114, 111, 120, 121, 45, 114, 101, 118, 97, 108, 105, 100, 97, 116, 101]) = false := rfl
        have bf6 : (([109, 97, 120, 45, 97, 103, 101] : Bs) == [111, 110, 108, 121, 45, 105, 102, 45, 99, 97, 99, 104, 101, 100]) = false := rfl
        have ha2 : Qb8 y = if Qag text has 0 0 = -1 then .nop else .num 0 (Qag text has 0 0) := ha
        rw [hvs] at ha2
        by_cases ht : (t2 && has) = true
        · obtain ⟨rfl, rfl⟩ := ht3 ht
          rw [if_pos rfl, if_pos rfl, if_neg (by omega)] at ha2
          have bb : (true && true) = true := rfl
          have hs : Qq c y = Qat c 0 (lst (c.n 0) n1) := by unfold Qq; rw [ha2]; rfl
          simp (maxSteps := 4000000) only [vm, vl, Arg.get, cells, stor, Qb, splice, reduceIte, Nat.reduceAdd, Nat.reduceLeDiff, beq_self_eq_true, bt, bf0, bf1, bf2, bf3, bf4, bf5, bf6, bb, ctV, Bool.not_true, Bool.not_false, QiM]
          refine Cf.pu Qd1 fun u4 => ?_
          rw [QdP (hc 0)]
          simp (maxSteps := 4000000) only [vm, vl, Arg.get, Nat.reduceAdd, Nat.reduceLeDiff, ctV, QQ, w]
          exact hfin (Qat c 0 (lst (c.n 0) n1)) _ _ hs f2 f4 f5 rfl
        · have ht' : (t2 && has) = false := by simpa using ht
          have hz : (if has = true then if t2 = true then n1 else (0 : Int) else 0) = 0 := by
            cases has <;> cases t2 <;> first | rfl | (exact absurd rfl ht)
          rw [hz, if_neg (by decide)] at ha2
          have hs : Qq c y = Qat c 0 (lst (c.n 0) 0) := by unfold Qq; rw [ha2]; rfl
          simp (maxSteps := 4000000) only [vm, vl, Arg.get, cells, stor, Qb, splice, reduceIte, Nat.reduceAdd, Nat.reduceLeDiff, beq_self_eq_true, bt, bf0, bf1, bf2, bf3, bf4, bf5, bf6, ht', ctV, Bool.not_true, Bool.not_false, QiM]
          refine Cf.pu Qd1 fun u4 => ?_
          rw [QdP (hc 0)]
          simp (maxSteps := 4000000) only [vm, vl, Arg.get, Nat.reduceAdd, Nat.reduceLeDiff, ctV, QQ, w]
          exact hfin (Qat c 0 (lst (c.n 0) 0)) _ _ hs f2 f4 f5 rfl
      have b7 : (nm == [109, 97, 120, 45, 97, 103, 101]) = false := beq_eq_false_iff_ne.2 c7
      by_cases c8 : nm = [115, 45, 109, 97, 120, 97, 103, 101]
      · subst c8
        have bt : (([115, 45, 109, 97, 120, 97, 103, 101] : Bs) == [115, 45, 109, 97, 120, 97, 103, 101]) = true := rfl
        have bf0 : (([115, 45, 109, 97, 120, 97, 103, 101] : Bs) == [110, 111, 45, 115, 116, 111, 114, 101]) = false := rfl
        have bf1 : (([115, 45, 109, 97, 120, 97, 103, 101] : Bs) == [110, 111, 45, 99, 97, 99, 104, 101]) = false := rfl
        have bf2 : (([115, 45, 109, 97, 120, 97, 103, 101] : Bs) == [112, 114, 105, 118, 97, 116, 101]) = false := rfl
        have bf3 : (([115, 45, 109, 97, 120, 97, 103, 101] : Bs) == [112, 117, 98, 108, 105, 99]) = false := rfl
        have bf4 : (([115, 45, 109, 97, 120, 97, 103, 101] : Bs) == [109, 117, 115, 116, 45, 114, 101, 118, 97, 108, 105, 100, 97, 116, 101]) = false := rfl
        have bf5 : (([115, 45, 109, 97, 120, 97, 103, 101] : Bs) == [112, 114, 111, 120, 121, 45, 114, 101, 118, 97, 108, 105, 100, 97, 116, 101]) = false := rfl
        have bf6 : (([115, 45, 109, 97, 120, 97, 103, 101] : Bs) == [111, 110, 108, 121, 45, 105, 102, 45, 99, 97, 99, 104, 101, 100]) = false := rfl
        have bf7 : (([115, 45, 109, 97, 120, 97, 103, 101] : Bs) == [109, 97, 120, 45, 97, 103, 101]) = false := rfl
        have ha2 : Qb8 y = if Qag text has 0 0 = -1 then .nop else .num 1 (Qag text has 0 0) := ha
        rw [hvs] at ha2
        by_cases ht : (t2 && has) = true
        · obtain ⟨rfl, rfl⟩ := ht3 ht
          rw [if_pos rfl, if_pos rfl, if_neg (by omega)] at ha2
          have bb : (true && true) = true := rfl
          have hs : Qq c y = Qat c 1 (lst (c.n 1) n1) := by unfold Qq; rw [ha2]; rfl
          simp (maxSteps := 4000000) only [vm, vl, Arg.get, cells, stor, Qb, splice, reduceIte, Nat.reduceAdd, Nat.reduceLeDiff, beq_self_eq_true, bt, bf0, bf1, bf2, bf3, bf4, bf5, bf6, bf7, bb, ctV, Bool.not_true, Bool.not_false, Qkh]
          refine Cf.pu Qd1 fun u4 => ?_
          rw [QdP (hc 1)]
          simp (maxSteps := 4000000) only [vm, vl, Arg.get, Nat.reduceAdd, Nat.reduceLeDiff, ctV, QQ, w]
          exact hfin (Qat c 1 (lst (c.n 1) n1)) _ _ hs f2 f4 f5 rfl
        · have ht' : (t2 && has) = false := by simpa using ht
          have hz : (if has = true then if t2 = true then n1 else (0 : Int) else 0) = 0 := by
            cases has <;> cases t2 <;> first | rfl | (exact absurd rfl ht)
          rw [hz, if_neg (by decide)] at ha2
          have hs : Qq c y = Qat c 1 (lst (c.n 1) 0) := by unfold Qq; rw [ha2]; rfl
          simp (maxSteps := 4000000) only [vm, vl, Arg.get, cells, stor, Qb, splice, reduceIte, Nat.reduceAdd, Nat.reduceLeDiff, beq_self_eq_true, bt, bf0, bf1, bf2, bf3, bf4, bf5, bf6, bf7, ht', ctV, Bool.not_true, Bool.not_false, Qkh]
          refine Cf.pu Qd1 fun u4 => ?_
          rw [QdP (hc 1)]
          simp (maxSteps := 4000000) only [vm, vl, Arg.get, Nat.reduceAdd, Nat.reduceLeDiff, ctV, QQ, w]
          exact hfin (Qat c 1 (lst (c.n 1) 0)) _ _ hs f2 f4 f5 rfl
      have b8 : (nm == [115, 45, 109, 97, 120, 97, 103, 101]) = false := beq_eq_false_iff_ne.2 c8
      by_cases c9 : nm = [115, 116, 97, 108, 101, 45, 119, 104, 105, 108, 101, 45, 114, 101, 118, 97, 108, 105, 100, 97, 116, 101]
      · subst c9
        have bt : (([115, 116, 97, 108, 101, 45, 119, 104, 105, 108, 101, 45, 114, 101, 118, 97, 108, 105, 100, 97, 116, 101] : Bs) == [115, 116, 97, 108, 101, 45, 119, 104, 105, 108, 101, 45, 114, 101, 118, 97, 108, 105, 100, 97, 116, 101]) = true := rfl
        have bf0 : (([115, 116, 97, 108, 101, 45, 119, 104, 105, 108, 101, 45, 114, 101, 118, 97, 108, 105, 100, 97, 116, 101] : Bs) == [110, 111, 45, 115, 116, 111, 114, 101]) = false := rfl
        have bf1 : (([115, 116, 97, 108, 101, 45, 119, 104, 105, 108, 101, 45, 114, 101, 118, 97, 108, 105, 100, 97, 116, 101] : Bs) == [110, 111, 45, 99, 97, 99, 104, 101]) = false := rfl
        have bf2 : (([115, 116, 97, 108, 101, 45, 119, 104, 105, 108, 101, 45, 114, 101, 118, 97, 108, 105, 100, 97, 116, 101] : Bs) == [112, 114, 105, 118, 97, 116, 101]) = false := rfl
        have bf3 : (([115, 116, 97, 108, 101, 45, 119, 104, 105, 108, 101, 45, 114, 101, 118, 97, 108, 105, 100, 97, 116, 101] : Bs) == [112, 117, 98, 108, 105, 99]) = false := rfl
        have bf4 : (([115, 116, 97, 108, 101, 45, 119, 104, 105, 108, 101, 45, 114, 101, 118, 97, 108, 105, 100, 97, 116, 101] : Bs) == [109, 117, 115, 116, 45, 114, 101, 118, 97, 108, 105, 100, 97, 116, 101]) = false := rfl
        have bf5 : (([115, 116, 97, 108, 101, 45, 119, 104, 105, 108, 101, 45, 114, 101, 118, 97, 108, 105, 100, 97, 116, 101] : Bs) == [112, 114, 111, 120, 121, 45, 114, 101, 118, 97, 108, 105, 100, 97, 116, 101]) = false := rfl
        have bf6 : (([115, 116, 97, 108, 101, 45, 119, 104, 105, 108, 101, 45, 114, 101, 118, 97, 108, 105, 100, 97, 116, 101] : Bs) == [111, 110, 108, 121, 45, 105, 102, 45, 99, 97, 99, 104, 101, 100]) = false := rfl
        have bf7 : (([115, 116, 97, 108, 101, 45, 119, 104, 105, 108, 101, 45, 114, 101, 118, 97, 108, 105, 100, 97, 116, 101] : Bs) == [109, 97, 120, 45, 97, 103, 101]) = false := rfl
        have bf8 : (([115, 116, 97, 108, 101, 45, 119, 104, 105, 108, 101, 45, 114, 101, 118, 97, 108, 105, 100, 97, 116, 101] : Bs) == [115, 45, 109, 97, 120, 97, 103, 101]) = false := rfl
        have ha2 : Qb8 y = if Qag text has (-1) (-1) = -1 then .nop else .num 2 (Qag text has (-1) (-1)) := ha
        rw [hvs] at ha2
        by_cases ht : (t2 && has) = true
        · obtain ⟨rfl, rfl⟩ := ht3 ht
          rw [if_pos rfl, if_pos rfl, if_neg (by omega)] at ha2
          have bb : (true && true) = true := rfl
          have hs : Qq c y = Qat c 2 (lst (c.n 2) n1) := by unfold Qq; rw [ha2]; rfl
          simp (maxSteps := 4000000) only [vm, vl, Arg.get, cells, stor, Qb, splice, reduceIte, Nat.reduceAdd, Nat.reduceLeDiff, beq_self_eq_true, bt, bf0, bf1, bf2, bf3, bf4, bf5, bf6, bf7, bf8, bb, ctV, Bool.not_true, Bool.not_false]
          refine Cf.pu Qd1 fun u4 => ?_
          rw [QdP (hc 2)]
          simp (maxSteps := 4000000) only [vm, vl, Arg.get, cells, stor, splice, Nat.reduceAdd, Nat.reduceLeDiff, ctV, QQ, w, QvH]
          exact hfin (Qat c 2 (lst (c.n 2) n1)) _ _ hs f2 f4 f5 rfl
        · have ht' : (t2 && has) = false := by simpa using ht
          have hz : (if has = true then if t2 = true then n1 else (-1 : Int) else -1) = -1 := by
            cases has <;> cases t2 <;> first | rfl | (exact absurd rfl ht)
          rw [hz, if_pos rfl] at ha2
          have hs : Qq c y = c := by unfold Qq; rw [ha2]; rfl
          simp (maxSteps := 4000000) only [vm, vl, Arg.get, cells, stor, Qb, splice, reduceIte, Nat.reduceAdd, Nat.reduceLeDiff, beq_self_eq_true, bt, bf0, bf1, bf2, bf3, bf4, bf5, bf6, bf7, bf8, ht', ctV, Bool.not_true, Bool.not_false, QQ, w]
          exact hfin c _ _ hs f2 f4 f5 rfl
      have b9 : (nm == [115, 116, 97, 108, 101, 45, 119, 104, 105, 108, 101, 45, 114, 101, 118, 97, 108, 105, 100, 97, 116, 101]) = false := beq_eq_false_iff_ne.2 c9
      by_cases c10 : nm = [115, 116, 97, 108, 101, 45, 105, 102, 45, 101, 114, 114, 111, 114]
      · subst c10
        have bt : (([115, 116, 97, 108, 101, 45, 105, 102, 45, 101, 114, 114, 111, 114] : Bs) == [115, 116, 97, 108, 101, 45, 105, 102, 45, 101, 114, 114, 111, 114]) = true := rfl
        have bf0 : (([115, 116, 97, 108, 101, 45, 105, 102, 45, 101, 114, 114, 111, 114] : Bs) == [110, 111, 45, 115, 116, 111, 114, 101]) = false := rfl
        have bf1 : (([115, 116, 97, 108, 101, 45, 105, 102, 45, 101, 114, 114, 111, 114] : Bs) == [110, 111, 45, 99, 97, 99, 104, 101]) = false := rfl
        have bf2 : (([115, 116, 97, 108, 101, 45, 105, 102, 45, 101, 114, 114, 111, 114] : Bs) == [112, 114, 105, 118, 97, 116, 101]) = false := rfl
        have bf3 : (([115, 116, 97, 108, 101, 45, 105, 102, 45, 101, 114, 114, 111, 114] : Bs) == [112, 117, 98, 108, 105, 99]) = false := rfl
        have bf4 : (([115, 116, 97, 108, 101, 45, 105, 102, 45, 101, 114, 114, 111, 114] : Bs) == [109, 117, 115, 116, 45, 114, 101, 118, 97, 108, 105, 100, 97, 116, 101]) = false := rfl
        have bf5 : (([115, 116, 97, 108, 101, 45, 105, 102, 45, 101, 114, 114, 111, 114] : Bs) == [112, 114, 111, 120, 121, 45, 114, 101, 118, 97, 108, 105, 100, 97, 116, 101]) = false := rfl
        have bf6 : (([115, 116, 97, 108, 101, 45, 105, 102, 45, 101, 114, 114, 111, 114] : Bs) == [111, 110, 108, 121, 45, 105, 102, 45, 99, 97, 99, 104, 101, 100]) = false := rfl
        have bf7 : (([115, 116, 97, 108, 101, 45, 105, 102, 45, 101, 114, 114, 111, 114] : Bs) == [109, 97, 120, 45, 97, 103, 101]) = false := rfl
        have bf8 : (([115, 116, 97, 108, 101, 45, 105, 102, 45, 101, 114, 114, 111, 114] : Bs) == [115, 45, 109, 97, 120, 97, 103, 101]) = false := rfl
        have bf9 : (([115, 116, 97, 108, 101, 45, 105, 102, 45, 101, 114, 114, 111, 114] : Bs) == [115, 116, 97, 108, 101, 45, 119, 104, 105, 108, 101, 45, 114, 101, 118, 97, 108, 105, 100, 97, 116, 101]) = false := rfl
        have ha2 : Qb8 y = if Qag text has (-1) (-1) = -1 then .nop else .num 3 (Qag text has (-1) (-1)) := ha
        rw [hvs] at ha2
        by_cases ht : (t2 && has) = true
        · obtain ⟨rfl, rfl⟩ := ht3 ht
          rw [if_pos rfl, if_pos rfl, if_neg (by omega)] at ha2
          have bb : (true && true) = true := rfl
          have hs : Qq c y = Qat c 3 (lst (c.n 3) n1) := by unfold Qq; rw [ha2]; rfl
          simp (maxSteps := 4000000) only [vm, vl, Arg.get, cells, stor, Qb, splice, reduceIte, Nat.reduceAdd, Nat.reduceLeDiff, beq_self_eq_true, bt, bf0, bf1, bf2, bf3, bf4, bf5, bf6, bf7, bf8, bf9, bb, ctV, Bool.not_true, Bool.not_false]
          refine Cf.pu Qd1 fun u4 => ?_
          rw [QdP (hc 3)]
          simp (maxSteps := 4000000) only [vm, vl, Arg.get, cells, stor, splice, Nat.reduceAdd, Nat.reduceLeDiff, ctV, QQ, w, QtO]
          exact hfin (Qat c 3 (lst (c.n 3) n1)) _ _ hs f2 f4 f5 rfl
        · have ht' : (t2 && has) = false := by simpa using ht
          have hz : (if has = true then if t2 = true then n1 else (-1 : Int) else -1) = -1 := by
            cases has <;> cases t2 <;> first | rfl | (exact absurd rfl ht)
          rw [hz, if_pos rfl] at ha2
          have hs : Qq c y = c := by unfold Qq; rw [ha2]; rfl
          simp (maxSteps := 4000000) only [vm, vl, Arg.get, cells, stor, Qb, splice, reduceIte, Nat.reduceAdd, Nat.reduceLeDiff, beq_self_eq_true, bt, bf0, bf1, bf2, bf3, bf4, bf5, bf6, bf7, bf8, bf9, ht', ctV, Bool.not_true, Bool.not_false, QQ, w]
          exact hfin c _ _ hs f2 f4 f5 rfl
      have b10 : (nm == [115, 116, 97, 108, 101, 45, 105, 102, 45, 101, 114, 114, 111, 114]) = false := beq_eq_false_iff_ne.2 c10
      by_cases c11 : nm = [109, 105, 110, 45, 102, 114, 101, 115, 104]
      · subst c11
        have bt : (([109, 105, 110, 45, 102, 114, 101, 115, 104] : Bs) == [109, 105, 110, 45, 102, 114, 101, 115, 104]) = true := rfl
        have bf0 : (([109, 105, 110, 45, 102, 114, 101, 115, 104] : Bs) == [110, 111, 45, 115, 116, 111, 114, 101]) = false := rfl
        have bf1 : (([109, 105, 110, 45, 102, 114, 101, 115, 104] : Bs) == [110, 111, 45, 99, 97, 99, 104, 101]) = false := rfl
        have bf2 : (([109, 105, 110, 45, 102, 114, 101, 115, 104] : Bs) == [112, 114, 105, 118, 97, 116, 101]) = false := rfl
        have bf3 : (([109, 105, 110, 45, 102, 114, 101, 115, 104] : Bs) == [112, 117, 98, 108, 105, 99]) = false := rfl
        have bf4 : (([109, 105, 110, 45, 102, 114, 101, 115, 104] : Bs) == [109, 117, 115, 116, 45, 114, 101, 118, 97, 108, 105, 100, 97, 116, 101]) = false := rfl
        have bf5 : (([109, 105, 110, 45, 102, 114, 101, 115, 104] : Bs) == [112, 114, 111, 120, 121, 45, 114, 101, 118, 97, 108, 105, 100, 97, 116, 101]) = false := rfl
        have bf6 : (([109, 105, 110, 45, 102, 114, 101, 115, 104] : Bs) == [111, 110, 108, 121, 45, 105, 102, 45, 99, 97, 99, 104, 101, 100]) = false := rfl
        have bf7 : (([109, 105, 110, 45, 102, 114, 101, 115, 104] : Bs) == [109, 97, 120, 45, 97, 103, 101]) = false := rfl
        have bf8 : (([109, 105, 110, 45, 102, 114, 101, 115, 104] : Bs) == [115, 45, 109, 97, 120, 97, 103, 101]) = false := rfl
        have bf9 : (([109, 105, 110, 45, 102, 114, 101, 115, 104] : Bs) == [115, 116, 97, 108, 101, 45, 119, 104, 105, 108, 101, 45, 114, 101, 118, 97, 108, 105, 100, 97, 116, 101]) = false := rfl
        have bf10 : (([109, 105, 110, 45, 102, 114, 101, 115, 104] : Bs) == [115, 116, 97, 108, 101, 45, 105, 102, 45, 101, 114, 114, 111, 114]) = false := rfl
        have ha2 : Qb8 y = if Qag text has (-1) (-1) = -1 then .nop else .num 4 (Qag text has (-1) (-1)) := ha
        rw [hvs] at ha2
        by_cases ht : (t2 && has) = true
        · obtain ⟨rfl, rfl⟩ := ht3 ht
          rw [if_pos rfl, if_pos rfl, if_neg (by omega)] at ha2
          have bb : (true && true) = true := rfl
          have hs : Qq c y = Qat c 4 (lst (c.n 4) n1) := by unfold Qq; rw [ha2]; rfl
          simp (maxSteps := 4000000) only [vm, vl, Arg.get, cells, stor, Qb, splice, reduceIte, Nat.reduceAdd, Nat.reduceLeDiff, beq_self_eq_true, bt, bf0, bf1, bf2, bf3, bf4, bf5, bf6, bf7, bf8, bf9, bf10, bb, ctV, Bool.not_true, Bool.not_false]
          refine Cf.pu Qd1 fun u4 => ?_
          rw [QdP (hc 4)]
          simp (maxSteps := 4000000) only [vm, vl, Arg.get, cells, stor, splice, Nat.reduceAdd, Nat.reduceLeDiff, ctV, QQ, w, QtB]
          exact hfin (Qat c 4 (lst (c.n 4) n1)) _ _ hs f2 f4 f5 rfl
        · have ht' : (t2 && has) = false := by simpa using ht
          have hz : (if has = true then if t2 = true then n1 else (-1 : Int) else -1) = -1 := by
            cases has <;> cases t2 <;> first | rfl | (exact absurd rfl ht)
          rw [hz, if_pos rfl] at ha2
          have hs : Qq c y = c := by unfold Qq; rw [ha2]; rfl
          simp (maxSteps := 4000000) only [vm, vl, Arg.get, cells, stor, Qb, splice, reduceIte, Nat.reduceAdd, Nat.reduceLeDiff, beq_self_eq_true, bt, bf0, bf1, bf2, bf3, bf4, bf5, bf6, bf7, bf8, bf9, bf10, ht', ctV, Bool.not_true, Bool.not_false, QQ, w]
          exact hfin c _ _ hs f2 f4 f5 rfl
      have b11 : (nm == [109, 105, 110, 45, 102, 114, 101, 115, 104]) = false := beq_eq_false_iff_ne.2 c11
      by_cases c12 : nm = [109, 97, 120, 45, 115, 116, 97, 108, 101]
      · subst c12
        have bt : (([109, 97, 120, 45, 115, 116, 97, 108, 101] : Bs) == [109, 97, 120, 45, 115, 116, 97, 108, 101]) = true := rfl
        have bf0 : (([109, 97, 120, 45, 115, 116, 97, 108, 101] : Bs) == [110, 111, 45, 115, 116, 111, 114, 101]) = false := rfl
        have bf1 : (([109, 97, 120, 45, 115, 116, 97, 108, 101] : Bs) == [110, 111, 45, 99, 97, 99, 104, 101]) = false := rfl
        have bf2 : (([109, 97, 120, 45, 115, 116, 97, 108, 101] : Bs) == [112, 114, 105, 118, 97, 116, 101]) = false := rfl
        have bf3 : (([109, 97, 120, 45, 115, 116, 97, 108, 101] : Bs) == [112, 117, 98, 108, 105, 99]) = false := rfl
        have bf4 : (([109, 97, 120, 45, 115, 116, 97, 108, 101] : Bs) == [109, 117, 115, 116, 45, 114, 101, 118, 97, 108, 105, 100, 97, 116, 101]) = false := rfl
        have bf5 : (([109, 97, 120, 45, 115, 116, 97, 108, 101] : Bs) == [112, 114, 111, 120, 121, 45, 114, 101, 118, 97, 108, 105, 100, 97, 116, 101]) = false := rfl
        have bf6 : (([109, 97, 120, 45, 115, 116, 97, 108, 101] : Bs) == [111, 110, 108, 121, 45, 105, 102, 45, 99, 97, 99, 104, 101, 100]) = false := rfl
        have bf7 : (([109, 97, 120, 45, 115, 116, 97, 108, 101] : Bs) == [109, 97, 120, 45, 97, 103, 101]) = false := rfl
        have bf8 : (([109, 97, 120, 45, 115, 116, 97, 108, 101] : Bs) == [115, 45, 109, 97, 120, 97, 103, 101]) = false := rfl
        have bf9 : (([109, 97, 120, 45, 115, 116, 97, 108, 101] : Bs) == [115, 116, 97, 108, 101, 45, 119, 104, 105, 108, 101, 45, 114, 101, 118, 97, 108, 105, 100, 97, 116, 101]) = false := rfl
        have bf10 : (([109, 97, 120, 45, 115, 116, 97, 108, 101] : Bs) == [115, 116, 97, 108, 101, 45, 105, 102, 45, 101, 114, 114, 111, 114]) = false := rfl
        have bf11 : (([109, 97, 120, 45, 115, 116, 97, 108, 101] : Bs) == [109, 105, 110, 45, 102, 114, 101, 115, 104]) = false := rfl
        have ha2 : Qb8 y = if Qag text has 2147483648 (-1) = -1 then .nop else .num 5 (Qag text has 2147483648 (-1)) := ha
        rw [hvs] at ha2
        by_cases ht : (t2 && has) = true
        · obtain ⟨rfl, rfl⟩ := ht3 ht
          rw [if_pos rfl, if_pos rfl, if_neg (by omega)] at ha2
          have bb : (true && true) = true := rfl
          have hs : Qq c y = Qat c 5 (lst (c.n 5) n1) := by unfold Qq; rw [ha2]; rfl
          simp (maxSteps := 4000000) only [vm, vl, Arg.get, cells, stor, Qb, splice, reduceIte, Nat.reduceAdd, Nat.reduceLeDiff, beq_self_eq_true, bt, bf0, bf1, bf2, bf3, bf4, bf5, bf6, bf7, bf8, bf9, bf10, bf11, bb, ctV, Bool.not_true, Bool.not_false]
          refine Cf.pu Qd1 fun u4 => ?_
          rw [QdP (hc 5)]
          simp (maxSteps := 4000000) only [vm, vl, Arg.get, cells, stor, splice, Nat.reduceAdd, ctV, QQ, w, Qvh]
          exact hfin (Qat c 5 (lst (c.n 5) n1)) _ _ hs f2 f4 f5 rfl
        · have ht' : (t2 && has) = false := by simpa using ht
          cases has with
          | false =>
          have hz : (if (false : Bool) = true then (if t2 = true then n1 else (-1 : Int)) else 2147483648) = 2147483648 := rfl
          rw [hz, if_neg (by decide)] at ha2
          have hs : Qq c y = Qat c 5 (lst (c.n 5) 2147483648) := by unfold Qq; rw [ha2]; rfl
          simp (maxSteps := 4000000) only [vm, vl, Arg.get, cells, stor, Qb, splice, reduceIte, Nat.reduceAdd, Nat.reduceLeDiff, beq_self_eq_true, bt, bf0, bf1, bf2, bf3, bf4, bf5, bf6, bf7, bf8, bf9, bf10, bf11, ht', ctV, Bool.not_true, Bool.not_false]
          refine Cf.pu Qd1 fun u4 => ?_
          rw [QdP (hc 5)]
          simp (maxSteps := 4000000) only [vm, vl, Arg.get, cells, stor, splice, Nat.reduceAdd, ctV, QQ, w, Quj]
          exact hfin (Qat c 5 (lst (c.n 5) 2147483648)) _ _ hs f2 f4 f5 rfl
          | true =>
          have ht2 : t2 = false := by cases t2 <;> first | rfl | (exact absurd rfl ht)
          subst ht2
          have hz : (if (true : Bool) = true then (if (false : Bool) = true then n1 else (-1 : Int)) else 2147483648) = -1 := rfl
          rw [hz, if_pos rfl] at ha2
          have bb : (false && true) = false := rfl
          have hs : Qq c y = c := by unfold Qq; rw [ha2]; rfl
          simp (maxSteps := 4000000) only [vm, vl, Arg.get, cells, stor, Qb, splice, reduceIte, Nat.reduceAdd, Nat.reduceLeDiff, beq_self_eq_true, bt, bf0, bf1, bf2, bf3, bf4, bf5, bf6, bf7, bf8, bf9, bf10, bf11, bb, ctV, Bool.not_true, Bool.not_false, QQ, w]
          exact hfin c _ _ hs f2 f4 f5 rfl
      have b12 : (nm == [109, 97, 120, 45, 115, 116, 97, 108, 101]) = false := beq_eq_false_iff_ne.2 c12
      have hr : QbZ nm = .no := by
        unfold QbZ Qgw
        simp only [List.lookup, b0, b1, b2, b3, b4, b5, b6, b7, b8, b9, b10, b11, b12, Option.getD_none]
      have hs : Qq c y = c := by unfold Qq; rw [ha, hr]; rfl
      simp (maxSteps := 4000000) only [vm, vl, Arg.get, cells, stor, Qb, splice, reduceIte, Nat.reduceAdd, b0, b1, b2, b3, b4, b5, b6, b7, b8, b9, b10, b11, b12, QQ, w]
      exact hfin c _ _ hs f2 f4 f5 rfl
    cases t2 with
    | false =>
      simp (maxSteps := 4000000) only [vm, vl, reduceIte]
      refine Cf.pu (hlo _) fun u3 => ?_
      have e9 : ∀ T : Heap, h ++ O.box cs :: A :: O.box (ctV c) :: T ++ u3 = h ++ (O.box cs :: A :: O.box (ctV c) :: (T ++ u3)) := fun T => by simp
      show Qix L _ _ _ _ _ _ _ _ _ _ _ _ _ _ _
      rw [e9]
      refine base _ _ ?_ ?_ ?_ _ _ _ <;> first | exact e2 | exact e4 | exact e5
    | true =>
      simp (maxSteps := 4000000) only [vm, vl, Arg.get, reduceIte]
      refine Cf.pu (hlo _) fun u3 => ?_
      have e9 : ∀ T : Heap, h ++ O.box cs :: A :: O.box (ctV c) :: T ++ u3 = h ++ (O.box cs :: A :: O.box (ctV c) :: (T ++ u3)) := fun T => by simp
      show Qix L _ _ _ _ _ _ _ _ _ _ _ _ _ _ _
      rw [e9]
      refine base _ _ ?_ ?_ ?_ _ _ _ <;> first | exact e2 | exact e4 | exact e5
end Go.Proofs.YtaahialaegfjgaaGreatDoor.Vh
end
section
set_option linter.unusedVariables false
set_option linter.unusedSimpArgs false
namespace Go.Proofs.YtaahialaegfjgaaGreatDoor.Vh
open Go.Vm Go.Vt
attribute [local congr] QF QI QE QG QD QJ
variable {L : QL} {h : Heap}
theorem QAJ : ∀ j, -1 ≤ ct0.n j := fun j => Int.le_refl _
theorem QDq {s : Bs} (hs : s.length < 1000000) : Cf F L Qfr [.str s] h (Pu h (QdX (Qc6 s))) := by
  refine Qzd ?_
  simp only [Qm6]
  
  simp (maxSteps := 4000000) only [vm, vl, Arg.get]
  refine (QvI).mono fun v h' hv => ?_
  obtain ⟨rfl, rfl⟩ := hv
  have hc13 := QaM ct0
  have hd13 : List.drop 13 (ctV ct0) = [] := rfl
  unfold Qum
  simp (maxSteps := 4000000) only [vm, vl, Arg.get, cells, stor, splice, Nat.reduceAdd, hc13]
  refine (QhT (s := s) (by omega)).mono fun v h' hp => ?_
  obtain ⟨⟨u1, rfl⟩, hv⟩ := hp
  unfold Qtd Qc6
  cases hsp : split s with
  | none =>
    rw [hsp] at hv
    rcases hv with ⟨_, rfl⟩ | ⟨out, x, hh, _⟩
    · simp (maxSteps := 4000000) only [vm, vl, Arg.get, cells, stor, Qa, Qc, Qb, QA, Vm.part, splice, reduceIte, Nat.reduceEqDiff, Nat.reduceAdd, Nat.reduceLeDiff, ctV, Bool.not_false]
      rfl
    · cases hh
  | some l =>
    rw [hsp] at hv
    rcases hv with ⟨hh, _⟩ | ⟨out, x, hh, rfl, hx⟩
    · cases hh
    · injection hh with hh; subst hh
      simp (maxSteps := 4000000) only [vm, vl, Arg.get, cells, stor, Qa, Qc, Qb, QA, Vm.part, splice, reduceIte, Nat.reduceEqDiff, Nat.reduceAdd, Nat.reduceLeDiff, Bool.not_true]
      unfold Qu0
      have hlen : l.length < 100000000 := by
        have := QdZ (Nat.le_refl _) (show Qah s [] false [] = some l from hsp)
        simp at this; omega
      have hmem := QgA hsp
      have hbs : ∀ x ∈ l, x.length < 100000000 := fun x hx => by have := hmem x hx; omega
      refine Qx0 (Qio h l x) (fun n e h' hI => QDW hx hlen hbs hI) (n := l.length) ⟨0, ct0, _, _, _, by simp, by simp, QAJ, rfl, rfl, rfl, rfl, ⟨_, rfl, rfl⟩, rfl, by simp⟩
end Go.Proofs.YtaahialaegfjgaaGreatDoor.Vh
end
section
set_option linter.unusedVariables false
set_option linter.unusedSimpArgs false
namespace Go.Proofs.YtaahialaegfjgaaGreatDoor.Vh
open Go.Vm Go.Vt
attribute [local congr] QF QI QE QG QD QJ
variable {L : QL} {h : Heap}
abbrev Fld := Bs × Bs
def Q1 (f : Fld) : V := .agg [.str f.1, .str f.2]
def flds (l : List Fld) : List V := l.map Q1
theorem Q7 (l : List Fld) : (flds l).length = l.length := by simp [flds]
theorem QjY (l : List Fld) (f : Fld) : flds l ++ [Q1 f] = flds (l ++ [f]) := by simp [flds]
theorem Qdf {l : List Fld} {i : Nat} (hi : i < l.length) : (flds l).getD i (.tup []) = Q1 (l.getD i ([], [])) := by
  unfold flds
  rw [List.getD_eq_getElem?_getD, List.getD_eq_getElem?_getD, List.getElem?_map, List.getElem?_eq_getElem hi]; rfl
theorem QbX {α : Type} {l : List α} {i : Nat} (d : α) (hi : i ≤ l.length) : (¬ (i : Int) < l.length ∧ i = l.length ∧ l.drop i = []) ∨ ((i : Int) < l.length ∧ i < l.length ∧ l.drop i = l.getD i d :: l.drop (i + 1) ∧ l.take (i + 1) = l.take i ++ [l.getD i d]) := by
  rcases Nat.lt_or_eq_of_le hi with h | h
  · have e : l.getD i d = l[i] := by rw [List.getD_eq_getElem?_getD, List.getElem?_eq_getElem h, Option.getD_some]
    exact .inr ⟨by omega, h, by rw [e]; exact List.drop_eq_getElem_cons h, by rw [e, List.take_add_one, List.getElem?_eq_getElem h]; rfl⟩
  · exact .inl ⟨by omega, h, by rw [h]; simp⟩
theorem QFG {x : V} {l : List Fld} {g : FuncId} {caps : List V} {p : Fld → Bool} (hx : Qf 2 x (flds l)) (hl : l.length < 1000000000) (hg : ∀ f ∈ l, ∀ t, Cf F L g ([Q1 f] ++ caps) (h ++ t) (Pu (h ++ t) (.bool (p f)))) :
    Cf F L Qf6 [x, .fn g caps] h (fun v h' => Grow 2 h h' v (flds (l.filter p))) := by
  refine Qxv ?_
  simp only [Qo1]
  have l1 := fun {K : QK} {h : Heap} => hx.len (F := F) (L := L) (e := E0) (K := K) (h := h)
  simp only [Q7] at l1
  simp (maxSteps := 4000000) only [vm, vl, Qfv, Qf8, QgG, l1]
  refine QGD (fun n e h' => ∃ i, n = l.length - i ∧ i ≤ l.length ∧ e 1 = .fn g caps ∧ e 8 = x ∧ e 9 = .int .i64 l.length ∧ e 10 = .int .i64 i ∧ Grow 2 h h' (e 5) (flds ((l.take i).filter p))) ?_ (n := l.length) ⟨0, by simp, by simp, rfl, rfl, rfl, rfl, .nil0⟩
  rintro n e h' ⟨i, rfl, hi, e1, e8, e9, e10, G⟩
  simp only [Qmg]
  generalize e5 : e 5 = x5 at *
  rcases QbX ([], []) hi with ⟨hn, rfl, hd⟩ | ⟨hl1, hl2, hd, htk⟩
  · simp (maxSteps := 4000000) only [vm, vl, Arg.get, cells, stor, Qb, splice, reduceIte, Nat.reduceEqDiff, Nat.reduceAdd, Qfv, Qf8, QgG, e1, e5, e8, e9, e10, hn]
    simpa using G
  · have w := Qe (x := (i : Int) + 1) (by omega) (by omega)
    have i1 := fun {K : QK} {h : Heap} => hx.at (F := F) (L := L) (e := E0) (K := K) (h := h) (i := i) (by rw [Q7]; exact hl2)
    have a1 := Qdf hl2
    have hmem : l.getD i ([], []) ∈ l := by
      rw [List.getD_eq_getElem?_getD, List.getElem?_eq_getElem hl2]; exact List.getElem_mem _
    obtain ⟨⟨t0, rfl⟩, _⟩ := id G
    generalize hf : l.getD i ([], []) = f at *
    simp (maxSteps := 4000000) only [vm, vl, Arg.get, cells, stor, Qb, splice, reduceIte, Nat.reduceEqDiff, Nat.reduceAdd, Qfv, Qf8, QgG, e1, e5, e8, e9, e10, hl1, i1, a1, Q1]
    have hc := hg f hmem (t0 ++ [O.box [.str f.1, .str f.2]])
    simp only [Q1, List.singleton_append] at hc
    refine Cf.pu hc fun t1 => ?_
    have G2 := G.more (t := [O.box [.str f.1, .str f.2]] ++ t1)
    have hb : (h ++ (t0 ++ O.box [.str f.1, .str f.2] :: t1))[h.length + t0.length]? = some (.box [.str f.1, .str f.2]) := by
      rw [← List.append_assoc, List.getElem?_append_right (by simp)]; simp
    cases hp : p f with
    | false =>
      simp (maxSteps := 4000000) only [vm, vl, Nat.reduceAdd, Qfv, Qf8, QgG, hp, w]
      refine ⟨l.length - (i + 1), by omega, i + 1, rfl, hl2, rfl, ?_⟩
      rw [htk, List.filter_append]
      simpa [hp] using G2
    | true =>
      obtain ⟨x', h'', ha, G3⟩ := G2.app (bytes := 32) (y := Q1 f) (by rw [Q7]; have := List.length_filter_le p (l.take i); simp at this; omega)
      rw [QjY] at G3
      simp only [Q1] at ha
      simp only [List.append_assoc, List.cons_append, List.nil_append] at ha
      simp (maxSteps := 4000000) only [vm, vl, Nat.reduceAdd, Qfv, Qf8, QgG, hp, w, hb, ha]
      refine ⟨l.length - (i + 1), by omega, i + 1, rfl, hl2, rfl, ?_⟩
      rw [htk, List.filter_append]
      simpa [hp] using G3
def Qdn (ks : List Bs) : List (V × V) := ks.map fun k => (.str k, .bool true)
def Qfo (ks : List Bs) (k : Bs) : List Bs := if k ∈ ks then ks else ks ++ [k]
theorem QoY {k : Bs} : ∀ {ks : List Bs} {n : Nat}, ∃ r, QbE .s (.str k) (Qdn ks) n = some r ∧ ((k ∈ ks ∧ ∃ i, r = some (n + i, .bool true) ∧ ks[i]? = some k) ∨ (k ∉ ks ∧ r = none))
  | [], n => ⟨none, rfl, .inr ⟨by simp, rfl⟩⟩
  | a :: ks, n => by
    by_cases h : k = a
    · subst h
      exact ⟨some (n, .bool true), by simp [Qdn, QbE, QaF], .inl ⟨by simp, 0, by simp, rfl⟩⟩
    · obtain ⟨r, h1, h2⟩ := QoY (k := k) (ks := ks) (n := n + 1)
      refine ⟨r, ?_, ?_⟩
      · have : (k == a) = false := by simpa using h
        simp only [Qdn, List.map_cons, QbE, QaF, this, Option.bind_some]
        exact h1
      · rcases h2 with ⟨h3, i, h4, h5⟩ | ⟨h3, h4⟩
        · exact .inl ⟨by simp [h3], i + 1, by rw [h4]; congr 2; omega, by simpa using h5⟩
        · exact .inr ⟨by simp [h, h3], h4⟩
theorem QGt {k : Bs} {ks : List Bs} : Qfh .s (.str k) (.bool true) (Qdn ks) = some (Qdn (Qfo ks k)) := by
  obtain ⟨r, h1, h2⟩ := QoY (k := k) (ks := ks) (n := 0)
  rcases h2 with ⟨h3, i, rfl, h5⟩ | ⟨h3, rfl⟩
  · simp only [Qfh, h1, Option.map_some, Qfo, if_pos h3]
    congr 1
    have hi := (List.getElem?_eq_some_iff.1 h5).1
    apply List.ext_getElem?
    intro j
    rw [List.getElem?_set]
    by_cases hj : 0 + i = j
    · subst hj
      simp [Qdn, hi]
      exact (List.getElem?_eq_some_iff.1 h5).2.symm
    · rw [if_neg hj]
  · simp only [Qfh, h1, Option.map_some, Qfo, if_neg h3]
    simp [Qdn]
def Qel (names : List Bs) : List Bs := names.foldl (fun ks n => Qfo ks (low n)) []
theorem QFC {ks : List Bs} {k x : Bs} : x ∈ Qfo ks k ↔ x ∈ ks ∨ x = k := by
  unfold Qfo; split
  · rename_i h
    refine ⟨.inl, fun hh => hh.elim id fun e => e ▸ h⟩
  · simp
theorem QyC {names : List Bs} {x : Bs} : ∀ {ks : List Bs}, x ∈ names.foldl (fun ks n => Qfo ks (low n)) ks ↔ x ∈ ks ∨ ∃ n ∈ names, x = low n := by
  induction names with
  | nil => simp
  | cons a r ih =>
    intro ks
    rw [List.foldl_cons, ih, QFC]
    simp [or_assoc]
theorem Qy2 {names : List Bs} {x : Bs} : x ∈ Qel names ↔ ∃ n ∈ names, x = low n := by
  unfold Qel; rw [QyC]; simp
def stays (names : List Bs) (f : Fld) : Bool := !(names.any fun n => low n == low f.1)
theorem QGL (names : List Bs) (f : Fld) : stays names f = !decide (low f.1 ∈ Qel names) := by
  unfold stays
  congr 1
  rw [Bool.eq_iff_iff]
  simp only [List.any_eq_true, beq_iff_eq, decide_eq_true_eq, Qy2]
  exact ⟨fun ⟨n, h1, h2⟩ => ⟨n, h1, h2.symm⟩, fun ⟨n, h1, h2⟩ => ⟨n, h1, h2.symm⟩⟩
theorem QEB {f : Fld} {ks : List Bs} {ib im : Nat} {h : Heap} (hf : f.1.length ≤ 140737488355328) (hb : h[ib]? = some (.box [.map im])) (hm : h[im]? = some (.map (Qdn ks))) :
    Cf F L QfQ [Q1 f, .ptr ib 0] h (Pu h (.bool (!decide (low f.1 ∈ ks)))) := by
  have hb' := fun t => Qp (t := t) hb
  have hm' := fun t => Qp (t := t) hm
  obtain ⟨r, h1, h2⟩ := QoY (k := low f.1) (ks := ks) (n := 0)
  refine QID ?_
  simp only [Qre]
  simp (maxSteps := 4000000) only [vm, vl, Arg.get, cells, stor, Qb, reduceIte, Nat.reduceAdd, Nat.reduceLeDiff, Q1, hb']
  refine Cf.pu (Qe9 hf) fun t => ?_
  rcases h2 with ⟨h3, i, rfl, h5⟩ | ⟨h3, rfl⟩
  · have d : decide (low f.1 ∈ ks) = true := by simpa using h3
    simp (maxSteps := 4000000) only [vm, vl, hm', h1, d]
  · have d : decide (low f.1 ∈ ks) = false := by simpa using h3
    simp (maxSteps := 4000000) only [vm, vl, hm', h1, d]
theorem Qub {x y : V} {l : List Fld} {names : List Bs} (hx : Qf 2 x (flds l)) (hy : Qf 1 y (names.map .str)) (hl : l.length < 1000000000) (hn : names.length < 1000000000)
    (hln : ∀ f ∈ l, f.1.length ≤ 140737488355328) (hnn : ∀ n ∈ names, n.length ≤ 140737488355328) :
    Cf F L QdN [x, y] h (fun v h' => Grow 2 h h' v (flds (l.filter (stays names)))) := by
  refine Qwr ?_
  simp only [QmK]
  have l1 := fun {K : QK} {h : Heap} => hy.len (F := F) (L := L) (e := E0) (K := K) (h := h)
  simp only [List.length_map] at l1
  simp (maxSteps := 4000000) only [vm, vl, Arg.get, cells, stor, splice, QgN, QhR, Qh6, l1]
  refine QyB (fun n e h' => ∃ i, n = names.length - i ∧ i ≤ names.length ∧ e 0 = x ∧ e 5 = .ptr (h.length + 1) 0 ∧ e 9 = y ∧ e 10 = .int .i64 names.length ∧ e 11 = .int .i64 i ∧ ∃ t, h' = h ++ (O.map (Qdn (Qel (names.take i))) :: .box [.map h.length] :: t)) ?_ (n := names.length) ⟨0, by simp, by simp, rfl, rfl, rfl, rfl, rfl, [], by rfl⟩
  rintro n e h' ⟨i, rfl, hi, e0, e5, e9, e10, e11, t, rfl⟩
  simp only [QpC]
  rcases QbX [] hi with ⟨hn, rfl, hd⟩ | ⟨hl1, hl2, hd, htk⟩
  · have htt : names.take names.length = names := List.take_of_length_le (Nat.le_refl _)
    rw [htt]
    simp (maxSteps := 4000000) only [vm, vl, Arg.get, cells, stor, Qb, reduceIte, reduceCtorEq, Nat.reduceEqDiff, QgN, QhR, Qh6, e0, e5, e9, e10, e11, hn]
    refine (QFG (p := stays names) hx hl fun f hf t' => ?_).mono fun v h' G => ?_
    · have := QEB (L := L) (h := h ++ (O.map (Qdn (Qel names)) :: .box [.map h.length] :: t) ++ t') (f := f) (ks := Qel names) (ib := h.length + 1) (im := h.length) (hln f hf)
        (Qp (by rw [Qd7]; rfl)) (Qp (by rw [QlM]; rfl))
      rw [← QGL] at this
      exact this
    · exact G.less
  · have w := Qe (x := (i : Int) + 1) (by omega) (by omega)
    have i1 := fun {K : QK} {h : Heap} => hy.at (F := F) (L := L) (e := E0) (K := K) (h := h) (i := i) (by rw [List.length_map]; exact hl2)
    have a1 : (names.map V.str).getD i (.tup []) = .str (names.getD i []) := by
      rw [List.getD_eq_getElem?_getD, List.getD_eq_getElem?_getD, List.getElem?_map, List.getElem?_eq_getElem hl2]; rfl
    have hmem : names.getD i [] ∈ names := by
      rw [List.getD_eq_getElem?_getD, List.getElem?_eq_getElem hl2]; exact List.getElem_mem _
    generalize hf : names.getD i [] = f at *
    simp (maxSteps := 4000000) only [vm, vl, Arg.get, cells, stor, Qb, reduceIte, reduceCtorEq, Nat.reduceEqDiff, QgN, QhR, Qh6, e0, e5, e9, e10, e11, hl1, i1, a1]
    refine Cf.pu (Qe9 (hnn f hmem)) fun t1 => ?_
    have sm := QGt (k := low f) (ks := Qel (names.take i))
    simp (maxSteps := 4000000) only [vm, vl, QgN, QhR, Qh6, sm, w]
    refine ⟨names.length - (i + 1), by omega, i + 1, rfl, hl2, rfl, t ++ t1, ?_⟩
    rw [htk]
    simp [Qel]
theorem QwK {x : V} {l : List Fld} {name : Bs} (hx : Qf 2 x (flds l)) (hl : l.length < 1000000000) (hln : ∀ f ∈ l, f.1.length ≤ 140737488355328) (hn : name.length ≤ 140737488355328) :
    Cf F L Qew [x, .str name] h (fun v h' => Grow 2 h h' v (flds (l.filter (stays [name])))) := by
  refine QHU ?_
  simp only [QoL]
  simp (maxSteps := 4000000) only [vm, vl, Arg.get, cells, stor]
  refine (Qub (names := [name]) hx (.inr ⟨_, rfl⟩) hl (by simp) hln (by simpa using hn)).mono fun v h' G => ?_
  exact G
def Qm (l : List Bs) : Bs := [44, 32].intercalate l
def Qad (L : QL) : Prop := ∀ {x : V} {l : List Bs} {h : Heap}, Qf 1 x (strs l) → l.length ≤ 1000000000 → (Qm l).length ≤ 140737488355328 → Cf F L Qqg [x, .str [44, 32]] h (Pu h (.str (Qm l)))
def Qj (l : List Fld) (name : Bs) : List Bs := (l.filter fun f => low f.1 == low name).map (·.2)
def QaG (l : List Fld) (name : Bs) : V := .tup [.str (Qm (Qj l name)), .int .i64 (Qj l name).length]
theorem Qg3 (l : List Fld) (name : Bs) : (Qj l name).length ≤ l.length := by
  unfold Qj; rw [List.length_map]; exact List.length_filter_le _ _
theorem Qgz {x : V} {l : List Fld} {name : Bs} (HJ : Qad L) (hx : Qf 2 x (flds l)) (hl : l.length < 1000000000) (hln : ∀ f ∈ l, f.1.length ≤ 140737488355328) (hn : name.length ≤ 140737488355328) (hj : (Qm (Qj l name)).length ≤ 140737488355328) :
    Cf F L Qb9 [x, .str name] h (Pu h (QaG l name)) := by
  refine QJF ?_
  simp only [Qqb]
  have l1 := fun {K : QK} {h : Heap} => hx.len (F := F) (L := L) (e := E0) (K := K) (h := h)
  simp only [Q7] at l1
  simp (maxSteps := 4000000) only [vm, vl, Qee, Qeg, Qfb, l1]
  refine QH6 (fun n e h' => ∃ i, n = l.length - i ∧ i ≤ l.length ∧ e 1 = .str name ∧ e 9 = x ∧ e 10 = .int .i64 l.length ∧ e 11 = .int .i64 i ∧ Grow 1 h h' (e 6) (strs (Qj (l.take i) name))) ?_ (n := l.length) ⟨0, by simp, by simp, rfl, rfl, rfl, rfl, .nil0⟩
  rintro n e h' ⟨i, rfl, hi, e1, e9, e10, e11, G⟩
  simp only [Qps]
  generalize e6 : e 6 = x6 at *
  have vln := Qg3 (l.take i) name
  rw [List.length_take] at vln
  rcases QbX ([], []) hi with ⟨hn, rfl, hd⟩ | ⟨hl1, hl2, hd, htk⟩
  · rw [List.take_of_length_le (Nat.le_refl _)] at G
    have vln := Qg3 l name
    have g1 := fun {K : QK} {h : Heap} => G.list.len (F := F) (L := L) (e := E0) (K := K) (h := h)
    simp only [QW] at g1
    simp (maxSteps := 4000000) only [vm, vl, Arg.get, cells, stor, Qa, Qc, Qb, splice, reduceIte, Nat.reduceEqDiff, Nat.reduceAdd, Qee, Qeg, Qfb, e1, e6, e9, e10, e11, hn]
    refine Cf.pu (HJ G.list (by omega) hj) fun t => ?_
    obtain ⟨t0, rfl⟩ := G.1
    rcases G.list with ⟨he, rfl⟩ | ⟨o, rfl⟩
    · have he' : Qj l name = [] := by simpa [strs] using he
      simp (maxSteps := 4000000) only [vm, vl, Qee, Qeg, Qfb]
      simp [QaG, he']
    · simp (maxSteps := 4000000) only [vm, vl, Qee, Qeg, Qfb, QW]
      simp [QaG]
  · have w := Qe (x := (i : Int) + 1) (by omega) (by omega)
    have i1 := fun {K : QK} {h : Heap} => hx.at (F := F) (L := L) (e := E0) (K := K) (h := h) (i := i) (by rw [Q7]; exact hl2)
    have a1 := Qdf hl2
    have hmem : l.getD i ([], []) ∈ l := by
      rw [List.getD_eq_getElem?_getD, List.getElem?_eq_getElem hl2]; exact List.getElem_mem _
    generalize hf : l.getD i ([], []) = f at *
    obtain ⟨t0, rfl⟩ := G.1
    simp (maxSteps := 4000000) only [vm, vl, Arg.get, cells, stor, Qa, Qc, Qb, splice, reduceIte, Nat.reduceEqDiff, Nat.reduceAdd, Nat.reduceLeDiff, Qee, Qeg, Qfb, e1, e6, e9, e10, e11, hl1, i1, a1, Q1]
    refine Cf.pu (QsQ (hln f hmem) hn) fun t1 => ?_
    have hb : (h ++ (t0 ++ O.box [.str f.1, .str f.2] :: t1))[h.length + t0.length]? = some (.box [.str f.1, .str f.2]) := by
      rw [← List.append_assoc, List.getElem?_append_right (by simp)]; simp
    have G2 := G.more (t := [O.box [.str f.1, .str f.2]] ++ t1)
    cases hp : (low f.1 == low name) with
    | false =>
      simp (maxSteps := 4000000) only [vm, vl, Nat.reduceAdd, Qee, Qeg, Qfb, w]
      refine ⟨l.length - (i + 1), by omega, i + 1, rfl, hl2, rfl, ?_⟩
      have : Qj (l.take (i + 1)) name = Qj (l.take i) name := by simp [Qj, htk, hp]
      rw [this]
      simpa using G2
    | true =>
      obtain ⟨x', h'', ha, G3⟩ := G2.app (bytes := 16) (y := .str f.2) (by rw [QW]; omega)
      rw [QhG] at G3
      simp only [List.append_assoc, List.cons_append, List.nil_append] at ha
      simp (maxSteps := 4000000) only [vm, vl, Nat.reduceAdd, Qee, Qeg, Qfb, w, hb, ha]
      refine ⟨l.length - (i + 1), by omega, i + 1, rfl, hl2, rfl, ?_⟩
      have : Qj (l.take (i + 1)) name = Qj (l.take i) name ++ [f.2] := by simp [Qj, htk, hp]
      rw [this]
      exact G3
end Go.Proofs.YtaahialaegfjgaaGreatDoor.Vh
end
section
set_option linter.unusedVariables false
set_option linter.unusedSimpArgs false
namespace Go.Proofs.YtaahialaegfjgaaGreatDoor.Vh
open Go.Vm Go.Vt
attribute [local congr] QF QI QE QG QD QJ
variable {L : QL} {h : Heap}
def Qk (l : List Fld) : Nat := (l.map fun f => f.1.length + f.2.length).sum
theorem QwT {l : List Fld} {i : Nat} (hi : i < l.length) : Qk (l.take (i + 1)) = Qk (l.take i) + ((l.getD i ([], [])).1.length + (l.getD i ([], [])).2.length) := by
  have e : l.getD i ([], []) = l[i] := by rw [List.getD_eq_getElem?_getD, List.getElem?_eq_getElem hi, Option.getD_some]
  unfold Qk
  rw [List.take_add_one, List.getElem?_eq_getElem hi, e]
  simp only [List.map_append, List.sum_append, Option.toList_some, List.map_cons, List.map_nil, List.sum_cons, List.sum_nil, Nat.add_zero]
theorem Qri (l : List Fld) (i : Nat) : Qk (l.take i) ≤ Qk l := by
  conv => rhs; rw [← List.take_append_drop i l]
  unfold Qk
  rw [List.map_append, List.sum_append]
  omega
theorem Qkm {l : List Fld} {f : Fld} (hf : f ∈ l) : f.1.length + f.2.length ≤ Qk l := by
  unfold Qk
  induction l with
  | nil => cases hf
  | cons a r ih =>
    rw [List.map_cons, List.sum_cons]
    rcases List.mem_cons.1 hf with rfl | hf
    · omega
    · have := ih hf; omega
theorem QvD {x : V} (v : VPar [.sl [.s, .s]] x) : ∃ l, Qf 2 x (flds l) ∧ l.length ≤ 140737488351232 ∧ ∀ f ∈ l, f.1.length ≤ 140737488351232 ∧ f.2.length ≤ 140737488351232 := by
  rcases v with rfl | ⟨es, rfl, hl, he⟩
  · exact ⟨[], .inl ⟨rfl, rfl⟩, by simp, by simp⟩
  · have : ∃ l, flds l = es ∧ ∀ f ∈ l, f.1.length ≤ 140737488351232 ∧ f.2.length ≤ 140737488351232 := by
      clear hl
      induction es with
      | nil => exact ⟨[], rfl, by simp⟩
      | cons e r ih =>
        obtain ⟨l, h1, h2⟩ := ih fun x hx => he x (by simp [hx])
        obtain ⟨a1, _, a3⟩ := he e (by simp)
        have a3 := a3 (by simp)
        generalize cells e = cs at a1 a3
        subst a3
        match cs, a1 with
        | [x, y], ⟨⟨s, e1, b1⟩, ⟨t, e2, b2⟩, _⟩ =>
          subst e1; subst e2
          refine ⟨(s, t) :: l, by rw [← h1]; rfl, ?_⟩
          intro f hf
          rcases List.mem_cons.1 hf with rfl | hf
          · exact ⟨b1, b2⟩
          · exact h2 f hf
    obtain ⟨l, rfl, h2⟩ := this
    exact ⟨l, .inr ⟨_, rfl⟩, by rwa [Q7] at hl, h2⟩
theorem QEb {x y : V} {l m : List Fld} (hx : Qf 2 x (flds l)) (hy : Qf 2 y (flds m)) (hl : l.length < 1000000000) (hm : m.length < 1000000000) :
    Cf F L QfZ [x, y] h (Pu h (.bool (decide (l = m)))) := by
  refine QBV ?_
  simp only [QmN]
  have l1 := fun {K : QK} {h : Heap} => hx.len (F := F) (L := L) (e := E0) (K := K) (h := h)
  have l2 := fun {K : QK} {h : Heap} => hy.len (F := F) (L := L) (e := E0) (K := K) (h := h)
  simp only [Q7] at l1 l2
  by_cases hlm : l.length = m.length
  · have hlm' : ((l.length : Nat) : Int) = m.length := by omega
    simp (maxSteps := 4000000) only [vm, vl, Arg.get, QdO, QeT, QeY, QeF, l1, l2, hlm']
    refine QEo (fun n e h' => ∃ i, n = l.length - i ∧ i ≤ l.length ∧ e 0 = x ∧ e 1 = y ∧ e 5 = .int .i64 i ∧ l.take i = m.take i ∧ ∃ t, h' = h ++ t) ?_ (n := l.length) ⟨0, by simp, by simp, rfl, rfl, rfl, by simp, [], by simp⟩
    rintro n e h' ⟨i, rfl, hi, e0, e1, e5, ht, t, rfl⟩
    simp only [Qqj]
    rcases QbX ([], []) hi with ⟨hn, rfl, hd⟩ | ⟨hl1, hl2, hd, htk⟩
    · have he : l = m := by rwa [List.take_of_length_le (Nat.le_refl _), List.take_of_length_le (by omega)] at ht
      have d : decide (l = m) = true := by simpa using he
      simp (maxSteps := 4000000) only [vm, vl, Arg.get, cells, Qb, reduceIte, reduceCtorEq, Nat.reduceEqDiff, QdO, QeT, QeY, QeF, e0, e1, e5, l1, hn, d]
    · have w := Qe (x := (i : Int) + 1) (by omega) (by omega)
      obtain ⟨o1, rfl⟩ : ∃ o, x = .sl 2 o (flds l) := by
        rcases hx with ⟨he, _⟩ | hx
        · have := congrArg List.length he; rw [Q7] at this; simp only [List.length_nil] at this; omega
        · exact hx
      obtain ⟨o2, rfl⟩ : ∃ o, y = .sl 2 o (flds m) := by
        rcases hy with ⟨he, _⟩ | hy
        · have := congrArg List.length he; rw [Q7] at this; simp only [List.length_nil] at this; omega
        · exact hy
      have z1 : (0 : Int) ≤ i := by omega
      have z2 : i < m.length := by omega
      have a1 := Qdf hl2
      have a2 := Qdf (l := m) (i := i) (by omega)
      obtain ⟨_, hm2, _⟩ | ⟨hm1, hm2, _, htm⟩ := QbX (l := m) (i := i) ([], []) (by omega)
      · omega
      have hne : l.getD i ([], []) ≠ m.getD i ([], []) → decide (l = m) = false := by
        intro hh; simp only [decide_eq_false_iff_not]; rintro rfl; exact hh rfl
      have heq : l.getD i ([], []) = m.getD i ([], []) → l.take (i + 1) = m.take (i + 1) := by intro hh; rw [htk, htm, ht, hh]
      generalize hf : l.getD i ([], []) = f at *
      generalize hg : m.getD i ([], []) = g at *
      simp (maxSteps := 4000000) only [vm, vl, Arg.get, cells, Qb, reduceIte, reduceCtorEq, Nat.reduceEqDiff, Nat.reduceAdd, Nat.reduceLeDiff, QdO, QeT, QeY, QeF, e0, e1, e5, l1, hl1, Int.toNat_natCast, z1, z2, hl2, Q7, a1, a2, Q1, w]
      cases q1 : (f.1 == g.1) with
      | true =>
        cases q2 : (f.2 == g.2) with
        | true =>
          simp (maxSteps := 4000000) only [vm, vl, Arg.get, cells, Qb, reduceIte, Nat.reduceAdd, QdO, QeT, QeY, QeF, q1, q2, Int.toNat_natCast, z1, z2, hl2, Q7, a1, a2, and_self, true_and, Q1, w, Bool.not_true, Bool.not_false]
          exact ⟨l.length - (i + 1), by omega, i + 1, rfl, hl2, rfl, heq (Prod.ext (eq_of_beq q1) (eq_of_beq q2)), t, rfl⟩
        | false =>
          have d := hne (fun hh => by rw [hh] at q2; simp at q2)
          simp (maxSteps := 4000000) only [vm, vl, Arg.get, cells, Qb, reduceIte, Nat.reduceAdd, QdO, QeT, QeY, QeF, q1, q2, d, Int.toNat_natCast, z1, z2, hl2, Q7, a1, a2, and_self, true_and, Q1, w, Bool.not_true, Bool.not_false]
      | false =>
        have d := hne (fun hh => by rw [hh] at q1; simp at q1)
        simp (maxSteps := 4000000) only [vm, vl, reduceIte, QdO, QeT, QeY, QeF, q1, d, Int.toNat_natCast, z1, z2, hl2, Q7, a1, a2, and_self, true_and, Q1, w, Bool.not_true, Bool.not_false]
  · have hlm' : ¬ ((l.length : Nat) : Int) = m.length := by omega
    have d : decide (l = m) = false := by simp only [decide_eq_false_iff_not]; rintro rfl; exact hlm rfl
    simp (maxSteps := 4000000) only [vm, vl, Arg.get, QdO, QeT, QeY, QeF, l1, l2, hlm', d]
def without (l : List Fld) (name : Bs) : List Fld := l.filter (stays [name])
theorem Qvo (l m : List Fld) (name : Bs) : without (l ++ m) name = without l name ++ without m name := by simp [without]
theorem Qtq : ∀ l : List Bs, (Qm l).length ≤ (l.map List.length).sum + 2 * l.length
  | [] => by simp [Qm]
  | [a] => by simp [Qm]
  | a :: b :: r => by
    have := Qtq (b :: r)
    have e : Qm (a :: b :: r) = a ++ ([44, 32] ++ Qm (b :: r)) := by simp [Qm, List.intercalate]
    rw [e]
    simp only [List.length_append, List.length_cons, List.length_nil, List.map_cons, List.sum_cons] at this ⊢
    omega
theorem QyT (l : List Fld) (name : Bs) : ((Qj l name).map List.length).sum ≤ Qk l := by
  induction l with
  | nil => simp [Qj, Qk]
  | cons f r ih =>
    unfold Qj Qk at *
    rw [List.filter_cons]
    split <;> simp only [List.map_cons, List.sum_cons] at * <;> omega
theorem Qbd (l : List Fld) (name : Bs) : (Qm (Qj l name)).length ≤ Qk l + 2 * l.length := by
  have h1 := Qtq (Qj l name)
  have h2 := QyT l name
  have h3 := Qg3 l name
  omega
theorem QH1 : Qm [] = [] := rfl
theorem Qz2 (l : List Fld) (name : Bs) : (without l name).length ≤ l.length := List.length_filter_le _ _
end Go.Proofs.YtaahialaegfjgaaGreatDoor.Vh
end
section
set_option linter.unusedVariables false
set_option linter.unusedSimpArgs false
namespace Go.Proofs.YtaahialaegfjgaaGreatDoor.Vh
open Go.Vm Go.Vt
attribute [local congr] QF QI QE QG QD QJ
variable {L : QL} {h : Heap}
theorem Qez {α : Type} {l : List α} {i : Nat} {d : α} (hi : i < l.length) : l.getD i d ∈ l := by
  rw [List.getD_eq_getElem?_getD, List.getElem?_eq_getElem hi]; exact List.getElem_mem _
theorem QHq (l : List Bs) (v : Bs) : Qm (l ++ [v]) = if l = [] then v else Qm l ++ [44, 32] ++ v := by
  induction l with
  | nil => simp [Qm]
  | cons a r ih =>
    cases r with
    | nil => simp [Qm, List.intercalate]
    | cons b r' =>
      have e : ∀ (m : List Bs), m ≠ [] → Qm (a :: m) = a ++ ([44, 32] ++ Qm m) := by
        intro m hm
        cases m with
        | nil => exact absurd rfl hm
        | cons x y => simp [Qm, List.intercalate]
      rw [List.cons_append, e _ (by simp), ih, e _ (by simp)]
      simp
theorem QeC {x : V} {l : List Fld} {name : Bs} (hx : Qf 2 x (flds l)) (hl : l.length < 100000) (hln : ∀ f ∈ l, f.1.length ≤ 140737488355328) (hn : name.length ≤ 140737488355328) (hsm : Qk l < 100000) :
    Cf F L QbU [x, .str name] h (Pu h (QaG l name)) := by
  refine QzU ?_
  simp only [QlG]
  have l1 := fun {K : QK} {h : Heap} => hx.len (F := F) (L := L) (e := E0) (K := K) (h := h)
  simp only [Q7] at l1
  refine QBd (fun n e h' => ∃ i, n = l.length - i ∧ i ≤ l.length ∧ e 0 = x ∧ e 1 = .str name ∧ e 6 = .str (Qm (Qj (l.take i) name)) ∧ e 7 = .int .i64 (Qj (l.take i) name).length ∧ e 8 = .int .i64 i ∧ ∃ t, h' = h ++ t) ?_ (n := l.length) ⟨0, by simp, by simp, rfl, rfl, rfl, rfl, rfl, [], by simp⟩
  rintro n e h' ⟨i, rfl, hi, e0, e1, e6, e7, e8, t, rfl⟩
  simp only [Qmq]
  have vj := Qbd (l.take i) name
  have vln := Qg3 (l.take i) name
  have hsi := Qri l i
  rw [List.length_take] at vj vln
  rcases QbX ([], []) hi with ⟨hn', rfl, hd⟩ | ⟨hl1, hl2, hd, htk⟩
  · rw [List.take_of_length_le (Nat.le_refl _)] at e6 e7
    simp (maxSteps := 4000000) only [vm, vl, Arg.get, cells, Qa, Qc, Qb, reduceIte, reduceCtorEq, Nat.reduceEqDiff, Nat.reduceAdd, Qgk, Qgn, QfY, Qhd, e0, e1, e6, e7, e8, l1, hn', QaG]
  · have w := Qe (x := (i : Int) + 1) (by omega) (by omega)
    have i1 := fun {K : QK} {h : Heap} => hx.at (F := F) (L := L) (e := E0) (K := K) (h := h) (i := i) (by rw [Q7]; exact hl2)
    have a1 := Qdf hl2
    have hmem : l.getD i ([], []) ∈ l := Qez hl2
    have hmz := Qkm hmem
    generalize hf : l.getD i ([], []) = f at *
    simp (maxSteps := 4000000) only [vm, vl, Arg.get, cells, Qa, Qc, Qb, reduceIte, reduceCtorEq, Nat.reduceEqDiff, Nat.reduceAdd, Nat.reduceLeDiff, Qgk, Qgn, QfY, Qhd, e0, e1, e6, e7, e8, l1, hl1, i1, a1, Q1]
    refine Cf.pu (Qsp (hln f hmem) hn) fun t1 => ?_
    cases hp : (low f.1 == low name) with
    | false =>
      have hv : Qj (l.take (i + 1)) name = Qj (l.take i) name := by simp [Qj, htk, hp]
      simp (maxSteps := 4000000) only [vm, vl, Qgk, Qgn, QfY, Qhd, i1, a1, w]
      exact ⟨l.length - (i + 1), by omega, i + 1, rfl, hl2, by rw [hv], by rw [hv], rfl, _, rfl⟩
    | true =>
      have hv : Qj (l.take (i + 1)) name = Qj (l.take i) name ++ [f.2] := by simp [Qj, htk, hp]
      have hjs := QHq (Qj (l.take i) name) f.2
      rw [← hv] at hjs
      have hc : (Qj (l.take (i + 1)) name).length = (Qj (l.take i) name).length + 1 := by rw [hv]; simp
      generalize Qj (l.take i) name = vs at *
      have w2 := Qe (x := (vs.length : Int) + 1) (by omega) (by omega)
      by_cases hz : vs = []
      · subst hz
        have a2 : Qx .add (.str (Qm [])) (.str f.2) = some (.str f.2) := by rw [QH1]; exact Qer (by simp; omega)
        have z : ¬ (((([] : List Bs).length : Nat) : Int) > 0) := by simp
        rw [if_pos rfl] at hjs
        simp (maxSteps := 4000000) only [vm, vl, Int.reduceGT, Qgk, Qgn, QfY, Qhd, i1, a1, Q1, w, z, a2, w2]
        exact ⟨l.length - (i + 1), by omega, i + 1, rfl, hl2, by rw [hjs], by rw [hc]; rfl, rfl, _, rfl⟩
      · have hpos : 0 < vs.length := List.length_pos_iff.2 hz
        have z : ((vs.length : Int) > 0) := by omega
        have a2 : Qx .add (.str (Qm vs)) (.str [44, 32]) = some (.str (Qm vs ++ [44, 32])) := Qer (by simp; omega)
        have a3 : Qx .add (.str (Qm vs ++ [44, 32])) (.str f.2) = some (.str (Qm vs ++ [44, 32] ++ f.2)) := Qer (by simp; omega)
        rw [if_neg hz] at hjs
        simp (maxSteps := 4000000) only [vm, vl, Qgk, Qgn, QfY, Qhd, i1, a1, Q1, w, z, a2, a3, w2]
        exact ⟨l.length - (i + 1), by omega, i + 1, rfl, hl2, by rw [hjs]; simp, by rw [hc]; rfl, rfl, _, rfl⟩
end Go.Proofs.YtaahialaegfjgaaGreatDoor.Vh
end
section
set_option linter.unusedVariables false
set_option linter.unusedSimpArgs false
namespace Go.Proofs.YtaahialaegfjgaaGreatDoor.Vh
open Go.Vm Go.Vt
attribute [local congr] QF QI QE QG QD QJ
variable {L : QL} {h : Heap}
def nCC : Bs := [67, 97, 99, 104, 101, 45, 67, 111, 110, 116, 114, 111, 108]
def nPr : Bs := [80, 114, 97, 103, 109, 97]
def nNC : Bs := [110, 111, 45, 99, 97, 99, 104, 101]
def Qbk (c : Ct) (i : Nat) (b : Bool) : Ct := ⟨fun k => if k = i then b else c.f k, c.n⟩
def Qld (s : Bs) : Bool := match split (low s) with
  | none => false
  | some l => l.contains nNC
def ofC (l : List Fld) : Ct := if 0 < (Qj l nCC).length then (Qc6 (Qm (Qj l nCC))).1 else Qbk ct0 1 (Qld (Qm (Qj l nPr)))
theorem Qgm {l : List Fld} {a b : Bs} (h : low a = low b) : Qj l a = Qj l b := by unfold Qj; rw [h]
/-! A text in a list. -/
theorem QCi {x : V} {l : List Bs} {y : Bs} (hx : Qf 1 x (strs l)) (hl : l.length < 9223372036854775807) :
    Cf F L Qgq [x, .str y] h (fun v h' => (∃ t, h' = h ++ t) ∧ ∃ n : Int, v = .int .i64 n ∧ (decide (n ≥ 0) = l.contains y)) := by
  refine QDs ?_
  simp only [Qlz]
  have l1 := fun {K : QK} {h : Heap} => hx.len (F := F) (L := L) (e := E0) (K := K) (h := h)
  simp only [QW] at l1
  simp (maxSteps := 4000000) only [vm, vl, Qhy, Qiy, QhX, l1]
  refine QxA (fun n e h' => ∃ i : Nat, n = l.length - i ∧ i ≤ l.length ∧ e 0 = x ∧ e 1 = .str y ∧ e 7 = .int .i64 l.length ∧ e 8 = .int .i64 i ∧ h' = h ∧ l.contains y = (l.drop i).contains y) ?_ (n := l.length) ⟨0, by simp, by simp, rfl, rfl, rfl, rfl, rfl, rfl⟩
  rintro n e h' ⟨i, rfl, hi, e0, e1, e7, e8, rfl, hc⟩
  simp only [Qny]
  rcases QiH [] hi with ⟨hn, rfl, hd⟩ | ⟨hl1, hl2, hd, _⟩
  · rw [hd] at hc
    simp (maxSteps := 4000000) only [vm, vl, Arg.get, cells, Qb, reduceIte, reduceCtorEq, Nat.reduceEqDiff, Int.reduceNeg, Qhy, Qiy, QhX, e7, e8, hn]
    exact ⟨⟨[], by simp⟩, -1, rfl, by rw [hc]; rfl⟩
  · obtain ⟨o, rfl⟩ : ∃ o, x = .sl 1 o (strs l) := by
      rcases hx with ⟨he, _⟩ | h
      · have := QW l
        rw [he] at this
        simp at this
        omega
      · exact h
    have hsl : i < (strs l).length := by rw [QW]; exact hl2
    have hi0 : (0 : Int) ≤ (i : Int) := by omega
    have g : (strs l).getD i (.tup []) = .str (l.getD i []) := by
      unfold strs
      rw [List.getD_eq_getElem?_getD, List.getD_eq_getElem?_getD, List.getElem?_map, List.getElem?_eq_getElem hl2]; rfl
    have w := Qe (x := (i : Int) + 1) (by omega) (by omega)
    rw [hd, List.contains_cons] at hc
    generalize l.getD i [] = z at *
    cases hz : (y == z) with
    | true =>
      rw [hz, Bool.true_or] at hc
      simp (maxSteps := 4000000) only [vm, vl, Arg.get, cells, Qb, reduceIte, reduceCtorEq, Nat.reduceEqDiff, Int.reduceNeg, Qhy, Qiy, QhX, e0, e1, e7, e8, hl1, hsl, hi0, g, hz]
      exact ⟨⟨[], by simp⟩, i, rfl, by rw [hc]; simp⟩
    | false =>
      rw [hz, Bool.false_or] at hc
      simp (maxSteps := 4000000) only [vm, vl, Arg.get, cells, Qb, reduceIte, reduceCtorEq, Nat.reduceEqDiff, Int.reduceNeg, Qhy, Qiy, QhX, e0, e1, e7, e8, hl1, hsl, hi0, g, hz, w]
      exact ⟨l.length - (i + 1), by omega, i + 1, rfl, hl2, rfl, hc⟩
theorem QrO {x : V} {l : List Bs} {y : Bs} (hx : Qf 1 x (strs l)) (hl : l.length < 9223372036854775807) : Cf F L Qfd [x, .str y] h (Pu h (.bool (l.contains y))) := by
  refine Qxc ?_
  simp only [Qn4]
  simp (maxSteps := 4000000) only [vm, vl, Arg.get]
  refine (QCi hx hl).mono fun v h' hv => ?_
  obtain ⟨⟨t, rfl⟩, n, rfl, hn⟩ := hv
  simp (maxSteps := 4000000) only [vm, vl]
  exact hn
theorem Qjj {s : Bs} {l : List Bs} (h : split s = some l) : l.length ≤ s.length + 1 := by
  have := QdZ (Nat.le_refl _) (show Qah s [] false [] = some l from h)
  simpa using this
theorem QnQ (HJ : Qad L) (HI : QaZ L) (HU : Qa1 L) {x : V} {l : List Fld} (hx : Qf 2 x (flds l)) (hl : l.length < 100000) (hln : ∀ f ∈ l, f.1.length ≤ 140737488355328) (hsm : Qk l < 100000) :
    Cf F L Qej [x] h (Pu h (.agg (ctV (ofC l)))) := by
  refine QHK ?_
  simp only [QmB]
  
  simp (maxSteps := 4000000) only [vm, vl, Arg.get]
  have j1 := Qbd l nCC
  have j2 := Qbd l nPr
  refine Cf.pu (Qgz HJ (name := nCC) hx (by omega) hln (by decide) (by omega)) fun u1 => ?_
  have c1 := Qg3 l nCC
  unfold ofC
  by_cases h0 : 0 < (Qj l nCC).length
  · have h0' : ((Qj l nCC).length : Int) > 0 := by omega
    rw [if_pos h0]
    simp (maxSteps := 4000000) only [vm, vl, QaG, h0', decide_true]
    refine Cf.pu (QxS HI HU (by omega)) fun u2 => ?_
    have hc13 := QaM (Qc6 (Qm (Qj l nCC))).1
    have ht13 : List.take 13 (ctV (Qc6 (Qm (Qj l nCC))).1) = ctV (Qc6 (Qm (Qj l nCC))).1 := rfl
    unfold QrR
    simp (maxSteps := 4000000) only [vm, vl, Arg.get, cells, stor, Qa, Qc, Qb, QA, Vm.part, splice, reduceIte, Nat.reduceEqDiff, Nat.reduceAdd, QdX, hc13, ht13, List.append_nil]
  · have h0' : ¬ ((Qj l nCC).length : Int) > 0 := by omega
    rw [if_neg h0]
    simp (maxSteps := 4000000) only [vm, vl, QaG, h0', decide_false]
    unfold QsA
    simp (maxSteps := 4000000) only [vm, vl, Arg.get]
    refine (Quc).mono fun v h' hv => ?_
    obtain ⟨rfl, rfl⟩ := hv
    unfold Qv2
    have hc13 := QaM ct0
    have hd13 : List.drop 13 (ctV ct0) = [] := rfl
    simp (maxSteps := 4000000) only [vm, vl, Arg.get, cells, stor, splice, Nat.reduceAdd, hc13]
    refine Cf.pu (Qgz HJ (name := nPr) hx (by omega) hln (by decide) (by omega)) fun u3 => ?_
    simp (maxSteps := 4000000) only [vm, vl, QaG]
    refine Cf.pu (Qe9 (by omega)) fun u4 => ?_
    have hll : (low (Qm (Qj l nPr))).length < 8000000000 := by rw [QgT]; omega
    have hpr : Qld (Qm (Qj l nPr)) = match split (low (Qm (Qj l nPr))) with
      | none => false
      | some l => l.contains nNC := rfl
    rw [hpr]
    simp (maxSteps := 4000000) only [vm, vl]
    refine Cf.pu (Qh3 hll) fun u5 => ?_
    unfold QsB
    cases hsp : split (low (Qm (Qj l nPr))) with
    | none =>
      simp only [Qcm]
      simp (maxSteps := 4000000) only [vm, vl, Arg.get, cells, stor, Qa, Qc, Qb, QA, Vm.part, splice, reduceIte, Nat.reduceEqDiff, Nat.reduceAdd, Nat.reduceLeDiff, ctV]
      rfl
    | some ws =>
      simp only [Qcm]
      have := Qjj hsp
      simp (maxSteps := 4000000) only [vm, vl, Arg.get, cells, stor, Qa, Qc, Qb, QA, Vm.part, splice, reduceIte, Nat.reduceEqDiff, Nat.reduceAdd]
      refine Cf.pu (QrO (QiX ws) (by omega)) fun u6 => ?_
      rw [show nNC = ([110, 111, 45, 99, 97, 99, 104, 101] : Bs) from rfl]
      generalize ws.contains [110, 111, 45, 99, 97, 99, 104, 101] = bb
      simp (maxSteps := 4000000) only [vm, vl, reduceIte, Nat.reduceAdd, Nat.reduceLeDiff, ctV]
      rfl
theorem QtA {x : V} {ws : List Bs} {F1 : Bool} {R A : O} {cs : List V} {u t : Heap} {e : Env} {ok : Bool} (hx : Qf 1 x (strs ws)) (hl : ws.length < 2000000000) (hok : ok = true ∨ ws = []) (hF : F1 = ws.contains nNC) (hR : R = .box cs) (hcs : cs.length = 13)
    (e2 : e 2 = .ptr h.length 0) (e7 : e 7 = .ptr (h.length + (u.length + 2)) 0) (e8 : e 8 = x) (e9 : e 9 = .bool ok) (e10 : e 10 = .int .i64 0) :
    Wl F L Qo4 (Qqz L (Pu h (V.agg (ctV (Qbk ct0 1 F1))))) e (h ++ (R :: (u ++ A :: O.box (ctV ct0) :: t))) := by
  subst hR
  refine QAM (fun n e h' => ∃ (i : Nat) (b : Bool), n = ws.length - i ∧ i ≤ ws.length ∧ e 2 = .ptr h.length 0 ∧ e 7 = .ptr (h.length + (u.length + 2)) 0 ∧ e 8 = x ∧ e 9 = .bool ok ∧ e 10 = .int .i64 i ∧
      h' = h ++ (.box cs :: (u ++ A :: O.box (ctV (Qbk ct0 1 b)) :: t)) ∧ F1 = (b || (ws.drop i).contains nNC)) ?_ (n := ws.length) ⟨0, false, by simp, by simp, e2, e7, e8, e9, e10, rfl, by rw [hF]; simp⟩
  clear e2 e7 e8 e9 e10 hF
  rintro n e h' ⟨i, b, rfl, hi, e2, e7, e8, e9, e10, rfl, hF⟩
  simp only [Qp9]
  
  have l1 := fun {K : QK} {h : Heap} => hx.len (F := F) (L := L) (e := E0) (K := K) (h := h)
  simp only [QW] at l1
  have hg : (h ++ (O.box cs :: (u ++ A :: O.box (ctV (Qbk ct0 1 b)) :: t)))[h.length + (u.length + 2)]? = some (.box (ctV (Qbk ct0 1 b))) := by
    rw [Qd7, show u.length + 2 = (u.length + 1) + 1 from rfl, List.getElem?_cons_succ, List.getElem?_append_right (by omega)]
    rw [show u.length + 1 - u.length = 1 by omega]; rfl
  have hg2 : (h ++ (O.box cs :: (u ++ A :: O.box (ctV (Qbk ct0 1 b)) :: t)))[h.length]? = some (.box cs) := by
    rw [List.getElem?_append_right (Nat.le_refl _), Nat.sub_self]; rfl
  rcases QiH [] hi with ⟨hn, rfl, hd⟩ | ⟨hl1, hl2, hd, _⟩
  · rw [hd] at hF
    have hF' : F1 = b := by rw [hF]; simp
    subst hF'
    have hcs1 : List.drop 13 cs = [] := List.drop_eq_nil_of_le (by omega)
    have hc13 := QaM (Qbk ct0 1 F1)
    have ht13 : List.take 13 (ctV (Qbk ct0 1 F1)) = ctV (Qbk ct0 1 F1) := rfl
    simp (maxSteps := 4000000) only [vm, vl, Arg.get, e2, e7, e8, e10, l1, hn]
    unfold Qp7
    simp (maxSteps := 4000000) only [vm, vl, Arg.get, cells, stor, Qa, Qc, Qb, QA, Vm.part, splice, reduceIte, Nat.reduceEqDiff, hg, hcs, hc13, ht13, hcs1, List.append_nil]
  · have hok : ok = true := hok.resolve_right (by rintro rfl; simp at hl2)
    subst hok
    obtain ⟨o, rfl⟩ : ∃ o, x = .sl 1 o (strs ws) := by
      rcases hx with ⟨he, _⟩ | h
      · have := QW ws
        rw [he] at this
        simp at this
        omega
      · exact h
    have hsl : i < (strs ws).length := by rw [QW]; exact hl2
    have hsl0 := QW ws
    have hi0 : (0 : Int) ≤ (i : Int) := by omega
    have g : (strs ws).getD i (.tup []) = .str (ws.getD i []) := by
      unfold strs
      rw [List.getD_eq_getElem?_getD, List.getD_eq_getElem?_getD, List.getElem?_map, List.getElem?_eq_getElem hl2]; rfl
    have w := Qe (x := (i : Int) + 1) (by omega) (by omega)
    rw [hd, List.contains_cons] at hF
    generalize ws.getD i [] = z at *
    have hz0 : (z == [110, 111, 45, 99, 97, 99, 104, 101]) = (nNC == z) := by
      rw [Bool.eq_iff_iff, beq_iff_eq, beq_iff_eq]; exact eq_comm
    simp (maxSteps := 4000000) only [vm, vl, Arg.get, e2, e7, e8, e10, hsl0, hl1]
    unfold QrZ
    cases hz : (nNC == z) with
    | true =>
      rw [hz] at hz0 hF
      have hF' : F1 = true := by rw [hF]; simp
      have hset : (h ++ (O.box cs :: (u ++ A :: O.box (ctV (Qbk ct0 1 b)) :: t))).set (h.length + (u.length + 2)) (.box (ctV (Qbk ct0 1 true))) = h ++ (O.box cs :: (u ++ A :: O.box (ctV (Qbk ct0 1 true)) :: t)) := by
        rw [Qpu, show u.length + 2 = (u.length + 1) + 1 from rfl, List.set_cons_succ, List.set_append_right _ _ (by omega)]
        rw [show u.length + 1 - u.length = 1 by omega]; rfl
      have hc13 := QaM (Qbk ct0 1 b)
      have hput : List.take 1 (ctV (Qbk ct0 1 b)) ++ V.bool true :: List.drop 2 (ctV (Qbk ct0 1 b)) = ctV (Qbk ct0 1 true) := rfl
      simp (maxSteps := 4000000) only [vm, vl, Arg.get, cells, stor, Qb, splice, reduceIte, Nat.reduceEqDiff, Nat.reduceAdd, Nat.reduceLeDiff, e9, hsl, hi0, g, hz0, hg, hc13, hput, hset, QjP, w]
      exact ⟨ws.length - (i + 1), by omega, i + 1, true, rfl, hl2, e2, e7, e8, rfl, rfl, by rw [hF']; rfl⟩
    | false =>
      rw [hz] at hz0 hF
      simp (maxSteps := 4000000) only [vm, vl, Arg.get, cells, stor, Qb, splice, reduceIte, Nat.reduceEqDiff, Nat.reduceAdd, e9, hsl, hi0, g, hz0, QjP, w]
      exact ⟨ws.length - (i + 1), by omega, i + 1, b, rfl, hl2, e2, e7, e8, rfl, rfl, by rw [hF, Bool.false_or]⟩
theorem QlW {x : V} {l : List Fld} (hx : Qf 2 x (flds l)) (hl : l.length < 100000) (hln : ∀ f ∈ l, f.1.length ≤ 140737488355328) (hsm : Qk l < 100000) :
    Cf F L QdR [x] h (Pu h (.agg (ctV (ofC l)))) := by
  refine Qy8 ?_
  simp only [Qph]
  
  simp (maxSteps := 4000000) only [vm, vl, Arg.get]
  have n1 : low nCC = low [99, 97, 99, 104, 101, 45, 99, 111, 110, 116, 114, 111, 108] := by decide +kernel
  have n2 : low nPr = low [112, 114, 97, 103, 109, 97] := by decide +kernel
  have j1 := Qbd l nCC
  have j2 := Qbd l nPr
  have c1 := Qg3 l nCC
  unfold ofC
  rw [Qgm n1] at j1 c1 ⊢
  rw [Qgm n2] at j2 ⊢
  refine Cf.pu (QeC hx hl hln (by simp) hsm) fun u1 => ?_
  unfold Qsy
  generalize hv1 : Qj l [99, 97, 99, 104, 101, 45, 99, 111, 110, 116, 114, 111, 108] = W at *
  by_cases h0 : 0 < W.length
  · have h0' : (W.length : Int) > 0 := by omega
    rw [if_pos h0]
    simp (maxSteps := 4000000) only [vm, vl, Arg.get, QaG, hv1, h0', decide_true]
    refine Cf.pu (QDq (by omega)) fun u2 => ?_
    have hc13 := QaM (Qc6 (Qm W)).1
    have ht13 : List.take 13 (ctV (Qc6 (Qm W)).1) = ctV (Qc6 (Qm W)).1 := rfl
    unfold QvB
    simp (maxSteps := 4000000) only [vm, vl, Arg.get, cells, stor, Qa, Qc, Qb, QA, Vm.part, splice, reduceIte, Nat.reduceEqDiff, Nat.reduceAdd, QdX, hc13, ht13, List.append_nil]
  · have h0' : ¬ (W.length : Int) > 0 := by omega
    rw [if_neg h0]
    simp (maxSteps := 4000000) only [vm, vl, Arg.get, QaG, hv1, h0', decide_false]
    unfold QrN
    simp (maxSteps := 4000000) only [vm, vl, Arg.get]
    refine (QvI).mono fun v h' hv => ?_
    obtain ⟨rfl, rfl⟩ := hv
    unfold QvR
    have hc13 := QaM ct0
    have hd13 : List.drop 13 (ctV ct0) = [] := rfl
    simp (maxSteps := 4000000) only [vm, vl, Arg.get, cells, stor, splice, Nat.reduceAdd, hc13]
    refine Cf.pu (QeC hx hl hln (by simp) hsm) fun u3 => ?_
    simp (maxSteps := 4000000) only [vm, vl, QaG]
    refine Cf.pu (Qie (by omega)) fun u4 => ?_
    generalize hv2 : Qm (Qj l [112, 114, 97, 103, 109, 97]) = P at *
    have hll : (low P).length < 1000000000 := by rw [QgT]; omega
    unfold QtP
    simp (maxSteps := 4000000) only [vm, vl, Arg.get]
    refine (QhT hll).mono fun v h' hp => ?_
    obtain ⟨⟨u5, rfl⟩, hv⟩ := hp
    have hpr : Qld P = match split (low P) with
      | none => false
      | some l => l.contains nNC := rfl
    rw [hpr]
    rcases hv with ⟨hs, rfl⟩ | ⟨ws, x, hs, rfl, hw⟩
    · rw [hs]
      simp (maxSteps := 4000000) only [vm, vl]
      exact QtA (ws := []) (.inl ⟨rfl, rfl⟩) (by simp) (.inr rfl) rfl rfl rfl rfl rfl rfl rfl rfl
    · rw [hs]
      have := Qjj hs
      simp (maxSteps := 4000000) only [vm, vl]
      exact QtA (ws := ws) hw (by omega) (.inl rfl) rfl rfl rfl rfl rfl rfl rfl rfl
end Go.Proofs.YtaahialaegfjgaaGreatDoor.Vh
end
section
set_option linter.unusedVariables false
set_option linter.unusedSimpArgs false
namespace Go.Proofs.YtaahialaegfjgaaGreatDoor.Vh
open Go.Vm Go.Vt
attribute [local congr] QF QI QE QG QD QJ
variable {L : QL} {h : Heap}
theorem QjD {l : List Bs} {i : Nat} (hi : i < l.length) : (strs l).getD i (.tup []) = .str (l.getD i []) := by
  unfold strs
  rw [List.getD_eq_getElem?_getD, List.getD_eq_getElem?_getD, List.getElem?_map, List.getElem?_eq_getElem hi]; rfl
def Qby (s : Bs) : Option (List Bs) := match split s with
  | some a => if a.all QaO then some (a.map low) else none
  | none => none
def QmY (h : Heap) (o : Option (List Bs)) (v : V) (h' : Heap) : Prop := (o = none ∧ v = .tup [.nsl, .bool false] ∧ ∃ t, h' = h ++ t) ∨ ∃ out x, o = some out ∧ v = .tup [x, .bool true] ∧ Grow 1 h h' x (strs out)
theorem Qns {s : Bs} {a : List Bs} (hs : split s = some a) : a.length ≤ s.length + 1 := by
  have := QdZ (Nat.le_refl _) hs
  simp at this; omega
theorem Qxu (HJ : Qad L) {x : V} {l : List Fld} {name : Bs} (hx : Qf 2 x (flds l)) (hl : l.length < 100000) (hln : ∀ f ∈ l, f.1.length ≤ 140737488355328) (hn : name.length ≤ 140737488355328) (hj : (Qm (Qj l name)).length ≤ 100000) :
    Cf F L QgE [x, .str name] h (QmY h (Qby (Qm (Qj l name)))) := by
  refine QHu ?_
  simp only [QnZ]
  simp (maxSteps := 4000000) only [vm, vl, Arg.get, QcM, Qca, QcA, QcB]
  refine Cf.pu (Qgz HJ hx (by omega) hln hn (by omega)) fun t => ?_
  simp only [QaG]
  simp (maxSteps := 4000000) only [vm, vl, QcM, Qca, QcA, QcB]
  refine Cf.pu (Qh3 (by omega)) fun t1 => ?_
  generalize Qm (Qj l name) = s at *
  cases q : split s with
  | none =>
    simp only [Qcm]
    simp (maxSteps := 4000000) only [vm, vl, QcM, Qca, QcA, QcB]
    refine QvS (fun n e h' => e 9 = .bool false ∧ e 10 = .nsl ∧ e 25 = .int .i64 0 ∧ e 26 = .int .i64 0 ∧ ∃ t, h' = h ++ t) ?_ (n := 0) ⟨rfl, rfl, rfl, rfl, _, rfl⟩
    rintro n e h' ⟨e9, e10, e25, e26, t, rfl⟩
    simp only [QiQ]
    simp (maxSteps := 4000000) only [vm, vl, Arg.get, cells, stor, Qa, Qc, Qb, reduceIte, Nat.reduceEqDiff, Int.reduceLT, QcM, Qca, QcA, QcB, e9, e10, e25, e26, decide_false, Bool.not_false]
    exact .inl ⟨by simp [Qby, q], rfl, _, rfl⟩
  | some a =>
    simp only [Qcm]
    have hal := Qns q
    have hfl := QiX a
    generalize Qed a = fa at *
    have l1 := fun {K : QK} {h : Heap} => hfl.len (F := F) (L := L) (e := E0) (K := K) (h := h)
    simp only [QW] at l1
    have main : ∀ (e : Env) (h' : Heap), e 9 = .bool true → e 10 = .nsl → e 24 = fa → e 25 = .int .i64 a.length → e 26 = .int .i64 0 → (∃ t, h' = h ++ t) → Wl F L Qlo (QkY L (QmY h (Qby s))) e h' := by
      rintro e h' e9 e10 e24 e25 e26 ⟨t, rfl⟩
      refine QvS (fun n e h' => ∃ i, n = a.length - i ∧ i ≤ a.length ∧ e 9 = .bool ((a.take i).all QaO) ∧ Grow 1 h h' (e 10) (strs ((a.take i).map low)) ∧ e 24 = fa ∧ e 25 = .int .i64 a.length ∧ e 26 = .int .i64 i) ?_ (n := a.length) ⟨0, by simp, by simp, e9, by rw [e10]; exact Grow.nil, e24, e25, e26⟩
      clear e9 e10 e24 e25 e26
      rintro n e h' ⟨i, rfl, hi, e9, G, e24, e25, e26⟩
      simp only [QiQ]
      generalize e10 : e 10 = x10 at *
      rcases QbX [] hi with ⟨hn', rfl, hd⟩ | ⟨hl1, hl2, hd, htk⟩
      · rw [List.take_of_length_le (Nat.le_refl _)] at G e9
        cases qa : a.all QaO with
        | true =>
          rw [qa] at e9
          simp (maxSteps := 4000000) only [vm, vl, Arg.get, cells, stor, Qa, Qc, Qb, reduceIte, Nat.reduceEqDiff, QcM, Qca, QcA, QcB, e9, e10, e24, e25, e26, hn', Bool.not_true]
          exact .inr ⟨a.map low, x10, by simp only [Qby, q, qa, if_true], rfl, G⟩
        | false =>
          rw [qa] at e9
          simp (maxSteps := 4000000) only [vm, vl, Arg.get, cells, stor, Qa, Qc, Qb, reduceIte, Nat.reduceEqDiff, QcM, Qca, QcA, QcB, e9, e10, e24, e25, e26, hn', Bool.not_false]
          exact .inl ⟨by simp [Qby, q, qa], rfl, G.1⟩
      · have w := Qe (x := (i : Int) + 1) (by omega) (by omega)
        have i1 := fun {K : QK} {h : Heap} => hfl.at (F := F) (L := L) (e := E0) (K := K) (h := h) (i := i) (by rw [QW]; exact hl2)
        have a1 := QjD hl2
        have hmem : a.getD i [] ∈ a := Qez hl2
        have hml := QgA q _ hmem
        generalize hf : a.getD i [] = f at *
        obtain ⟨⟨t0, rfl⟩, _⟩ := id G
        have fin : ∀ t2, ∃ x' h'', Qb7 (h ++ (t0 ++ t2)) 1 16 false x10 (.sl 1 .full [.str (low f)]) = some (x', h'') ∧ Grow 1 h h'' x' (strs ((a.take (i + 1)).map low)) := by
          intro t2
          obtain ⟨x', h'', ha, G3⟩ := (G.more (t := t2)).app (bytes := 16) (y := .str (low f)) (by rw [QW, List.length_map, List.length_take]; omega)
          rw [QhG] at G3
          rw [List.append_assoc] at ha
          exact ⟨x', h'', ha, by rw [htk, List.map_append]; exact G3⟩
        cases qi : (a.take i).all QaO with
        | true =>
          rw [qi] at e9
          simp (maxSteps := 4000000) only [vm, vl, Arg.get, cells, stor, Qa, Qc, Qb, reduceIte, Nat.reduceEqDiff, QcM, Qca, QcA, QcB, e9, e10, e24, e25, e26, hl1, i1, a1, cells, w]
          refine Cf.pu (Qop (by omega)) fun t2 => ?_
          simp (maxSteps := 4000000) only [vm, vl, QcM, Qca, QcA, QcB]
          refine Cf.pu (Qe9 (by omega)) fun t3 => ?_
          obtain ⟨x', h'', ha, G3⟩ := fin (t2 ++ t3)
          simp only [List.append_assoc] at ha ⊢
          simp (maxSteps := 4000000) only [vm, vl, QcM, Qca, QcA, QcB, ha, w]
          refine ⟨a.length - (i + 1), by omega, i + 1, rfl, hl2, ?_, G3, rfl⟩
          rw [htk, List.all_append, qi]; simp
        | false =>
          rw [qi] at e9
          simp (maxSteps := 4000000) only [vm, vl, Arg.get, cells, stor, Qa, Qc, Qb, reduceIte, Nat.reduceEqDiff, QcM, Qca, QcA, QcB, e9, e10, e24, e25, e26, hl1, i1, a1, cells, w]
          refine Cf.pu (Qe9 (by omega)) fun t3 => ?_
          obtain ⟨x', h'', ha, G3⟩ := fin t3
          simp only [List.append_assoc] at ha ⊢
          simp (maxSteps := 4000000) only [vm, vl, QcM, Qca, QcA, QcB, ha, w]
          refine ⟨a.length - (i + 1), by omega, i + 1, rfl, hl2, ?_, G3, rfl⟩
          rw [htk, List.all_append, qi]; simp
    rcases id hfl with ⟨he, rfl⟩ | ⟨o, rfl⟩
    · have ha : a = [] := by simpa [strs] using he
      subst ha
      
      simp (maxSteps := 4000000) only [vm, vl]
      exact main _ _ rfl rfl rfl rfl rfl ⟨_, rfl⟩
    · simp (maxSteps := 4000000) only [vm, vl, QW]
      exact main _ _ rfl rfl rfl rfl rfl ⟨_, rfl⟩
theorem Qt0 {x : V} {l : List Fld} {name : Bs} (hx : Qf 2 x (flds l)) (hl : l.length < 1000000000) (hln : ∀ f ∈ l, f.1.length ≤ 140737488355328) (hn : name.length ≤ 140737488355328) :
    Cf F L Qdq [x, .str name] h (fun v h' => Grow 2 h h' v (flds (without l name))) := by
  refine QEY ?_
  simp only [QpS]
  have l1 := fun {K : QK} {h : Heap} => hx.len (F := F) (L := L) (e := E0) (K := K) (h := h)
  simp only [Q7] at l1
  refine QD2 (fun n e h' => ∃ i, n = l.length - i ∧ i ≤ l.length ∧ e 0 = x ∧ e 1 = .str name ∧ Grow 2 h h' (e 5) (flds (without (l.take i) name)) ∧ e 6 = .int .i64 i) ?_ (n := l.length) ⟨0, by simp, by simp, rfl, rfl, .nil0, rfl⟩
  rintro n e h' ⟨i, rfl, hi, e0, e1, G, e6⟩
  simp only [Qq4]
  generalize e5 : e 5 = x5 at *
  rcases QbX ([], []) hi with ⟨hn', rfl, hd⟩ | ⟨hl1, hl2, hd, htk⟩
  · rw [List.take_of_length_le (Nat.le_refl _)] at G
    simp (maxSteps := 4000000) only [vm, vl, Arg.get, cells, stor, Qb, reduceIte, reduceCtorEq, Nat.reduceEqDiff, QgV, Qhu, Qit, e0, e1, e5, e6, l1, hn']
    exact G
  · have w := Qe (x := (i : Int) + 1) (by omega) (by omega)
    have i1 := fun {K : QK} {h : Heap} => hx.at (F := F) (L := L) (e := E0) (K := K) (h := h) (i := i) (by rw [Q7]; exact hl2)
    have a1 := Qdf hl2
    have hmem : l.getD i ([], []) ∈ l := Qez hl2
    generalize hf : l.getD i ([], []) = f at *
    simp (maxSteps := 4000000) only [vm, vl, Arg.get, cells, stor, Qb, reduceIte, reduceCtorEq, Nat.reduceEqDiff, Nat.reduceAdd, Nat.reduceLeDiff, QgV, Qhu, Qit, e0, e1, e5, e6, l1, hl1, i1, a1, Q1]
    refine Cf.pu (Qsp (hln f hmem) hn) fun t1 => ?_
    have G2 := G.more (t := t1)
    have hwl := Qz2 (l.take i) name
    rw [List.length_take] at hwl
    cases hp : (low f.1 == low name) with
    | true =>
      have hv : without (l.take (i + 1)) name = without (l.take i) name := by
        rw [htk, Qvo]
        have : without [f] name = [] := by
          have hp' := eq_of_beq hp
          simp [without, stays, hp']
        rw [this, List.append_nil]
      simp (maxSteps := 4000000) only [vm, vl, QgV, Qhu, Qit, i1, a1, w, Bool.not_true]
      exact ⟨l.length - (i + 1), by omega, i + 1, rfl, hl2, by rw [hv]; exact G2, rfl⟩
    | false =>
      have hv : without (l.take (i + 1)) name = without (l.take i) name ++ [f] := by
        rw [htk, Qvo]
        have : without [f] name = [f] := by
          have hp' : low f.1 ≠ low name := by intro e; rw [e] at hp; simp at hp
          simp [without, stays, Ne.symm hp']
        rw [this]
      obtain ⟨x', h'', ha, G3⟩ := G2.app (bytes := 32) (y := Q1 f) (by rw [Q7]; omega)
      rw [QjY] at G3
      simp only [Q1] at ha
      simp (maxSteps := 4000000) only [vm, vl, QgV, Qhu, Qit, i1, a1, w, Bool.not_false, ha, Q1]
      exact ⟨l.length - (i + 1), by omega, i + 1, rfl, hl2, by rw [hv]; exact G3, rfl⟩
theorem QIi {x : V} {l : List Fld} {name : Bs} (hx : Qf 2 x (flds l)) (hl : l.length < 100000) (hln : ∀ f ∈ l, f.1.length ≤ 140737488355328) (hn : name.length ≤ 140737488355328) (hsm : Qk l < 100000) (hj : (Qm (Qj l name)).length ≤ 100000) :
    Cf F L Qgo [x, .str name] h (QmY h (Qby (Qm (Qj l name)))) := by
  refine Qwc ?_
  simp only [Qrd]
  simp (maxSteps := 4000000) only [vm, vl, Arg.get, Qa, Qc, Qc1, Qdd, Qdu, Qdl, Qdt]
  refine Cf.pu (QeC hx hl hln hn hsm) fun t => ?_
  simp only [QaG]
  simp (maxSteps := 4000000) only [vm, vl, Qc1, Qdd, Qdu, Qdl, Qdt]
  refine (QhT (by omega)).mono fun v h' hp => ?_
  obtain ⟨⟨t1, rfl⟩, hv⟩ := hp
  generalize Qm (Qj l name) = s at *
  rcases hv with ⟨q, rfl⟩ | ⟨a, y, q, rfl, hy⟩
  · simp (maxSteps := 4000000) only [vm, vl, Qc1, Qdd, Qdu, Qdl, Qdt, Bool.not_false]
    exact .inl ⟨by simp [Qby, q], rfl, _, rfl⟩
  · have hal := Qns q
    have l1 := fun {K : QK} {h : Heap} => hy.len (F := F) (L := L) (e := E0) (K := K) (h := h)
    simp only [QW] at l1
    simp (maxSteps := 4000000) only [vm, vl, Qc1, Qdd, Qdu, Qdl, Qdt, Bool.not_true]
    refine QFM (fun n e h' => ∃ i, n = a.length - i ∧ i ≤ a.length ∧ (a.take i).all QaO = true ∧ e 8 = y ∧ Grow 1 h h' (e 10) (strs ((a.take i).map low)) ∧ e 11 = .int .i64 i) ?_ (n := a.length) ⟨0, by simp, by simp, by simp, rfl, by exact Grow.nil, rfl⟩
    rintro n e h' ⟨i, rfl, hi, hall, e8, G, e11⟩
    simp only [QkX]
    generalize e10 : e 10 = x10 at *
    rcases QbX [] hi with ⟨hn', rfl, hd⟩ | ⟨hl1, hl2, hd, htk⟩
    · rw [List.take_of_length_le (Nat.le_refl _)] at G hall
      simp (maxSteps := 4000000) only [vm, vl, Arg.get, cells, stor, Qa, Qc, Qb, reduceIte, Nat.reduceEqDiff, Qc1, Qdd, Qdu, Qdl, Qdt, e8, e10, e11, l1, hn']
      exact .inr ⟨a.map low, x10, by simp only [Qby, q, hall, if_true], rfl, G⟩
    · have w := Qe (x := (i : Int) + 1) (by omega) (by omega)
      have i1 := fun {K : QK} {h : Heap} => hy.at (F := F) (L := L) (e := E0) (K := K) (h := h) (i := i) (by rw [QW]; exact hl2)
      have a1 := QjD hl2
      have hmem : a.getD i [] ∈ a := Qez hl2
      have hml := QgA q _ hmem
      generalize hf : a.getD i [] = f at *
      simp (maxSteps := 4000000) only [vm, vl, Arg.get, cells, stor, Qa, Qc, Qb, reduceIte, Nat.reduceEqDiff, Qc1, Qdd, Qdu, Qdl, Qdt, e8, e10, e11, l1, hl1, i1, a1, cells]
      refine Cf.pu (QjR (by omega)) fun t2 => ?_
      cases qf : QaO f with
      | false =>
        simp (maxSteps := 4000000) only [vm, vl, Qc1, Qdd, Qdu, Qdl, Qdt, Bool.not_false]
        refine .inl ⟨?_, rfl, ?_⟩
        · have : a.all QaO = false := by
            rw [List.all_eq_false]; exact ⟨f, hmem, by rw [qf]; simp⟩
          simp [Qby, q, this]
        · obtain ⟨⟨t0, rfl⟩, _⟩ := G
          exact ⟨_, by rw [List.append_assoc]⟩
      | true =>
        simp (maxSteps := 4000000) only [vm, vl, Qc1, Qdd, Qdu, Qdl, Qdt, Bool.not_true, i1, a1]
        refine Cf.pu (Qie (by omega)) fun t3 => ?_
        obtain ⟨x', h'', ha, G3⟩ := (G.more (t := t2)).more (t := t3) |>.app (bytes := 16) (y := .str (low f)) (by rw [QW, List.length_map, List.length_take]; omega)
        rw [QhG] at G3
        try simp only [List.append_assoc] at ha
        simp (maxSteps := 4000000) only [vm, vl, Qc1, Qdd, Qdu, Qdl, Qdt, ha, w]
        refine ⟨a.length - (i + 1), by omega, i + 1, rfl, hl2, ?_, ?_, rfl⟩
        · rw [htk, List.all_append, hall]; simp [qf]
        · rw [htk, List.map_append]; exact G3
end Go.Proofs.YtaahialaegfjgaaGreatDoor.Vh
end
section
set_option linter.unusedVariables false
set_option linter.unusedSimpArgs false
namespace Go.Proofs.YtaahialaegfjgaaGreatDoor.Vh
open Go.Vm Go.Vt
attribute [local congr] QF QI QE QG QD QJ
variable {L : QL} {h : Heap}
def seven : List Bs := [[67, 111, 110, 110, 101, 99, 116, 105, 111, 110], [75, 101, 101, 112, 45, 65, 108, 105, 118, 101], [80, 114, 111, 120, 121, 45, 67, 111, 110, 110, 101, 99, 116, 105, 111, 110], [84, 69], [84, 114, 97, 105, 108, 101, 114], [84, 114, 97, 110, 115, 102, 101, 114, 45, 69, 110, 99, 111, 100, 105, 110, 103], [85, 112, 103, 114, 97, 100, 101]]
def QbC : List Bs := [[99, 111, 110, 110, 101, 99, 116, 105, 111, 110], [107, 101, 101, 112, 45, 97, 108, 105, 118, 101], [112, 114, 111, 120, 121, 45, 99, 111, 110, 110, 101, 99, 116, 105, 111, 110], [116, 101], [116, 114, 97, 105, 108, 101, 114], [116, 114, 97, 110, 115, 102, 101, 114, 45, 101, 110, 99, 111, 100, 105, 110, 103], [117, 112, 103, 114, 97, 100, 101]]
def Qa7 : Bs := [67, 111, 110, 110, 101, 99, 116, 105, 111, 110]
def Qe0 (l : List Fld) (name : Bs) : List Bs := (Qby (Qm (Qj l name))).getD []
def Qbh (l : List Fld) : List Fld := l.filter (stays (Qe0 l Qa7 ++ seven))
theorem QwG (s : Bs) : (low s).length = s.length := by unfold low; exact List.length_map ..
theorem QuG {s : Bs} {out : List Bs} (h : Qby s = some out) : out.length ≤ s.length + 1 ∧ ∀ n ∈ out, n.length ≤ s.length := by
  unfold Qby at h
  split at h
  · rename_i a q
    split at h
    · simp only [Option.some.injEq] at h
      subst h
      refine ⟨by rw [List.length_map]; exact Qns q, fun n hn => ?_⟩
      obtain ⟨m, hm, rfl⟩ := List.mem_map.1 hn
      rw [QwG]; exact QgA q _ hm
    · cases h
  · cases h
theorem QG7 (HJ : Qad L) {x : V} {l : List Fld} (hx : Qf 2 x (flds l)) (hl : l.length < 100000) (hln : ∀ f ∈ l, f.1.length ≤ 140737488355328) (hj : (Qm (Qj l Qa7)).length ≤ 100000) :
    Cf F L QgD [x] h (fun v h' => Grow 2 h h' v (flds (Qbh l))) := by
  refine Qyx ?_
  simp only [QpQ]
  simp (maxSteps := 4000000) only [vm, vl, Arg.get, cells, stor]
  refine (Qxu (name := Qa7) HJ hx hl hln (Nat.le_trans (show Qa7.length ≤ 100 by decide) (by omega)) hj).mono fun v h' hp => ?_
  have main : ∀ (y : V) (nm : List Bs) (h1 : Heap), Qe0 l Qa7 = nm → nm.length ≤ 100001 → (∀ n ∈ nm, n.length ≤ 100000) → Ow 1 h h1 y (strs nm) → ∃ x' h'', Qb7 h1 1 16 false y (.sl 1 .full (strs seven)) = some (x', h'') ∧ Cf F L QdN [x, x'] h'' (fun v h' => Grow 2 h h' v (flds (Qbh l))) := by
    intro y nm h1 hnm hlen hmem O
    obtain ⟨x', h'', ha, O2⟩ := O.app (bytes := 16) (y := .sl 1 .full (strs seven)) (ys := strs seven) (.inr ⟨_, rfl⟩) (by rw [QW, QW]; have : seven.length = 7 := rfl; omega)
    refine ⟨x', h'', ha, ?_⟩
    obtain ⟨⟨t2, rfl⟩, _⟩ := id O2
    have hlist := O2.list
    have e : strs nm ++ strs seven = (nm ++ seven).map V.str := by simp [strs]
    rw [e] at hlist
    refine (Qub (names := nm ++ seven) hx hlist (by omega) (by rw [List.length_append]; have : seven.length = 7 := rfl; omega) hln ?_).mono fun v h' G => ?_
    · intro n hn
      rcases List.mem_append.1 hn with hn | hn
      · have := hmem n hn; omega
      · have : ∀ n ∈ seven, n.length ≤ 100 := by decide
        exact Nat.le_trans (this n hn) (by omega)
    · have := G.less
      unfold Qbh
      rw [hnm]; exact this
  rcases hp with ⟨q, rfl, t, rfl⟩ | ⟨out, y, q, rfl, G⟩
  · obtain ⟨x', h'', ha, hc⟩ := main .nsl [] (h ++ t) (by unfold Qe0; rw [show Qby (Qm (Qj l Qa7)) = none from q]; rfl) (by simp) (by simp) Ow.nil
    simp only [strs, seven, List.map_cons, List.map_nil] at ha
    simp (maxSteps := 4000000) only [vm, vl, ha]
    exact hc
  · obtain ⟨b1, b2⟩ := QuG q
    obtain ⟨x', h'', ha, hc⟩ := main y out h' (by unfold Qe0; rw [show Qby (Qm (Qj l Qa7)) = some out from q]; rfl) (by have : (Qm (Qj l Qa7)).length ≤ 100000 := hj; exact Nat.le_trans b1 (by unfold Qa7 at this; omega)) (fun n hn => Nat.le_trans (b2 n hn) hj) G.ow
    simp only [strs, seven, List.map_cons, List.map_nil] at ha
    simp (maxSteps := 4000000) only [vm, vl, ha]
    exact hc
theorem Qtm {ns ms : List Bs} (e : ns.map low = ms.map low) (f : Fld) : stays ns f = stays ms f := by
  have : ∀ ns : List Bs, stays ns f = !((ns.map low).any fun n => n == low f.1) := by intro ns; simp [stays, List.any_map, Function.comp_def]
  rw [this, this, e]
theorem QHx (n : Bs) (r : List Bs) (f : Fld) : stays (n :: r) f = (stays [n] f && stays r f) := by simp [stays]
theorem QJB (ns ms : List Bs) (f : Fld) : stays (ns ++ ms) f = stays (ms ++ ns) f := by simp [stays, Bool.and_comm, Bool.or_comm]
theorem QfS : ∀ (ns : List Bs) (l : List Fld), ns.foldl without l = l.filter (stays ns)
  | [], l => by
    rw [List.foldl_nil]
    exact (List.filter_eq_self.2 fun f _ => by simp [stays]).symm
  | n :: r, l => by
    rw [List.foldl_cons, QfS r, without, List.filter_filter]
    apply List.filter_congr
    intro f _
    rw [QHx n r, Bool.and_comm]
def QiO : Bs := [99, 111, 110, 110, 101, 99, 116, 105, 111, 110]
theorem QtV (l : List Fld) : Qj l QiO = Qj l Qa7 := by
  have e : low QiO = low Qa7 := by decide +kernel
  unfold Qj; rw [e]
theorem QFh {ns : List Bs} {l : List Fld} {f : Fld} (h : f ∈ ns.foldl without l) : f ∈ l := by
  rw [QfS] at h; exact (List.mem_filter.1 h).1
theorem QjV (ns : List Bs) (l : List Fld) : (ns.foldl without l).length ≤ l.length := by
  rw [QfS]; exact List.length_filter_le _ _
theorem QE8 {x : V} {l : List Fld} (hx : Qf 2 x (flds l)) (hl : l.length < 100000) (hln : ∀ f ∈ l, f.1.length ≤ 140737488355328) (hsm : Qk l < 100000) (hj : (Qm (Qj l Qa7)).length ≤ 100000) :
    Cf F L Qgl [x] h (fun v h' => Ow 2 h h' v (flds (Qbh l))) := by
  refine QFv ?_
  simp only [Qnc]
  
  simp (maxSteps := 4000000) only [vm, vl, Arg.get, cells, stor]
  have hn1 := QIi (L := L) (h := h) (name := QiO) hx hl hln (Nat.le_trans (show QiO.length ≤ 100 by decide) (by omega)) hsm (by rw [QtV]; exact hj)
  rw [QtV] at hn1
  refine hn1.mono fun v h' hp => ?_
  have main : ∀ (y : V) (nm : List Bs) (h1 : Heap), Qe0 l Qa7 = nm → nm.length ≤ 100001 → (∀ n ∈ nm, n.length ≤ 100000) → (∃ t, h1 = h ++ t) → Qf 1 y (strs nm) → ∃ x' h'', Qb7 h1 1 16 false (.sl 1 .full (strs QbC)) y = some (x', h'') ∧ ∀ (e : Env), e 5 = x' → e 6 = x → e 7 = .int .i64 0 → Wl F L Qk5 (Qok L (fun v h' => Ow 2 h h' v (flds (Qbh l)))) e h'' := by
    rintro y nm h1 hnm hlen hmem ⟨t1, rfl⟩ hy
    have O : Ow 1 h (h ++ t1) (.sl 1 .full (strs QbC)) (strs QbC) := Ow.full
    obtain ⟨x', h'', ha, O2⟩ := O.app (bytes := 16) hy (by rw [QW, QW]; have : QbC.length = 7 := rfl; omega)
    refine ⟨x', h'', ha, fun e e5 e6 e7 => ?_⟩
    obtain ⟨⟨t2, rfl⟩, _⟩ := id O2
    have hlist := O2.list
    have es : strs QbC ++ strs nm = strs (QbC ++ nm) := by simp [strs]
    rw [es] at hlist
    have hns : (QbC ++ nm).length ≤ 100008 := by rw [List.length_append]; have : QbC.length = 7 := rfl; omega
    have hnb : ∀ n ∈ QbC ++ nm, n.length ≤ 140737488355328 := by
      intro n hn
      rcases List.mem_append.1 hn with hn | hn
      · have : ∀ n ∈ QbC, n.length ≤ 100 := by decide
        exact Nat.le_trans (this n hn) (by omega)
      · have := hmem n hn; omega
    have fin : (QbC ++ nm).foldl without l = Qbh l := by
      rw [QfS]
      unfold Qbh
      rw [hnm]
      apply List.filter_congr
      intro f _
      rw [QJB]
      have e7 : QbC.map low = seven.map low := by decide +kernel
      exact Qtm (by rw [List.map_append, List.map_append, e7]) f
    generalize QbC ++ nm = ns at *
    have l1 := fun {K : QK} {h : Heap} => hlist.len (F := F) (L := L) (e := E0) (K := K) (h := h)
    simp only [QW] at l1
    refine QI9 (fun n e h' => ∃ i, n = ns.length - i ∧ i ≤ ns.length ∧ e 5 = x' ∧ Qf 2 (e 6) (flds ((ns.take i).foldl without l)) ∧ e 7 = .int .i64 i ∧ ∃ t, h' = h ++ t) ?_ (n := ns.length) ⟨0, by simp, by simp, e5, by rw [e6]; exact hx, e7, t2, rfl⟩
    rintro n e h' ⟨i, rfl, hi, e5, G, e7, t, rfl⟩
    simp only [QnY]
    generalize e6 : e 6 = x6 at *
    have fl := QjV (ns.take i) l
    rcases QbX [] hi with ⟨hn', rfl, hd⟩ | ⟨hl1, hl2, hd, htk⟩
    · rw [List.take_of_length_le (Nat.le_refl _), fin] at G
      rw [List.take_of_length_le (Nat.le_refl _), fin] at fl
      obtain ⟨x3, h3, ha3, O3⟩ := (Ow.nil (sz := 2) (h := h) (t := t)).app (bytes := 32) G (by rw [Q7]; simp; omega)
      
      simp (maxSteps := 4000000) only [vm, vl, Arg.get, cells, Qb, reduceIte, Nat.reduceEqDiff, QiG, QjG, Qjv, e5, e6, e7, l1, hn', ha3]
      simpa using O3
    · have w := Qe (x := (i : Int) + 1) (by omega) (by omega)
      have i1 := fun {K : QK} {h : Heap} => hlist.at (F := F) (L := L) (e := E0) (K := K) (h := h) (i := i) (by rw [QW]; exact hl2)
      have a1 := QjD hl2
      have hmem : ns.getD i [] ∈ ns := Qez hl2
      generalize hf : ns.getD i [] = f at *
      
      simp (maxSteps := 4000000) only [vm, vl, Arg.get, cells, Qb, reduceIte, Nat.reduceEqDiff, QiG, QjG, Qjv, e5, e6, e7, l1, hl1, i1, a1, cells]
      refine (Qt0 G (by omega) (fun f hf => hln f (QFh hf)) (hnb f hmem)).mono fun v h2 G2 => ?_
      obtain ⟨⟨t4, rfl⟩, _⟩ := id G2
      have G3 := G2.list
      simp (maxSteps := 4000000) only [vm, vl, QiG, QjG, Qjv, w]
      exact ⟨ns.length - (i + 1), by omega, i + 1, rfl, hl2, by rw [htk, List.foldl_append]; exact G3, rfl, _, rfl⟩
  rcases hp with ⟨q, rfl, t, rfl⟩ | ⟨out, y, q, rfl, G⟩
  · obtain ⟨x', h'', ha, hc⟩ := main .nsl [] (h ++ t) (by unfold Qe0; rw [show Qby (Qm (Qj l Qa7)) = none from q]; rfl) (by simp) (by simp) ⟨t, rfl⟩ (.inl ⟨rfl, rfl⟩)
    simp only [strs, QbC, List.map_cons, List.map_nil] at ha
    
    simp (maxSteps := 4000000) only [vm, vl, ha]
    exact hc _ rfl rfl rfl
  · obtain ⟨b1, b2⟩ := QuG q
    obtain ⟨x', h'', ha, hc⟩ := main y out h' (by unfold Qe0; rw [show Qby (Qm (Qj l Qa7)) = some out from q]; rfl) (Nat.le_trans b1 (by omega)) (fun n hn => Nat.le_trans (b2 n hn) hj) G.1 G.list
    simp only [strs, QbC, List.map_cons, List.map_nil] at ha
    
    simp (maxSteps := 4000000) only [vm, vl, ha]
    exact hc _ rfl rfl rfl
end Go.Proofs.YtaahialaegfjgaaGreatDoor.Vh
end
section
set_option linter.unusedVariables false
set_option linter.unusedSimpArgs false
namespace Go.Proofs.YtaahialaegfjgaaGreatDoor.Vh
theorem Qod (n y : Int) (h0 : 0 ≤ n) (h1 : n < 146097) (hy : y = (n - n / 1460 + n / 36524 - n / 146096) / 365) :
    ∃ B Q R s : Int, 0 ≤ B ∧ B ≤ 3 ∧ 0 ≤ Q ∧ Q ≤ 24 ∧ 0 ≤ R ∧ R ≤ 3 ∧ 0 ≤ s ∧ s ≤ 365 ∧ (s = 365 → R = 3 ∧ (Q ≤ 23 ∨ B = 3)) ∧ n = 36524 * B + 1461 * Q + 365 * R + s ∧ y = 100 * B + 4 * Q + R := by
  obtain ⟨B, hB0, hB3, r, hr0, hr1, hn⟩ : ∃ B : Int, 0 ≤ B ∧ B ≤ 3 ∧ ∃ r : Int, 0 ≤ r ∧ (r ≤ 36523 ∨ B = 3 ∧ r ≤ 36524) ∧ n = 36524 * B + r := by
    by_cases h : n = 146096
    · exact ⟨3, by omega, by omega, 36524, by omega, by omega, by omega⟩
    · exact ⟨n / 36524, by omega, by omega, n - 36524 * (n / 36524), by omega, by omega, by omega⟩
  obtain ⟨Q, hQ0, hQ4, s0, hs0, hs1, hr⟩ : ∃ Q : Int, 0 ≤ Q ∧ Q ≤ 24 ∧ ∃ s : Int, 0 ≤ s ∧ s ≤ 1460 ∧ r = 1461 * Q + s :=
    ⟨r / 1461, by omega, by omega, r - 1461 * (r / 1461), by omega, by omega, by omega⟩
  obtain ⟨R, hR0, hR3, s, hs2, hs3, hs⟩ : ∃ R : Int, 0 ≤ R ∧ R ≤ 3 ∧ ∃ s : Int, 0 ≤ s ∧ (s ≤ 364 ∨ R = 3 ∧ s ≤ 365) ∧ s0 = 365 * R + s := by
    by_cases h : s0 = 1460
    · exact ⟨3, by omega, by omega, 365, by omega, by omega, by omega⟩
    · exact ⟨s0 / 365, by omega, by omega, s0 - 365 * (s0 / 365), by omega, by omega, by omega⟩
  refine ⟨B, Q, R, s, hB0, hB3, hQ0, hQ4, hR0, hR3, hs2, by omega, by omega, by omega, ?_⟩
  subst hs hr hn
  obtain ⟨t, ht, ht01⟩ : ∃ t, (36524 * B + (1461 * Q + (365 * R + s))) / 1460 = 25 * B + Q + t ∧ (t = 0 ∧ 24 * B + Q + 365 * R + s < 1460 ∨ t = 1 ∧ 1460 ≤ 24 * B + Q + 365 * R + s) := by
    by_cases h : 24 * B + Q + 365 * R + s < 1460
    · exact ⟨0, by omega, by omega⟩
    · exact ⟨1, by omega, by omega⟩
  have hu : (36524 * B + (1461 * Q + (365 * R + s))) / 36524 - (36524 * B + (1461 * Q + (365 * R + s))) / 146096 = B := by omega
  rw [hy]
  omega
def mlen (k : Int) : Int := if k = 1 ∨ k = 3 ∨ k = 6 ∨ k = 8 then 30 else if k = 11 then 29 else 31
theorem Qs0 (s k : Int) (h0 : 0 ≤ s) (h1 : s ≤ 365) (hk : k = (5 * s + 2) / 153) : 0 ≤ k ∧ k ≤ 11 ∧ 1 ≤ s - (153 * k + 2) / 5 + 1 ∧ s - (153 * k + 2) / 5 + 1 ≤ mlen k := by
  have hk12 : k = 0 ∨ k = 1 ∨ k = 2 ∨ k = 3 ∨ k = 4 ∨ k = 5 ∨ k = 6 ∨ k = 7 ∨ k = 8 ∨ k = 9 ∨ k = 10 ∨ k = 11 := by omega
  unfold mlen
  rcases hk12 with rfl | rfl | rfl | rfl | rfl | rfl | rfl | rfl | rfl | rfl | rfl | rfl <;> simp <;> omega
theorem QC3 (k d : Int) (h0 : 0 ≤ k) (h1 : k ≤ 11) (hd1 : 1 ≤ d) (hd2 : d ≤ mlen k) : 0 ≤ (153 * k + 2) / 5 + d - 1 ∧ (153 * k + 2) / 5 + d - 1 ≤ 365 ∧ (5 * ((153 * k + 2) / 5 + d - 1) + 2) / 153 = k := by
  have hk12 : k = 0 ∨ k = 1 ∨ k = 2 ∨ k = 3 ∨ k = 4 ∨ k = 5 ∨ k = 6 ∨ k = 7 ∨ k = 8 ∨ k = 9 ∨ k = 10 ∨ k = 11 := by omega
  unfold mlen at hd2
  rcases hk12 with rfl | rfl | rfl | rfl | rfl | rfl | rfl | rfl | rfl | rfl | rfl | rfl <;> simp at hd2 <;> omega
theorem QHH (B Q R s B' Q' R' s' : Int) (h : 36524 * B + 1461 * Q + 365 * R + s = 36524 * B' + 1461 * Q' + 365 * R' + s')
    (a1 : 0 ≤ B) (a2 : B ≤ 3) (a3 : 0 ≤ Q) (a4 : Q ≤ 24) (a5 : 0 ≤ R) (a6 : R ≤ 3) (a7 : 0 ≤ s) (a8 : s ≤ 365) (a9 : s = 365 → R = 3 ∧ (Q ≤ 23 ∨ B = 3))
    (b1 : 0 ≤ B') (b2 : B' ≤ 3) (b3 : 0 ≤ Q') (b4 : Q' ≤ 24) (b5 : 0 ≤ R') (b6 : R' ≤ 3) (b7 : 0 ≤ s') (b8 : s' ≤ 365) (b9 : s' = 365 → R' = 3 ∧ (Q' ≤ 23 ∨ B' = 3)) :
    B = B' ∧ Q = Q' ∧ R = R' ∧ s = s' := by
  have e1 : B = B' := by omega
  have e2 : Q = Q' := by omega
  have e3 : R = R' := by omega
  exact ⟨e1, e2, e3, by omega⟩
def Qa6 (y : Int) : Prop := y % 4 = 0 ∧ (y % 100 ≠ 0 ∨ y % 400 = 0)
instance (y : Int) : Decidable (Qa6 y) := by unfold Qa6; infer_instance
def dim (y m : Int) : Int := if m = 2 then (if Qa6 y then 29 else 28) else if m = 4 ∨ m = 6 ∨ m = 9 ∨ m = 11 then 30 else 31
def Qbi (Y M d : Int) : Int := (Y / 400) * 146097 + (Y % 400) * 365 + (Y % 400) / 4 - (Y % 400) / 100 + (153 * M + 2) / 5 + d - 1 - 719468
def QM (y m d : Int) : Int := if m ≤ 2 then Qbi (y - 1) (m + 9) d else Qbi y (m - 3) d
def Qa4 (n : Int) : Int := (n - n / 1460 + n / 36524 - n / 146096) / 365
def Qa0 (n : Int) : Int := n - (365 * Qa4 n + Qa4 n / 4 - Qa4 n / 100)
def QaJ (n : Int) : Int := (5 * Qa0 n + 2) / 153
def QeI (day : Int) : Int × Int × Int :=
  if QaJ ((day + 719468) % 146097) + 3 > 12 then (Qa4 ((day + 719468) % 146097) + 400 * ((day + 719468) / 146097) + 1, QaJ ((day + 719468) % 146097) + 3 - 12, Qa0 ((day + 719468) % 146097) - (153 * QaJ ((day + 719468) % 146097) + 2) / 5 + 1)
  else (Qa4 ((day + 719468) % 146097) + 400 * ((day + 719468) / 146097), QaJ ((day + 719468) % 146097) + 3, Qa0 ((day + 719468) % 146097) - (153 * QaJ ((day + 719468) % 146097) + 2) / 5 + 1)
theorem QpO (B Q R : Int) (a1 : 0 ≤ B) (a2 : B ≤ 3) (a3 : 0 ≤ Q) (a4 : Q ≤ 24) (a5 : 0 ≤ R) (a6 : R ≤ 3) :
    (100 * B + 4 * Q + R) / 4 = 25 * B + Q ∧ (100 * B + 4 * Q + R) / 100 = B := by omega
theorem Qva (e B Q R : Int) (a1 : 0 ≤ B) (a2 : B ≤ 3) (a3 : 0 ≤ Q) (a4 : Q ≤ 24) (a5 : 0 ≤ R) (a6 : R ≤ 3) : Qa6 (100 * B + 4 * Q + R + 400 * e + 1) ↔ R = 3 ∧ (Q ≤ 23 ∨ B = 3) := by
  unfold Qa6
  omega
theorem Qzw (e y s : Int) (h : 719468 ≤ 146097 * e + (365 * y + y / 4 - y / 100 + s)) (hy0 : 0 ≤ y) (hy1 : y ≤ 399) (hs : s ≤ 305) : 1970 ≤ y + 400 * e := by
  rcases Int.lt_or_le (y + 400 * e) 1970 with h1 | h1
  · exfalso
    obtain ⟨a, ha⟩ : ∃ a, a = y / 4 := ⟨_, rfl⟩
    obtain ⟨b, hb⟩ : ∃ b, b = y / 100 := ⟨_, rfl⟩
    have ha1 : a ≤ 99 := by omega
    have hb1 : 0 ≤ b := by omega
    rw [← ha, ← hb] at h
    have he : 4 ≤ e := by omega
    have he : e = 4 := by omega
    subst he
    have : y ≤ 369 := by omega
    have : a ≤ 92 := by omega
    have : b = 3 ∨ y ≤ 299 := by omega
    omega
  · exact h1
theorem QHb (e y s : Int) (h : 146097 * e + (365 * y + y / 4 - y / 100 + s) ≤ 3652364) (hy0 : 0 ≤ y) (hy1 : y ≤ 399) (hs : 0 ≤ s) : y + 400 * e ≤ 9999 := by
  rcases Int.lt_or_le 9999 (y + 400 * e) with h1 | h1
  · exfalso
    obtain ⟨a, ha⟩ : ∃ a, a = y / 4 := ⟨_, rfl⟩
    obtain ⟨b, hb⟩ : ∃ b, b = y / 100 := ⟨_, rfl⟩
    have ha1 : 0 ≤ a := by omega
    have hb1 : b ≤ 3 := by omega
    rw [← ha, ← hb] at h
    have : 25 ≤ e := by omega
    omega
  · exact h1
theorem QFS (e y s : Int) (h : y + 400 * e ≤ 9999) (hy0 : 0 ≤ y) (hy1 : y ≤ 399) (hs : s ≤ 305) : 146097 * e + (365 * y + y / 4 - y / 100 + s) ≤ 3652364 := by
  obtain ⟨a, ha⟩ : ∃ a, a = y / 4 := ⟨_, rfl⟩
  obtain ⟨b, hb⟩ : ∃ b, b = y / 100 := ⟨_, rfl⟩
  have ha1 : a ≤ 99 := by omega
  have hb1 : b = 3 ∨ y ≤ 299 := by omega
  have hb0 : 0 ≤ b := by omega
  rw [← ha, ← hb]
  have : e ≤ 24 := by omega
  omega
theorem QHm (day : Int) (h0 : 0 ≤ day) (h1 : day ≤ 2932896) :
    ∃ y m d, QeI day = (y, m, d) ∧ 1970 ≤ y ∧ y ≤ 9999 ∧ 1 ≤ m ∧ m ≤ 12 ∧ 1 ≤ d ∧ d ≤ dim y m ∧ QM y m d = day := by
  obtain ⟨e, he⟩ : ∃ e, e = (day + 719468) / 146097 := ⟨_, rfl⟩
  obtain ⟨n, hn⟩ : ∃ n, n = (day + 719468) % 146097 := ⟨_, rfl⟩
  obtain ⟨y, hy⟩ : ∃ y, y = Qa4 n := ⟨_, rfl⟩
  obtain ⟨B, Q, R, s, a1, a2, a3, a4, a5, a6, a7, a8, a9, hn2, hy2⟩ := Qod n y (by omega) (by omega) hy
  obtain ⟨p4, p100⟩ := QpO B Q R a1 a2 a3 a4 a5 a6
  have hs : Qa0 n = s := by unfold Qa0; rw [← hy, hy2, p4, p100]; omega
  obtain ⟨k, hk⟩ : ∃ k, k = QaJ n := ⟨_, rfl⟩
  have hk2 : k = (5 * s + 2) / 153 := by rw [hk]; unfold QaJ; rw [hs]
  obtain ⟨k0, k1, d0, d1⟩ := Qs0 s k a7 a8 hk2
  obtain ⟨d, hd⟩ : ∃ d, d = s - (153 * k + 2) / 5 + 1 := ⟨_, rfl⟩
  rw [← hd] at d0 d1
  have hl := Qva e B Q R a1 a2 a3 a4 a5 a6
  unfold QeI
  rw [← hn, ← he, ← hk, ← hy, hs, ← hd]
  by_cases h12 : k + 3 > 12
  · rw [if_pos h12]
    refine ⟨_, _, _, rfl, by omega, by omega, by omega, by omega, d0, ?_, ?_⟩
    · unfold dim
      unfold mlen at d1
      have hk : k = 10 ∨ k = 11 := by omega
      rcases hk with rfl | rfl
      · simp at d1 ⊢; omega
      · simp only [show (11 + 3 - 12 : Int) = 2 from rfl, if_true]
        by_cases hlp : Qa6 (y + 400 * e + 1)
        · rw [if_pos hlp]; simp at d1; omega
        · rw [if_neg hlp]
          have : s ≠ 365 := fun h => hlp (by rw [hy2]; exact hl.2 (a9 h))
          omega
    · unfold QM Qbi
      rw [if_pos (by omega)]
      have e1 : (y + 400 * e + 1 - 1) / 400 = e := by omega
      have e2 : (y + 400 * e + 1 - 1) % 400 = y := by omega
      rw [e1, e2, hy2, p4, p100]
      have : k + 3 - 12 + 9 = k := by omega
      rw [this]
      omega
  · rw [if_neg h12]
    have hs305 : s ≤ 305 := by omega
    have hn3 : n = 365 * y + y / 4 - y / 100 + s := by rw [hy2, p4, p100]; omega
    have hlo : 1970 ≤ y + 400 * e := Qzw e y s (by rw [← hn3]; omega) (by omega) (by omega) hs305
    have hhi : y + 400 * e ≤ 9999 := QHb e y s (by rw [← hn3]; omega) (by omega) (by omega) a7
    refine ⟨_, _, _, rfl, hlo, hhi, by omega, by omega, d0, ?_, ?_⟩
    · unfold dim
      unfold mlen at d1
      rw [if_neg (by omega)]
      split at d1 <;> split <;> omega
    · unfold QM Qbi
      rw [if_neg (by omega)]
      have e1 : (y + 400 * e) / 400 = e := by omega
      have e2 : (y + 400 * e) % 400 = y := by omega
      rw [e1, e2, hy2, p4, p100]
      have : k + 3 - 3 = k := by omega
      rw [this]
      omega
theorem QEi (Y M d : Int) (hY : 0 ≤ Y) : ∃ e B Q R, 0 ≤ e ∧ 0 ≤ B ∧ B ≤ 3 ∧ 0 ≤ Q ∧ Q ≤ 24 ∧ 0 ≤ R ∧ R ≤ 3 ∧ Y = 100 * B + 4 * Q + R + 400 * e ∧ Qbi Y M d = 146097 * e + 36524 * B + 1461 * Q + 365 * R + (153 * M + 2) / 5 + d - 1 - 719468 := by
  refine ⟨Y / 400, (Y % 400) / 100, (Y % 100) / 4, Y % 4, by omega, by omega, by omega, by omega, by omega, by omega, by omega, by omega, ?_⟩
  unfold Qbi
  omega
theorem Qt7 (y m d : Int) (hy0 : 1970 ≤ y) (hy1 : y ≤ 9999) (hm0 : 1 ≤ m) (hm1 : m ≤ 12) (hd0 : 1 ≤ d) (hd1 : d ≤ dim y m) :
    0 ≤ QM y m d ∧ QM y m d ≤ 2932896 ∧ QeI (QM y m d) = (y, m, d) := by
  obtain ⟨Y, M, hY, hM0, hM1, hnum, hback, hdm⟩ : ∃ Y M, 1969 ≤ Y ∧ 0 ≤ M ∧ M ≤ 11 ∧ QM y m d = Qbi Y M d ∧ (if M + 3 > 12 then (Y + 1, M + 3 - 12, d) else (Y, M + 3, d)) = (y, m, d) ∧ (d ≤ mlen M ∧ (M = 11 → d = 29 → Qa6 (Y + 1)) ∧ (M + 3 > 12 → Y ≤ 9998) ∧ Y ≤ 9999 ∧ (M + 3 ≤ 12 → 1970 ≤ Y)) := by
    unfold dim at hd1
    by_cases h2 : m ≤ 2
    · refine ⟨y - 1, m + 9, by omega, by omega, by omega, by unfold QM; rw [if_pos h2], ?_, ?_⟩
      · rw [if_pos (by omega)]
        congr 1
        · omega
        · congr 1; omega
      · unfold mlen
        have hm12 : m = 1 ∨ m = 2 := by omega
        rcases hm12 with rfl | rfl
        · simp at hd1 ⊢; omega
        · simp only [if_true] at hd1
          split at hd1
          · rename_i hl
            refine ⟨by simp; omega, fun _ _ => by rw [show y - 1 + 1 = y from by omega]; exact hl, by omega, by omega, by omega⟩
          · refine ⟨by simp; omega, fun _ h => by omega, by omega, by omega, by omega⟩
    · refine ⟨y, m - 3, by omega, by omega, by omega, by unfold QM; rw [if_neg h2], ?_, ?_⟩
      · rw [if_neg (by omega)]
        congr 2; omega
      · unfold mlen
        rw [if_neg (by omega)] at hd1
        refine ⟨?_, by omega, by omega, by omega, by omega⟩
        split at hd1 <;> split <;> omega
  obtain ⟨hdl, hlp, hYu, hYv, hYw⟩ := hdm
  obtain ⟨e, B, Q, R, he, a1, a2, a3, a4, a5, a6, hYp, hn⟩ := QEi Y M d (by omega)
  obtain ⟨s0, s1, hk⟩ := QC3 M d hM0 hM1 hd0 hdl
  obtain ⟨s, hs⟩ : ∃ s, s = (153 * M + 2) / 5 + d - 1 := ⟨_, rfl⟩
  rw [← hs] at s0 s1 hk
  have hl := Qva e B Q R a1 a2 a3 a4 a5 a6
  have a9 : s = 365 → R = 3 ∧ (Q ≤ 23 ∨ B = 3) := by
    intro h
    have h11 : M = 11 ∧ d = 29 := by
      unfold mlen at hdl
      split at hdl
      · omega
      · split at hdl <;> omega
    exact hl.1 (by rw [← hYp]; exact hlp h11.1 h11.2)
  have hz : QM y m d + 719468 = 146097 * e + (36524 * B + 1461 * Q + 365 * R + s) := by rw [hnum, hn, hs]; omega
  have hn1 : 36524 * B + 1461 * Q + 365 * R + s ≤ 146096 := by omega
  have hz1 : (QM y m d + 719468) / 146097 = e := by rw [hz]; omega
  have hz2 : (QM y m d + 719468) % 146097 = 36524 * B + 1461 * Q + 365 * R + s := by rw [hz]; omega
  obtain ⟨B', Q', R', s', b1, b2, b3, b4, b5, b6, b7, b8, b9, hn2, hy2⟩ := Qod (36524 * B + 1461 * Q + 365 * R + s) (Qa4 (36524 * B + 1461 * Q + 365 * R + s)) (by omega) (by omega) rfl
  obtain ⟨rfl, rfl, rfl, rfl⟩ := QHH B Q R s B' Q' R' s' hn2 a1 a2 a3 a4 a5 a6 s0 s1 a9 b1 b2 b3 b4 b5 b6 b7 b8 b9
  obtain ⟨p4, p100⟩ := QpO B Q R a1 a2 a3 a4 a5 a6
  have hr : Qa0 (36524 * B + 1461 * Q + 365 * R + s) = s := by unfold Qa0; rw [hy2, p4, p100]; omega
  have hmn : QaJ (36524 * B + 1461 * Q + 365 * R + s) = M := by unfold QaJ; rw [hr]; exact hk
  refine ⟨?_, ?_, ?_⟩
  · have : 0 ≤ M := hM0
    by_cases h12 : M + 3 > 12
    · have := hYu h12
      have hM10 : 10 ≤ M := by omega
      have : 306 ≤ (153 * M + 2) / 5 := by omega
      omega
    · have := hYw (by omega)
      omega
  · by_cases h12 : M + 3 > 12
    · have := hYu h12
      omega
    · have h9 : M ≤ 9 := by omega
      have : s ≤ 305 := by
        have hM : M = 0 ∨ M = 1 ∨ M = 2 ∨ M = 3 ∨ M = 4 ∨ M = 5 ∨ M = 6 ∨ M = 7 ∨ M = 8 ∨ M = 9 := by omega
        unfold mlen at hdl
        rcases hM with rfl | rfl | rfl | rfl | rfl | rfl | rfl | rfl | rfl | rfl <;> simp at hdl hs <;> omega
      obtain ⟨yy, hyy⟩ : ∃ yy, yy = 100 * B + 4 * Q + R := ⟨_, rfl⟩
      have hq : 36524 * B + 1461 * Q + 365 * R = 365 * yy + yy / 4 - yy / 100 := by rw [hyy, p4, p100]; omega
      have hYY : Y = yy + 400 * e := by rw [hyy]; exact hYp
      have hyy1 : yy ≤ 399 := by omega
      have hd9 := QFS e yy s (by rw [← hYY]; exact hYv) (by omega) hyy1 this
      rw [← hq] at hd9
      omega
  · unfold QeI
    rw [hz1, hz2, hmn, hr, hy2, ← hYp]
    have : s - (153 * M + 2) / 5 + 1 = d := by omega
    rw [this]
    exact hback
open Go.Vm
attribute [local congr] QF QI QE QG QD QJ
variable {L : QL} {h : Heap}
theorem wdiv {x c : Int} (h0 : 0 ≤ x) (hc : 0 < c) (h1 : x ≤ 9223372036854775807) : IntKind.i64.wrap (Int.tdiv x c) = x / c := by
  rw [Int.tdiv_eq_ediv_of_nonneg h0]
  have h2 : x / c ≤ x := Int.ediv_le_self _ h0
  have h3 : 0 ≤ x / c := Int.ediv_nonneg h0 (Int.le_of_lt hc)
  exact Qe (by omega) (by omega)
theorem QfW {x c : Int} (h0 : 0 ≤ x) : Int.tmod x c = x % c := Int.tmod_eq_emod_of_nonneg h0
theorem QFV (n : Int) (n0 : 0 ≤ n) (n1 : n < 146097) : IntKind.i64.wrap (Int.tdiv (IntKind.i64.wrap ((IntKind.i64.wrap ((IntKind.i64.wrap (n - (IntKind.i64.wrap (Int.tdiv n 1460)))) + (IntKind.i64.wrap (Int.tdiv n 36524)))) - (IntKind.i64.wrap (Int.tdiv n 146096)))) 365) = Qa4 n := by
  rw [wdiv (x := n) (c := 1460) n0 (by omega) (by omega), wdiv (x := n) (c := 36524) n0 (by omega) (by omega), wdiv (x := n) (c := 146096) n0 (by omega) (by omega),
    Qe (x := n - n / 1460) (by omega) (by omega), Qe (x := n - n / 1460 + n / 36524) (by omega) (by omega), Qe (x := n - n / 1460 + n / 36524 - n / 146096) (by omega) (by omega),
    wdiv (x := n - n / 1460 + n / 36524 - n / 146096) (c := 365) (by omega) (by omega) (by omega)]
  rfl
theorem Qig (n : Int) (n0 : 0 ≤ n) (n1 : n < 146097) : 0 ≤ Qa4 n ∧ Qa4 n ≤ 399 ∧ 0 ≤ Qa0 n ∧ Qa0 n ≤ 365 := by
  obtain ⟨B, Q, R, s, a1, a2, a3, a4, a5, a6, a7, a8, a9, hn2, hy2⟩ := Qod n (Qa4 n) n0 n1 rfl
  obtain ⟨p4, p100⟩ := QpO B Q R a1 a2 a3 a4 a5 a6
  have hs : Qa0 n = s := by unfold Qa0; rw [hy2, p4, p100]; omega
  rw [hs, hy2]
  omega
theorem QFI (n : Int) (n0 : 0 ≤ n) (n1 : n < 146097) : IntKind.i64.wrap (n - (IntKind.i64.wrap ((IntKind.i64.wrap ((IntKind.i64.wrap (365 * Qa4 n)) + (IntKind.i64.wrap (Int.tdiv (Qa4 n) 4)))) - (IntKind.i64.wrap (Int.tdiv (Qa4 n) 100))))) = Qa0 n := by
  obtain ⟨y0, y1, _, _⟩ := Qig n n0 n1
  unfold Qa0
  generalize Qa4 n = y at *
  rw [Qe (x := 365 * y) (by omega) (by omega), wdiv (x := y) (c := 4) y0 (by omega) (by omega), wdiv (x := y) (c := 100) y0 (by omega) (by omega),
    Qe (x := 365 * y + y / 4) (by omega) (by omega), Qe (x := 365 * y + y / 4 - y / 100) (by omega) (by omega)]
  exact Qe (by omega) (by omega)
theorem QzP (n : Int) (n0 : 0 ≤ n) (n1 : n < 146097) : IntKind.i64.wrap (Int.tdiv (IntKind.i64.wrap ((IntKind.i64.wrap (5 * Qa0 n)) + 2)) 153) = QaJ n := by
  obtain ⟨_, _, s0, s1⟩ := Qig n n0 n1
  unfold QaJ
  generalize Qa0 n = s at *
  rw [Qe (x := 5 * s) (by omega) (by omega), Qe (x := 5 * s + 2) (by omega) (by omega)]
  exact wdiv (by omega) (by omega) (by omega)
theorem QsT (n : Int) (n0 : 0 ≤ n) (n1 : n < 146097) : 0 ≤ QaJ n ∧ QaJ n ≤ 11 := by
  obtain ⟨_, _, s0, s1⟩ := Qig n n0 n1
  obtain ⟨m0, m1, _, _⟩ := Qs0 (Qa0 n) (QaJ n) s0 s1 rfl
  exact ⟨m0, m1⟩
theorem QCT (n : Int) (n0 : 0 ≤ n) (n1 : n < 146097) : IntKind.i64.wrap ((IntKind.i64.wrap (Qa0 n - (IntKind.i64.wrap (Int.tdiv (IntKind.i64.wrap ((IntKind.i64.wrap (153 * QaJ n)) + 2)) 5)))) + 1) = Qa0 n - (153 * QaJ n + 2) / 5 + 1 := by
  obtain ⟨_, _, s0, s1⟩ := Qig n n0 n1
  obtain ⟨m0, m1⟩ := QsT n n0 n1
  generalize Qa0 n = s at *
  generalize QaJ n = m at *
  rw [Qe (x := 153 * m) (by omega) (by omega), Qe (x := 153 * m + 2) (by omega) (by omega), wdiv (x := 153 * m + 2) (c := 5) (by omega) (by omega) (by omega),
    Qe (x := s - (153 * m + 2) / 5) (by omega) (by omega)]
  exact Qe (by omega) (by omega)
def Q0 (y m d : Int) : Int := if 1970 ≤ y ∧ y ≤ 9999 ∧ 1 ≤ m ∧ m ≤ 12 ∧ 1 ≤ d ∧ d ≤ dim y m then QM y m d else -1
theorem Qjc (y m : Int) : dim y m ≤ 31 := by
  unfold dim
  split
  · split <;> omega
  · split <;> omega
theorem QyK (Y M d : Int) (h0 : 1969 ≤ Y) (h1 : Y ≤ 9999) (m0 : 0 ≤ M) (m1 : M ≤ 11) (d0 : 1 ≤ d) (d1 : d ≤ 31) :
    IntKind.i64.wrap ((IntKind.i64.wrap ((IntKind.i64.wrap ((IntKind.i64.wrap ((IntKind.i64.wrap ((IntKind.i64.wrap ((IntKind.i64.wrap ((IntKind.i64.wrap ((IntKind.i64.wrap (Int.tdiv Y 400)) * 146097)) + (IntKind.i64.wrap ((Int.tmod Y 400) * 365)))) + (IntKind.i64.wrap (Int.tdiv (Int.tmod Y 400) 4)))) - (IntKind.i64.wrap (Int.tdiv (Int.tmod Y 400) 100)))) + (IntKind.i64.wrap (Int.tdiv (IntKind.i64.wrap ((IntKind.i64.wrap (153 * M)) + 2)) 5)))) + d)) - 1)) - 719468) = Qbi Y M d := by
  rw [QfW (x := Y) (by omega), wdiv (x := Y) (by omega) (by omega) (by omega)]
  unfold Qbi
  have e0 : 0 ≤ Y / 400 := by omega
  have e1 : Y / 400 ≤ 25 := by omega
  have r0 : 0 ≤ Y % 400 := by omega
  have r1 : Y % 400 ≤ 399 := by omega
  generalize Y / 400 = e at *
  generalize Y % 400 = r at *
  have q0 : 0 ≤ r / 4 := by omega
  have q1 : r / 4 ≤ 99 := by omega
  have c0 : 0 ≤ r / 100 := by omega
  have c1 : r / 100 ≤ 3 := by omega
  rw [wdiv (x := r) (c := 4) r0 (by omega) (by omega), wdiv (x := r) (c := 100) r0 (by omega) (by omega), Qe (x := 153 * M) (by omega) (by omega), Qe (x := 153 * M + 2) (by omega) (by omega), wdiv (x := 153 * M + 2) (c := 5) (by omega) (by omega) (by omega)]
  have v0 : 0 ≤ (153 * M + 2) / 5 := by omega
  have v1 : (153 * M + 2) / 5 ≤ 337 := by omega
  generalize r / 4 = q at *
  generalize r / 100 = c at *
  generalize (153 * M + 2) / 5 = v at *
  rw [Qe (x := e * 146097) (by omega) (by omega), Qe (x := r * 365) (by omega) (by omega), Qe (x := e * 146097 + r * 365) (by omega) (by omega), Qe (x := e * 146097 + r * 365 + q) (by omega) (by omega),
    Qe (x := e * 146097 + r * 365 + q - c) (by omega) (by omega), Qe (x := e * 146097 + r * 365 + q - c + v) (by omega) (by omega), Qe (x := e * 146097 + r * 365 + q - c + v + d) (by omega) (by omega), Qe (x := e * 146097 + r * 365 + q - c + v + d - 1) (by omega) (by omega)]
  exact Qe (by omega) (by omega)
theorem Qxw (y m d n : Int) (hn : n = QM y m d) (hy0 : 1970 ≤ y) (hy1 : y ≤ 9999) (hm0 : 1 ≤ m) (hm1 : m ≤ 12) (hd0 : 1 ≤ d) (t : Int × Int × Int) (ht : t = if 0 ≤ n ∧ n ≤ 2932896 then QeI n else (0, 0, 0)) :
    (if t.1 = y then (if t.2.1 = m then (if t.2.2 = d then some n else some (-1)) else some (-1)) else some (-1)) = some (Q0 y m d) := by
  unfold Q0
  by_cases hd : d ≤ dim y m
  · obtain ⟨c0, c1, c2⟩ := Qt7 y m d hy0 hy1 hm0 hm1 hd0 hd
    rw [← hn] at c0 c1 c2
    rw [if_pos ⟨c0, c1⟩, c2] at ht
    subst ht
    rw [if_pos rfl, if_pos rfl, if_pos rfl, if_pos ⟨hy0, hy1, hm0, hm1, hd0, hd⟩, hn]
  · rw [if_neg (show ¬ (1970 ≤ y ∧ y ≤ 9999 ∧ 1 ≤ m ∧ m ≤ 12 ∧ 1 ≤ d ∧ d ≤ dim y m) from fun h => hd h.2.2.2.2.2)]
    by_cases hr : 0 ≤ n ∧ n ≤ 2932896
    · rw [if_pos hr] at ht
      obtain ⟨y', m', d', hc, _, _, _, _, _, hd', _⟩ := QHm n hr.1 hr.2
      rw [hc] at ht
      subst ht
      simp only
      by_cases e1 : y' = y
      · rw [if_pos e1]
        by_cases e2 : m' = m
        · rw [if_pos e2]
          subst e1 e2
          rw [if_neg (fun e3 => hd (by rw [← e3]; exact hd'))]
        · rw [if_neg e2]
      · rw [if_neg e1]
    · rw [if_neg hr] at ht
      subst ht
      simp only
      rw [if_neg (by omega)]
theorem Qjd {x y : Int} : Qx .quo (.int .i64 x) (.int .i64 y) = if y = 0 then none else some (.int .i64 (IntKind.i64.wrap (x.tdiv y))) := by
  by_cases h : y = 0 <;> simp [Qx, QaY, h]
theorem QcI {x y : Int} : Qx .rem (.int .i64 x) (.int .i64 y) = if y = 0 then none else some (.int .i64 (x.tmod y)) := by
  by_cases h : y = 0 <;> simp [Qx, QaY, h]
def Qhj (t : Int × Int × Int) : V := .tup [.int .i64 t.1, .int .i64 t.2.1, .int .i64 t.2.2]
def QgY (day : Int) : Int × Int × Int := if 0 ≤ day ∧ day ≤ 2932896 then QeI day else (0, 0, 0)
theorem Qzt {day : Int} : Cf F L Qfs [.int .i64 day] h (Pu h (Qhj (QgY day))) := by
  refine QIs ?_
  simp only [Qng]
  by_cases h0 : day < 0
  · have e : QgY day = (0, 0, 0) := if_neg (by omega)
    rw [e]
    simp (maxSteps := 4000000) only [vm, vl, Arg.get, Qa, Qc, reduceIte, Qhn, Qic, h0, decide_true, Qhj]
  by_cases h1 : day > 2932896
  · have e : QgY day = (0, 0, 0) := if_neg (by omega)
    rw [e]
    simp (maxSteps := 4000000) only [vm, vl, Arg.get, Qa, Qc, reduceIte, Qhn, Qic, h0, h1, decide_true, decide_false, Qhj]
  have e : QgY day = QeI day := if_pos (by omega)
  rw [e]
  have f1 : IntKind.i64.wrap (day + 719468) = day + 719468 := Qe (by omega) (by omega)
  have f2 : IntKind.i64.wrap ((day + 719468).tdiv 146097) = (day + 719468) / 146097 := wdiv (by omega) (by omega) (by omega)
  have f3 : (day + 719468).tmod 146097 = (day + 719468) % 146097 := QfW (by omega)
  unfold QeI
  have n0 : 0 ≤ (day + 719468) % 146097 := by omega
  have n1 : (day + 719468) % 146097 < 146097 := by omega
  have e0 : 0 ≤ (day + 719468) / 146097 := by omega
  have e1 : (day + 719468) / 146097 ≤ 100 := by omega
  have g1 := QFV _ n0 n1
  have g2 := QFI _ n0 n1
  have g3 := QzP _ n0 n1
  have g4 := QCT _ n0 n1
  obtain ⟨y0, y1, s0, s1⟩ := Qig _ n0 n1
  obtain ⟨m0, m1⟩ := QsT _ n0 n1
  have k1 : IntKind.i64.wrap (QaJ ((day + 719468) % 146097) + 3) = QaJ ((day + 719468) % 146097) + 3 := Qe (by omega) (by omega)
  have k2 : IntKind.i64.wrap (400 * ((day + 719468) / 146097)) = 400 * ((day + 719468) / 146097) := Qe (by omega) (by omega)
  have k3 : IntKind.i64.wrap (Qa4 ((day + 719468) % 146097) + 400 * ((day + 719468) / 146097)) = Qa4 ((day + 719468) % 146097) + 400 * ((day + 719468) / 146097) := Qe (by omega) (by omega)
  have k4 : IntKind.i64.wrap (Qa4 ((day + 719468) % 146097) + 400 * ((day + 719468) / 146097) + 1) = Qa4 ((day + 719468) % 146097) + 400 * ((day + 719468) / 146097) + 1 := Qe (by omega) (by omega)
  have k5 : IntKind.i64.wrap (QaJ ((day + 719468) % 146097) + 3 - 12) = QaJ ((day + 719468) % 146097) + 3 - 12 := Qe (by omega) (by omega)
  by_cases hm : QaJ ((day + 719468) % 146097) + 3 > 12
  · rw [if_pos hm]
    simp (maxSteps := 4000000) only [vm, vl, Arg.get, Qa, Qc, reduceIte, Int.reduceEq, Qhn, Qic, h0, h1, decide_true, decide_false, Qjd, QcI, f1, f2, f3, g1, g2, g3, g4, k1, k2, k3, k4, k5, hm, Qhj]
  · rw [if_neg hm]
    simp (maxSteps := 4000000) only [vm, vl, Arg.get, Qa, Qc, reduceIte, Int.reduceEq, Qhn, Qic, h0, h1, decide_true, decide_false, Qjd, QcI, f1, f2, f3, g1, g2, g3, g4, k1, k2, k3, k4, k5, hm, Qhj]
open Go.Vm
attribute [local congr] QF QI QE QG QD QJ
theorem QrY {y m d Y M n : Int} (hy0 : 1970 ≤ y) (hy1 : y ≤ 9999) (hm0 : 1 ≤ m) (hm1 : m ≤ 12) (hd0 : 1 ≤ d) (hd1 : d ≤ 31) (h0 : 1969 ≤ Y) (h1 : Y ≤ 9999) (m0 : 0 ≤ M) (m1 : M ≤ 11) (hn : Qbi Y M d = n) (hnd : n = QM y m d) :
    QeO L (Pu h (.int .i64 (Q0 y m d))) (.int .i64 y) (.int .i64 m) (.int .i64 d) (.int .i64 Y) (.int .i64 M) h := by
  
  have hw := QyK Y M d h0 h1 m0 m1 hd0 hd1
  rw [hn] at hw
  have hc := Qxw y m d n hnd hy0 hy1 hm0 hm1 hd0 (QgY n) rfl
  simp (maxSteps := 4000000) only [vm, vl, Arg.get, reduceIte, Int.reduceEq, Int.reduceNeg, Qhx, QeO, Qfi, Qjd, QcI, hw]
  refine Cf.pu Qzt fun t => ?_
  generalize QgY n = t at *
  simp only [Qhj]
  by_cases e1 : t.1 = y
  · by_cases e2 : t.2.1 = m
    · by_cases e3 : t.2.2 = d
      · rw [if_pos e1, if_pos e2, if_pos e3] at hc
        injection hc with hc
        simp (maxSteps := 4000000) only [vm, vl, Arg.get, reduceIte, Int.reduceNeg, Qhx, QeO, Qfi, e1, e2, e3, hc, decide_true, decide_false, Bool.not_true]
      · rw [if_pos e1, if_pos e2, if_neg e3] at hc
        injection hc with hc
        rw [← hc]
        simp (maxSteps := 4000000) only [vm, vl, Arg.get, reduceIte, Int.reduceNeg, Qhx, QeO, Qfi, e1, e2, e3, decide_true, decide_false, Bool.not_true, Bool.not_false]
    · rw [if_pos e1, if_neg e2] at hc
      injection hc with hc
      rw [← hc]
      simp (maxSteps := 4000000) only [vm, vl, Arg.get, reduceIte, Int.reduceNeg, Qhx, QeO, Qfi, e1, e2, decide_true, decide_false, Bool.not_true, Bool.not_false]
  · rw [if_neg e1] at hc
    injection hc with hc
    rw [← hc]
    simp (maxSteps := 4000000) only [vm, vl, reduceIte, Int.reduceNeg, Qhx, QeO, Qfi, e1, decide_true, decide_false, Bool.not_true, Bool.not_false]
theorem QB6 {y m d : Int} : Cf F L Qgc [.int .i64 y, .int .i64 m, .int .i64 d] h (Pu h (.int .i64 (Q0 y m d))) := by
  refine QyP ?_
  simp only [QqR]
  
  by_cases a1 : y < 1970
  · rw [show Q0 y m d = -1 from if_neg (by omega)]
    simp (maxSteps := 4000000) only [vm, vl, Arg.get, reduceIte, Int.reduceNeg, a1, decide_true]
  by_cases a2 : y > 9999
  · rw [show Q0 y m d = -1 from if_neg (by omega)]
    simp (maxSteps := 4000000) only [vm, vl, Arg.get, reduceIte, Int.reduceNeg, a1, a2, decide_true, decide_false]
  by_cases a3 : m < 1
  · rw [show Q0 y m d = -1 from if_neg (by omega)]
    simp (maxSteps := 4000000) only [vm, vl, Arg.get, reduceIte, Int.reduceNeg, a1, a2, a3, decide_true, decide_false]
  by_cases a4 : m > 12
  · rw [show Q0 y m d = -1 from if_neg (by omega)]
    simp (maxSteps := 4000000) only [vm, vl, Arg.get, reduceIte, Int.reduceNeg, a1, a2, a3, a4, decide_true, decide_false]
  by_cases a5 : d < 1
  · rw [show Q0 y m d = -1 from if_neg (by omega)]
    simp (maxSteps := 4000000) only [vm, vl, Arg.get, reduceIte, Int.reduceNeg, a1, a2, a3, a4, a5, decide_true, decide_false]
  by_cases a6 : d > 31
  · rw [show Q0 y m d = -1 from if_neg (by have := Qjc y m; omega)]
    simp (maxSteps := 4000000) only [vm, vl, Arg.get, reduceIte, Int.reduceNeg, a1, a2, a3, a4, a5, a6, decide_true, decide_false]
  have w1 : IntKind.i64.wrap (m - 3) = m - 3 := Qe (by omega) (by omega)
  have w2 : IntKind.i64.wrap (y - 1) = y - 1 := Qe (by omega) (by omega)
  have w3 : IntKind.i64.wrap (m + 9) = m + 9 := Qe (by omega) (by omega)
  by_cases a7 : m ≤ 2
  · simp (maxSteps := 4000000) only [vm, vl, Arg.get, reduceIte, Int.reduceNeg, a1, a2, a3, a4, a5, a6, a7, decide_true, decide_false, w1, w2, w3, Qfi]
    exact QrY (by omega) (by omega) (by omega) (by omega) (by omega) (by omega) (by omega) (by omega) (by omega) (by omega) rfl (by unfold QM; rw [if_pos a7])
  · simp (maxSteps := 4000000) only [vm, vl, Arg.get, reduceIte, Int.reduceNeg, a1, a2, a3, a4, a5, a6, a7, decide_true, decide_false, w1, w2, w3, Qfi]
    exact QrY (by omega) (by omega) (by omega) (by omega) (by omega) (by omega) (by omega) (by omega) (by omega) (by omega) rfl (by unfold QM; rw [if_neg a7])
end Go.Proofs.YtaahialaegfjgaaGreatDoor.Vh
end
section
set_option linter.unusedVariables false
set_option linter.unusedSimpArgs false
namespace Go.Proofs.YtaahialaegfjgaaGreatDoor.Vh
open Go.Vm
open Go.Vm Go.Vt
attribute [local congr] QF QI QE QG QD QJ
variable {L : QL} {h : Heap}
def Qo : List Bs := [[77, 111, 110, 100, 97, 121], [84, 117, 101, 115, 100, 97, 121], [87, 101, 100, 110, 101, 115, 100, 97, 121], [84, 104, 117, 114, 115, 100, 97, 121], [70, 114, 105, 100, 97, 121], [83, 97, 116, 117, 114, 100, 97, 121], [83, 117, 110, 100, 97, 121]]
def Qz : List Bs := [[74, 97, 110], [70, 101, 98], [77, 97, 114], [65, 112, 114], [77, 97, 121], [74, 117, 110], [74, 117, 108], [65, 117, 103], [83, 101, 112], [79, 99, 116], [78, 111, 118], [68, 101, 99]]
theorem QEe : Cf F L QfT [] h (Pu h (.agg (Qo.map .str))) := by
  refine QHI ?_
  simp only [Qq0]
  simp (maxSteps := 4000000) only [vm, vl, Arg.get, cells, stor, Qa, Qc, QA, Vm.part, Qu, splice, reduceIte, Nat.reduceEqDiff, Nat.reduceAdd, Nat.reduceLeDiff]
  rfl
theorem QzN : Cf F L Qf5 [] h (Pu h (.agg (Qz.map .str))) := by
  refine QFq ?_
  simp only [QnC]
  simp (maxSteps := 4000000) only [vm, vl, Arg.get, cells, stor, Qa, Qc, QA, Vm.part, Qu, splice, reduceIte, Nat.reduceEqDiff, Nat.reduceAdd, Nat.reduceLeDiff]
  rfl
theorem QkI : ∀ w, w < 7 → 3 ≤ (Qo.getD w []).length ∧ ((Qo.getD w []).take 3).length = 3 := by decide
theorem QjU {l : List Bs} {i : Nat} (hi : i < l.length) : (l.map V.str).getD i (.tup []) = .str (l.getD i []) := by
  rw [List.getD_eq_getElem?_getD, List.getD_eq_getElem?_getD, List.getElem?_map, List.getElem?_eq_getElem hi]; rfl
end Go.Proofs.YtaahialaegfjgaaGreatDoor.Vh
end
section
set_option linter.unusedVariables false
set_option linter.unusedSimpArgs false
namespace Go.Proofs.YtaahialaegfjgaaGreatDoor.Vh
open Go.Vm Go.Vt
attribute [local congr] QF QI QE QG QD QJ
variable {L : QL} {h : Heap}
abbrev Rd := Bs × Bool
def bx (r : Rd) : O := .box [.str r.1, .bool r.2]
def RdP (h : Heap) (id : Nat) (x : V) (r : Rd) (v : V) (h' : Heap) : Prop := v = x ∧ ∃ t, h' = h.set id (bx r) ++ t
theorem Cf.rd {f : FuncId} {args : List V} {id : Nat} {x : V} {r : Rd} {K : QK} (hc : Cf F L f args h (RdP h id x r)) (k : ∀ t, K x (h.set id (bx r) ++ t)) : Cf F L f args h K :=
  hc.mono fun v h' ⟨h1, t, h2⟩ => by rw [h1, h2]; exact k t
theorem QdY {id : Nat} {o : O} (hb : h[id]? = some o) : id < h.length := (List.getElem?_eq_some_iff.1 hb).1
theorem QT {id : Nat} {o : O} {t : Heap} (hi : id < h.length) : (h.set id o ++ t)[id]? = some o := by
  rw [List.getElem?_append_left (by rw [List.length_set]; exact hi), List.getElem?_set_self hi]
theorem QZ {id : Nat} {o o' : O} {t : Heap} (hi : id < h.length) : (h.set id o ++ t).set id o' = h.set id o' ++ t := by
  rw [List.set_append_left _ _ (by rw [List.length_set]; exact hi), List.set_set]
def Q2 (n : Nat) (r : Rd) : Bs × Rd := if r.1.length < n then ([], (r.1, false)) else (r.1.take n, (r.1.drop n, r.2))
theorem Qhz {id n : Nat} {r : Rd} (hb : h[id]? = some (bx r)) (hn : n ≤ 1000000) (hl : r.1.length < 9223372036854775807) : Cf F L QcQ [.ptr id 0, .int .i64 n] h (RdP h id (.str (Q2 n r).1) (Q2 n r).2) := by
  refine QH5 ?_
  simp only [Qni]
  have hb' : h[id]? = some (O.box [.str r.1, .bool r.2]) := hb
  by_cases hc : r.1.length < n
  · have hc' : (r.1.length : Int) < n := by omega
    have e : Q2 n r = ([], (r.1, false)) := if_pos hc
    rw [e]
    simp (maxSteps := 4000000) only [vm, vl, Arg.get, cells, stor, Qi, Qb, splice, reduceIte, Nat.reduceAdd, Nat.reduceLeDiff, QqW, hb', hc']
    exact ⟨rfl, [], by simp [bx]⟩
  · have hc' : ¬ (r.1.length : Int) < n := by omega
    have e : Q2 n r = (r.1.take n, (r.1.drop n, r.2)) := if_neg hc
    have g0 : (0 : Int) ≤ n := by omega
    have g1 : n ≤ r.1.length := by omega
    have g2 : List.take r.1.length r.1 = r.1 := List.take_of_length_le (Nat.le_refl _)
    rw [e]
    simp (maxSteps := 4000000) only [vm, vl, Arg.get, cells, stor, Qi, Qb, splice, reduceIte, Nat.reduceAdd, Nat.reduceLeDiff, Nat.zero_le, QqW, hb', hc', g0, g1, g2, Int.toNat_natCast, List.drop_zero]
    exact ⟨rfl, [], by simp [bx]⟩
def Qs (p : Bs) (r : Rd) : Rd := if (Q2 p.length r).1 = p then (Q2 p.length r).2 else ((Q2 p.length r).2.1, false)
theorem Qbw {id : Nat} {p : Bs} {r : Rd} (hb : h[id]? = some (bx r)) (hn : p.length ≤ 1000000) (hl : r.1.length < 9223372036854775807) : Cf F L QaA [.ptr id 0, .str p] h (RdP h id (.tup []) (Qs p r)) := by
  refine QI5 ?_
  simp only [QlO]
  have hi := QdY hb
  simp (maxSteps := 4000000) only [vm, vl, Arg.get, cells, stor, Qa, splice, Nat.reduceAdd]
  refine Cf.rd (Qhz hb hn hl) fun t => ?_
  unfold Qs
  generalize Q2 p.length r = q at *
  obtain ⟨x, r'⟩ := q
  have hb2 : (h.set id (bx r') ++ t)[id]? = some (O.box [.str r'.1, .bool r'.2]) := QT hi
  by_cases hx : x = p
  · have d : (x == p) = true := by simpa using hx
    rw [if_pos hx]
    simp (maxSteps := 4000000) only [vm, vl, d, Bool.not_true]
    exact ⟨rfl, t, rfl⟩
  · have d : (x == p) = false := by simpa using hx
    rw [if_neg hx]
    simp (maxSteps := 4000000) only [vm, vl, Nat.reduceAdd, d, Bool.not_false, hb2]
    refine ⟨rfl, t, ?_⟩
    rw [QZ hi]; rfl
def dgt (c : UInt8) : Int := ((c.toNat + 208) % 256 : Nat)
def QU (c : UInt8) : Bool := decide (48 ≤ (c.toNat : Int) ∧ (c.toNat : Int) ≤ 57)
theorem Qtx (c : UInt8) : IntKind.u8.wrap ((c.toNat : Int) - 48) = dgt c := Qa2 (p := fun c => IntKind.u8.wrap ((c.toNat : Int) - 48) = dgt c) (by decide +kernel) c
theorem QcV (c : UInt8) : 0 ≤ dgt c ∧ dgt c ≤ 255 := by unfold dgt; omega
theorem Qxa {c : UInt8} {id ir iv : Nat} {r : Rd} {v : Int} (hb : h[id]? = some (bx r)) (h1 : h[ir]? = some (.box [.ptr id 0])) (h2 : h[iv]? = some (.box [.int .i64 v])) (hne : iv ≠ id) (v0 : 0 ≤ v) (v1 : v ≤ 100000000) :
    Cf F L Qd0 [.int .u8 c.toNat, .ptr ir 0, .ptr iv 0] h (fun _ h' => h' = (h.set id (bx (r.1, r.2 && QU c))).set iv (.box [.int .i64 (10 * v + dgt c)])) := by
  refine QJZ ?_
  simp only [QkW]
  have hb' : h[id]? = some (O.box [.str r.1, .bool r.2]) := hb
  obtain ⟨d0, d1⟩ := QcV c
  have w1 : IntKind.i64.wrap (10 * v) = 10 * v := Qe (by omega) (by omega)
  have w2 : IntKind.i64.wrap (dgt c) = dgt c := Qe (by omega) (by omega)
  have w3 : IntKind.i64.wrap (10 * v + dgt c) = 10 * v + dgt c := Qe (by omega) (by omega)
  have wd := Qtx c
  have hiv : (h.set id (bx (r.1, false)))[iv]? = some (.box [.int .i64 v]) := by rw [List.getElem?_set_ne (Ne.symm hne)]; exact h2
  have hiv' : (h.set id (O.box [.str r.1, .bool false]))[iv]? = some (.box [.int .i64 v]) := hiv
  have same : h.set id (bx r) = h := by
    have hi := QdY hb
    apply List.ext_getElem?
    intro j
    by_cases hj : id = j
    · subst hj; rw [List.getElem?_set_self hi, hb]
    · rw [List.getElem?_set_ne hj]
  by_cases c1 : (c.toNat : Int) < 48
  · have q : QU c = false := by simp [QU]; omega
    rw [q, Bool.and_false]
    simp (maxSteps := 4000000) only [vm, vl, Arg.get, cells, stor, Qa, Qb, splice, reduceIte, Nat.reduceAdd, QhL, c1, decide_true, h1, hb', hiv', h2, w1, w2, w3, wd]
    rfl
  · by_cases c2 : (c.toNat : Int) > 57
    · have q : QU c = false := by simp [QU]; omega
      rw [q, Bool.and_false]
      simp (maxSteps := 4000000) only [vm, vl, Arg.get, cells, stor, Qa, Qb, splice, reduceIte, Nat.reduceAdd, QhL, c1, c2, decide_true, decide_false, h1, hb', hiv', h2, w1, w2, w3, wd]
      rfl
    · have q : QU c = true := by simp [QU]; omega
      rw [q, Bool.and_true, same]
      simp (maxSteps := 4000000) only [vm, vl, Arg.get, cells, stor, Qa, Qb, splice, reduceIte, Nat.reduceAdd, QhL, c1, c2, decide_true, decide_false, h1, hb', hiv', h2, w1, w2, w3, wd]
def Q6 (s : Bs) : Int := s.foldl (fun v c => 10 * v + dgt c) 0
theorem Qvu (s : Bs) (c : UInt8) : Q6 (s ++ [c]) = 10 * Q6 s + dgt c := by simp [Q6, List.foldl_append]
theorem QeW {s : Bs} (h : s.length ≤ 4) : 0 ≤ Q6 s ∧ Q6 s ≤ 283305 := by
  match s, h with
  | [], _ => simp [Q6]
  | [a], _ => have := QcV a; simp [Q6]; omega
  | [a, b], _ => have := QcV a; have := QcV b; simp [Q6]; omega
  | [a, b, c], _ => have := QcV a; have := QcV b; have := QcV c; simp [Q6]; omega
  | [a, b, c, d], _ => have := QcV a; have := QcV b; have := QcV c; have := QcV d; simp [Q6]; omega
  | _ :: _ :: _ :: _ :: _ :: _, h => simp at h
def QP (n : Nat) (r : Rd) : Int × Rd := (Q6 (Q2 n r).1, ((Q2 n r).2.1, (Q2 n r).2.2 && (Q2 n r).1.all QU))
theorem Qur (n : Nat) (r : Rd) : (Q2 n r).1.length ≤ n := by
  unfold Q2; split
  · simp
  · rw [List.length_take]; omega
theorem QG0 {id ir iv : Nat} {s : Bs} {r : Rd} {e : Env} {hh : Heap} (hi : id < h.length) (hs : s.length ≤ 4) (e5 : e 5 = .str s) (e6 : e 6 = .ptr iv 0) (e7 : e 7 = .fn Qd0 [.ptr ir 0, .ptr iv 0]) (e14 : e 14 = .int .i64 s.length) (e15 : e 15 = .int .i64 0)
    (hh1 : ∃ t, hh = h.set id (bx r) ++ t) (g1 : hh[ir]? = some (.box [.ptr id 0])) (g2 : hh[iv]? = some (.box [.int .i64 0])) (n1 : h.length ≤ ir) (n2 : h.length ≤ iv) (n3 : ir ≠ iv) :
    Wl F L Qk4 (QmZ L (RdP h id (.int .i64 (Q6 s)) (r.1, r.2 && s.all QU))) e hh := by
  refine QDv (fun n e h' => ∃ i, n = s.length - i ∧ i ≤ s.length ∧ e 5 = .str s ∧ e 6 = .ptr iv 0 ∧ e 7 = .fn Qd0 [.ptr ir 0, .ptr iv 0] ∧ e 14 = .int .i64 s.length ∧ e 15 = .int .i64 i ∧
    (∃ t, h' = h.set id (bx (r.1, r.2 && (s.take i).all QU)) ++ t) ∧ h'[ir]? = some (.box [.ptr id 0]) ∧ h'[iv]? = some (.box [.int .i64 (Q6 (s.take i))])) ?_ (n := s.length) ⟨0, by simp, by simp, e5, e6, e7, e14, e15, by simpa using hh1, g1, by simpa [Q6] using g2⟩
  clear e5 e6 e7 e14 e15 hh1 g1 g2
  rintro n e h' ⟨i, rfl, hil, e5, e6, e7, e14, e15, ⟨t, rfl⟩, g1, g2⟩
  simp only [QlF]
  
  rcases Nat.lt_or_eq_of_le hil with hlt | rfl
  · have hl : (i : Int) < s.length := by omega
    have w := Qe (x := (i : Int) + 1) (by omega) (by omega)
    obtain ⟨c, hc, htk⟩ : ∃ c, s.getD i 0 = c ∧ s.take (i + 1) = s.take i ++ [c] := ⟨s[i], by rw [List.getD_eq_getElem?_getD, List.getElem?_eq_getElem hlt]; rfl, by rw [List.take_add_one, List.getElem?_eq_getElem hlt]; rfl⟩
    have i0 : (0 : Int) ≤ i := by omega
    obtain ⟨b0, b1⟩ := QeW (s := s.take i) (by rw [List.length_take]; omega)
    simp (maxSteps := 4000000) only [vm, vl, Arg.get, Qb, reduceIte, Nat.reduceEqDiff, QhI, QjH, Qks, e5, e6, e7, e14, e15, hl, i0, hlt, hc, Int.toNat_natCast]
    refine (Qxa (c := c) (id := id) (ir := ir) (iv := iv) (r := (r.1, r.2 && (s.take i).all QU)) (QT hi) g1 g2 (by omega) b0 (by omega)).mono fun _ h2 hp => ?_
    subst hp
    simp (maxSteps := 4000000) only [vm, vl, QhI, QjH, Qks, w]
    refine ⟨s.length - (i + 1), by omega, i + 1, rfl, hlt, rfl, ?_, ?_, ?_⟩
    · rw [QZ hi, List.set_append_right _ _ (by rw [List.length_set]; exact n2)]
      refine ⟨t.set (iv - (h.set id (bx (r.1, (r.2 && (s.take i).all QU) && QU c))).length) (.box [.int .i64 (10 * Q6 (s.take i) + dgt c)]), ?_⟩
      rw [htk, List.all_append]
      simp only [List.all_cons, List.all_nil, Bool.and_true, Bool.and_assoc]
    · rw [List.getElem?_set_ne (Ne.symm n3), List.getElem?_set_ne (by omega)]; exact g1
    · rw [htk, Qvu]
      refine List.getElem?_set_self ?_
      rw [List.length_set]
      exact (List.getElem?_eq_some_iff.1 g2).1
  · have hn : ¬ (s.length : Int) < s.length := by omega
    rw [List.take_of_length_le (Nat.le_refl _)] at g2 ⊢
    simp (maxSteps := 4000000) only [vm, vl, Arg.get, Qb, reduceIte, Nat.reduceEqDiff, QhI, QjH, Qks, e5, e6, e7, e14, e15, hn, g2]
    exact ⟨rfl, t, rfl⟩
theorem Qd8 {id n : Nat} {r : Rd} (hb : h[id]? = some (bx r)) (hn : n ≤ 4) (hl : r.1.length < 9223372036854775807) : Cf F L QbJ [.ptr id 0, .int .i64 n] h (RdP h id (.int .i64 (QP n r).1) (QP n r).2) := by
  refine QI8 ?_
  simp only [QpN]
  
  have hi := QdY hb
  simp (maxSteps := 4000000) only [vm, vl, Arg.get, cells, stor, Qb, splice, reduceIte]
  refine Cf.rd (Qhz (h := h ++ [O.box [.ptr id 0]]) (Qp hb) (by omega) hl) fun t => ?_
  have hql := Qur n r
  have eR : QP n r = (Q6 (Q2 n r).1, ((Q2 n r).2.1, (Q2 n r).2.2 && (Q2 n r).1.all QU)) := rfl
  rw [eR]
  generalize Q2 n r = q at *
  obtain ⟨s, r'⟩ := q
  rw [List.set_append_left _ _ hi]
  simp only at hql ⊢
  simp (maxSteps := 4000000) only [vm, vl]
  refine QG0 hi (by omega) rfl rfl rfl rfl rfl ⟨_, rfl⟩ ?_ ?_ (Nat.le_refl _) (by omega) (by omega)
  · rw [List.getElem?_append_right (by rw [List.length_set]; omega), List.length_set, Nat.sub_self]; rfl
  · rw [List.getElem?_append_right (by rw [List.length_set]; omega), List.length_set, show h.length + (t.length + 1) - h.length = t.length + 1 by omega, List.getElem?_cons_succ, List.getElem?_append_right (Nat.le_refl _), Nat.sub_self]; rfl
open Go.Vm Go.Vt
attribute [local congr] QF QI QE QG QD QJ
def lpos (x : Bs) (l : List Bs) : Nat := (l.takeWhile (· != x)).length
theorem QpB (x y : Bs) (r : List Bs) : lpos x (y :: r) = if y = x then 0 else lpos x r + 1 := by
  unfold lpos
  rw [List.takeWhile_cons]
  by_cases h : y = x <;> simp [h]
theorem Qi1 {x : Bs} : ∀ {l : List Bs} {i : Nat}, i < l.length → (∀ j, j < i → l.getD j [] ≠ x) → l.getD i [] = x → lpos x l = i
  | y :: r, 0, _, _, h => by rw [QpB, if_pos (by simpa using h)]
  | y :: r, i + 1, hi, hj, h => by
    rw [QpB, if_neg (by simpa using hj 0 (by omega)), Qi1 (by simpa using hi) (fun j hlt => by simpa using hj (j + 1) (by omega)) (by simpa using h)]
  | [], _, hi, _, _ => by simp at hi
theorem QjM {x : Bs} : ∀ {l : List Bs}, (∀ j, j < l.length → l.getD j [] ≠ x) → lpos x l = l.length
  | [], _ => rfl
  | y :: r, hj => by
    rw [QpB, if_neg (by simpa using hj 0 (by simp)), QjM fun j hlt => by simpa using hj (j + 1) (by simpa using hlt)]; rfl
def QaC (r : Rd) : Int × Rd := if lpos (Q2 3 r).1 Qz < 12 then ((lpos (Q2 3 r).1 Qz : Int) + 1, (Q2 3 r).2) else (0, ((Q2 3 r).2.1, false))
theorem QkQ {id : Nat} {r : Rd} (hb : h[id]? = some (bx r)) (hl : r.1.length < 9223372036854775807) : Cf F L QdE [.ptr id 0] h (RdP h id (.int .i64 (QaC r).1) (QaC r).2) := by
  refine QEK ?_
  simp only [QqT]
  have hi := QdY hb
  simp (maxSteps := 4000000) only [vm, vl, Arg.get, Qe1, Qfn, QfM]
  refine Cf.rd (Qhz (n := 3) hb (by omega) hl) fun t => ?_
  unfold QaC
  generalize Q2 3 r = q at *
  obtain ⟨s, r'⟩ := q
  simp only
  try simp (maxSteps := 4000000) only [vm, vl, Arg.get, cells, stor, Qi, Qa, Qc, Qb, QA, Vm.part, Qu, splice, reduceIte, reduceCtorEq, Nat.reduceEqDiff, Nat.reduceAdd, Nat.reduceSub, Nat.reduceMul, Nat.reduceLeDiff, ne_eq, not_false_eq_true, Int.reduceEq, Int.reduceLT, Int.reduceLE, Int.reduceNeg, Int.reduceToNat, Int.reduceGT, Int.reduceGE, Nat.reduceLT, Nat.lt_add_one, Nat.zero_lt_succ, Nat.succ_pos, Nat.zero_le, beq_self_eq_true, Qe1, Qfn, QfM]
  refine Cf.pu QzN fun t1 => ?_
  try simp (maxSteps := 4000000) only [vm, vl, Qe1, Qfn, QfM]
  refine QE7 (fun n e h' => ∃ i, n = 12 - i ∧ i ≤ 12 ∧ e 0 = .ptr id 0 ∧ e 3 = .str s ∧ e 8 = .agg (Qz.map .str) ∧ e 9 = .int .i64 i ∧ (∃ t, h' = h.set id (bx r') ++ t) ∧ ∀ j, j < i → Qz.getD j [] ≠ s) ?_ (n := 12) ⟨0, by simp, by simp, rfl, rfl, rfl, rfl, ⟨_, rfl⟩, by simp⟩
  rintro n e h' ⟨i, rfl, hil, e0, e3, e8, e9, ⟨t2, rfl⟩, hj⟩
  simp only [Qp1]
  have hb2 : (h.set id (bx r') ++ t2)[id]? = some (O.box [.str r'.1, .bool r'.2]) := QT hi
  have z2 : (Qz.map V.str).length = 12 := rfl
  rcases Nat.lt_or_eq_of_le hil with hlt | rfl
  · have hl12 : (i : Int) < 12 := by omega
    have i0 : (0 : Int) ≤ i := by omega
    have i11 : i ≤ 11 := by omega
    have r2 : (Qz.map V.str).getD i (.tup []) = .str (Qz.getD i []) := QjU hlt
    have w := Qe (x := (i : Int) + 1) (by omega) (by omega)
    generalize hmv : Qz.map V.str = mvs at *
    by_cases hx : Qz.getD i [] = s
    · have hp : lpos s Qz = i := Qi1 hlt hj hx
      have d : (Qz.getD i [] == s) = true := by simpa using hx
      rw [hp, if_pos hlt]
      simp (maxSteps := 4000000) only [vm, vl, Arg.get, cells, stor, Qb, splice, reduceIte, reduceCtorEq, Nat.reduceEqDiff, Nat.reduceAdd, Nat.reduceLeDiff, ne_eq, Qe1, Qfn, QfM, e0, e3, e8, e9, hl12, i0, i11, z2, r2, w, d, Int.toNat_natCast]
      exact ⟨rfl, t2, rfl⟩
    · have d : (Qz.getD i [] == s) = false := by simpa using hx
      simp (maxSteps := 4000000) only [vm, vl, Arg.get, cells, stor, Qb, splice, reduceIte, reduceCtorEq, Nat.reduceEqDiff, Nat.reduceAdd, Nat.reduceLeDiff, ne_eq, Qe1, Qfn, QfM, e0, e3, e8, e9, hl12, i0, i11, z2, r2, w, d, Int.toNat_natCast]
      refine ⟨12 - (i + 1), by omega, i + 1, rfl, hlt, rfl, ⟨t2, rfl⟩, ?_⟩
      intro j hj'
      rcases Nat.lt_or_ge j i with h1 | h1
      · exact hj j h1
      · have : j = i := by omega
        subst this; exact hx
  · have hp : lpos s Qz = 12 := QjM hj
    rw [hp, if_neg (by omega)]
    have hn : ¬ (((12 : Nat) : Int) < 12) := by omega
    simp (maxSteps := 4000000) only [vm, vl, Arg.get, cells, stor, Qb, splice, reduceIte, reduceCtorEq, Nat.reduceEqDiff, Nat.reduceAdd, Nat.reduceSub, ne_eq, Int.reduceLT, Int.reduceLE, Int.reduceToNat, Qe1, Qfn, QfM, e0, e3, e8, e9, hn, hb2]
    refine ⟨rfl, t2, ?_⟩
    rw [QZ hi]; rfl
theorem QjT (n : Nat) (r : Rd) : (Q2 n r).2.1.length ≤ r.1.length := by
  unfold Q2; split
  · simp
  · simp only [List.length_drop]; omega
theorem Qa9 (p : Bs) (r : Rd) : (Qs p r).1.length ≤ r.1.length := by
  have := QjT p.length r
  unfold Qs; split <;> exact this
theorem QcO (n : Nat) (r : Rd) : (QP n r).2.1.length ≤ r.1.length := QjT n r
theorem Qdm {n : Nat} (hn : n ≤ 4) (r : Rd) : 0 ≤ (QP n r).1 ∧ (QP n r).1 ≤ 283305 := QeW (Nat.le_trans (Qur n r) hn)
theorem QnL (r : Rd) : (QaC r).2.1.length ≤ r.1.length := by
  have := QjT 3 r
  unfold QaC; split <;> exact this
theorem QtF (y m d : Int) : -1 ≤ Q0 y m d ∧ Q0 y m d ≤ 2932896 := by
  unfold Q0
  split
  · rename_i h
    obtain ⟨h1, h2, _⟩ := Qt7 y m d h.1 h.2.1 h.2.2.1 h.2.2.2.1 h.2.2.2.2.1 h.2.2.2.2.2
    omega
  · omega
def Qa3 (r : Rd) (w y m d c : Int) : V := if r.2 = true ∧ r.1 = [] ∧ 0 ≤ Q0 y m d ∧ (Q0 y m d + 3) % 7 = w then .tup [.int .i64 (Q0 y m d * 86400 + c), .bool true] else .tup [.int .i64 0, .bool false]
theorem Qjw {id : Nat} {r : Rd} {w y m d c : Int} (hb : h[id]? = some (bx r)) (c0 : 0 ≤ c) (c1 : c ≤ 100000000000) : Cf F L Qeb [.ptr id 0, .int .i64 w, .int .i64 y, .int .i64 m, .int .i64 d, .int .i64 c] h (Pu h (Qa3 r w y m d c)) := by
  refine Qw6 ?_
  simp only [QoA]
  refine Cf.pu QB6 fun t => ?_
  obtain ⟨d0, d1⟩ := QtF y m d
  unfold Qa3
  generalize Q0 y m d = n at *
  obtain ⟨s, ok⟩ := r
  have hb' : (h ++ t)[id]? = some (O.box [.str s, .bool ok]) := Qp hb
  cases ok with
  | false =>
    rw [if_neg (by rintro ⟨h, _⟩; cases h)]
    simp (maxSteps := 4000000) only [vm, vl, Arg.get, Qa, Qc, Qb, reduceIte, Nat.reduceAdd, QgZ, hb', Bool.not_false]
  | true =>
  by_cases hs : s = []
  · subst hs
    have ds : (([] : Bs) == []) = true := rfl
    by_cases n0 : n < 0
    · rw [if_neg (by rintro ⟨_, _, h, _⟩; omega)]
      simp (maxSteps := 4000000) only [vm, vl, Arg.get, Qa, Qc, Qb, reduceIte, Nat.reduceAdd, Nat.reduceLeDiff, beq_self_eq_true, QgZ, hb', Bool.not_true, ds, n0, decide_true]
    · have w1 : IntKind.i64.wrap (n + 3) = n + 3 := Qe (by omega) (by omega)
      have q1 : (n + 3).tmod 7 = (n + 3) % 7 := QfW (by omega)
      have w2 : IntKind.i64.wrap (n * 86400) = n * 86400 := Qe (by omega) (by omega)
      have w3 : IntKind.i64.wrap (n * 86400 + c) = n * 86400 + c := Qe (by omega) (by omega)
      by_cases hw : (n + 3) % 7 = w
      · rw [if_pos ⟨rfl, rfl, by omega, hw⟩]
        simp (maxSteps := 4000000) only [vm, vl, Arg.get, Qa, Qc, Qb, reduceIte, Nat.reduceAdd, Nat.reduceLeDiff, Int.reduceEq, beq_self_eq_true, QgZ, hb', Bool.not_true, ds, n0, decide_false, decide_true, w1, q1, QcI, hw, w2, w3]
      · rw [if_neg (by rintro ⟨_, _, _, h⟩; exact hw h)]
        simp (maxSteps := 4000000) only [vm, vl, Arg.get, Qa, Qc, Qb, reduceIte, Nat.reduceAdd, Nat.reduceLeDiff, Int.reduceEq, beq_self_eq_true, QgZ, hb', Bool.not_true, Bool.not_false, ds, n0, decide_false, w1, q1, QcI, hw]
  · have ds : (s == []) = false := by simpa using hs
    rw [if_neg (by rintro ⟨_, h, _⟩; exact hs h)]
    simp (maxSteps := 4000000) only [vm, vl, Arg.get, Qa, Qc, Qb, reduceIte, Nat.reduceAdd, Nat.reduceLeDiff, QgZ, hb', Bool.not_true, Bool.not_false, ds]
def Qaz (r : Rd) : Int × Rd :=
  let q1 := QP 2 r; let r2 := Qs [58] q1.2; let q3 := QP 2 r2; let r4 := Qs [58] q3.2; let q5 := QP 2 r4
  (q1.1 * 3600 + q3.1 * 60 + min q5.1 59, if q1.1 ≥ 24 ∨ q3.1 ≥ 60 ∨ q5.1 > 60 then (q5.2.1, false) else q5.2)
theorem QoC {id : Nat} {r : Rd} (hb : h[id]? = some (bx r)) (hl : r.1.length < 9223372036854775807) : Cf F L QdI [.ptr id 0] h (RdP h id (.int .i64 (Qaz r).1) (Qaz r).2) := by
  refine QA1 ?_
  simp only [Qmw]
  have hi := QdY hb
  have l1 := QcO 2 r
  have b1 := Qdm (n := 2) (by omega) r
  refine Cf.rd (Qd8 (n := 2) hb (by omega) hl) fun t1 => ?_
  unfold Qaz
  generalize QP 2 r = q1 at *
  have l2 := Qa9 [58] q1.2
  refine Cf.rd (Qbw (p := [58]) (QT hi) (by simp) (by omega)) fun t2 => ?_
  rw [QZ hi]
  simp only
  generalize Qs [58] q1.2 = r2 at *
  have l3 := QcO 2 r2
  have b3 := Qdm (n := 2) (by omega) r2
  rw [List.append_assoc]
  refine Cf.rd (Qd8 (n := 2) (QT hi) (by omega) (by omega)) fun t3 => ?_
  rw [QZ hi]
  generalize QP 2 r2 = q3 at *
  have l4 := Qa9 [58] q3.2
  rw [List.append_assoc]
  refine Cf.rd (Qbw (p := [58]) (QT hi) (by simp) (by omega)) fun t4 => ?_
  rw [QZ hi]
  generalize Qs [58] q3.2 = r4 at *
  have l5 := QcO 2 r4
  have b5 := Qdm (n := 2) (by omega) r4
  rw [List.append_assoc]
  refine Cf.rd (Qd8 (n := 2) (QT hi) (by omega) (by omega)) fun t5 => ?_
  rw [QZ hi]
  generalize QP 2 r4 = q5 at *
  obtain ⟨a, x1⟩ := q1; obtain ⟨m, x3⟩ := q3; obtain ⟨c, x5⟩ := q5
  simp only at *
  have w1 : IntKind.i64.wrap (a * 3600) = a * 3600 := Qe (by omega) (by omega)
  have w2 : IntKind.i64.wrap (m * 60) = m * 60 := Qe (by omega) (by omega)
  have w3 : IntKind.i64.wrap (a * 3600 + m * 60) = a * 3600 + m * 60 := Qe (by omega) (by omega)
  have w4 : IntKind.i64.wrap (a * 3600 + m * 60 + min c 59) = a * 3600 + m * 60 + min c 59 := Qe (by omega) (by omega)
  have hb2 : ∀ t, (h.set id (bx x5) ++ t)[id]? = some (O.box [.str x5.1, .bool x5.2]) := fun t => QT hi
  have fin : ∀ t : Heap, ∃ t', (h.set id (bx x5) ++ t).set id (O.box [.str x5.1, .bool false]) = h.set id (bx (x5.1, false)) ++ t' := fun t => ⟨t, QZ hi⟩
  by_cases h1 : a ≥ 24
  · rw [if_pos (.inl h1)]
    simp (maxSteps := 4000000) only [vm, vl, Arg.get, cells, stor, splice, reduceIte, Nat.reduceAdd, Qhm, h1, decide_true, hb2, w1, w2, w3, w4]
    exact ⟨rfl, fin _⟩
  · by_cases h2 : m ≥ 60
    · rw [if_pos (.inr (.inl h2))]
      simp (maxSteps := 4000000) only [vm, vl, Arg.get, cells, stor, splice, reduceIte, Nat.reduceAdd, Qhm, h1, h2, decide_true, decide_false, hb2, w1, w2, w3, w4]
      exact ⟨rfl, fin _⟩
    · by_cases h3 : c > 60
      · rw [if_pos (.inr (.inr h3))]
        simp (maxSteps := 4000000) only [vm, vl, Arg.get, cells, stor, splice, reduceIte, Nat.reduceAdd, Qhm, h1, h2, h3, decide_true, decide_false, hb2, w1, w2, w3, w4]
        exact ⟨rfl, fin _⟩
      · rw [if_neg (by rintro (h | h | h) <;> omega)]
        simp (maxSteps := 4000000) only [vm, vl, Arg.get, cells, stor, splice, reduceIte, Nat.reduceAdd, Qhm, h1, h2, h3, decide_true, decide_false, hb2, w1, w2, w3, w4]
        exact ⟨rfl, _, rfl⟩
open Go.Vm Go.Vt
attribute [local congr] QF QI QE QG QD QJ
def Qbf (p : Nat → Bool) : Nat → Nat
  | 0 => 0
  | n + 1 => if Qbf p n < n then Qbf p n else if p n then n else n + 1
theorem Qjs {p : Nat → Bool} : ∀ {n : Nat}, (∀ j, j < n → p j = false) → Qbf p n = n
  | 0, _ => rfl
  | n + 1, h => by
    have := Qjs (n := n) fun j hj => h j (by omega)
    unfold Qbf
    rw [this, if_neg (by omega), h n (by omega)]; rfl
theorem QiW {p : Nat → Bool} {i : Nat} (h1 : p i = true) (hj : ∀ j, j < i → p j = false) : ∀ {n : Nat}, i < n → Qbf p n = i
  | n + 1, hi => by
    unfold Qbf
    rcases Nat.lt_or_eq_of_le (Nat.le_of_lt_succ hi) with h | h
    · rw [QiW h1 hj h, if_pos h]
    · subst h
      rw [Qjs hj, if_neg (by omega), h1]; rfl
def nmD (long : Bool) (w : Nat) : Bs := if long then Qo.getD w [] else (Qo.getD w []).take 3
def Qav (long : Bool) (s : Bs) (w : Nat) : Bool := decide (s.length > (nmD long w).length) && (s.take (nmD long w).length == nmD long w)
def Qaa (long : Bool) (r : Rd) : Int × Rd := if Qbf (Qav long r.1) 7 < 7 then ((Qbf (Qav long r.1) 7 : Nat), (r.1.drop (nmD long (Qbf (Qav long r.1) 7)).length, r.2)) else (0, (r.1, false))
theorem QGF (long : Bool) : ∀ w, w < 7 → (nmD long w).length ≤ 10 := by cases long <;> decide
theorem Qq9 {id : Nat} {long : Bool} {r : Rd} (hb : h[id]? = some (bx r)) (hl : r.1.length < 9223372036854775807) : Cf F L QdD [.ptr id 0, .bool long] h (RdP h id (.int .i64 (Qaa long r).1) (Qaa long r).2) := by
  refine QAg ?_
  simp only [QoV]
  have hi := QdY hb
  refine Cf.pu QEe fun t => ?_
  have same : h.set id (bx r) = h := by
    apply List.ext_getElem?
    intro j
    by_cases hj : id = j
    · subst hj; rw [List.getElem?_set_self hi, hb]
    · rw [List.getElem?_set_ne hj]
  refine QFj (fun n e h' => ∃ i, n = 7 - i ∧ i ≤ 7 ∧ e 0 = .ptr id 0 ∧ e 1 = .bool long ∧ e 7 = .agg (Qo.map .str) ∧ e 8 = .int .i64 i ∧ (∃ t, h' = h ++ t) ∧ ∀ j, j < i → Qav long r.1 j = false) ?_ (n := 7) ⟨0, by simp, by simp, rfl, rfl, rfl, rfl, ⟨_, rfl⟩, by simp⟩
  rintro n e h' ⟨i, rfl, hil, e0, e1, e7, e8, ⟨t2, rfl⟩, hj⟩
  simp only [QnP]
  have hb2 : (h ++ t2)[id]? = some (O.box [.str r.1, .bool r.2]) := Qp hb
  have z2 : (Qo.map V.str).length = 7 := rfl
  rcases Nat.lt_or_eq_of_le hil with hlt | rfl
  · have hl7 : (i : Int) < 7 := by omega
    have i0 : (0 : Int) ≤ i := by omega
    have i6 : i ≤ 6 := by omega
    have r2 : (Qo.map V.str).getD i (.tup []) = .str (Qo.getD i []) := QjU hlt
    have w := Qe (x := (i : Int) + 1) (by omega) (by omega)
    have hn10 := QGF long i hlt
    obtain ⟨u1, _⟩ := QkI i hlt
    generalize hdv : Qo.map V.str = dvs at *
    have tail : ∀ (e : Env), e 0 = .ptr id 0 → e 1 = .bool long → e 7 = .agg dvs → QfX L (RdP h id (.int .i64 (Qaa long r).1) (Qaa long r).2) (fun e' h' => ∃ m, m < 7 - i ∧ ∃ i, m = 7 - i ∧ i ≤ 7 ∧ e' 0 = .ptr id 0 ∧ e' 1 = .bool long ∧ e' 7 = .agg dvs ∧ e' 8 = .int .i64 i ∧ (∃ t, h' = h ++ t) ∧ ∀ j, j < i → Qav long r.1 j = false) e (.ptr id 0) (.int .i64 i) (.str (nmD long i)) (.int .i64 i) (h ++ t2) := by
      intro e e0 e1 e7
      
      have no : Qav long r.1 i = false → ∃ m, m < 7 - i ∧ ∃ i, m = 7 - i ∧ i ≤ 7 ∧ True := fun _ => ⟨7 - (i + 1), by omega, i + 1, rfl, hlt, trivial⟩
      have nxt : Qav long r.1 i = false → ∀ j, j < i + 1 → Qav long r.1 j = false := by
        intro hx j hj'
        rcases Nat.lt_or_ge j i with h1 | h1
        · exact hj j h1
        · have : j = i := by omega
          subst this; exact hx
      have hit : Qav long r.1 i = (decide (r.1.length > (nmD long i).length) && (r.1.take (nmD long i).length == nmD long i)) := rfl
      have dR : Qav long r.1 i = true → Qaa long r = ((i : Int), (r.1.drop (nmD long i).length, r.2)) := by
        intro hx
        unfold Qaa
        rw [QiW hx hj hlt, if_pos hlt]
      generalize nmD long i = nm at *
      by_cases c1 : r.1.length > nm.length
      · have c1' : (r.1.length : Int) > nm.length := by omega
        have g1 : nm.length ≤ r.1.length := by omega
        have g0 : (0 : Int) ≤ nm.length := by omega
        have d1 : decide (r.1.length > nm.length) = true := by simpa using c1
        cases c2 : (r.1.take nm.length == nm) with
        | true =>
          have hx : Qav long r.1 i = true := by rw [hit, d1, c2]; rfl
          rw [dR hx]
          simp (maxSteps := 4000000) only [vm, vl, Arg.get, Qi, Qb, reduceIte, reduceCtorEq, Nat.reduceEqDiff, Nat.reduceAdd, Nat.reduceLeDiff, Nat.zero_le, Qhf, QiD, QfX, Qft, hb2, c1', g1, g0, c2, decide_true, Int.toNat_natCast, List.drop_zero]
          have tk := Qhz (L := L) (h := h ++ t2) (n := nm.length) (r := r) (Qp hb) (by omega) hl
          have e : Q2 nm.length r = (r.1.take nm.length, (r.1.drop nm.length, r.2)) := if_neg (by omega)
          rw [e] at tk
          refine tk.mono fun v h2 hp => ?_
          obtain ⟨_, t3, rfl⟩ := hp
          refine ⟨rfl, t2 ++ t3, ?_⟩
          rw [List.set_append_left _ _ hi, List.append_assoc]
        | false =>
          have hx : Qav long r.1 i = false := by rw [hit, d1, c2]; rfl
          simp (maxSteps := 4000000) only [vm, vl, Arg.get, Qi, Qb, reduceIte, reduceCtorEq, Nat.reduceEqDiff, Nat.reduceAdd, Nat.reduceLeDiff, Nat.zero_le, Qhf, QiD, QfX, Qft, hb2, c1', g1, g0, c2, decide_true, Int.toNat_natCast, List.drop_zero, w, e0, e1, e7]
          exact ⟨7 - (i + 1), by omega, i + 1, rfl, hlt, rfl, ⟨t2, rfl⟩, nxt hx⟩
      · have c1' : ¬ (r.1.length : Int) > nm.length := by omega
        have d1 : decide (r.1.length > nm.length) = false := by simpa using c1
        have hx : Qav long r.1 i = false := by rw [hit, d1]; rfl
        simp (maxSteps := 4000000) only [vm, vl, Arg.get, Qb, reduceIte, reduceCtorEq, Nat.reduceEqDiff, Nat.reduceAdd, Nat.reduceLeDiff, Qhf, QiD, QfX, Qft, hb2, c1', decide_false, w, e0, e1, e7]
        exact ⟨7 - (i + 1), by omega, i + 1, rfl, hlt, rfl, ⟨t2, rfl⟩, nxt hx⟩
    
    cases long with
    | true =>
      have nt : nmD true i = Qo.getD i [] := rfl
      rw [← nt] at r2
      simp (maxSteps := 4000000) only [vm, vl, Arg.get, Qi, Qb, reduceIte, Nat.reduceLeDiff, Int.reduceLE, Int.reduceToNat, Nat.zero_le, e0, e1, e7, e8, hl7, i0, i6, z2, r2, Int.toNat_natCast, Qft, Bool.not_true]
      exact tail _ e0 e1 e7
    | false =>
      have nt : List.take 3 (Qo.getD i []) = nmD false i := rfl
      simp (maxSteps := 4000000) only [vm, vl, Arg.get, Qi, Qb, reduceIte, Nat.reduceLeDiff, Int.reduceLE, Int.reduceToNat, Nat.zero_le, e0, e1, e7, e8, hl7, i0, i6, z2, r2, Int.toNat_natCast, Qft, Bool.not_false, u1, List.drop_zero, nt]
      exact tail _ e0 e1 e7
  · have hp : Qbf (Qav long r.1) 7 = 7 := Qjs hj
    have e : Qaa long r = (0, (r.1, false)) := by unfold Qaa; rw [hp, if_neg (by omega)]
    rw [e]
    have hn : ¬ (((7 : Nat) : Int) < 7) := by omega
    
    simp (maxSteps := 4000000) only [vm, vl, Arg.get, cells, stor, Qi, Qb, splice, reduceIte, reduceCtorEq, Nat.reduceEqDiff, Nat.reduceAdd, Nat.reduceSub, Nat.reduceLeDiff, Int.reduceLT, Int.reduceLE, Int.reduceToNat, Qhf, QiD, QfX, Qft, e0, e1, e7, e8, hn, hb2]
    refine ⟨rfl, t2, ?_⟩
    rw [List.set_append_left _ _ hi]; rfl
end Go.Proofs.YtaahialaegfjgaaGreatDoor.Vh
end
section
set_option linter.unusedVariables false
set_option linter.unusedSimpArgs false
namespace Go.Proofs.YtaahialaegfjgaaGreatDoor.Vh
open Go.Vm Go.Vt
attribute [local congr] QF QI QE QG QD QJ
variable {L : QL} {h : Heap}
theorem QmS (long : Bool) (r : Rd) : (Qaa long r).2.1.length ≤ r.1.length := by
  unfold Qaa; split
  · simp only [List.length_drop]; omega
  · exact Nat.le_refl _
theorem Qm8 (r : Rd) : (Qaz r).2.1.length ≤ r.1.length := by
  have h1 := QcO 2 r
  have h2 := Qa9 [58] (QP 2 r).2
  have h3 := QcO 2 (Qs [58] (QP 2 r).2)
  have h4 := Qa9 [58] (QP 2 (Qs [58] (QP 2 r).2)).2
  have h5 := QcO 2 (Qs [58] (QP 2 (Qs [58] (QP 2 r).2)).2)
  unfold Qaz
  simp only
  split <;> first | omega | (simp only; omega)
theorem QgI (r : Rd) : 0 ≤ (Qaz r).1 ∧ (Qaz r).1 ≤ 2000000000 := by
  have h1 := Qdm (n := 2) (by omega) r
  have h3 := Qdm (n := 2) (by omega) (Qs [58] (QP 2 r).2)
  have h5 := Qdm (n := 2) (by omega) (Qs [58] (QP 2 (Qs [58] (QP 2 r).2)).2)
  unfold Qaz
  simp only
  omega
def QaR (r : Rd) : V :=
  let q1 := Qaa false r
  let q2 := Qs [44, 32] q1.2
  let q3 := QP 2 q2
  let q4 := Qs [32] q3.2
  let q5 := QaC q4
  let q6 := Qs [32] q5.2
  let q7 := QP 4 q6
  let q8 := Qs [32] q7.2
  let q9 := Qaz q8
  let q10 := Qs [32, 71, 77, 84] q9.2
  Qa3 q10 q1.1 q7.1 q5.1 q3.1 q9.1
theorem Qey (r : Rd) (w y m d c : Int) : ∃ (n : Int) (b : Bool), Qa3 r w y m d c = .tup [.int .i64 n, .bool b] := by
  unfold Qa3; split
  · exact ⟨_, _, rfl⟩
  · exact ⟨_, _, rfl⟩
theorem QIa {id : Nat} {r : Rd} (hb : h[id]? = some (bx r)) (hl : r.1.length < 9223372036854775807) : Cf F L Qef [.ptr id 0] h (fun v h' => v = QaR r ∧ ∃ r' t, h' = h.set id (bx r') ++ t) := by
  refine QAQ ?_
  simp only [Qoi]
  have hi := QdY hb
  unfold QaR
  simp only
  have l1 := QmS false r
  refine Cf.rd (Qq9 (long := false) (hb) (by omega)) fun t1 => ?_
  generalize Qaa false r = q1 at *
  have l2 := Qa9 [44, 32] q1.2
  refine Cf.rd (Qbw (p := [44, 32]) (QT hi) (by simp) (by omega)) fun t2 => ?_
  rw [QZ hi]
  try rw [List.append_assoc]
  generalize Qs [44, 32] q1.2 = q2 at *
  have l3 := QcO 2 q2
  refine Cf.rd (Qd8 (n := 2) (QT hi) (by omega) (by omega)) fun t3 => ?_
  rw [QZ hi]
  try rw [List.append_assoc]
  generalize QP 2 q2 = q3 at *
  have l4 := Qa9 [32] q3.2
  refine Cf.rd (Qbw (p := [32]) (QT hi) (by simp) (by omega)) fun t4 => ?_
  rw [QZ hi]
  try rw [List.append_assoc]
  generalize Qs [32] q3.2 = q4 at *
  have l5 := QnL q4
  refine Cf.rd (QkQ (QT hi) (by omega)) fun t5 => ?_
  rw [QZ hi]
  try rw [List.append_assoc]
  generalize QaC q4 = q5 at *
  have l6 := Qa9 [32] q5.2
  refine Cf.rd (Qbw (p := [32]) (QT hi) (by simp) (by omega)) fun t6 => ?_
  rw [QZ hi]
  try rw [List.append_assoc]
  generalize Qs [32] q5.2 = q6 at *
  have l7 := QcO 4 q6
  refine Cf.rd (Qd8 (n := 4) (QT hi) (by omega) (by omega)) fun t7 => ?_
  rw [QZ hi]
  try rw [List.append_assoc]
  generalize QP 4 q6 = q7 at *
  have l8 := Qa9 [32] q7.2
  refine Cf.rd (Qbw (p := [32]) (QT hi) (by simp) (by omega)) fun t8 => ?_
  rw [QZ hi]
  try rw [List.append_assoc]
  generalize Qs [32] q7.2 = q8 at *
  have l9 := Qm8 q8
  have bc := QgI q8
  refine Cf.rd (QoC (QT hi) (by omega)) fun t9 => ?_
  rw [QZ hi]
  try rw [List.append_assoc]
  generalize Qaz q8 = q9 at *
  have l10 := Qa9 [32, 71, 77, 84] q9.2
  refine Cf.rd (Qbw (p := [32, 71, 77, 84]) (QT hi) (by simp) (by omega)) fun t10 => ?_
  rw [QZ hi]
  try rw [List.append_assoc]
  generalize Qs [32, 71, 77, 84] q9.2 = q10 at *
  refine Cf.pu (Qjw (QT hi) bc.1 (by omega)) fun t11 => ?_
  obtain ⟨n, b, e⟩ := Qey q10 q1.1 q7.1 q5.1 q3.1 q9.1
  rw [e]
  simp (maxSteps := 4000000) only [vm, vl, Arg.get, Qa, Qc]
  exact ⟨q10, _, rfl⟩
open Go.Vm Go.Vt
attribute [local congr] QF QI QE QG QD QJ
def Qbq (r : Rd) : V :=
  let q1 := Qaa true r
  let q2 := Qs [44, 32] q1.2
  let q3 := QP 2 q2
  let q4 := Qs [45] q3.2
  let q5 := QaC q4
  let q6 := Qs [45] q5.2
  let q7 := QP 2 q6
  let q8 := Qs [32] q7.2
  let q9 := Qaz q8
  let q10 := Qs [32, 71, 77, 84] q9.2
  Qa3 q10 q1.1 (if q7.1 ≥ 70 then q7.1 + 1900 else q7.1 + 2000) q5.1 q3.1 q9.1
theorem QJ1 {id : Nat} {r : Rd} (hb : h[id]? = some (bx r)) (hl : r.1.length < 9223372036854775807) : Cf F L Qec [.ptr id 0] h (fun v h' => v = Qbq r ∧ ∃ r' t, h' = h.set id (bx r') ++ t) := by
  refine QGU ?_
  simp only [Qmp]
  have hi := QdY hb
  unfold Qbq
  simp only
  have l1 := QmS true r
  refine Cf.rd (Qq9 (long := true) (hb) (by omega)) fun t1 => ?_
  generalize Qaa true r = q1 at *
  have l2 := Qa9 [44, 32] q1.2
  refine Cf.rd (Qbw (p := [44, 32]) (QT hi) (by simp) (by omega)) fun t2 => ?_
  rw [QZ hi]
  try rw [List.append_assoc]
  generalize Qs [44, 32] q1.2 = q2 at *
  have l3 := QcO 2 q2
  have bn3 := Qdm (n := 2) (by omega) q2
  refine Cf.rd (Qd8 (n := 2) (QT hi) (by omega) (by omega)) fun t3 => ?_
  rw [QZ hi]
  try rw [List.append_assoc]
  generalize QP 2 q2 = q3 at *
  have l4 := Qa9 [45] q3.2
  refine Cf.rd (Qbw (p := [45]) (QT hi) (by simp) (by omega)) fun t4 => ?_
  rw [QZ hi]
  try rw [List.append_assoc]
  generalize Qs [45] q3.2 = q4 at *
  have l5 := QnL q4
  refine Cf.rd (QkQ (QT hi) (by omega)) fun t5 => ?_
  rw [QZ hi]
  try rw [List.append_assoc]
  generalize QaC q4 = q5 at *
  have l6 := Qa9 [45] q5.2
  refine Cf.rd (Qbw (p := [45]) (QT hi) (by simp) (by omega)) fun t6 => ?_
  rw [QZ hi]
  try rw [List.append_assoc]
  generalize Qs [45] q5.2 = q6 at *
  have l7 := QcO 2 q6
  have bn7 := Qdm (n := 2) (by omega) q6
  refine Cf.rd (Qd8 (n := 2) (QT hi) (by omega) (by omega)) fun t7 => ?_
  rw [QZ hi]
  try rw [List.append_assoc]
  generalize QP 2 q6 = q7 at *
  have l8 := Qa9 [32] q7.2
  refine Cf.rd (Qbw (p := [32]) (QT hi) (by simp) (by omega)) fun t8 => ?_
  rw [QZ hi]
  try rw [List.append_assoc]
  generalize Qs [32] q7.2 = q8 at *
  have l9 := Qm8 q8
  have bc := QgI q8
  refine Cf.rd (QoC (QT hi) (by omega)) fun t9 => ?_
  rw [QZ hi]
  try rw [List.append_assoc]
  generalize Qaz q8 = q9 at *
  have l10 := Qa9 [32, 71, 77, 84] q9.2
  refine Cf.rd (Qbw (p := [32, 71, 77, 84]) (QT hi) (by simp) (by omega)) fun t10 => ?_
  rw [QZ hi]
  try rw [List.append_assoc]
  generalize Qs [32, 71, 77, 84] q9.2 = q10 at *
  have w1 : IntKind.i64.wrap (q7.1 + 1900) = q7.1 + 1900 := Qe (by omega) (by omega)
  have w2 : IntKind.i64.wrap (q7.1 + 2000) = q7.1 + 2000 := Qe (by omega) (by omega)
  by_cases hy : q7.1 ≥ 70
  · rw [if_pos hy]
    obtain ⟨n, b, e⟩ := Qey q10 q1.1 (q7.1 + 1900) q5.1 q3.1 q9.1
    simp (maxSteps := 4000000) only [vm, vl, Arg.get, Qa, Qc, Qg1, hy, decide_true, w1, w2]
    refine Cf.pu (Qjw (QT hi) bc.1 (by omega)) fun t11 => ?_
    rw [e]
    simp (maxSteps := 4000000) only [vm, vl, Qg1]
    exact ⟨q10, _, rfl⟩
  · rw [if_neg hy]
    obtain ⟨n, b, e⟩ := Qey q10 q1.1 (q7.1 + 2000) q5.1 q3.1 q9.1
    simp (maxSteps := 4000000) only [vm, vl, Arg.get, Qa, Qc, Qg1, hy, decide_false, w1, w2]
    refine Cf.pu (Qjw (QT hi) bc.1 (by omega)) fun t11 => ?_
    rw [e]
    simp (maxSteps := 4000000) only [vm, vl, Qg1]
    exact ⟨q10, _, rfl⟩
def Qbo (dg : Nat) (w m : Int) (x : Rd) : V :=
  let q5 := QP dg x
  let q6 := Qs [32] q5.2
  let q7 := Qaz q6
  let q8 := Qs [32] q7.2
  let q9 := QP 4 q8
  Qa3 q9.2 w q9.1 m q5.1 q7.1
def QaI (r : Rd) : V :=
  let q1 := Qaa false r
  let q2 := Qs [32] q1.2
  let q3 := QaC q2
  let q4 := Qs [32] q3.2
  if q4.1.length > 0 ∧ q4.1.getD 0 0 = 32 then Qbo 1 q1.1 q3.1 (Q2 1 q4).2 else Qbo 2 q1.1 q3.1 q4
theorem QqV {id dg : Nat} {w m : Int} {x : Rd} {t : Heap} (hi : id < h.length) (hl : x.1.length < 9223372036854775807) (hd : dg ≤ 4) : QiE L (fun v h' => v = Qbo dg w m x ∧ ∃ r' t, h' = h.set id (bx r') ++ t) (.ptr id 0) (.int .i64 w) (.int .i64 m) (.int .i64 dg) (h.set id (bx x) ++ t) := by
  
  unfold Qbo QiE
  simp only
  have l5 := QcO dg x
  have bn5 := Qdm (n := dg) (by omega) x
  refine Cf.rd (Qd8 (n := dg) (QT hi) (by omega) (by omega)) fun t5 => ?_
  rw [QZ hi]
  try rw [List.append_assoc]
  generalize QP dg x = q5 at *
  have l6 := Qa9 [32] q5.2
  refine Cf.rd (Qbw (p := [32]) (QT hi) (by simp) (by omega)) fun t6 => ?_
  rw [QZ hi]
  try rw [List.append_assoc]
  generalize Qs [32] q5.2 = q6 at *
  have l7 := Qm8 q6
  have bc := QgI q6
  refine Cf.rd (QoC (QT hi) (by omega)) fun t7 => ?_
  rw [QZ hi]
  try rw [List.append_assoc]
  generalize Qaz q6 = q7 at *
  have l8 := Qa9 [32] q7.2
  refine Cf.rd (Qbw (p := [32]) (QT hi) (by simp) (by omega)) fun t8 => ?_
  rw [QZ hi]
  try rw [List.append_assoc]
  generalize Qs [32] q7.2 = q8 at *
  have l9 := QcO 4 q8
  have bn9 := Qdm (n := 4) (by omega) q8
  refine Cf.rd (Qd8 (n := 4) (QT hi) (by omega) (by omega)) fun t9 => ?_
  rw [QZ hi]
  try rw [List.append_assoc]
  generalize QP 4 q8 = q9 at *
  refine Cf.pu (Qjw (QT hi) bc.1 (by omega)) fun t11 => ?_
  obtain ⟨n, b, e⟩ := Qey q9.2 w q9.1 m q5.1 q7.1
  rw [e]
  simp (maxSteps := 4000000) only [vm, vl, Arg.get, Qa, Qc, QiE]
  exact ⟨q9.2, _, rfl⟩
theorem u32 {c : UInt8} : ((c.toNat : Int) = 32) = (c = 32) := propext ⟨fun h => by
  have h2 : c.toNat = (32 : UInt8).toNat := by rw [show (32 : UInt8).toNat = 32 from rfl]; omega
  exact UInt8.toNat_inj.1 h2, fun h => by rw [h]; rfl⟩
theorem QC2 {id : Nat} {r : Rd} (hb : h[id]? = some (bx r)) (hl : r.1.length < 9223372036854775807) : Cf F L Qd4 [.ptr id 0] h (fun v h' => v = QaI r ∧ ∃ r' t, h' = h.set id (bx r') ++ t) := by
  refine QCu ?_
  simp only [Qlm]
  
  have hi := QdY hb
  unfold QaI
  simp only
  have l1 := QmS false r
  refine Cf.rd (Qq9 (long := false) (hb) (by omega)) fun t1 => ?_
  generalize Qaa false r = q1 at *
  have l2 := Qa9 [32] q1.2
  refine Cf.rd (Qbw (p := [32]) (QT hi) (by simp) (by omega)) fun t2 => ?_
  rw [QZ hi]
  try rw [List.append_assoc]
  generalize Qs [32] q1.2 = q2 at *
  have l3 := QnL q2
  refine Cf.rd (QkQ (QT hi) (by omega)) fun t3 => ?_
  rw [QZ hi]
  try rw [List.append_assoc]
  generalize QaC q2 = q3 at *
  have l4 := Qa9 [32] q3.2
  refine Cf.rd (Qbw (p := [32]) (QT hi) (by simp) (by omega)) fun t4 => ?_
  rw [QZ hi]
  try rw [List.append_assoc]
  generalize Qs [32] q3.2 = q4 at *
  have hb2 : ∀ t, (h.set id (bx q4) ++ t)[id]? = some (O.box [.str q4.1, .bool q4.2]) := fun t => QT hi
  by_cases c1 : q4.1.length > 0
  · have c1' : (q4.1.length : Int) > 0 := by omega
    have z0 : 0 < q4.1.length := c1
    by_cases c2 : q4.1.getD 0 0 = 32
    · have c2' : (((q4.1.getD 0 0).toNat : Int) = 32) = True := by rw [u32]; exact eq_true c2
      rw [if_pos ⟨c1, c2⟩]
      simp (maxSteps := 4000000) only [vm, vl, Arg.get, Qb, reduceIte, Nat.reduceAdd, Nat.reduceLeDiff, Int.reduceLE, Int.reduceToNat, hb2, c1', c2', z0, decide_true]
      have l5 := QjT 1 q4
      refine Cf.rd (Qhz (n := 1) (QT hi) (by omega) (by omega)) fun t5 => ?_
      rw [QZ hi]
      try rw [List.append_assoc]
      exact QqV (dg := 1) hi (by omega) (by omega)
    · have c2' : (((q4.1.getD 0 0).toNat : Int) = 32) = False := by rw [u32]; exact eq_false c2
      rw [if_neg (fun h => c2 h.2)]
      simp (maxSteps := 4000000) only [vm, vl, Arg.get, Qb, reduceIte, Nat.reduceAdd, Nat.reduceLeDiff, Int.reduceLE, Int.reduceToNat, hb2, c1', c2', z0, decide_true, decide_false]
      exact QqV (dg := 2) hi (by omega) (by omega)
  · have c1' : ¬ (q4.1.length : Int) > 0 := by omega
    rw [if_neg (fun h => c1 h.1)]
    simp (maxSteps := 4000000) only [vm, vl, Arg.get, Qb, reduceIte, Nat.reduceAdd, Nat.reduceLeDiff, hb2, c1', decide_false]
    exact QqV (dg := 2) hi (by omega) (by omega)
open Go.Vm Go.Vt
attribute [local congr] QF QI QE QG QD QJ
def QaQ (s : Bs) : Nat → V
  | 0 => QaR (s, true)
  | 1 => Qbq (s, true)
  | _ => QaI (s, true)
theorem QFX (s : Bs) (i : Nat) : ∃ (n : Int) (b : Bool), QaQ s i = .tup [.int .i64 n, .bool b] := by
  match i with
  | 0 => unfold QaQ QaR; simp only; exact Qey _ _ _ _ _ _
  | 1 => unfold QaQ Qbq; simp only; exact Qey _ _ _ _ _ _
  | _ + 2 =>
    unfold QaQ QaI Qbo
    simp only
    split
    · exact Qey _ _ _ _ _ _
    · exact Qey _ _ _ _ _ _
def okV : V → Option Int
  | .tup [.int .i64 n, .bool true] => some n
  | _ => none
def orG (a b : Option Int) : Option Int := match a with
  | some n => some n
  | none => b
def QC (s : Bs) : Option Int := orG (okV (QaQ s 0)) (orG (okV (QaQ s 1)) (okV (QaQ s 2)))
def Qax : Option Int → V
  | some n => .tup [.int .i64 n, .bool true]
  | none => .tup [.int .i64 0, .bool false]
theorem QIc {s : Bs} (hs : s.length < 9223372036854775807) : ∀ (f : FuncId) (i : Nat), (i = 0 ∧ f = Qef) ∨ (i = 1 ∧ f = Qec) ∨ (i = 2 ∧ f = Qd4) → ∀ (t : Heap) (K : QK), (∀ t', K (QaQ s i) (h ++ t')) → Cf F L f [.ptr (h.length + t.length) 0] (h ++ (t ++ [O.box [.str s, .bool true]])) K := by
  intro f i hfi t K hK
  have hb : (h ++ (t ++ [O.box [.str s, .bool true]]))[h.length + t.length]? = some (bx (s, true)) := by
    rw [← List.append_assoc, List.getElem?_append_right (by simp)]; simp [bx]
  have post : ∀ (v : V), v = QaQ s i → ∀ h', (∃ r' t', h' = (h ++ (t ++ [O.box [.str s, .bool true]])).set (h.length + t.length) (bx r') ++ t') → K v h' := by
    rintro v rfl h' ⟨r', t', rfl⟩
    rw [List.set_append_right _ _ (by omega), List.append_assoc]
    exact hK _
  rcases hfi with ⟨rfl, rfl⟩ | ⟨rfl, rfl⟩ | ⟨rfl, rfl⟩
  · exact (QIa hb hs).mono fun v h' hp => post v hp.1 h' hp.2
  · exact (QJ1 hb hs).mono fun v h' hp => post v hp.1 h' hp.2
  · exact (QC2 hb hs).mono fun v h' hp => post v hp.1 h' hp.2
theorem QJK {s : Bs} (hs : s.length < 9223372036854775807) : Cf F L Qfl [.str s] h (Pu h (Qax (QC s))) := by
  refine QHi ?_
  simp only [Qn1]
  simp (maxSteps := 4000000) only [vm, vl, Arg.get, cells, stor, Qu, splice, reduceIte, Nat.reduceAdd, Nat.reduceLeDiff, Qcv, QcC, QcF]
  refine QC0 (fun n e h' => ∃ i, n = 3 - i ∧ i ≤ 3 ∧ e 0 = .str s ∧ e 8 = .agg [.fn Qef [], .fn Qec [], .fn Qd4 []] ∧ e 9 = .int .i64 i ∧ (∃ t, h' = h ++ t) ∧ ∀ j, j < i → okV (QaQ s j) = none) ?_ (n := 3) ⟨0, by simp, by simp, rfl, rfl, rfl, ⟨[], by simp⟩, by simp⟩
  rintro n e h' ⟨i, rfl, hil, e0, e8, e9, ⟨t, rfl⟩, hj⟩
  simp only [Qpb]
  have hi : i = 0 ∨ i = 1 ∨ i = 2 ∨ i = 3 := by omega
  have nx : okV (QaQ s i) = none → ∀ j, j < i + 1 → okV (QaQ s j) = none := by
    intro hx j hj'
    rcases Nat.lt_or_ge j i with h1 | h1
    · exact hj j h1
    · have : j = i := by omega
      subst this; exact hx
  obtain ⟨n, b, en⟩ := QFX s i
  have P := fun f hf => QIc (L := L) (h := h) hs f i hf t
  rcases hi with rfl | rfl | rfl | rfl
  · simp (maxSteps := 4000000) only [vm, vl, Arg.get, cells, stor, Qa, Qc, Qb, Qu, splice, reduceIte, reduceCtorEq, Nat.reduceEqDiff, Nat.reduceAdd, Nat.reduceSub, Nat.reduceLeDiff, Int.reduceLT, Int.reduceLE, Int.reduceToNat, Qcv, QcC, QcF, e0, e8, e9, decide_true, List.getD_cons_zero, List.getD_cons_succ, List.length_append]
    refine P _ (.inl ⟨rfl, rfl⟩) _ fun t' => ?_
    rw [en]
    cases b with
    | true =>
      have ed : QC s = some n := by rw [QC, en]; rfl
      rw [ed]
      simp (maxSteps := 4000000) only [vm, vl, Qcv, QcC, QcF, Qax]
    | false =>
      have w : IntKind.i64.wrap ((0 : Int) + 1) = ((0 + 1 : Nat) : Int) := by rw [Qe (by omega) (by omega)]; rfl
      simp (maxSteps := 4000000) only [vm, vl, Qcv, QcC, QcF, w]
      exact ⟨3 - (0 + 1), by omega, 0 + 1, rfl, by omega, rfl, ⟨t', rfl⟩, nx (by rw [en]; rfl)⟩
  · simp (maxSteps := 4000000) only [vm, vl, Arg.get, cells, stor, Qa, Qc, Qb, Qu, splice, reduceIte, reduceCtorEq, Nat.reduceEqDiff, Nat.reduceAdd, Nat.reduceSub, Nat.reduceLeDiff, Int.reduceLT, Int.reduceLE, Int.reduceToNat, Qcv, QcC, QcF, e0, e8, e9, decide_true, List.getD_cons_zero, List.getD_cons_succ, List.length_append]
    refine P _ (.inr (.inl ⟨rfl, rfl⟩)) _ fun t' => ?_
    rw [en]
    cases b with
    | true =>
      have ed : QC s = some n := by rw [QC, hj 0 (by omega), en]; rfl
      rw [ed]
      simp (maxSteps := 4000000) only [vm, vl, Qcv, QcC, QcF, Qax]
    | false =>
      have w : IntKind.i64.wrap ((1 : Int) + 1) = ((1 + 1 : Nat) : Int) := by rw [Qe (by omega) (by omega)]; rfl
      simp (maxSteps := 4000000) only [vm, vl, Nat.reduceAdd, Qcv, QcC, QcF, w]
      exact ⟨3 - (1 + 1), by omega, 1 + 1, rfl, by omega, rfl, ⟨t', rfl⟩, nx (by rw [en]; rfl)⟩
  · simp (maxSteps := 4000000) only [vm, vl, Arg.get, cells, stor, Qa, Qc, Qb, Qu, splice, reduceIte, reduceCtorEq, Nat.reduceEqDiff, Nat.reduceAdd, Nat.reduceSub, Nat.reduceLeDiff, Int.reduceLT, Int.reduceLE, Int.reduceToNat, Qcv, QcC, QcF, e0, e8, e9, decide_true, List.getD_cons_zero, List.getD_cons_succ, List.length_append]
    refine P _ (.inr (.inr ⟨rfl, rfl⟩)) _ fun t' => ?_
    rw [en]
    cases b with
    | true =>
      have ed : QC s = some n := by rw [QC, hj 0 (by omega), hj 1 (by omega), en]; rfl
      rw [ed]
      simp (maxSteps := 4000000) only [vm, vl, Qcv, QcC, QcF, Qax]
    | false =>
      have w : IntKind.i64.wrap ((2 : Int) + 1) = ((2 + 1 : Nat) : Int) := by rw [Qe (by omega) (by omega)]; rfl
      simp (maxSteps := 4000000) only [vm, vl, Nat.reduceAdd, Qcv, QcC, QcF, w]
      exact ⟨3 - (2 + 1), by omega, 2 + 1, rfl, by omega, rfl, ⟨t', rfl⟩, nx (by rw [en]; rfl)⟩
  · have ed : QC s = none := by rw [QC, hj 0 (by omega), hj 1 (by omega), hj 2 (by omega)]; rfl
    rw [ed]
    simp (maxSteps := 4000000) only [vm, vl, Arg.get, cells, stor, Qa, Qc, Qb, Qu, splice, reduceIte, Nat.reduceAdd, Nat.reduceLeDiff, Int.reduceLT, Int.reduceLE, Int.reduceToNat, Qcv, QcC, QcF, e0, e8, e9, decide_false, Qax]
end Go.Proofs.YtaahialaegfjgaaGreatDoor.Vh
end
section
set_option linter.unusedVariables false
set_option linter.unusedSimpArgs false
namespace Go.Proofs.YtaahialaegfjgaaGreatDoor.Vh
open Go.Vm
attribute [local congr] QF QI QE QG QD QJ
variable {L : QL} {h : Heap}
def Q4 (c : Int) : Bool := [200, 203, 204, 206, 300, 301, 308, 404, 405, 410, 414, 501].contains c
theorem QIB : Cf F L QfH [] h (Pu h (.agg ([200, 203, 204, 206, 300, 301, 308, 404, 405, 410, 414, 501].map (.int .i64)))) := by
  refine QDY ?_
  simp only [QoI]
  simp (maxSteps := 4000000) only [vm, vl, Arg.get, cells, stor, Qa, Qc, QA, Vm.part, Qu, splice, reduceIte, Nat.reduceEqDiff, Nat.reduceAdd, Nat.reduceLeDiff]
  (repeat' ((first | refine Qao (fun _ => ?_) (fun _ => ?_) | refine Qaj (fun _ => ?_) (fun _ => ?_) | refine Qar (fun _ => ?_) (fun _ => ?_) | refine Qal (fun _ => ?_) (fun _ => ?_) | refine Qaq (fun _ => ?_) (fun _ => ?_) | refine Qan (fun _ => ?_) (fun _ => ?_) | refine Qap (fun _ => ?_) (fun _ => ?_) | refine Qak (fun _ => ?_) (fun _ => ?_) | refine Qas (fun _ => ?_) (fun _ => ?_)) <;> try simp (maxSteps := 4000000) only [vm, vl, Arg.get, cells, stor, Qi, Qa, Qc, Qb, QA, Vm.part, Qu, splice, reduceIte, reduceCtorEq, Nat.reduceEqDiff, Nat.reduceAdd, Nat.reduceSub, Nat.reduceMul, Nat.reduceLeDiff, ne_eq, not_false_eq_true, Int.reduceEq, Int.reduceLT, Int.reduceLE, Int.reduceNeg, Int.reduceToNat, Int.reduceGT, Int.reduceGE, Nat.reduceLT, Nat.lt_add_one, Nat.zero_lt_succ, Nat.succ_pos, Nat.zero_le, beq_self_eq_true, *]))
theorem Qz7 {c : Int} : ∀ {i : Nat}, i < 12 → ([200, 203, 204, 206, 300, 301, 308, 404, 405, 410, 414, 501] : List Int).getD i 0 = c → Q4 c = true := by
  intro i hi he
  subst he
  unfold Q4
  rw [List.contains_iff_mem, List.getD_eq_getElem?_getD, List.getElem?_eq_getElem hi, Option.getD_some]
  exact List.getElem_mem _
theorem QCt {c : Int} (h : ∀ i, i < 12 → ([200, 203, 204, 206, 300, 301, 308, 404, 405, 410, 414, 501] : List Int).getD i 0 ≠ c) : Q4 c = false := by
  cases hk : Q4 c
  · rfl
  · unfold Q4 at hk
    rw [List.contains_iff_mem] at hk
    obtain ⟨i, hi, rfl⟩ := List.getElem_of_mem hk
    exact absurd (by rw [List.getD_eq_getElem?_getD, List.getElem?_eq_getElem hi, Option.getD_some]) (h i hi)
theorem QxQ {c : Int} : Cf F L Qfm [.int .i64 c] h (Pu h (.bool (Q4 c))) := by
  refine QGR ?_
  simp only [Qqm]
  simp (maxSteps := 4000000) only [vm, vl, Arg.get, Qge, Qg4, Qg8]
  (repeat' ((first | refine Qao (fun _ => ?_) (fun _ => ?_) | refine Qaj (fun _ => ?_) (fun _ => ?_) | refine Qar (fun _ => ?_) (fun _ => ?_) | refine Qal (fun _ => ?_) (fun _ => ?_) | refine Qaq (fun _ => ?_) (fun _ => ?_) | refine Qan (fun _ => ?_) (fun _ => ?_) | refine Qap (fun _ => ?_) (fun _ => ?_) | refine Qak (fun _ => ?_) (fun _ => ?_) | refine Qas (fun _ => ?_) (fun _ => ?_) | refine Cf.pu QIB (fun _ => ?_)) <;> try simp (maxSteps := 4000000) only [vm, vl, Qge, Qg4, Qg8, *]))
  rename_i t
  refine QzW (fun n e h' => ∃ i, i ≤ 12 ∧ n = 12 - i ∧ e 0 = .int .i64 c ∧ e 5 = .agg ([200, 203, 204, 206, 300, 301, 308, 404, 405, 410, 414, 501].map (.int .i64)) ∧ e 6 = .int .i64 i ∧ h' = h ++ t ∧ ∀ j, j < i → ([200, 203, 204, 206, 300, 301, 308, 404, 405, 410, 414, 501] : List Int).getD j 0 ≠ c) ?_ (n := 12) ?_
  rotate_left
  · exact ⟨0, by simp, by simp, rfl, rfl, rfl, rfl, by simp⟩
  rintro n e h' ⟨i, hi, rfl, e0, e5, e6, rfl, hj⟩
  simp only [Qpw]
  have hd : ∀ i, i < 12 → ([200, 203, 204, 206, 300, 301, 308, 404, 405, 410, 414, 501].map (V.int .i64)).getD i (.tup []) = .int .i64 (([200, 203, 204, 206, 300, 301, 308, 404, 405, 410, 414, 501] : List Int).getD i 0) := by
    intro i hi
    rw [List.getD_eq_getElem?_getD, List.getD_eq_getElem?_getD, List.getElem?_map, List.getElem?_eq_getElem hi, Option.map_some, Option.getD_some, Option.getD_some]
  by_cases hl : (i : Int) < 12
  · have hl' : i < 12 := by omega
    have w := Qe (x := (i : Int) + 1) (by omega) (by omega)
    have b1 : i + 1 ≤ 12 := by omega
    have b2 := hd i hl'
    generalize hL : ([200, 203, 204, 206, 300, 301, 308, 404, 405, 410, 414, 501].map (V.int .i64)) = Ls at *
    have b3 : Ls.length = 12 := by rw [← hL]; rfl
    simp (maxSteps := 4000000) only [vm, vl, Arg.get, Qb, reduceIte, reduceCtorEq, Nat.reduceEqDiff, ne_eq, Qge, Qg4, Qg8, e0, e5, e6, hl, w, hl', b1, b2, b3]
    (repeat' ((first | refine Qao (fun _ => ?_) (fun _ => ?_) | refine Qaj (fun _ => ?_) (fun _ => ?_) | refine Qar (fun _ => ?_) (fun _ => ?_) | refine Qal (fun _ => ?_) (fun _ => ?_) | refine Qaq (fun _ => ?_) (fun _ => ?_) | refine Qan (fun _ => ?_) (fun _ => ?_) | refine Qap (fun _ => ?_) (fun _ => ?_) | refine Qak (fun _ => ?_) (fun _ => ?_) | refine Qas (fun _ => ?_) (fun _ => ?_)) <;> try simp (maxSteps := 4000000) only [vm, vl, Qge, Qg4, Qg8, *]))
    · rename_i hc
      rw [Qz7 hl' hc]
    · rename_i hc
      refine ⟨12 - (i + 1), by omega, i + 1, by omega, rfl, by simp, ?_⟩
      intro j hj'
      rcases Nat.lt_or_ge j i with h1 | h1
      · exact hj j h1
      · have : j = i := by omega
        subst this; exact hc
  · simp (maxSteps := 4000000) only [vm, vl, Arg.get, Qb, reduceIte, reduceCtorEq, Nat.reduceEqDiff, Nat.reduceAdd, Nat.reduceLeDiff, ne_eq, Qge, Qg4, Qg8, e0, e5, e6, hl]
    rw [QCt fun j h1 => hj j (by omega)]
end Go.Proofs.YtaahialaegfjgaaGreatDoor.Vh
end
section
set_option linter.unusedVariables false
set_option linter.unusedSimpArgs false
namespace Go.Proofs.YtaahialaegfjgaaGreatDoor.Vh
open Go.Vm Go.Vt
attribute [local congr] QF QI QE QG QD QJ
variable {L : QL} {h : Heap}
def Qbs : Bs := [68, 97, 116, 101]
def nLM : Bs := [76, 97, 115, 116, 45, 77, 111, 100, 105, 102, 105, 101, 100]
def Q5 : Bs := [69, 120, 112, 105, 114, 101, 115]
def Qc8 : Bs := [65, 103, 101]
def nET : Bs := [69, 84, 97, 103]
def Qd9 : Bs := [86, 97, 114, 121]
def Qco : Bs := [82, 97, 110, 103, 101]
def QdS : Bs := [65, 117, 116, 104, 111, 114, 105, 122, 97, 116, 105, 111, 110]
def Qnl : Bs := [100, 97, 116, 101]
def QoN : Bs := [108, 97, 115, 116, 45, 109, 111, 100, 105, 102, 105, 101, 100]
def Qh7 : Bs := [101, 120, 112, 105, 114, 101, 115]
def QlV : Bs := [97, 103, 101]
def Qqi : Bs := [101, 116, 97, 103]
def Qn0 : Bs := [118, 97, 114, 121]
def QqK : Bs := [114, 97, 110, 103, 101]
def Qnv : Bs := [97, 117, 116, 104, 111, 114, 105, 122, 97, 116, 105, 111, 110]
theorem QwY : low Qnl = low Qbs := by decide +kernel
theorem QBp : low QoN = low nLM := by decide +kernel
theorem QuP : low Qh7 = low Q5 := by decide +kernel
theorem Qw8 : low QlV = low Qc8 := by decide +kernel
theorem QGb : low Qqi = low nET := by decide +kernel
theorem QyD : low Qn0 = low Qd9 := by decide +kernel
theorem QJt : low QqK = low Qco := by decide +kernel
theorem QAl : low Qnv = low QdS := by decide +kernel
def Qba : List Bs := [[67, 111, 110, 116, 101, 110, 116, 45, 76, 101, 110, 103, 116, 104], [67, 111, 110, 116, 101, 110, 116, 45, 69, 110, 99, 111, 100, 105, 110, 103], [67, 111, 110, 116, 101, 110, 116, 45, 82, 97, 110, 103, 101], [67, 111, 110, 116, 101, 110, 116, 45, 84, 121, 112, 101], [84, 114, 97, 110, 115, 102, 101, 114, 45, 69, 110, 99, 111, 100, 105, 110, 103]]
def Qa8 : List Bs := [[99, 111, 110, 116, 101, 110, 116, 45, 108, 101, 110, 103, 116, 104], [99, 111, 110, 116, 101, 110, 116, 45, 101, 110, 99, 111, 100, 105, 110, 103], [99, 111, 110, 116, 101, 110, 116, 45, 114, 97, 110, 103, 101], [99, 111, 110, 116, 101, 110, 116, 45, 116, 121, 112, 101], [116, 114, 97, 110, 115, 102, 101, 114, 45, 101, 110, 99, 111, 100, 105, 110, 103]]
theorem Qxq : Qba.map low = Qa8.map low := by decide +kernel
theorem Qq5 {r : Rd} {w y m d c n : Int} (h : okV (Qa3 r w y m d c) = some n) : 0 ≤ c → 0 ≤ n := by
  intro hc
  unfold Qa3 at h
  generalize Q0 y m d = D at h
  by_cases h1 : r.2 = true ∧ r.1 = [] ∧ 0 ≤ D ∧ (D + 3) % 7 = w
  · rw [if_pos h1] at h
    have : D * 86400 + c = n := Option.some.inj h
    omega
  · rw [if_neg h1] at h
    exact nomatch h
theorem Qsv {dg : Nat} {w m n : Int} {x : Rd} (h : okV (Qbo dg w m x) = some n) : 0 ≤ n := Qq5 h (QgI _).1
theorem QJh {r : Rd} {n : Int} (h : okV (QaR r) = some n) : 0 ≤ n := Qq5 h (QgI _).1
theorem Qxy {r : Rd} {n : Int} (h : okV (Qbq r) = some n) : 0 ≤ n := Qq5 h (QgI _).1
theorem QxF {r : Rd} {n : Int} (h : okV (QaI r) = some n) : 0 ≤ n := by
  unfold QaI at h
  generalize Qaa false r = q1 at h
  dsimp only at h
  generalize Qs [32] (QaC (Qs [32] q1.2)).2 = q4 at h
  generalize (QaC (Qs [32] q1.2)).1 = q3 at h
  by_cases h1 : q4.1.length > 0 ∧ q4.1.getD 0 0 = 32
  · rw [if_pos h1] at h; exact Qsv h
  · rw [if_neg h1] at h; exact Qsv h
theorem QyY (s : Bs) : QaQ s 0 = QaR (s, true) := rfl
theorem QJN (s : Bs) : QaQ s 1 = Qbq (s, true) := rfl
theorem QAq (s : Bs) : QaQ s 2 = QaI (s, true) := rfl
theorem Qrh {s : Bs} {n : Int} (h : QC s = some n) : 0 ≤ n := by
  unfold QC at h
  cases h0 : okV (QaQ s 0) with
  | some a => rw [h0] at h; simp only [orG, Option.some.injEq] at h; subst h; exact QJh (by rwa [QyY] at h0)
  | none =>
    rw [h0] at h
    cases h1 : okV (QaQ s 1) with
    | some a => rw [h1] at h; simp only [orG, Option.some.injEq] at h; subst h; exact Qxy (by rwa [QJN] at h1)
    | none => rw [h1, QAq] at h; simp only [orG] at h; exact QxF h
def Qac (l : List Fld) (name : Bs) : Int := if (Qj l name).length = 1 then (QC (Qm (Qj l name))).getD (-1) else -1
def QaX (l : List Fld) : Int := if (Qj l Q5).length = 0 then -1 else max 0 (Qac l Q5)
def QV (l : List Fld) : Int := match split (Qm (Qj l Qc8)) with
  | some (x :: _) => if (Q3 x 2147483648).2 then (Q3 x 2147483648).1 else -1
  | _ => -1
def Qaf (l : List Fld) : Bs := Qm (Qj l nET)
def Qt (l : List Fld) (name : Bs) : Bool := decide (0 < (Qj l name).length)
theorem Qqv {l : List Fld} {a b : Bs} (e : low a = low b) : Qt l a = Qt l b := by unfold Qt; rw [Qgm e]
def QaP (l : List Fld) : Bool := match split (Qm (Qj l Qd9)) with
  | none => true
  | some ws => ws.contains [42]
def Qcz (code : Int) (ranged : Bool) : Bool :=
  if code < 200 ∨ code > 599 ∨ code = 304 then false else if code < 300 ∧ ranged = true then decide (code = 200 ∨ code = 206) else true
def Qds (m : Bs) (a : List Fld) (code : Int) (l : List Fld) : Bool :=
  if m ≠ [71, 69, 84] ∨ (ofC a).f 0 = true ∨ (ofC l).f 0 = true ∨ (ofC l).f 2 = true then false
  else if Qcz code (Qt a Qco) = false ∨ QaP l = true then false
  else if Qt a QdS = true ∧ (ofC l).f 3 = false ∧ (ofC l).f 4 = false ∧ (ofC l).n 1 < 0 then false
  else Qt l Q5 || (ofC l).f 3 || decide ((ofC l).n 0 ≥ 0) || decide ((ofC l).n 1 ≥ 0) || Q4 code
def Qfu (r : List Fld) : List Fld := Qba.foldl without (Qbh r)
def Qdv (l r : List Fld) : List Fld := l.filter (fun f => !Qt (Qfu r) f.1) ++ Qfu r
end Go.Proofs.YtaahialaegfjgaaGreatDoor.Vh
end
section
set_option linter.unusedVariables false
set_option linter.unusedSimpArgs false
namespace Go.Proofs.YtaahialaegfjgaaGreatDoor.Vh
open Go.Vm Go.Vt
attribute [local congr] QF QI QE QG QD QJ
variable {L : QL} {h : Heap}
theorem QDd {x : V} {l : List Fld} {g : FuncId} {caps : List V} {p : Fld → Bool} (hx : Qf 2 x (flds l)) (hl : l.length < 1000000000) (hg : ∀ f ∈ l, ∀ t, Cf F L g ([Q1 f] ++ caps) (h ++ t) (Pu (h ++ t) (.bool (p f)))) :
    Cf F L Qgy [x, .fn g caps] h (fun v h' => (∃ t, h' = h ++ t) ∧ ∃ n : Int, v = .int .i64 n ∧ (decide (n ≥ 0) = l.any p)) := by
  refine QAL ?_
  simp only [QoQ]
  
  have l1 := fun {K : QK} {h : Heap} => hx.len (F := F) (L := L) (e := E0) (K := K) (h := h)
  simp only [Q7] at l1
  simp (maxSteps := 4000000) only [vm, vl, l1]
  refine Qxj (fun n e h' => ∃ i : Nat, n = l.length - i ∧ i ≤ l.length ∧ e 0 = x ∧ e 1 = .fn g caps ∧ e 7 = .int .i64 l.length ∧ e 8 = .int .i64 i ∧ (∃ t, h' = h ++ t) ∧ l.any p = (l.drop i).any p) ?_ (n := l.length) ⟨0, by simp, by simp, rfl, rfl, rfl, rfl, ⟨[], by simp⟩, rfl⟩
  rintro n e h' ⟨i, rfl, hi, e0, e1, e7, e8, ⟨t0, rfl⟩, hc⟩
  simp only [Qqc]
  rcases QbX ([], []) hi with ⟨hn, rfl, hd⟩ | ⟨hl1, hl2, hd, _⟩
  · rw [hd] at hc
    simp (maxSteps := 4000000) only [vm, vl, Arg.get, Int.reduceNeg, e7, e8, hn, QqL]
    exact ⟨⟨t0, rfl⟩, -1, rfl, by rw [hc]; rfl⟩
  · have w := Qe (x := (i : Int) + 1) (by omega) (by omega)
    have i1 := fun {K : QK} {h : Heap} => hx.at (F := F) (L := L) (e := E0) (K := K) (h := h) (i := i) (by rw [Q7]; exact hl2)
    have a1 := Qdf hl2
    have hmem : l.getD i ([], []) ∈ l := Qez hl2
    rw [hd, List.any_cons] at hc
    generalize hf : l.getD i ([], []) = f at *
    simp (maxSteps := 4000000) only [vm, vl, Arg.get, cells, Qb, reduceIte, Nat.reduceEqDiff, Nat.reduceAdd, e0, e1, e7, e8, hl1, i1, a1, Q1, QvL]
    have hg1 := hg f hmem t0
    simp only [Q1, List.singleton_append] at hg1
    refine Cf.pu hg1 fun t1 => ?_
    cases hp : p f with
    | true =>
      rw [hp, Bool.true_or] at hc
      simp (maxSteps := 4000000) only [vm, vl, hp]
      exact ⟨⟨t0 ++ t1, by simp⟩, i, rfl, by rw [hc]; simp⟩
    | false =>
      rw [hp, Bool.false_or] at hc
      simp (maxSteps := 4000000) only [vm, vl, Arg.get, reduceIte, reduceCtorEq, Nat.reduceEqDiff, hp, w, QtJ]
      exact ⟨l.length - (i + 1), by omega, i + 1, rfl, hl2, e0, e1, e7, rfl, ⟨t0 ++ t1, by simp⟩, hc⟩
theorem QCS (l : List Fld) (name : Bs) : Qt l name = l.any fun f => low f.1 == low name := by
  unfold Qt Qj
  rw [List.length_map, Bool.eq_iff_iff, decide_eq_true_eq, List.length_pos_iff_exists_mem, List.any_eq_true]
  exact ⟨fun ⟨f, hf⟩ => ⟨f, (List.mem_filter.1 hf).1, (List.mem_filter.1 hf).2⟩, fun ⟨f, h1, h2⟩ => ⟨f, List.mem_filter.2 ⟨h1, h2⟩⟩⟩
theorem Qww {f : Fld} {name : Bs} {k : Nat} (hb : h[k]? = some (.box [.str name])) (hf : f.1.length ≤ 140737488355328) (hn : name.length ≤ 140737488355328) :
    Cf F L Qgd [Q1 f, .ptr k 0] h (Pu h (.bool (low f.1 == low name))) := by
  have hb' := fun t => Qp (t := t) hb
  refine QDh ?_
  simp only [Qk7]
  simp (maxSteps := 4000000) only [vm, vl, Arg.get, cells, stor, Qb, reduceIte, Nat.reduceAdd, Nat.reduceLeDiff, Q1, hb']
  refine Cf.pu (QsQ hf hn) fun t => ?_
  simp (maxSteps := 4000000) only [vm, vl]
theorem Qj7 {x : V} {l : List Fld} {name : Bs} (hx : Qf 2 x (flds l)) (hl : l.length < 1000000000) (hln : ∀ f ∈ l, f.1.length ≤ 140737488355328) (hn : name.length ≤ 140737488355328) :
    Cf F L QcU [x, .str name] h (Pu h (.bool (Qt l name))) := by
  refine QI0 ?_
  simp only [QnM]
  simp (maxSteps := 4000000) only [vm, vl, Arg.get, cells, stor]
  refine QAy ?_
  simp only [QoO]
  simp (maxSteps := 4000000) only [vm, vl, Arg.get]
  refine (QDd (p := fun f => low f.1 == low name) hx hl fun f hf t => ?_).mono fun v h' hv => ?_
  · exact Qww (Qp (by simp)) (hln f hf) hn
  · obtain ⟨⟨t, rfl⟩, n, rfl, he⟩ := hv
    rw [QCS, ← he]
    simp (maxSteps := 4000000) only [vm, vl]
theorem Qx2 {c : Int} {b : Bool} : Cf F L Qgr [.int .i64 c, .bool b] h (Pu h (.bool (Qcz c b))) := by
  refine QIz ?_
  simp only [QkZ]
  unfold Qcz
  by_cases c1 : c < 200
  · rw [if_pos (.inl c1)]
    simp (maxSteps := 4000000) only [vm, vl, Arg.get, reduceIte, Qd6, c1, decide_true]
  by_cases c2 : c > 599
  · rw [if_pos (.inr (.inl c2))]
    simp (maxSteps := 4000000) only [vm, vl, Arg.get, reduceIte, Qd6, c1, c2, decide_true, decide_false]
  by_cases c3 : c = 304
  · rw [if_pos (.inr (.inr c3))]
    simp (maxSteps := 4000000) only [vm, vl, Arg.get, reduceIte, reduceCtorEq, Int.reduceEq, Int.reduceLT, Int.reduceGT, Qd6, c1, c2, c3, decide_true, decide_false]
  rw [if_neg (by omega)]
  by_cases c4 : c < 300
  case neg =>
    rw [if_neg (by omega)]
    simp (maxSteps := 4000000) only [vm, vl, Arg.get, reduceIte, Qd6, c1, c2, c3, c4, decide_true, decide_false]
  cases b with
  | false =>
    rw [if_neg (by simp)]
    simp (maxSteps := 4000000) only [vm, vl, Arg.get, reduceIte, Qd6, c1, c2, c3, c4, decide_true, decide_false]
  | true =>
    rw [if_pos ⟨c4, rfl⟩]
    by_cases c5 : c = 200
    · subst c5
      simp (maxSteps := 4000000) only [vm, vl, Arg.get, reduceIte, Int.reduceEq, Int.reduceLT, Int.reduceGT, Qd6, decide_true, decide_false]
      try rfl
    · by_cases c6 : c = 206
      · simp (maxSteps := 4000000) only [vm, vl, Arg.get, reduceIte, Int.reduceEq, Int.reduceLT, Int.reduceGT, Qd6, c1, c2, c3, c4, c5, c6, decide_true, decide_false, or_true]
      · simp (maxSteps := 4000000) only [vm, vl, Arg.get, reduceIte, Qd6, c1, c2, c3, c4, c5, c6, decide_true, decide_false, or_self]
theorem QCY (HJ : Qad L) {x : V} {l : List Fld} (hx : Qf 2 x (flds l)) (hl : l.length < 100000) (hln : ∀ f ∈ l, f.1.length ≤ 140737488355328) (hsm : Qk l < 100000) :
    Cf F L QfL [x] h (Pu h (.bool (QaP l))) := by
  refine QJG ?_
  simp only [Qm2]
  have j1 := Qbd l Qd9
  simp (maxSteps := 4000000) only [vm, vl, Arg.get]
  refine Cf.pu (Qgz HJ (name := Qd9) hx (by omega) hln (by simp [Qd9]) (by omega)) fun u1 => ?_
  simp only [QaG]
  simp (maxSteps := 4000000) only [vm, vl]
  refine Cf.pu (Qh3 (by omega)) fun u2 => ?_
  unfold QaP
  cases hsp : split (Qm (Qj l Qd9)) with
  | none =>
    simp only [Qcm]
    simp (maxSteps := 4000000) only [vm, vl, reduceIte]
  | some ws =>
    simp only [Qcm]
    have := Qjj hsp
    simp (maxSteps := 4000000) only [vm, vl, Arg.get, reduceIte]
    refine Cf.pu (QrO (QiX ws) (by omega)) fun u3 => ?_
    simp (maxSteps := 4000000) only [vm, vl]
def QhN (l : List Fld) (name : Bs) : V := if (Qj l name).length = 0 then .agg [.int .i64 0, .bool false, .bool false] else
  .agg [.int .i64 ((QC (Qm (Qj l name))).getD 0), .bool true, .bool ((QC (Qm (Qj l name))).isSome && decide ((Qj l name).length = 1))]
theorem Quh (o : Option Int) : Qax o = .tup [.int .i64 (o.getD 0), .bool o.isSome] := by cases o <;> rfl
theorem Qtl (HJ : Qad L) {x : V} {l : List Fld} {name : Bs} (hx : Qf 2 x (flds l)) (hl : l.length < 100000) (hln : ∀ f ∈ l, f.1.length ≤ 140737488355328) (hn : name.length ≤ 140737488355328) (hsm : Qk l < 100000) :
    Cf F L QeM [x, .str name] h (Pu h (QhN l name)) := by
  refine QEd ?_
  simp only [QoB]
  have j1 := Qbd l name
  simp (maxSteps := 4000000) only [vm, vl, Arg.get, cells, stor, Qa, Qc, QA, Vm.part, Qu, splice, reduceIte, Nat.reduceEqDiff, Nat.reduceAdd, Nat.reduceLeDiff, Qhw]
  refine Cf.pu (Qgz HJ (name := name) hx (by omega) hln hn (by omega)) fun u1 => ?_
  simp only [QaG]
  simp (maxSteps := 4000000) only [vm, vl, Qhw]
  refine Cf.pu (QJK (by omega)) fun u2 => ?_
  rw [Quh]
  unfold QhN
  generalize QC (Qm (Qj l name)) = o
  generalize Qj l name = vs
  by_cases c1 : vs.length = 0
  · have c1' : (vs.length : Int) = 0 := by omega
    rw [if_pos c1]
    simp (maxSteps := 4000000) only [vm, vl, reduceIte, Nat.reduceAdd, Qhw, c1', decide_true]
  · have c1' : ¬ (vs.length : Int) = 0 := by omega
    rw [if_neg c1]
    cases o with
    | none => simp (maxSteps := 4000000) only [vm, vl, reduceIte, Nat.reduceAdd, Nat.reduceLeDiff, Qhw, c1', decide_false, Option.isSome_none, Option.getD_none, Bool.false_and]
    | some n =>
      have c2 : decide ((vs.length : Int) = 1) = decide (vs.length = 1) := decide_eq_decide.2 (by omega)
      simp (maxSteps := 4000000) only [vm, vl, Arg.get, reduceIte, Nat.reduceAdd, Nat.reduceLeDiff, Qhw, c1', c2, decide_false, Option.isSome_some, Option.getD_some, Bool.true_and]
end Go.Proofs.YtaahialaegfjgaaGreatDoor.Vh
end
