/- Several texts in one: VStor3, VStor4, VStor6, VBackA, VRefA, VForms3B, VRefAllB, VRefParsB, VStor7, VStor5, VStor8, VStor9, VStorF, VJoin, VStorW. -/
import Derived.Test.YtaahialaegfjgaaGreatDoorPk7
import Derived.Test.YtaahialaegfjgaaGreatDoorPk6
section
set_option linter.unusedVariables false
set_option linter.unusedSimpArgs false
namespace Go.Proofs.YtaahialaegfjgaaGreatDoor.Vh
open Go.Vm Go.Vt
attribute [local congr] QF QI QE QG QD QJ
variable {L : QL} {h : Heap}
variable {code d e m mo a s g t v x : V} {c : Ct} {j : Nat} {ms : List V} {hh : Heap} {l : List Fld}
def mM (code : V) (cs : List V) (d e m a s g t : V) : List V := code :: (cs ++ [d, e, m, a, s, g, t])
theorem QbW : (mM code (ctV c) d e m a s g t).length = 21 := rfl
theorem QtY : List.take 21 (mM code (ctV c) d e m a s g t) = mM code (ctV c) d e m a s g t := rfl
theorem Qqw : List.take 14 (mM code (ctV c) d e m a s g t) ++ v :: List.drop 15 (mM code (ctV c) d e m a s g t) = mM code (ctV c) v e m a s g t := rfl
theorem Qlt : List.take 15 (mM code (ctV c) d e m a s g t) ++ v :: List.drop 16 (mM code (ctV c) d e m a s g t) = mM code (ctV c) d v m a s g t := rfl
theorem Qpe : List.take 16 (mM code (ctV c) d e m a s g t) ++ v :: List.drop 17 (mM code (ctV c) d e m a s g t) = mM code (ctV c) d e v a s g t := rfl
theorem Qu9 : List.take 17 (mM code (ctV c) d e m a s g t) ++ v :: List.drop 18 (mM code (ctV c) d e m a s g t) = mM code (ctV c) d e m v s g t := rfl
theorem QsL : List.take 20 (mM code (ctV c) d e m a s g t) ++ v :: List.drop 21 (mM code (ctV c) d e m a s g t) = mM code (ctV c) d e m a s g v := rfl
theorem Qv9 : (mM code (ctV c) d e m a s g t).getD 14 (.tup []) = d := rfl
theorem QsN : (mM code (ctV c) d e m a s g t).getD 15 (.tup []) = e := rfl
theorem Quo : (mM code (ctV c) d e m a s g t).getD 16 (.tup []) = m := rfl
def MI (h : Heap) (x : V) (j : Nat) (ms : List V) (hh : Heap) : Prop := ∃ T, hh = h ++ T ∧ (∃ a b c, T[0]? = some (O.box [a, b, c, x])) ∧ (∃ Z : List V, Z.length = 21 ∧ T[1]? = some (.box Z)) ∧ 2 ≤ j ∧ T[j]? = some (.box ms)
theorem MI.g0 (m : MI h x j ms hh) : ∃ a b c, hh[h.length]? = some (O.box [a, b, c, x]) := by
  obtain ⟨T, rfl, ⟨a, b, c, h0⟩, _⟩ := m
  exact ⟨a, b, c, by rw [List.getElem?_append_right (Nat.le_refl _), Nat.sub_self, h0]⟩
theorem MI.gj (m : MI h x j ms hh) : hh[h.length + j]? = some (.box ms) := by
  obtain ⟨T, rfl, _, _, _, hj⟩ := m
  rw [List.getElem?_append_right (Nat.le_add_right _ _), Nat.add_sub_cancel_left, hj]
theorem MI.more {t : Heap} (m : MI h x j ms hh) : MI h x j ms (hh ++ t) := by
  obtain ⟨T, rfl, ⟨a, b, c, h0⟩, ⟨Z, z1, z2⟩, h2, hj⟩ := m
  exact ⟨T ++ t, by simp, ⟨a, b, c, Qp h0⟩, ⟨Z, z1, Qp z2⟩, h2, Qp hj⟩
theorem MI.put (m : MI h x j ms hh) (ms' : List V) : MI h x j ms' (hh.set (h.length + j) (.box ms')) := by
  obtain ⟨T, rfl, ⟨a, b, c, h0⟩, ⟨Z, z1, z2⟩, h2, hj⟩ := m
  refine ⟨T.set j (.box ms'), by rw [List.set_append_right _ _ (by omega), Nat.add_sub_cancel_left], ⟨a, b, c, ?_⟩, ⟨Z, z1, ?_⟩, h2, ?_⟩
  · rw [List.getElem?_set_ne (by omega)]; exact h0
  · rw [List.getElem?_set_ne (by omega)]; exact z2
  · rw [List.getElem?_set_self (List.getElem?_eq_some_iff.1 hj).1]
theorem MI.g1 (m : MI h x j ms hh) : ∃ Z : List V, Z.length = 21 ∧ hh[h.length + 1]? = some (.box Z) := by
  obtain ⟨T, rfl, _, ⟨Z, z1, z2⟩, _⟩ := m
  exact ⟨Z, z1, by rw [List.getElem?_append_right (Nat.le_add_right _ _), Nat.add_sub_cancel_left, z2]⟩
theorem MI.fin (m : MI h x j ms hh) (b : O) : (hh.set (h.length + 1) b)[h.length + 1]? = some b ∧ ∃ t, hh.set (h.length + 1) b = h ++ t := by
  obtain ⟨T, rfl, _, ⟨Z, z1, z2⟩, _⟩ := m
  have hl := (List.getElem?_eq_some_iff.1 z2).1
  refine ⟨by rw [List.getElem?_set_self (by simp; omega)], T.set 1 b, by rw [List.set_append_right _ _ (by omega), Nat.add_sub_cancel_left]⟩
theorem Qjh (HJ : Qad L) (m : MI h x j (mM code (ctV c) d e mo a s g t) hh) (hx : Qf 2 x (flds l)) (hl : l.length < 100000) (hln : ∀ f ∈ l, f.1.length ≤ 140737488355328) (hsm : Qk l < 100000) :
    QhE L (Pu h (.agg (mM code (ctV c) d e mo a s g (.str (Qaf l))))) (.ptr h.length 0) (.ptr (h.length + 1) 0) (.ptr (h.length + j) 0) hh := by
  
  unfold QhE
  have j1 := Qbd l nET
  obtain ⟨a1, b1, c1, g0⟩ := m.g0
  simp (maxSteps := 4000000) only [vm, vl, Arg.get, cells, stor, Qa, Qc, Qb, QA, Vm.part, splice, reduceIte, Nat.reduceEqDiff, Nat.reduceAdd, g0]
  refine Cf.pu (Qgz HJ (name := nET) hx (by omega) hln (by simp [nET]) (by omega)) fun u => ?_
  simp only [QaG]
  have m2 := m.more (t := u)
  have gj := m2.gj
  have m3 := m2.put (mM code (ctV c) d e mo a s g (.str (Qaf l)))
  have gj3 := m3.gj
  obtain ⟨Z, hZ, g1⟩ := m3.g1
  obtain ⟨g4, T, hT⟩ := m3.fin (.box (mM code (ctV c) d e mo a s g (.str (Qaf l))))
  have hZd : List.drop 21 Z = [] := List.drop_eq_nil_of_le (by omega)
  rw [show Qm (Qj l nET) = Qaf l from rfl]
  simp (maxSteps := 4000000) only [vm, vl, reduceIte, Nat.reduceAdd, gj, QbW, QsL, gj3, QtY, g1, hZ, hZd, List.append_nil, g4]
  exact ⟨rfl, T, hT⟩
theorem QBz (HJ : Qad L) (m : MI h x j (mM code (ctV c) d e mo (.int .i64 (-1)) s g t) hh) (hx : Qf 2 x (flds l)) (hl : l.length < 100000) (hln : ∀ f ∈ l, f.1.length ≤ 140737488355328) (hsm : Qk l < 100000) :
    QqE L (Pu h (.agg (mM code (ctV c) d e mo (.int .i64 (QV l)) s g (.str (Qaf l))))) (.ptr h.length 0) (.ptr (h.length + 1) 0) (.ptr (h.length + j) 0) (Qcm (split (Qm (Qj l Qc8)))) hh := by
  
  unfold QqE
  have j1 := Qbd l Qc8
  cases hsp : split (Qm (Qj l Qc8)) with
  | none =>
    have ea : QV l = -1 := by unfold QV; rw [hsp]
    rw [ea]
    simp only [Qcm]
    simp (maxSteps := 4000000) only [vm, vl, Arg.get, cells, stor, Qb, splice, reduceIte, Nat.reduceAdd, Int.reduceNeg, Int.reduceGT]
    exact Qjh HJ m hx hl hln hsm
  | some ws =>
    simp only [Qcm]
    cases ws with
    | nil =>
      have ea : QV l = -1 := by unfold QV; rw [hsp]
      rw [ea, show Qed [] = .nsl from rfl]
      simp (maxSteps := 4000000) only [vm, vl, Arg.get, cells, stor, Qb, splice, reduceIte, Nat.reduceAdd, Int.reduceNeg, Int.reduceGT]
      exact Qjh HJ m hx hl hln hsm
    | cons w r =>
      have hw := QgA hsp w (by simp)
      rw [show Qed (w :: r) = .sl 1 .full (.str w :: strs r) from rfl]
      have c0 : (((strs r).length + 1 : Nat) : Int) > 0 := by omega
      simp (maxSteps := 4000000) only [vm, vl, Arg.get, cells, stor, Qb, splice, reduceIte, Nat.reduceAdd, Int.reduceGT, Nat.succ_pos, List.length_cons, c0, decide_true, Int.le_refl, Int.toNat_zero, List.getD_cons_zero]
      refine Cf.pu (Qvj (s := w) (most := 2147483648) (by omega) (by decide) (by decide)) fun u => ?_
      have m2 := m.more (t := u)
      have gj := m2.gj
      cases hb : (Q3 w 2147483648).2 with
      | false =>
        have ea : QV l = -1 := by unfold QV; rw [hsp]; simp only [hb]; rfl
        rw [ea]
        simp (maxSteps := 4000000) only [vm, vl, Nat.reduceAdd, Int.reduceNeg]
        exact Qjh HJ m2 hx hl hln hsm
      | true =>
        have ea : QV l = (Q3 w 2147483648).1 := by unfold QV; rw [hsp]; simp only [hb]; rfl
        rw [ea]
        generalize (Q3 w 2147483648).1 = n
        have m3 := m2.put (mM code (ctV c) d e mo (.int .i64 n) s g t)
        simp (maxSteps := 4000000) only [vm, vl, Nat.reduceAdd, Nat.reduceLeDiff, Int.reduceNeg, gj, QbW, Qu9]
        exact Qjh HJ m3 hx hl hln hsm
theorem QuR (HJ : Qad L) (m : MI h x j (mM code (ctV c) d e mo (.int .i64 (-1)) s g t) hh) (hx : Qf 2 x (flds l)) (hl : l.length < 100000) (hln : ∀ f ∈ l, f.1.length ≤ 140737488355328) (hsm : Qk l < 100000) :
    Qj0 L (Pu h (.agg (mM code (ctV c) d e mo (.int .i64 (QV l)) s g (.str (Qaf l))))) (.ptr h.length 0) (.ptr (h.length + 1) 0) (.ptr (h.length + j) 0) hh := by
  
  unfold Qj0
  have j1 := Qbd l Qc8
  obtain ⟨a1, b1, c1, g0⟩ := m.g0
  simp (maxSteps := 4000000) only [vm, vl, Arg.get, Qb, reduceIte, Nat.reduceAdd, g0]
  refine Cf.pu (Qgz HJ (name := Qc8) hx (by omega) hln (by simp [Qc8]) (by omega)) fun u => ?_
  simp only [QaG]
  simp (maxSteps := 4000000) only [vm, vl]
  refine Cf.pu (Qh3 (by omega)) fun u2 => ?_
  exact QBz HJ m.more.more hx hl hln hsm
end Go.Proofs.YtaahialaegfjgaaGreatDoor.Vh
end
section
set_option linter.unusedVariables false
set_option linter.unusedSimpArgs false
namespace Go.Proofs.YtaahialaegfjgaaGreatDoor.Vh
open Go.Vm Go.Vt
attribute [local congr] QF QI QE QG QD QJ
variable {L : QL} {h : Heap}
variable {code d e m mo a s g t v x : V} {c : Ct} {j : Nat} {ms : List V} {hh : Heap} {l : List Fld}
theorem QI6 (l : List Fld) (name : Bs) : Qac l name = if (Qj l name).length = 0 then -1 else if ((QC (Qm (Qj l name))).isSome && decide ((Qj l name).length = 1)) = true then (QC (Qm (Qj l name))).getD 0 else -1 := by
  unfold Qac
  generalize QC (Qm (Qj l name)) = o
  generalize (Qj l name).length = n
  by_cases h1 : n = 1
  · subst h1
    cases o with
    | none => rfl
    | some a => rfl
  · rw [if_neg h1]
    by_cases h0 : n = 0
    · rw [if_pos h0]
    · rw [if_neg h0, if_neg (by simp [h1])]
theorem QpA (HJ : Qad L) {k : Nat} {name : Bs} (hb : ∃ a b c, h[k]? = some (O.box [a, b, c, x])) (hx : Qf 2 x (flds l)) (hl : l.length < 100000) (hln : ∀ f ∈ l, f.1.length ≤ 140737488355328) (hn : name.length ≤ 140737488355328) (hsm : Qk l < 100000) :
    Cf F L Qd3 [.str name, .ptr k 0] h (Pu h (.int .i64 (Qac l name))) := by
  refine QDf ?_
  simp only [QqF]
  obtain ⟨a, b, c, g0⟩ := hb
  rw [QI6]
  simp (maxSteps := 4000000) only [vm, vl, Arg.get, cells, stor, Qb, splice, reduceIte, Nat.reduceAdd, Int.reduceNeg, Qij, g0]
  refine Cf.pu (Qtl HJ hx hl hln hn hsm) fun u => ?_
  unfold QhN
  by_cases c1 : (Qj l name).length = 0
  · rw [if_pos c1, if_pos c1]
    simp (maxSteps := 4000000) only [vm, vl, Nat.reduceAdd, Int.reduceNeg, Qij]
  · rw [if_neg c1, if_neg c1]
    generalize QC (Qm (Qj l name)) = o
    generalize (o.isSome && decide ((Qj l name).length = 1)) = bb
    cases bb with
    | true => simp (maxSteps := 4000000) only [vm, vl, reduceIte, Nat.reduceAdd, Nat.reduceLeDiff, Int.reduceNeg, Qij]
    | false => simp (maxSteps := 4000000) only [vm, vl, reduceIte, Nat.reduceAdd, Int.reduceNeg, Qij]
theorem Qzx (HJ : Qad L) (m : MI h x j (mM code (ctV c) d (.int .i64 (-1)) mo (.int .i64 (-1)) s g t) hh) (hx : Qf 2 x (flds l)) (hl : l.length < 100000) (hln : ∀ f ∈ l, f.1.length ≤ 140737488355328) (hsm : Qk l < 100000) :
    Qqq L (Pu h (.agg (mM code (ctV c) d (.int .i64 (QaX l)) mo (.int .i64 (QV l)) s g (.str (Qaf l))))) (.ptr h.length 0) (.ptr (h.length + 1) 0) (.ptr (h.length + j) 0) (.fn Qd3 [.ptr h.length 0]) (QhN l Q5) hh := by
  
  unfold Qqq QhN
  by_cases c1 : (Qj l Q5).length = 0
  · have ee : QaX l = -1 := if_pos c1
    rw [if_pos c1, ee]
    have q : eqV (.agg [.i, .b, .b]) (.agg [.int .i64 0, .bool false, .bool false]) (.agg [.int .i64 0, .bool false, .bool false]) = some true := by simp [eqV, Qae, QaF]
    simp (maxSteps := 4000000) only [vm, vl, Arg.get, cells, stor, Qb, Qu, splice, reduceIte, Nat.reduceEqDiff, Nat.reduceAdd, Int.reduceNeg, q]
    exact QuR HJ m.more hx hl hln hsm
  · have ee : QaX l = max 0 (Qac l Q5) := if_neg c1
    rw [if_neg c1, ee]
    generalize (QC (Qm (Qj l Q5))).getD 0 = n1
    generalize ((QC (Qm (Qj l Q5))).isSome && decide ((Qj l Q5).length = 1)) = b1
    have q : eqV (.agg [.i, .b, .b]) (.agg [.int .i64 n1, .bool true, .bool b1]) (.agg [.int .i64 0, .bool false, .bool false]) = some false := by
      simp [eqV, Qae, QaF]
    simp (maxSteps := 4000000) only [vm, vl, Arg.get, cells, stor, Qb, Qu, splice, reduceIte, Nat.reduceEqDiff, Nat.reduceAdd, q]
    refine Cf.pu (QpA HJ (name := Q5) m.more.g0 hx hl hln (by simp [Q5]) hsm) fun u => ?_
    have m2 := m.more (t := O.box [.int .i64 n1, .bool true, .bool b1] :: u)
    have gj := m2.gj
    have m3 := m2.put (mM code (ctV c) d (.int .i64 (max 0 (Qac l Q5))) mo (.int .i64 (-1)) s g t)
    simp (maxSteps := 4000000) only [vm, vl, Nat.reduceAdd, Nat.reduceLeDiff, Int.reduceNeg, gj, QbW, Qlt]
    exact QuR HJ m3 hx hl hln hsm
theorem QwP (HJ : Qad L) {n1 n2 : Int} (m : MI h x j (mM code (ctV c) d (.int .i64 (-1)) mo (.int .i64 (-1)) s g t) hh) (hx : Qf 2 x (flds l)) (hl : l.length < 100000) (hln : ∀ f ∈ l, f.1.length ≤ 140737488355328) (hsm : Qk l < 100000) :
    Qp3 L (Pu h (.agg (mM code (ctV c) (.int .i64 n1) (.int .i64 (QaX l)) (.int .i64 n2) (.int .i64 (QV l)) s g (.str (Qaf l))))) (.ptr h.length 0) (.ptr (h.length + 1) 0) (.ptr (h.length + j) 0) (.fn Qd3 [.ptr h.length 0]) (.int .i64 n1) (.int .i64 n2) hh := by
  
  unfold Qp3
  have gj := m.gj
  have m2 := m.put (mM code (ctV c) (.int .i64 n1) (.int .i64 (-1)) mo (.int .i64 (-1)) s g t)
  have gj2 := m2.gj
  have m3 := m2.put (mM code (ctV c) (.int .i64 n1) (.int .i64 (-1)) (.int .i64 n2) (.int .i64 (-1)) s g t)
  obtain ⟨a1, b1, c1, g0⟩ := m3.g0
  simp (maxSteps := 4000000) only [vm, vl, Arg.get, cells, stor, Qb, splice, reduceIte, Nat.reduceAdd, Nat.reduceLeDiff, Int.reduceNeg, gj, QbW, Qqw, gj2, Qpe, g0]
  refine Cf.pu (Qtl HJ (name := Q5) hx hl hln (by simp [Q5]) hsm) fun u => ?_
  exact Qzx HJ m3.more hx hl hln hsm
theorem Qkg {x a b c : V} {u : Heap} {ms : List V} {Z : List V} (hZ : Z.length = 21) : MI h x (2 + u.length) ms (h ++ (O.box [a, b, c, x] :: O.box Z :: (u ++ [O.box ms]))) := by
  refine ⟨_, rfl, ⟨a, b, c, rfl⟩, ⟨Z, hZ, rfl⟩, by omega, ?_⟩
  rw [show 2 + u.length = u.length + 1 + 1 by omega, List.getElem?_cons_succ, List.getElem?_cons_succ, List.getElem?_append_right (Nat.le_refl _), Nat.sub_self]
  rfl
def z21 : List V := [.int .i64 0, .bool false, .bool false, .bool false, .bool false, .bool false, .bool false, .bool false, .int .i64 0, .int .i64 0, .int .i64 0, .int .i64 0, .int .i64 0, .int .i64 0, .int .i64 0, .int .i64 0, .int .i64 0, .int .i64 0, .int .i64 0, .int .i64 0, .str []]
theorem QzD {code s g : Int} {c : Ct} : Qu E0 [.int .i64 0, .bool false, .bool false, .bool false, .bool false, .bool false, .bool false, .bool false, .int .i64 0, .int .i64 0, .int .i64 0, .int .i64 0, .int .i64 0, .int .i64 0, .int .i64 0, .int .i64 0, .int .i64 0, .int .i64 0, .int .i64 0, .int .i64 0, .str []] [(0, 1, .c (.int .i64 code)), (1, 13, .c (.agg (ctV c))), (15, 1, .c (.int .i64 (-1))), (17, 1, .c (.int .i64 (-1))), (18, 1, .c (.int .i64 s)), (19, 1, .c (.int .i64 g))] = some (mM (.int .i64 code) (ctV c) (.int .i64 0) (.int .i64 (-1)) (.int .i64 0) (.int .i64 (-1)) (.int .i64 s) (.int .i64 g) (.str [])) := by
  simp [Qu, cells, stor, Arg.get, splice, ctV, mM]
theorem QIL (HJ : Qad L) {x a b c : V} {code s g : Int} {l : List Fld} {C : Ct} {Z : List V} {u : Heap} (hZ : Z.length = 21) (hx : Qf 2 x (flds l)) (hl : l.length < 100000) (hln : ∀ f ∈ l, f.1.length ≤ 140737488355328) (hsm : Qk l < 100000) :
    Qnn L (Pu h (.agg (mM (.int .i64 code) (ctV C) (.int .i64 (Qac l Qbs)) (.int .i64 (QaX l)) (.int .i64 (Qac l nLM)) (.int .i64 (QV l)) (.int .i64 s) (.int .i64 g) (.str (Qaf l))))) (.int .i64 s) (.int .i64 g) (.ptr h.length 0) (.ptr (h.length + 1) 0) (.int .i64 code) (.agg (ctV C)) (h ++ O.box [a, b, c, x] :: O.box Z :: u) := by
  
  unfold Qnn
  rw [QoM, QzD]
  have e2 : h.length + (u.length + 1 + 1) = h.length + (2 + u.length) := by omega
  have gj : (h ++ O.box [a, b, c, x] :: O.box Z :: (u ++ [O.box z21]))[h.length + (2 + u.length)]? = some (O.box z21) := (Qkg (ms := z21) hZ).gj
  have zl : z21.length = 21 := rfl
  have zd : List.drop 21 z21 = [] := rfl
  have m0 : MI h x (2 + u.length) _ _ := (Qkg (h := h) (u := u) (a := a) (b := b) (c := c) (ms := z21) hZ).put (mM (.int .i64 code) (ctV C) (.int .i64 0) (.int .i64 (-1)) (.int .i64 0) (.int .i64 (-1)) (.int .i64 s) (.int .i64 g) (.str []))
  have ez : ([.int .i64 0, .bool false, .bool false, .bool false, .bool false, .bool false, .bool false, .bool false, .int .i64 0, .int .i64 0, .int .i64 0, .int .i64 0, .int .i64 0, .int .i64 0, .int .i64 0, .int .i64 0, .int .i64 0, .int .i64 0, .int .i64 0, .int .i64 0, .str []] : List V) = z21 := rfl
  rw [ez]
  simp (maxSteps := 4000000) only [vm, vl, Arg.get, cells, stor, splice, Nat.reduceAdd, Int.reduceNeg, e2, gj, zl, zd, QbW, List.append_nil]
  rw [List.set_append_right _ _ (Nat.le_add_right _ _), Nat.add_sub_cancel_left] at m0
  refine Cf.pu (QpA HJ (name := Qbs) m0.g0 hx hl hln (by simp [Qbs]) hsm) fun u1 => ?_
  have m1 := m0.more (t := u1)
  rw [List.append_assoc] at m1
  simp (maxSteps := 4000000) only [vm, vl, Int.reduceNeg]
  refine Cf.pu (QpA HJ (name := nLM) m1.g0 hx hl hln (by simp [nLM]) hsm) fun u2 => ?_
  exact QwP HJ m1.more hx hl hln hsm
theorem Qv3 (HJ : Qad L) (HI : QaZ L) (HU : Qa1 L) {x a c : V} {code s g : Int} {l : List Fld} (hx : Qf 2 x (flds l)) (hl : l.length < 100000) (hln : ∀ f ∈ l, f.1.length ≤ 140737488355328) (hsm : Qk l < 100000) :
    Cf F L Qe7 [.agg [a, .int .i64 code, c, x], .int .i64 s, .int .i64 g] h (Pu h (.agg (mM (.int .i64 code) (ctV (ofC l)) (.int .i64 (Qac l Qbs)) (.int .i64 (QaX l)) (.int .i64 (Qac l nLM)) (.int .i64 (QV l)) (.int .i64 s) (.int .i64 g) (.str (Qaf l))))) := by
  refine QIy ?_
  simp only [QkJ]
  
  simp (maxSteps := 4000000) only [vm, vl, Arg.get, cells, stor, Qb, reduceIte, Nat.reduceAdd, Nat.reduceLeDiff]
  refine Cf.pu (QnQ HJ HI HU hx hl hln hsm) fun u => ?_
  simp (maxSteps := 4000000) only [vm, vl]
  exact QIL HJ rfl hx hl hln hsm
end Go.Proofs.YtaahialaegfjgaaGreatDoor.Vh
end
section
set_option linter.unusedVariables false
set_option linter.unusedSimpArgs false
namespace Go.Proofs.YtaahialaegfjgaaGreatDoor.Vh
open Go.Vm Go.Vt
attribute [local congr] QF QI QE QG QD QJ
variable {L : QL} {h : Heap}
theorem Qsx (l m : List Fld) : flds l ++ flds m = flds (l ++ m) := by simp [flds]
theorem QuE {sz j : Nat} {B h1 : Heap} {x : V} {es : List V} (g : Ow sz (h ++ B) h1 x es) (hj : j < B.length) (X : O) : Ow sz h (h1.set (h.length + j) X) x es := by
  obtain ⟨⟨t, rfl⟩, g⟩ := g
  refine ⟨⟨(B ++ t).set j X, by rw [List.append_assoc, List.set_append_right _ _ (Nat.le_add_right _ _), Nat.add_sub_cancel_left]⟩, ?_⟩
  rcases g with g | g | ⟨k, e1, e2, e3⟩
  · exact .inl g
  · exact .inr (.inl g)
  · refine .inr (.inr ⟨k, e1, ?_, ?_⟩)
    · simp at e2; omega
    · rw [List.length_append] at e2
      rw [List.getElem?_set_ne (by omega)]; exact e3
theorem QgR (l : List Fld) (p : Fld → Bool) : Qk (l.filter p) ≤ Qk l := by
  induction l with
  | nil => exact Nat.le_refl _
  | cons a r ih =>
    simp only [Qk] at ih
    rw [List.filter_cons]
    split
    · simp only [Qk, List.map_cons, List.sum_cons]; omega
    · simp only [Qk, List.map_cons, List.sum_cons]; omega
theorem QuC (l m : List Fld) : Qk (l ++ m) = Qk l + Qk m := by simp [Qk]
theorem QlC : ∀ (ns : List Bs) (l : List Fld), Qk (ns.foldl without l) ≤ Qk l := by
  intro ns l
  rw [QfS]; exact QgR _ _
theorem Qv8 (r : List Fld) : Qk (Qfu r) ≤ Qk r := Nat.le_trans (QlC _ _) (QgR _ _)
theorem QmH (r : List Fld) : (Qfu r).length ≤ r.length := Nat.le_trans (QjV _ _) (List.length_filter_le _ _)
theorem QbV {l : List Fld} (h : Qk l < 100000) : ∀ f ∈ l, f.1.length ≤ 140737488355328 := fun f hf => by
  have := Qkm hf; omega
def Q9 (code s g : Int) (l : List Fld) : List V := mM (.int .i64 code) (ctV (ofC l)) (.int .i64 (Qac l Qbs)) (.int .i64 (QaX l)) (.int .i64 (Qac l nLM)) (.int .i64 (QV l)) (.int .i64 s) (.int .i64 g) (.str (Qaf l))
theorem Qdz (code s g : Int) (l : List Fld) : (Q9 code s g l).length = 21 := rfl
theorem Qga (code s g : Int) (l : List Fld) : List.take 21 (Q9 code s g l) = Q9 code s g l := rfl
def Qdk (h : Heap) (code s g : Int) (l : List Fld) (v : V) (h' : Heap) : Prop := ∃ y, v = .tup [.agg (Q9 code s g l), y] ∧ Ow 2 h h' y (flds l)
theorem QDA (HJ : Qad L) (HI : QaZ L) (HU : Qa1 L) {ms Z : List V} {B1 : O} {code s g : Int} {y12 y15 : V} {lo lm : List Fld} {hh : Heap} (hm : ms.getD 0 (.tup []) = .int .i64 code) (hm1 : 1 ≤ ms.length) (hZ : Z.length = 21)
    (G : Grow 2 (h ++ [.box ms, B1, .box Z]) hh y15 (flds lo)) (hy : Qf 2 y12 (flds lm)) (hl : (lo ++ lm).length < 100000) (hsm : Qk (lo ++ lm) < 100000) :
    Qi9 L (Qdk h code s g (lo ++ lm)) (.int .i64 s) (.int .i64 g) (.ptr h.length 0) (.ptr (h.length + 2) 0) y12 y15 hh := by
  
  unfold Qi9
  rw [List.length_append] at hl
  obtain ⟨x', h'', ha, O2⟩ := G.ow.app (bytes := 32) hy (by rw [Q7, Q7]; omega)
  rw [Qsx] at O2
  obtain ⟨t, rfl⟩ := O2.1
  have hb0 : (h ++ [O.box ms, B1, O.box Z] ++ t)[h.length]? = some (O.box ms) := Qp (by rw [List.getElem?_append_right (Nat.le_refl _), Nat.sub_self]; rfl)
  have hb2 : ∀ u, (h ++ [O.box ms, B1, O.box Z] ++ t ++ u)[h.length + 2]? = some (O.box Z) := fun u => Qp (Qp (by rw [List.getElem?_append_right (Nat.le_add_right _ _), Nat.add_sub_cancel_left]; rfl))
  have O3 := fun u => QuE (j := 2) (O2.more (t := u)) (by simp) (.box (Q9 code s g (lo ++ lm)))
  have hb3 : ∀ u X, ((h ++ [O.box ms, B1, O.box Z] ++ t ++ u).set (h.length + 2) X)[h.length + 2]? = some X := fun u X => List.getElem?_set_self (by simp)
  have S := fun hh => Qv3 (L := L) (h := hh) (a := .int .i64 0) (c := .str []) (code := code) (s := s) (g := g) HJ HI HU O2.list (by rw [List.length_append]; exact hl) (QbV hsm) hsm
  have hl2 := O2.list
  have Zd : List.drop 21 Z = [] := List.drop_eq_nil_of_le (by omega)
  generalize hH : h ++ [O.box ms, B1, O.box Z] ++ t = H at *
  rcases (show x' = .nsl ∨ ∃ o, x' = .sl 2 o (flds (lo ++ lm)) from hl2.imp (fun h => h.2) id) with rfl | ⟨o, rfl⟩
  all_goals
    simp (maxSteps := 4000000) only [vm, vl, Arg.get, cells, stor, Qa, Qc, Qb, QA, Vm.part, Qu, splice, reduceIte, Nat.reduceEqDiff, Nat.reduceAdd, Nat.reduceLeDiff, ha, hb0, hm, hm1]
    refine Cf.pu (S _) fun u => ?_
    have e1 := Qdz code s g (lo ++ lm)
    have e2 := Qga code s g (lo ++ lm)
    have O4 := O3 u
    rw [show mM (.int .i64 code) (ctV (ofC (lo ++ lm))) (.int .i64 (Qac (lo ++ lm) Qbs)) (.int .i64 (QaX (lo ++ lm))) (.int .i64 (Qac (lo ++ lm) nLM)) (.int .i64 (QV (lo ++ lm))) (.int .i64 s) (.int .i64 g) (.str (Qaf (lo ++ lm))) = Q9 code s g (lo ++ lm) from rfl]
    unfold Qdk
    generalize Q9 code s g (lo ++ lm) = R at *
    simp (maxSteps := 4000000) only [vm, vl, reduceIte, hb2, e1, e2, hZ, Zd, List.append_nil, hb3]
    exact ⟨_, rfl, O4⟩
theorem QE2 (HJ : Qad L) (HI : QaZ L) (HU : Qa1 L) {ms Z : List V} {B1 : O} {code s g : Int} {y12 x : V} {l lm : List Fld} {H hh : Heap} {e : Env} (hm : ms.getD 0 (.tup []) = .int .i64 code) (hm1 : 1 ≤ ms.length) (hZ : Z.length = 21) (hH : H = h ++ [.box ms, B1, .box Z])
    (hx : Qf 2 x (flds l)) (hy : Qf 2 y12 (flds lm)) (hl : l.length + lm.length < 100000) (hsm : Qk l + Qk lm < 100000) (he : ∃ t, hh = H ++ t)
    (e3 : e 3 = .int .i64 s) (e4 : e 4 = .int .i64 g) (e5 : e 5 = .ptr h.length 0) (e10 : e 10 = .ptr (h.length + 2) 0) (e12 : e 12 = y12) (e15 : e 15 = .nsl) (e29 : e 29 = x) (e30 : e 30 = .int .i64 l.length) (e31 : e 31 = .int .i64 0) :
    Wl F L Qmv (QpV L (Qdk h code s g (l.filter (fun f => !Qt lm f.1) ++ lm))) e hh := by
  refine QHd (fun n e h' => ∃ i, n = l.length - i ∧ i ≤ l.length ∧ e 3 = .int .i64 s ∧ e 4 = .int .i64 g ∧ e 5 = .ptr h.length 0 ∧ e 10 = .ptr (h.length + 2) 0 ∧ e 12 = y12 ∧ e 29 = x ∧ e 30 = .int .i64 l.length ∧ e 31 = .int .i64 i ∧ Grow 2 H h' (e 15) (flds ((l.take i).filter (fun f => !Qt lm f.1)))) ?_ (n := l.length) ⟨0, by simp, by simp, e3, e4, e5, e10, e12, e29, e30, e31, by rw [e15]; obtain ⟨t, rfl⟩ := he; exact Grow.nil⟩
  clear e3 e4 e5 e10 e12 e15 e29 e30 e31 he hh
  rintro n e h' ⟨i, rfl, hi, e3, e4, e5, e10, e12, e29, e30, e31, G⟩
  simp only [Qlk]
  
  generalize e15 : e 15 = x15 at *
  rcases QbX ([], []) hi with ⟨hn, rfl, hd⟩ | ⟨hl1, hl2, hd, htk⟩
  · rw [List.take_of_length_le (Nat.le_refl _)] at G
    simp (maxSteps := 4000000) only [vm, vl, Arg.get, e3, e4, e5, e10, e12, e15, e30, e31, hn]
    subst hH
    have lf := List.length_filter_le (fun f : Fld => !Qt lm f.1) l
    have sf := QgR l (fun f => !Qt lm f.1)
    exact QDA HJ HI HU hm hm1 hZ G hy (by rw [List.length_append]; omega) (by rw [QuC]; omega)
  · have w := Qe (x := (i : Int) + 1) (by omega) (by omega)
    have i1 := fun {K : QK} {h : Heap} => hx.at (F := F) (L := L) (e := E0) (K := K) (h := h) (i := i) (by rw [Q7]; exact hl2)
    have a1 := Qdf hl2
    have hmem : l.getD i ([], []) ∈ l := Qez hl2
    have hfl := Qkm hmem
    obtain ⟨⟨t0, rfl⟩, _⟩ := id G
    generalize hf : l.getD i ([], []) = f at *
    simp (maxSteps := 4000000) only [vm, vl, Arg.get, cells, stor, Qb, splice, reduceIte, Nat.reduceEqDiff, Nat.reduceAdd, Nat.reduceLeDiff, e3, e4, e5, e10, e12, e15, e29, e30, e31, hl1, i1, a1, Q1, QsV]
    refine Cf.pu (Qj7 (name := f.1) hy (by omega) (QbV (by omega)) (by omega)) fun t1 => ?_
    have G2 := G.more (t := O.box [.str f.1, .str f.2] :: t1)
    have hb : ∀ u, (H ++ (t0 ++ O.box [.str f.1, .str f.2] :: u))[H.length + t0.length]? = some (.box [.str f.1, .str f.2]) := fun u => by
      rw [← List.append_assoc, List.getElem?_append_right (by simp)]; simp
    cases hp : Qt lm f.1 with
    | true =>
      have ef : (l.take (i + 1)).filter (fun f => !Qt lm f.1) = (l.take i).filter (fun f => !Qt lm f.1) := by
        rw [htk, List.filter_append]; simp [hp]
      simp (maxSteps := 4000000) only [vm, vl, Arg.get, cells, stor, Qb, reduceIte, Nat.reduceEqDiff, Nat.reduceAdd, Qnd, QiV, Bool.not_true, w]
      refine ⟨l.length - (i + 1), by omega, i + 1, rfl, hl2, e3, e4, e5, e10, e12, e29, e30, rfl, ?_⟩
      rw [ef]
      simp only [e15]
      simpa using G2
    | false =>
      have ef : (l.take (i + 1)).filter (fun f => !Qt lm f.1) = (l.take i).filter (fun f => !Qt lm f.1) ++ [f] := by
        rw [htk, List.filter_append]; simp [hp]
      have lf := List.length_filter_le (fun f : Fld => !Qt lm f.1) (l.take i)
      rw [List.length_take] at lf
      obtain ⟨x', h'', ha, G3⟩ := G2.app (bytes := 32) (y := Q1 f) (by rw [Q7]; omega)
      rw [QjY, ← ef] at G3
      simp only [Q1] at ha
      rw [List.append_assoc] at ha
      simp (maxSteps := 4000000) only [vm, vl, Arg.get, cells, stor, Qb, reduceIte, Nat.reduceEqDiff, Nat.reduceAdd, Qnd, QiV, Bool.not_false, List.append_assoc, List.cons_append, List.nil_append, hb, e15, ha, w]
      refine ⟨l.length - (i + 1), by omega, i + 1, rfl, hl2, e3, e4, e5, e10, e12, e29, e30, rfl, ?_⟩
      exact G3
theorem Qwq : Cf F L Qfw [] h (Pu h (.agg (strs Qba))) := by
  refine QxO ?_
  simp only [Qmr]
  simp (maxSteps := 4000000) only [vm, vl, Arg.get, cells, stor, Qa, Qc, QA, Vm.part, Qu, splice, reduceIte, Nat.reduceEqDiff, Nat.reduceAdd, Nat.reduceLeDiff]
  (repeat' ((first | refine Qao (fun _ => ?_) (fun _ => ?_) | refine Qaj (fun _ => ?_) (fun _ => ?_) | refine Qar (fun _ => ?_) (fun _ => ?_) | refine Qal (fun _ => ?_) (fun _ => ?_) | refine Qaq (fun _ => ?_) (fun _ => ?_) | refine Qan (fun _ => ?_) (fun _ => ?_) | refine Qap (fun _ => ?_) (fun _ => ?_) | refine Qak (fun _ => ?_) (fun _ => ?_) | refine Qas (fun _ => ?_) (fun _ => ?_)) <;> try simp (maxSteps := 4000000) only [vm, vl, Arg.get, cells, stor, Qi, Qa, Qc, Qb, QA, Vm.part, Qu, splice, reduceIte, reduceCtorEq, Nat.reduceEqDiff, Nat.reduceAdd, Nat.reduceSub, Nat.reduceMul, Nat.reduceLeDiff, ne_eq, not_false_eq_true, Int.reduceEq, Int.reduceLT, Int.reduceLE, Int.reduceNeg, Int.reduceToNat, Int.reduceGT, Int.reduceGE, Nat.reduceLT, Nat.lt_add_one, Nat.zero_lt_succ, Nat.succ_pos, Nat.zero_le, beq_self_eq_true, *]))
  all_goals first | rfl | exact ⟨rfl, _, rfl⟩
theorem Qzj {i : Nat} (hi : i < 5) : (strs Qba).getD i (.tup []) = .str (Qba.getD i []) ∧ (Qba.getD i []).length ≤ 100 ∧ Qba.take (i + 1) = Qba.take i ++ [Qba.getD i []] := by
  rcases (show i = 0 ∨ i = 1 ∨ i = 2 ∨ i = 3 ∨ i = 4 by omega) with rfl | rfl | rfl | rfl | rfl <;> exact ⟨rfl, by decide, rfl⟩
theorem QH2 (HJ : Qad L) (HI : QaZ L) (HU : Qa1 L) {ms : List V} {code s g : Int} {a b c x z : V} {l lr : List Fld} (hm : ms.getD 0 (.tup []) = .int .i64 code) (hm1 : 1 ≤ ms.length)
    (hx : Qf 2 x (flds l)) (hl : l.length < 10000) (hsm : Qk l < 10000) (hz : Qf 2 z (flds lr)) (hlr : lr.length < 10000) (hsr : Qk lr < 10000) :
    Cf F L QfU [.agg ms, x, .agg [a, b, c, z], .int .i64 s, .int .i64 g] h (Qdk h code s g (Qdv l lr)) := by
  refine Qwz ?_
  simp only [QpM]
  
  simp (maxSteps := 4000000) only [vm, vl, Arg.get, cells, stor, Qb, reduceIte, Nat.reduceAdd]
  have jc := Qbd lr Qa7
  refine (QG7 HJ hz (by omega) (QbV (by omega)) (by omega)).mono fun v h' G => ?_
  obtain ⟨t, rfl⟩ := G.1
  refine Cf.pu Qwq fun u => ?_
  have hL := G.list
  clear G
  generalize hZ : ([.int .i64 0, .bool false, .bool false, .bool false, .bool false, .bool false, .bool false, .bool false, .int .i64 0, .int .i64 0, .int .i64 0, .int .i64 0, .int .i64 0, .int .i64 0, .int .i64 0, .int .i64 0, .int .i64 0, .int .i64 0, .int .i64 0, .int .i64 0, .str []] : List V) = Z
  have hZ1 : Z.length = 21 := by rw [← hZ]; rfl
  generalize hB1 : O.box [a, b, c, z] = B1
  obtain ⟨H, hH⟩ : ∃ H, H = h ++ [O.box ms, B1, O.box Z] := ⟨_, rfl⟩
  refine QyL (fun n e h' => ∃ i, n = 5 - i ∧ i ≤ 5 ∧ e 1 = x ∧ e 3 = .int .i64 s ∧ e 4 = .int .i64 g ∧ e 5 = .ptr h.length 0 ∧ e 10 = .ptr (h.length + 2) 0 ∧ e 21 = .agg (strs Qba) ∧ e 22 = .int .i64 i ∧ Qf 2 (e 12) (flds ((Qba.take i).foldl without (Qbh lr))) ∧ ∃ t, h' = H ++ t) ?_ (n := 5) ⟨0, by simp, by simp, rfl, rfl, rfl, rfl, rfl, rfl, rfl, hL, t ++ u, by rw [hH]; simp⟩
  clear hL
  rintro n e h' ⟨i, rfl, hi, e1, e3, e4, e5, e10, e21, e22, hL, t1, rfl⟩
  simp only [QmU]
  generalize e12 : e 12 = y12 at *
  by_cases hl1 : (i : Int) < 5
  · have hi5 : i < 5 := by omega
    have w := Qe (x := (i : Int) + 1) (by omega) (by omega)
    obtain ⟨f1, f2, f3⟩ := Qzj hi5
    have f4 : (strs Qba).length = 5 := rfl
    generalize strs Qba = SL at *
    generalize Qba.getD i [] = nm at *
    have fl := QjV (Qba.take i) (Qbh lr)
    have fs := List.length_filter_le (stays (Qe0 lr Qa7 ++ seven)) lr
    have ss := Nat.le_trans (QlC (Qba.take i) (Qbh lr)) (QgR lr _)
    simp (maxSteps := 4000000) only [vm, vl, Arg.get, Qb, reduceIte, Nat.reduceLeDiff, e12, e21, e22, hl1, hi5, f1, f4, Qr4]
    have fs' : (Qbh lr).length ≤ lr.length := fs
    refine ⟨by omega, (QwK (name := nm) hL (by omega) (QbV (by omega)) (by omega)).mono fun v h2 G2 => ?_⟩
    obtain ⟨⟨t2, rfl⟩, _⟩ := id G2
    simp (maxSteps := 4000000) only [vm, vl, Arg.get, reduceIte, Nat.reduceEqDiff, QuD, w]
    refine ⟨5 - (i + 1), by omega, i + 1, rfl, by omega, e1, e3, e4, e5, e10, e21, rfl, ?_, t1 ++ t2, by simp⟩
    rw [f3, List.foldl_append]
    exact G2.list
  · have hi5 : i = 5 := by omega
    subst hi5
    rw [show Qba.take 5 = Qba from rfl] at hL
    have l1 := fun {K : QK} {h : Heap} => hx.len (F := F) (L := L) (e := E0) (K := K) (h := h)
    simp only [Q7] at l1
    simp (maxSteps := 4000000) only [vm, vl, Arg.get, Nat.reduceSub, Int.reduceLT, e1, e22, hl1, QlI, l1]
    have fl := QmH lr
    have fs := Qv8 lr
    exact QE2 HJ HI HU hm hm1 hZ1 hH hx hL (by omega) (by omega) ⟨t1, rfl⟩ e3 e4 e5 e10 e12 rfl rfl rfl rfl
end Go.Proofs.YtaahialaegfjgaaGreatDoor.Vh
end
section
set_option linter.unusedVariables false
set_option linter.unusedSimpArgs false
namespace Go.Proofs.YtaahialaegfjgaaGreatDoor.Vh
open Go.Vm Go.Vt
theorem Qko {a b : Bs} {n : Nat} {ok : Bool} (h : a.length = n) : Q2 n (a ++ b, ok) = (a, (b, ok)) := by
  unfold Q2
  rw [if_neg (by simp only [List.length_append]; omega)]
  simp only [List.take_left' h, List.drop_left' h]
theorem Qln : ∀ w, w < 7 → ∀ j, j < w → ((Qo.getD w []).take 3 == nmD false j) = false := by decide +kernel
theorem QvZ : ∀ w, w < 7 → nmD false w = (Qo.getD w []).take 3 := fun _ _ => rfl
theorem nm3 (w : Nat) (h : w < 7) : (nmD false w).length = 3 := (QkI w h).2
theorem QId {w : Nat} {b : Bs} {ok : Bool} (h : w < 7) (hb : 0 < b.length) : Qaa false ((Qo.getD w []).take 3 ++ b, ok) = ((w : Int), (b, ok)) := by
  have l3 := (QkI w h).2
  have hit : ∀ j, j < 7 → Qav false ((Qo.getD w []).take 3 ++ b) j = ((Qo.getD w []).take 3 == nmD false j) := by
    intro j hj
    unfold Qav
    rw [nm3 j hj, List.take_left' l3]
    have : decide (((Qo.getD w []).take 3 ++ b).length > 3) = true := by
      rw [decide_eq_true_eq, List.length_append, l3]; omega
    rw [this, Bool.true_and]
  have hf : Qbf (Qav false ((Qo.getD w []).take 3 ++ b)) 7 = w := by
    refine QiW ?_ (fun j hj => ?_) h
    · rw [hit w h, QvZ w h]; simp
    · rw [hit j (by omega)]; exact Qln w h j hj
  unfold Qaa
  simp only [hf, if_pos h, nm3 w h, List.drop_left' l3]
open Go.Vm Go.Vt
attribute [local congr] QF QI QE QG QD QJ
variable {L : QL} {h : Heap}
open Go.Vm Go.Vt
end Go.Proofs.YtaahialaegfjgaaGreatDoor.Vh
end
section
set_option linter.unusedVariables false
set_option linter.unusedSimpArgs false
namespace Go.Proofs.YtaahialaegfjgaaGreatDoor.Vh
open Go.Vm
attribute [local congr] QF QI QE QG QD QJ
variable {L : QL} {h : Heap}
theorem Qtp {y : Int} (h0 : 0 ≤ y) : Cf F L QeB [.int .i64 y] h (Pu h (.bool (decide (Qa6 y)))) := by
  refine QwE ?_
  simp only [Qq3]
  have t1 : y.tmod 4 = y % 4 := QfW h0
  have t2 : y.tmod 100 = y % 100 := QfW h0
  have t3 : y.tmod 400 = y % 400 := QfW h0
  unfold Qa6
  by_cases a : y % 4 = 0
  · by_cases b : y % 100 = 0
    · by_cases c : y % 400 = 0
      · simp (maxSteps := 4000000) only [vm, vl, Arg.get, reduceIte, ne_eq, Int.reduceEq, QcI, t1, t2, t3, a, b, c, decide_true, decide_false, Bool.not_true, Bool.not_false]
        simp
      · simp (maxSteps := 4000000) only [vm, vl, Arg.get, reduceIte, ne_eq, Int.reduceEq, QcI, t1, t2, t3, a, b, c, decide_true, decide_false, Bool.not_true, Bool.not_false]
        simp
    · simp (maxSteps := 4000000) only [vm, vl, Arg.get, reduceIte, ne_eq, not_false_eq_true, Int.reduceEq, QcI, t1, t2, t3, a, b, decide_true, decide_false, Bool.not_true, Bool.not_false]
      simp
  · simp (maxSteps := 4000000) only [vm, vl, Arg.get, reduceIte, ne_eq, Int.reduceEq, QcI, t1, t2, t3, a, decide_true, decide_false, Bool.not_true, Bool.not_false]
    simp
theorem QvK {y m : Int} (h0 : 0 ≤ y) : Cf F L Qei [.int .i64 y, .int .i64 m] h (Pu h (.int .i64 (dim y m))) := by
  refine QIH ?_
  simp only [Qm4]
  unfold dim
  by_cases a : m = 2
  · subst a
    simp (maxSteps := 4000000) only [vm, vl, Arg.get, reduceIte, Int.reduceEq, QdL, QdU, QcH, decide_true]
    refine Cf.pu (Qtp h0) fun u => ?_
    by_cases b : Qa6 y
    · simp (maxSteps := 4000000) only [vm, vl, QdL, QdU, QcH, b, decide_true, if_true]
    · simp (maxSteps := 4000000) only [vm, vl, QdL, QdU, QcH, b, decide_false, if_true, if_false]
  · by_cases a4 : m = 4
    · subst a4
      simp (maxSteps := 4000000) only [vm, vl, Arg.get, reduceIte, Int.reduceEq, QdL, QdU, QcH, a, decide_true, decide_false]
      simp
    by_cases a6 : m = 6
    · subst a6
      simp (maxSteps := 4000000) only [vm, vl, Arg.get, reduceIte, Int.reduceEq, QdL, QdU, QcH, a, a4, decide_true, decide_false]
      simp
    by_cases a9 : m = 9
    · subst a9
      simp (maxSteps := 4000000) only [vm, vl, Arg.get, reduceIte, Int.reduceEq, QdL, QdU, QcH, a, a4, a6, decide_true, decide_false]
      simp
    by_cases a11 : m = 11
    · subst a11
      simp (maxSteps := 4000000) only [vm, vl, Arg.get, reduceIte, QdL, QdU, QcH, a, a4, a6, a9, decide_true, decide_false]
      simp
    simp (maxSteps := 4000000) only [vm, vl, Arg.get, reduceIte, QdL, QdU, QcH, a, a4, a6, a9, a11, decide_true, decide_false, or_self]
def ylen (y : Int) : Int := if Qa6 y then 366 else 365
theorem QJz {y : Int} (h0 : 0 ≤ y) : Cf F L QeA [.int .i64 y] h (Pu h (.int .i64 (ylen y))) := by
  refine QHJ ?_
  simp only [QnE]
  refine Cf.pu (Qtp h0) fun u => ?_
  unfold ylen
  by_cases b : Qa6 y
  · simp (maxSteps := 4000000) only [vm, vl, QpF, b, decide_true, if_true]
  · simp (maxSteps := 4000000) only [vm, vl, QpF, b, decide_false, if_false]
theorem QzL (y : Int) : QM (y + 1) 1 1 = QM y 1 1 + ylen y := by
  unfold ylen
  by_cases hl : Qa6 y
  · rw [if_pos hl]; unfold Qa6 at hl; unfold QM Qbi; simp only [show (1 : Int) ≤ 2 from by decide, if_true]; omega
  · rw [if_neg hl]; unfold Qa6 at hl; unfold QM Qbi; simp only [show (1 : Int) ≤ 2 from by decide, if_true]; omega
theorem QCE (y m : Int) (h0 : 1 ≤ m) (h1 : m < 12) : QM y (m + 1) 1 = QM y m 1 + dim y m := by
  have hm : m = 1 ∨ m = 2 ∨ m = 3 ∨ m = 4 ∨ m = 5 ∨ m = 6 ∨ m = 7 ∨ m = 8 ∨ m = 9 ∨ m = 10 ∨ m = 11 := by omega
  rcases hm with rfl | rfl | rfl | rfl | rfl | rfl | rfl | rfl | rfl | rfl | rfl
  case inr.inl =>
    unfold QM Qbi dim
    simp only [show (2 : Int) + 1 = 3 from rfl, if_true]
    by_cases hl : Qa6 y
    · rw [if_pos hl]; unfold Qa6 at hl; simp; omega
    · rw [if_neg hl]; unfold Qa6 at hl; simp; omega
  all_goals (unfold QM Qbi dim; simp; try omega)
theorem QHr (y m d : Int) : QM y m d = QM y m 1 + d - 1 := by
  unfold QM Qbi; split <;> omega
theorem QIK : QM 1970 1 1 = 0 := by decide
theorem QxR (y m : Int) : 28 ≤ dim y m := by unfold dim; split <;> (try split) <;> omega
theorem QF3 (y : Int) (h0 : 1970 ≤ y) (h1 : y ≤ 9999) : 0 ≤ QM y 1 1 ∧ QM y 1 1 ≤ 3000000 := by
  unfold QM Qbi; simp only [show (1 : Int) ≤ 2 from by decide, if_true]; omega
theorem QEZ (y m : Int) (h0 : 1970 ≤ y) (h1 : y ≤ 9999) (m0 : 1 ≤ m) (m1 : m ≤ 12) : -1000 ≤ QM y m 1 ∧ QM y m 1 ≤ 3000000 := by
  unfold QM Qbi; split <;> omega
theorem Qyc {y m d : Int} {e : Env} {t : Heap} (hy0 : 1970 ≤ y) (hy1 : y ≤ 9999) (hm0 : 1 ≤ m) (hm1 : m ≤ 12) (hd0 : 1 ≤ d) (hd1 : d ≤ dim y m) (e0 : e 0 = .int .i64 y) (e1 : e 1 = .int .i64 m) (e7 : e 7 = .int .i64 (QM y 1 1 + d - 1)) :
    Qbm L (Pu h (.int .i64 (QM y m d))) e (h ++ t) := by
  unfold Qbm
  refine Qzb (fun n e h' => ∃ j : Int, n = (12 - j).toNat ∧ 1 ≤ j ∧ j ≤ m ∧ e 0 = .int .i64 y ∧ e 1 = .int .i64 m ∧ e 7 = .int .i64 (QM y j 1 + d - 1) ∧ e 9 = .int .i64 j ∧ ∃ t, h' = h ++ t) ?_ (n := 11) ⟨1, by decide, by omega, hm0, e0, e1, e7, rfl, t, rfl⟩
  rintro n e h' ⟨j, rfl, hj0, hj1, e0, e1, e7, e9, t, rfl⟩
  simp only [Qox]
  
  have dl := Qjc y m
  have bj := QEZ y j hy0 hy1 hj0 (by omega)
  by_cases c : j < m
  · have dj := Qjc y j
    have dj' := QxR y j
    have w1 : IntKind.i64.wrap (QM y j 1 + d - 1 + dim y j) = QM y (j + 1) 1 + d - 1 := by
      rw [Qe (by omega) (by omega), QCE y j hj0 (by omega)]; omega
    have w2 : IntKind.i64.wrap (j + 1) = j + 1 := Qe (by omega) (by omega)
    simp (maxSteps := 4000000) only [vm, vl, Arg.get, reduceIte, reduceCtorEq, Nat.reduceEqDiff, Qb0, Qcc, Qct, Qbm, Qcq, Qcb, QbT, e0, e1, e7, e9, c, decide_true]
    refine Cf.pu (QvK (by omega)) fun u => ?_
    simp (maxSteps := 4000000) only [vm, vl, Qb0, Qcc, Qct, Qbm, Qcq, Qcb, QbT, w1, w2]
    exact ⟨(12 - (j + 1)).toNat, by omega, j + 1, rfl, by omega, by omega, rfl, rfl, t ++ u, by simp⟩
  · have : j = m := by omega
    subst this
    simp (maxSteps := 4000000) only [vm, vl, Arg.get, reduceIte, reduceCtorEq, Nat.reduceEqDiff, Qb0, Qcc, Qct, Qbm, Qcq, Qcb, QbT, e0, e1, e7, e9, c, decide_false]
    rw [QHr y j d]
theorem QHL {y m d : Int} : Cf F L Qf3 [.int .i64 y, .int .i64 m, .int .i64 d] h (Pu h (.int .i64 (Q0 y m d))) := by
  refine Qyl ?_
  simp only [QkR]
  by_cases a1 : y < 1970
  · rw [show Q0 y m d = -1 from if_neg (by omega)]
    simp (maxSteps := 4000000) only [vm, vl, Arg.get, reduceIte, Int.reduceNeg, Qb0, Qcc, Qct, Qbm, Qcq, Qcb, QbT, a1, decide_true]
  by_cases a2 : y > 9999
  · rw [show Q0 y m d = -1 from if_neg (by omega)]
    simp (maxSteps := 4000000) only [vm, vl, Arg.get, reduceIte, Int.reduceNeg, Qb0, Qcc, Qct, Qbm, Qcq, Qcb, QbT, a1, a2, decide_true, decide_false]
  by_cases a3 : m < 1
  · rw [show Q0 y m d = -1 from if_neg (by omega)]
    simp (maxSteps := 4000000) only [vm, vl, Arg.get, reduceIte, Int.reduceNeg, Qb0, Qcc, Qct, Qbm, Qcq, Qcb, QbT, a1, a2, a3, decide_true, decide_false]
  by_cases a4 : m > 12
  · rw [show Q0 y m d = -1 from if_neg (by omega)]
    simp (maxSteps := 4000000) only [vm, vl, Arg.get, reduceIte, Int.reduceNeg, Qb0, Qcc, Qct, Qbm, Qcq, Qcb, QbT, a1, a2, a3, a4, decide_true, decide_false]
  by_cases a5 : d < 1
  · rw [show Q0 y m d = -1 from if_neg (by omega)]
    simp (maxSteps := 4000000) only [vm, vl, Arg.get, reduceIte, Int.reduceNeg, Qb0, Qcc, Qct, Qbm, Qcq, Qcb, QbT, a1, a2, a3, a4, a5, decide_true, decide_false]
  simp (maxSteps := 4000000) only [vm, vl, Arg.get, reduceIte, Int.reduceNeg, Qb0, Qcc, Qct, Qbm, Qcq, Qcb, QbT, a1, a2, a3, a4, a5, decide_true, decide_false]
  refine Cf.pu (QvK (by omega)) fun u => ?_
  by_cases a6 : d > dim y m
  · rw [show Q0 y m d = -1 from if_neg (by omega)]
    simp (maxSteps := 4000000) only [vm, vl, Int.reduceNeg, Qb0, Qcc, Qct, Qbm, Qcq, Qcb, QbT, a6, decide_true]
  have dl := Qjc y m
  have w1 : IntKind.i64.wrap (d - 1) = d - 1 := Qe (by omega) (by omega)
  rw [show Q0 y m d = QM y m d from if_pos ⟨by omega, by omega, by omega, by omega, by omega, by omega⟩]
  simp (maxSteps := 4000000) only [vm, vl, Arg.get, a6, decide_false, w1, QbT]
  refine QHp (fun n e h' => ∃ j : Int, n = (y - j).toNat ∧ 1970 ≤ j ∧ j ≤ y ∧ e 0 = .int .i64 y ∧ e 1 = .int .i64 m ∧ e 7 = .int .i64 (QM j 1 1 + d - 1) ∧ e 8 = .int .i64 j ∧ ∃ t, h' = h ++ t) ?_ (n := (y - 1970).toNat) ⟨1970, rfl, by omega, by omega, rfl, rfl, by rw [QIK]; simp [upd], rfl, u, rfl⟩
  rintro n e h' ⟨j, rfl, hj0, hj1, e0, e1, e7, e8, t, rfl⟩
  simp only [Qme]
  have bj := QF3 j hj0 (by omega)
  by_cases c : j < y
  · have yl : 365 ≤ ylen j ∧ ylen j ≤ 366 := by unfold ylen; split <;> omega
    have w1 : IntKind.i64.wrap (QM j 1 1 + d - 1 + ylen j) = QM (j + 1) 1 1 + d - 1 := by
      rw [Qe (by omega) (by omega), QzL]; omega
    have w2 : IntKind.i64.wrap (j + 1) = j + 1 := Qe (by omega) (by omega)
    simp (maxSteps := 4000000) only [vm, vl, Arg.get, reduceIte, reduceCtorEq, Nat.reduceEqDiff, Qb0, Qcc, Qct, Qbm, Qcq, Qcb, QbT, e0, e1, e7, e8, c, decide_true]
    refine Cf.pu (QJz (by omega)) fun u => ?_
    simp (maxSteps := 4000000) only [vm, vl, Qb0, Qcc, Qct, Qbm, Qcq, Qcb, QbT, w1, w2]
    exact ⟨(y - (j + 1)).toNat, by omega, j + 1, rfl, by omega, by omega, rfl, rfl, t ++ u, by simp⟩
  · have : j = y := by omega
    subst this
    simp (maxSteps := 4000000) only [vm, vl, Arg.get, e0, e1, e7, e8, c, decide_false]
    exact Qyc hj0 (by omega) (by omega) (by omega) (by omega) (by omega) (by simp [upd, e0]) (by simp [upd, e1]) (by simp [upd, e7])
open Go.Vm Go.Vt
attribute [local congr] QF QI QE QG QD QJ
def Qbv : List Bs := [[77, 111, 110], [84, 117, 101], [87, 101, 100], [84, 104, 117], [70, 114, 105], [83, 97, 116], [83, 117, 110]]
theorem Qvk : Cf F L Qe3 [] h (Pu h (.sl 1 .full (Qbv.map .str))) := by
  refine QC7 ?_
  simp only [Qpi]
  simp (maxSteps := 4000000) only [vm, vl, Arg.get, cells, stor, reduceIte, List.all_cons, List.all_nil, List.map_cons, List.map_nil, Bool.and_true, Bool.and_self, List.length_cons, List.length_nil, Nat.reduceAdd, decide_true]
  rfl
theorem Qmc : Cf F L Qdg [] h (Pu h (.sl 1 .full (Qz.map .str))) := by
  refine QJX ?_
  simp only [Qnk]
  simp (maxSteps := 4000000) only [vm, vl, Arg.get, cells, stor, reduceIte, List.all_cons, List.all_nil, List.map_cons, List.map_nil, Bool.and_true, Bool.and_self, List.length_cons, List.length_nil, Nat.reduceAdd, decide_true]
  rfl
def QY (l : List Bs) (s : Bs) : Int := if lpos s l < l.length then (lpos s l : Int) else -1
theorem QJc {K : QK} {e : Env} {hh : Heap} {l : List Bs} {o : Own} {i : Nat} (hi : i < l.length) : wi F L (.ixaSl 1 (.c (.sl 1 o (l.map .str))) (.c (.int .i64 i))) e hh K = K (.iptr [.str (l.getD i [])]) hh := by
  rw [Qf.at (es := l.map V.str) (.inr ⟨_, rfl⟩) (by simpa using hi), QjU hi]; rfl
theorem QDj {K : QK} {e : Env} {hh : Heap} {l : List Bs} {o : Own} : wi F L (.len 1 (.c (.sl 1 o (l.map .str)))) e hh K = K (.int .i64 l.length) hh := by
  rw [Qf.len (es := l.map V.str) (.inr ⟨_, rfl⟩), List.length_map]
theorem QiC {l : List Bs} {s : Bs} {o : Own} (hl : l.length ≤ 100) : Cf F L QcK [.sl 1 o (l.map .str), .str s] h (Pu h (.int .i64 (QY l s))) := by
  refine QEr ?_
  simp only [Qp0]
  refine Qze (fun n e h' => ∃ j : Nat, n = l.length - j ∧ j ≤ l.length ∧ e 0 = .sl 1 o (l.map .str) ∧ e 1 = .str s ∧ e 5 = .int .i64 j ∧ h' = h ∧ ∀ i, i < j → l.getD i [] ≠ s) ?_ (n := l.length) ⟨0, by simp, by omega, rfl, rfl, rfl, rfl, by simp⟩
  rintro n e h' ⟨j, rfl, hj, e0, e1, e5, rfl, hn⟩
  simp only [QqZ]
  have ln : ∀ (K : QK) (e : Env) hh, wi F L (.len 1 (.c (.sl 1 o (l.map .str)))) e hh K = K (.int .i64 l.length) hh := fun K e hh => QDj (L := L)
  by_cases c : j < l.length
  · have c' : (j : Int) < l.length := by omega
    have at_ : ∀ (K : QK) (e : Env) hh, wi F L (.ixaSl 1 (.c (.sl 1 o (l.map .str))) (.c (.int .i64 j))) e hh K = K (.iptr [.str (l.getD j [])]) hh := fun K e hh => QJc (L := L) c
    have w1 : IntKind.i64.wrap ((j : Int) + 1) = ((j + 1 : Nat) : Int) := by rw [Qe (by omega) (by omega)]; omega
    by_cases q : l.getD j [] = s
    · have ep : QY l s = j := by unfold QY; rw [Qi1 c hn q, if_pos c]
      have q' : (l.getD j [] == s) = true := beq_iff_eq.2 q
      generalize (l.map V.str) = LL at *
      generalize l.getD j [] = X1 at *
      simp (maxSteps := 4000000) only [vm, vl, Arg.get, Qb, reduceIte, reduceCtorEq, Nat.reduceEqDiff, ne_eq, Int.reduceNeg, QhH, Qjr, QjZ, e0, e1, e5, ln, c', at_, q', decide_true, ep]
    · have q' : (l.getD j [] == s) = false := by simpa using q
      have nx : ∀ i, i < j + 1 → l.getD i [] ≠ s := fun i hi => by
        rcases Nat.lt_or_ge i j with h | h
        · exact hn i h
        · rw [show i = j by omega]; exact q
      generalize (l.map V.str) = LL at *
      generalize l.getD j [] = X1 at *
      simp (maxSteps := 4000000) only [vm, vl, Arg.get, Qb, reduceIte, reduceCtorEq, Nat.reduceEqDiff, ne_eq, Int.reduceNeg, QhH, Qjr, QjZ, e0, e1, e5, ln, c', at_, q', decide_true, w1]
      exact ⟨l.length - (j + 1), by omega, j + 1, rfl, by omega, rfl, nx⟩
  · have c' : ¬ (j : Int) < l.length := by omega
    have ep : QY l s = -1 := by
      unfold QY; rw [QjM (fun i hi => hn i (by omega)), if_neg (by omega)]
    generalize (l.map V.str) = LL at *
    simp (maxSteps := 4000000) only [vm, vl, Arg.get, cells, Qb, reduceIte, reduceCtorEq, Nat.reduceEqDiff, ne_eq, Int.reduceNeg, QhH, Qjr, QjZ, e0, e1, e5, ln, c', decide_false, ep]
def Qn (s : Bs) : Int := if s.all QU then Q6 s else -1
theorem QdW {s : Bs} (hl : s.length ≤ 4) : Cf F L QaT [.str s] h (Pu h (.int .i64 (Qn s))) := by
  refine QEV ?_
  simp only [Qmt]
  refine QCo (fun n e h' => ∃ j : Nat, n = s.length - j ∧ j ≤ s.length ∧ e 0 = .str s ∧ e 3 = .int .i64 (Q6 (s.take j)) ∧ e 4 = .int .i64 j ∧ h' = h ∧ (s.take j).all QU = true) ?_ (n := s.length) ⟨0, by simp, by omega, rfl, rfl, rfl, rfl, by simp⟩
  rintro n e h' ⟨j, rfl, hj, e0, e3, e4, rfl, hn⟩
  simp only [Qoj]
  by_cases c : j < s.length
  · have c' : (j : Int) < s.length := by omega
    have w1 : IntKind.i64.wrap ((j : Int) + 1) = ((j + 1 : Nat) : Int) := by rw [Qe (by omega) (by omega)]; omega
    have tk : s.take (j + 1) = s.take j ++ [s.getD j 0] := by
      rw [List.take_add_one, List.getD_eq_getElem?_getD, List.getElem?_eq_getElem c]; rfl
    have nv := Qvu (s.take j) (s.getD j 0)
    have bv := QeW (s := s.take j) (by simp; omega)
    have dr := QcV (s.getD j 0)
    have dw := Qtx (s.getD j 0)
    have w2 : IntKind.i64.wrap (Q6 (s.take j) * 10) = Q6 (s.take j) * 10 := Qe (by omega) (by omega)
    have w3 : IntKind.i64.wrap (Q6 (s.take j) * 10 + dgt (s.getD j 0)) = Q6 (s.take (j + 1)) := by rw [Qe (by omega) (by omega), tk, nv]; omega
    have w4 : IntKind.i64.wrap (dgt (s.getD j 0)) = dgt (s.getD j 0) := Qe (by omega) (by omega)
    by_cases d : QU (s.getD j 0) = true
    · have dd := d
      unfold QU at dd
      rw [decide_eq_true_eq] at dd
      have d1 : ¬ ((s.getD j 0).toNat : Int) < 48 := by omega
      have d2 : ¬ ((s.getD j 0).toNat : Int) > 57 := by omega
      have al : (s.take (j + 1)).all QU = true := by rw [tk, List.all_append, hn, List.all_cons, List.all_nil, d]; rfl
      generalize hnv1 : Q6 (s.take (j + 1)) = nv1 at *
      generalize Q6 (s.take j) = nv0 at *
      simp (maxSteps := 4000000) only [vm, vl, Arg.get, reduceIte, reduceCtorEq, Nat.reduceEqDiff, Int.reduceNeg, Qhs, QiF, Qim, QhQ, e0, e3, e4, c', c, w1, w2, w3, w4, d1, d2, dw, decide_true, decide_false, Bool.not_true]
      exact ⟨s.length - (j + 1), by omega, j + 1, rfl, by omega, by rw [hnv1], rfl, al⟩
    · have ep : Qn s = -1 := by
        unfold Qn
        rw [if_neg]
        intro h
        rw [List.all_eq_true] at h
        exact d (h _ (by rw [List.getD_eq_getElem?_getD, List.getElem?_eq_getElem c]; simp))
      unfold QU at d
      rw [decide_eq_true_eq] at d
      by_cases d1 : ((s.getD j 0).toNat : Int) < 48
      · simp (maxSteps := 4000000) only [vm, vl, Arg.get, reduceIte, reduceCtorEq, Nat.reduceEqDiff, Int.reduceNeg, Qhs, QiF, Qim, QhQ, e0, e3, e4, c', c, d1, decide_true, decide_false, Bool.not_true, ep]
      · have d2 : ((s.getD j 0).toNat : Int) > 57 := by omega
        simp (maxSteps := 4000000) only [vm, vl, Arg.get, reduceIte, reduceCtorEq, Nat.reduceEqDiff, Int.reduceNeg, Qhs, QiF, Qim, QhQ, e0, e3, e4, c', c, d1, d2, decide_true, decide_false, Bool.not_true, ep]
  · have c' : ¬ (j : Int) < s.length := by omega
    have : j = s.length := by omega
    subst this
    rw [List.take_length] at hn e3
    have ep : Qn s = Q6 s := by unfold Qn; rw [if_pos hn]
    simp (maxSteps := 4000000) only [vm, vl, Arg.get, reduceIte, reduceCtorEq, Nat.reduceEqDiff, Int.reduceNeg, Qhs, QiF, Qim, QhQ, e0, e3, e4, c', decide_false, ep]
theorem QuW {s : Bs} (hl : s.length ≤ 4) : -1 ≤ Qn s ∧ Qn s ≤ 283305 := by
  have := QeW hl
  unfold Qn; split <;> omega
def Q8 (s : Bs) : Int :=
  if s.length = 8 ∧ s.getD 2 0 = 58 ∧ s.getD 5 0 = 58 ∧ 0 ≤ Qn (s.take 2) ∧ Qn (s.take 2) ≤ 23 ∧ 0 ≤ Qn ((s.take 5).drop 3) ∧ Qn ((s.take 5).drop 3) ≤ 59 ∧ 0 ≤ Qn (s.drop 6) ∧ Qn (s.drop 6) ≤ 60 then
    Qn (s.take 2) * 3600 + Qn ((s.take 5).drop 3) * 60 + min (Qn (s.drop 6)) 59
  else -1
theorem QoS (s : Bs) : -1 ≤ Q8 s ∧ Q8 s ≤ 86399 := by unfold Q8; split <;> omega
theorem Qcw {a b : UInt8} (h : ¬ a = b) : ¬ ((a.toNat : Int) = (b.toNat : Int)) := fun e => h (UInt8.toNat_inj.1 (by omega))
theorem Ql4 {s : Bs} (hl : s.length ≤ 100) : Cf F L Qdo [.str s] h (Pu h (.int .i64 (Q8 s))) := by
  refine Qyt ?_
  simp only [Qnj]
  by_cases a1 : s.length = 8
  case neg =>
    have c1 : ¬ (s.length : Int) = 8 := by omega
    rw [show Q8 s = -1 from if_neg fun h => a1 h.1]
    simp (maxSteps := 4000000) only [vm, vl, Arg.get, Qi, reduceIte, Nat.reduceLeDiff, Int.reduceLE, Int.reduceNeg, Int.reduceToNat, Nat.zero_le, Qbu, QbH, QbL, c1, decide_false, decide_true, Bool.not_true, Bool.not_false]
  have c1 : (s.length : Int) = 8 := by omega
  have o1 : 2 < s.length := by omega
  have o2 : 5 < s.length := by omega
  have o3 : 2 ≤ s.length := by omega
  have o4 : 5 ≤ s.length := by omega
  have o5 : 6 ≤ s.length := by omega
  by_cases a2 : s.getD 2 0 = 58
  case neg =>
    have c2 : ¬ ((s.getD 2 0).toNat : Int) = 58 := Qcw a2
    rw [show Q8 s = -1 from if_neg fun h => a2 h.2.1]
    simp (maxSteps := 4000000) only [vm, vl, Arg.get, Qi, reduceIte, Nat.reduceLeDiff, Int.reduceLE, Int.reduceNeg, Int.reduceToNat, Nat.zero_le, Qbu, QbH, QbL, c1, c2, o1, o2, decide_false, decide_true, Bool.not_true, Bool.not_false]
  have c2 : ((s.getD 2 0).toNat : Int) = 58 := by rw [a2]; rfl
  by_cases a3 : s.getD 5 0 = 58
  case neg =>
    have c3 : ¬ ((s.getD 5 0).toNat : Int) = 58 := Qcw a3
    rw [show Q8 s = -1 from if_neg fun h => a3 h.2.2.1]
    simp (maxSteps := 4000000) only [vm, vl, Arg.get, Qi, reduceIte, Nat.reduceLeDiff, Int.reduceLE, Int.reduceNeg, Int.reduceToNat, Nat.zero_le, Qbu, QbH, QbL, c1, c2, c3, o1, o2, decide_false, decide_true, Bool.not_true, Bool.not_false]
  have c3 : ((s.getD 5 0).toNat : Int) = 58 := by rw [a3]; rfl
  have N1 : ∀ hh, Cf F L QaT [.str (s.take 2)] hh (Pu hh (.int .i64 (Qn (s.take 2)))) := fun hh => QdW (by rw [List.length_take]; omega)
  have N2 : ∀ hh, Cf F L QaT [.str ((s.take 5).drop 3)] hh (Pu hh (.int .i64 (Qn ((s.take 5).drop 3)))) := fun hh => QdW (by rw [List.length_drop, List.length_take]; omega)
  have N3 : ∀ hh, Cf F L QaT [.str (s.drop 6)] hh (Pu hh (.int .i64 (Qn (s.drop 6)))) := fun hh => QdW (by rw [List.length_drop]; omega)
  have e : Q8 s = if 0 ≤ Qn (s.take 2) ∧ Qn (s.take 2) ≤ 23 ∧ 0 ≤ Qn ((s.take 5).drop 3) ∧ Qn ((s.take 5).drop 3) ≤ 59 ∧ 0 ≤ Qn (s.drop 6) ∧ Qn (s.drop 6) ≤ 60 then Qn (s.take 2) * 3600 + Qn ((s.take 5).drop 3) * 60 + min (Qn (s.drop 6)) 59 else -1 := by
    unfold Q8; simp only [a1, a2, a3, true_and]
  rw [e]
  generalize Qn (s.take 2) = A at *
  generalize Qn ((s.take 5).drop 3) = B at *
  generalize Qn (s.drop 6) = C at *
  simp (maxSteps := 4000000) only [vm, vl, Arg.get, Qi, reduceIte, Nat.reduceLeDiff, Int.reduceLE, Int.reduceNeg, Int.reduceToNat, Nat.zero_le, Qbu, QbH, QbL, List.take_length, c1, c2, c3, o1, o2, o3, o4, o5, decide_false, decide_true, Bool.not_true, Bool.not_false]
  refine Cf.pu (N1 _) fun t1 => ?_
  simp (maxSteps := 4000000) only [vm, vl, Int.reduceNeg, Qbu, QbH, QbL, List.take_length, c1, c2, c3, o1, o2, o3, o4, o5, decide_false, decide_true, Bool.not_true, Bool.not_false]
  refine Cf.pu (N2 _) fun t2 => ?_
  simp (maxSteps := 4000000) only [vm, vl, Int.reduceNeg, Qbu, QbH, QbL, List.take_length, c1, c2, c3, o1, o2, o3, o4, o5, decide_false, decide_true, Bool.not_true, Bool.not_false]
  refine Cf.pu (N3 _) fun t3 => ?_
  by_cases k1 : A < 0
  · rw [if_neg (by omega)]
    simp (maxSteps := 4000000) only [vm, vl, reduceIte, Int.reduceNeg, Qbu, QbH, QbL, k1, decide_true]
  by_cases k2 : A > 23
  · rw [if_neg (by omega)]
    simp (maxSteps := 4000000) only [vm, vl, Arg.get, reduceIte, Int.reduceNeg, Qbu, QbH, QbL, k1, k2, decide_true, decide_false]
  by_cases k3 : B < 0
  · rw [if_neg (by omega)]
    simp (maxSteps := 4000000) only [vm, vl, Arg.get, reduceIte, Int.reduceNeg, Qbu, QbH, QbL, k1, k2, k3, decide_true, decide_false]
  by_cases k4 : B > 59
  · rw [if_neg (by omega)]
    simp (maxSteps := 4000000) only [vm, vl, Arg.get, reduceIte, Int.reduceNeg, Qbu, QbH, QbL, k1, k2, k3, k4, decide_true, decide_false]
  by_cases k5 : C < 0
  · rw [if_neg (by omega)]
    simp (maxSteps := 4000000) only [vm, vl, Arg.get, reduceIte, Int.reduceNeg, Qbu, QbH, QbL, k1, k2, k3, k4, k5, decide_true, decide_false]
  by_cases k6 : C > 60
  · rw [if_neg (by omega)]
    simp (maxSteps := 4000000) only [vm, vl, Arg.get, reduceIte, Int.reduceNeg, Qbu, QbH, QbL, k1, k2, k3, k4, k5, k6, decide_true, decide_false]
  rw [if_pos (by omega)]
  have w1 : IntKind.i64.wrap (A * 3600) = A * 3600 := Qe (by omega) (by omega)
  have w2 : IntKind.i64.wrap (B * 60) = B * 60 := Qe (by omega) (by omega)
  have w3 : IntKind.i64.wrap (A * 3600 + B * 60) = A * 3600 + B * 60 := Qe (by omega) (by omega)
  by_cases k7 : C = 60
  · subst k7
    have w4 : IntKind.i64.wrap (A * 3600 + B * 60 + 59) = A * 3600 + B * 60 + 59 := Qe (by omega) (by omega)
    simp (maxSteps := 4000000) only [vm, vl, Arg.get, reduceIte, Int.reduceNeg, Qbu, QbH, QbL, k1, k2, k3, k4, k5, k6, decide_true, decide_false, w1, w2, w3, w4]
    rfl
  · have w4 : IntKind.i64.wrap (A * 3600 + B * 60 + C) = A * 3600 + B * 60 + C := Qe (by omega) (by omega)
    have mm : min C 59 = C := by omega
    simp (maxSteps := 4000000) only [vm, vl, Arg.get, reduceIte, Int.reduceNeg, Qbu, QbH, QbL, k1, k2, k3, k4, k5, k6, k7, decide_true, decide_false, w1, w2, w3, w4, mm]
def QcT (w y m d c : Int) : V := if 0 ≤ Q0 y m d ∧ 0 ≤ c ∧ w = (Q0 y m d + 3) % 7 then .tup [.int .i64 (Q0 y m d * 86400 + c), .bool true] else .tup [.int .i64 0, .bool false]
theorem Qpr {w y m d c : Int} (hc : c ≤ 86399) : Cf F L Qcd [.int .i64 w, .int .i64 y, .int .i64 m, .int .i64 d, .int .i64 c] h (Pu h (QcT w y m d c)) := by
  refine QzJ ?_
  simp only [Qnq]
  refine Cf.pu QHL fun t => ?_
  have dr := QtF y m d
  unfold QcT
  generalize Q0 y m d = n at *
  by_cases a1 : n < 0
  · rw [if_neg (by omega)]
    simp (maxSteps := 4000000) only [vm, vl, Arg.get, Qa, Qc, reduceIte, Qin, a1, decide_true, decide_false, Bool.not_true, Bool.not_false]
  by_cases a2 : c < 0
  · rw [if_neg (by omega)]
    simp (maxSteps := 4000000) only [vm, vl, Arg.get, Qa, Qc, reduceIte, Qin, a1, a2, decide_true, decide_false, Bool.not_true, Bool.not_false]
  have w1 : IntKind.i64.wrap (n + 3) = n + 3 := Qe (by omega) (by omega)
  have t1 : (n + 3).tmod 7 = (n + 3) % 7 := QfW (by omega)
  by_cases a3 : w = (n + 3) % 7
  · rw [if_pos (by omega)]
    have w2 : IntKind.i64.wrap (n * 86400) = n * 86400 := Qe (by omega) (by omega)
    have w3 : IntKind.i64.wrap (n * 86400 + c) = n * 86400 + c := Qe (by omega) (by omega)
    simp (maxSteps := 4000000) only [vm, vl, Arg.get, Qa, Qc, reduceIte, Int.reduceEq, Qin, a1, a2, a3, QcI, w1, t1, w2, w3, decide_true, decide_false, Bool.not_true, Bool.not_false]
  · rw [if_neg (by omega)]
    simp (maxSteps := 4000000) only [vm, vl, Arg.get, Qa, Qc, reduceIte, Int.reduceEq, Qin, a1, a2, a3, QcI, w1, t1, decide_true, decide_false, Bool.not_true, Bool.not_false]
open Go.Vm Go.Vt
attribute [local congr] QF QI QE QG QD QJ
theorem Qui : ∀ w, w < 7 → Qbv.getD w [] = (Qo.getD w []).take 3 := by decide +kernel
end Go.Proofs.YtaahialaegfjgaaGreatDoor.Vh
end
section
set_option linter.unusedVariables false
set_option linter.unusedSimpArgs false
namespace Go.Proofs.YtaahialaegfjgaaGreatDoor.Vh
open Go.Vm Go.Vt
theorem QiN {n : Nat} {r : Rd} (h : r.2 = false) : (Q2 n r).2.2 = false := by unfold Q2; split; rfl; exact h
theorem QbD {p : Bs} {r : Rd} (h : r.2 = false) : (Qs p r).2 = false := by unfold Qs; split; exact QiN h; rfl
theorem QdH {n : Nat} {r : Rd} (h : r.2 = false) : (QP n r).2.2 = false := by unfold QP; simp only [QiN h, Bool.false_and]
theorem QqX {r : Rd} (h : r.2 = false) : (QaC r).2.2 = false := by unfold QaC; split; exact QiN h; rfl
theorem Qpq {r : Rd} (h : r.2 = false) : (Qaz r).2.2 = false := by
  unfold Qaz
  simp only
  have h1 : (QP 2 (Qs [58] (QP 2 (Qs [58] (QP 2 r).2)).2)).2.2 = false := QdH (QbD (QdH (QbD (QdH h))))
  split
  · rfl
  · exact h1
theorem QgS {r : Rd} {w y m d c : Int} (h : r.2 = false) : Qa3 r w y m d c = .tup [.int .i64 0, .bool false] := by
  unfold Qa3; rw [if_neg]; rintro ⟨h1, _⟩; rw [h] at h1; cases h1
theorem QCV {r : Rd} (h : (Qs [44, 32] (Qaa false r).2).2 = false) : QaR r = .tup [.int .i64 0, .bool false] := by
  unfold QaR
  exact QgS (QbD (Qpq (QbD (QdH (QbD (QqX (QbD (QdH h))))))))
theorem QBu {a b : Bs} (h : 3 ≤ a.length) : (a ++ b).take 3 = a.take 3 := List.take_append_of_le_length h
theorem QiP (j : Nat) : nmD true j = Qo.getD j [] := rfl
theorem QDU : ∀ j, j < 7 → 3 < (Qo.getD j []).length ∧ (Qo.getD j []).getD 3 0 ≠ 32 ∧ ((Qo.getD j []).drop 3).getD 0 0 ≠ 44 := by decide +kernel
theorem QDt {w : Nat} {b : Bs} {ok : Bool} (h : w < 7) (hb : 0 < b.length) : Qaa true (Qo.getD w [] ++ b, ok) = ((w : Int), (b, ok)) := by
  have hl := fun j hj => (QDU j hj).1
  have hf : Qbf (Qav true (Qo.getD w [] ++ b)) 7 = w := by
    refine QiW ?_ (fun j hj => ?_) h
    · unfold Qav
      rw [QiP, List.take_left' rfl]
      have : decide ((Qo.getD w [] ++ b).length > (Qo.getD w []).length) = true := by
        rw [decide_eq_true_eq, List.length_append]; omega
      rw [this]; simp
    · unfold Qav
      rw [QiP, Bool.and_eq_false_iff]
      right
      rw [beq_eq_false_iff_ne]
      intro e
      have e3 : ((Qo.getD w []).take 3 == nmD false j) = true := by
        rw [beq_iff_eq, QvZ j (by omega), ← e, List.take_take, Nat.min_eq_left (by have := hl j (by omega); omega), QBu (by have := hl w h; omega)]
      rw [Qln w h j hj] at e3; cases e3
  unfold Qaa
  simp only [hf, if_pos h, QiP, List.drop_left' rfl]
end Go.Proofs.YtaahialaegfjgaaGreatDoor.Vh
end
section
set_option linter.unusedVariables false
set_option linter.unusedSimpArgs false
namespace Go.Proofs.YtaahialaegfjgaaGreatDoor.Vh
open Go.Vm Go.Vt
def QaU : V := .tup [.int .i64 0, .bool false]
theorem Qbj {p a b : Bs} {ok : Bool} (h : a.length = p.length) : Qs p (a ++ b, ok) = (b, ok && (a == p)) := by
  unfold Qs
  rw [Qko h]
  by_cases e : a = p
  · rw [if_pos e]; subst e; simp
  · rw [if_neg e]; simp [e]
theorem QdT {a b : Bs} {ok : Bool} {n : Nat} (h : a.length = n) : QP n (a ++ b, ok) = (Q6 a, (b, ok && a.all QU)) := by
  unfold QP; rw [Qko h]
theorem Ql0 {a b : Bs} {ok : Bool} (h : a.length = 3) : ∃ X : Int, QaC (a ++ b, ok) = (X, (b, ok && decide (lpos a Qz < 12))) ∧ (lpos a Qz < 12 → X = QY Qz a + 1) := by
  unfold QaC QY; rw [Qko h]
  have l12 : Qz.length = 12 := rfl
  by_cases e : lpos a Qz < 12
  · exact ⟨lpos a Qz + 1, by simp [e], fun _ => by rw [if_pos (by omega)]⟩
  · exact ⟨0, by simp [e], fun h => absurd h e⟩
theorem seg {s : Bs} {a b : Nat} (h : a ≤ b) : (s.take b).drop a ++ s.drop b = s.drop a := by
  rw [List.drop_take]
  have : s.drop b = (s.drop a).drop (b - a) := by rw [List.drop_drop]; congr 1; omega
  rw [this, List.take_append_drop]
theorem QaK {s : Bs} {a b : Nat} (h : b ≤ s.length) : ((s.take b).drop a).length = b - a := by
  rw [List.length_drop, List.length_take]; omega
theorem QcD {s : Bs} {a : Nat} (h : a < s.length) : (s.take (a + 1)).drop a = [s.getD a 0] := by
  rw [List.drop_take, show a + 1 - a = 1 by omega, List.drop_eq_getElem_cons h, List.getD_eq_getElem?_getD, List.getElem?_eq_getElem h]; rfl
theorem QcN {s : Bs} : 0 ≤ Qn s → s.all QU = true := by
  unfold Qn; split
  · intro _; assumption
  · intro h; omega
theorem QbI {s : Bs} (h : s.all QU = true) : Qn s = Q6 s := if_pos h
theorem Qk8 {ck b : Bs} {ok : Bool} (h : ck.length = 8) : ∃ X : Int, Qaz (ck ++ b, ok) = (X, (b, ok && decide (0 ≤ Q8 ck))) ∧ (0 ≤ Q8 ck → X = Q8 ck) := by
  have e : ck = ck.take 2 ++ ((ck.take 3).drop 2 ++ ((ck.take 5).drop 3 ++ ((ck.take 6).drop 5 ++ ck.drop 6))) := by
    rw [seg (by omega), seg (by omega), seg (by omega), List.take_append_drop]
  have l1 : (ck.take 2).length = 2 := by rw [List.length_take]; omega
  have l3 : ((ck.take 5).drop 3).length = 2 := QaK (by omega)
  have l5 : (ck.drop 6).length = 2 := by rw [List.length_drop]; omega
  have s2 : (ck.take 3).drop 2 = [ck.getD 2 0] := QcD (by omega)
  have s5 : (ck.take 6).drop 5 = [ck.getD 5 0] := QcD (by omega)
  rw [s2, s5] at e
  have hr : Qaz (ck ++ b, ok) = Qaz (ck.take 2 ++ ([ck.getD 2 0] ++ ((ck.take 5).drop 3 ++ ([ck.getD 5 0] ++ (ck.drop 6 ++ b)))), ok) := by
    congr 1; congr 1
    calc ck ++ b = (ck.take 2 ++ ([ck.getD 2 0] ++ ((ck.take 5).drop 3 ++ ([ck.getD 5 0] ++ ck.drop 6)))) ++ b := by rw [← e]
      _ = _ := by simp only [List.append_assoc]
  have hc : Q8 ck = if ck.getD 2 0 = 58 ∧ ck.getD 5 0 = 58 ∧ 0 ≤ Qn (ck.take 2) ∧ Qn (ck.take 2) ≤ 23 ∧ 0 ≤ Qn ((ck.take 5).drop 3) ∧ Qn ((ck.take 5).drop 3) ≤ 59 ∧ 0 ≤ Qn (ck.drop 6) ∧ Qn (ck.drop 6) ≤ 60 then Qn (ck.take 2) * 3600 + Qn ((ck.take 5).drop 3) * 60 + min (Qn (ck.drop 6)) 59 else -1 := by
    unfold Q8; simp only [h, true_and]
  rw [hr, hc]
  generalize ck.take 2 = A at *
  generalize (ck.take 5).drop 3 = B at *
  generalize ck.drop 6 = C at *
  generalize ck.getD 2 0 = x at *
  generalize ck.getD 5 0 = y at *
  have a0 := QeW (s := A) (by omega)
  have b0 := QeW (s := B) (by omega)
  have c0 := QeW (s := C) (by omega)
  unfold Qaz
  simp only [QdT l1, QdT l3, QdT l5, Qbj (p := [58]) (a := [x]) rfl, Qbj (p := [58]) (a := [y]) rfl]
  refine ⟨Q6 A * 3600 + Q6 B * 60 + min (Q6 C) 59, ?_, ?_⟩
  · by_cases P : x = 58 ∧ y = 58 ∧ 0 ≤ Qn A ∧ Qn A ≤ 23 ∧ 0 ≤ Qn B ∧ Qn B ≤ 59 ∧ 0 ≤ Qn C ∧ Qn C ≤ 60
    · rw [if_pos P]
      obtain ⟨p1, p2, p3, p4, p5, p6, p7, p8⟩ := P
      have d1 := QcN p3
      have d2 := QcN p5
      have d3 := QcN p7
      rw [QbI d1] at p3 p4 ⊢
      rw [QbI d2] at p5 p6 ⊢
      rw [QbI d3] at p7 p8 ⊢
      rw [if_neg (by omega), d1, d2, d3, p1, p2, decide_eq_true (by omega)]
      simp
    · rw [if_neg P, show decide ((0 : Int) ≤ -1) = false from rfl, Bool.and_false]
      congr 1
      split
      · rfl
      · rename_i h1
        congr 1
        rw [Bool.eq_false_iff]
        intro h2
        simp only [Bool.and_eq_true, beq_iff_eq, List.cons.injEq, and_true] at h2
        obtain ⟨⟨⟨⟨⟨_, d1⟩, p1⟩, d2⟩, p2⟩, d3⟩ := h2
        apply P
        rw [QbI d1, QbI d2, QbI d3]
        exact ⟨p1, p2, by omega, by omega, by omega, by omega, by omega, by omega⟩
  · intro h0
    by_cases P : x = 58 ∧ y = 58 ∧ 0 ≤ Qn A ∧ Qn A ≤ 23 ∧ 0 ≤ Qn B ∧ Qn B ≤ 59 ∧ 0 ≤ Qn C ∧ Qn C ≤ 60
    · rw [if_pos P]
      obtain ⟨p1, p2, p3, p4, p5, p6, p7, p8⟩ := P
      rw [QbI (QcN p3), QbI (QcN p5), QbI (QcN p7)]
    · rw [if_neg P] at h0; omega
theorem QsI : ∀ j, j < 7 → Qbv.getD j [] = nmD false j := by decide +kernel
theorem QuV {a b : Bs} {ok : Bool} (h : a.length = 3) (hb : 0 < b.length) : (∃ w : Nat, w < 7 ∧ QY Qbv a = w ∧ Qaa false (a ++ b, ok) = ((w : Int), (b, ok))) ∨ (QY Qbv a = -1 ∧ (Qaa false (a ++ b, ok)).2.2 = false) := by
  have l7 : Qbv.length = 7 := rfl
  by_cases q : ∃ j, j < 7 ∧ Qbv.getD j [] = a
  · obtain ⟨j, hj, rfl⟩ := q
    left
    refine ⟨j, hj, ?_, ?_⟩
    · unfold QY
      rw [Qi1 (i := j) (by omega) (fun i hi e => ?_) rfl, if_pos (by omega)]
      have := Qln j hj i hi
      rw [← Qui j hj, ← QsI i (by omega), e] at this
      simp at this
    · rw [Qui j hj]; exact QId hj hb
  · right
    have hn : ∀ j, j < 7 → Qbv.getD j [] ≠ a := fun j hj e => q ⟨j, hj, e⟩
    refine ⟨?_, ?_⟩
    · unfold QY
      rw [QjM (fun j hj => hn j (by omega)), if_neg (by omega)]
    · unfold Qaa
      rw [Qjs, if_neg (by omega)]
      intro j hj
      unfold Qav
      rw [nm3 j hj, List.take_left' h, Bool.and_eq_false_iff]
      right
      rw [beq_eq_false_iff_ne, ← QsI j hj]
      exact fun e => hn j hj e.symm
theorem QmA {B : Bool} {w y m d c w' y' m' d' c' : Int} (h1 : B = true → 0 ≤ c' ∧ w' = w ∧ y' = y ∧ m' = m ∧ d' = d ∧ c' = c) (h2 : 0 ≤ Q0 y' m' d' → 0 ≤ c' → B = true) :
    Qa3 ([], B) w y m d c = QcT w' y' m' d' c' := by
  unfold Qa3 QcT
  by_cases hB : B = true
  · obtain ⟨c0, rfl, rfl, rfl, rfl, rfl⟩ := h1 hB
    by_cases q : 0 ≤ Q0 y' m' d' ∧ (Q0 y' m' d' + 3) % 7 = w'
    · rw [if_pos ⟨hB, rfl, q.1, q.2⟩, if_pos ⟨q.1, c0, q.2.symm⟩]
    · rw [if_neg (fun h => q ⟨h.2.2.1, h.2.2.2⟩), if_neg (fun h => q ⟨h.1, h.2.2.symm⟩)]
  · rw [if_neg (fun h => hB h.1), if_neg (fun h => hB (h2 h.1 h.2.1))]
theorem Qlp {y m d : Int} (h : 0 ≤ Q0 y m d) : 1970 ≤ y ∧ 1 ≤ m ∧ 1 ≤ d := by
  unfold Q0 at h
  split at h
  · rename_i q; exact ⟨q.1, q.2.2.1, q.2.2.2.2.1⟩
  · omega
theorem Qma {l : List Bs} {a : Bs} (h : 0 ≤ QY l a) : lpos a l < l.length := by
  unfold QY at h; split at h
  · assumption
  · omega
def c29 (s : Bs) : Prop := s.length = 29 ∧ (s.take 5).drop 3 = [44, 32] ∧ s.getD 7 0 = 32 ∧ s.getD 11 0 = 32 ∧ s.getD 16 0 = 32 ∧ s.drop 25 = [32, 71, 77, 84]
def f29 (s : Bs) : V := QcT (QY Qbv (s.take 3)) (Qn ((s.take 16).drop 12)) (QY Qz ((s.take 11).drop 8) + 1) (Qn ((s.take 7).drop 5)) (Q8 ((s.take 25).drop 17))
theorem QrJ {s : Bs} (hl : s.length = 29) : QaR (s, true) = if s.drop 25 = [32, 71, 77, 84] ∧ (s.take 5).drop 3 = [44, 32] ∧ s.getD 7 0 = 32 ∧ s.getD 11 0 = 32 ∧ s.getD 16 0 = 32 then f29 s else QaU := by
  have e : s = s.take 3 ++ ((s.take 5).drop 3 ++ ((s.take 7).drop 5 ++ ((s.take 8).drop 7 ++ ((s.take 11).drop 8 ++ ((s.take 12).drop 11 ++ ((s.take 16).drop 12 ++ ((s.take 17).drop 16 ++ ((s.take 25).drop 17 ++ s.drop 25)))))))) := by
    rw [seg (by omega), seg (by omega), seg (by omega), seg (by omega), seg (by omega), seg (by omega), seg (by omega), seg (by omega), List.take_append_drop]
  rw [QcD (a := 7) (by omega), QcD (a := 11) (by omega), QcD (a := 16) (by omega)] at e
  have l1 : (s.take 3).length = 3 := by rw [List.length_take]; omega
  have l2 : ((s.take 5).drop 3).length = 2 := QaK (by omega)
  have l3 : ((s.take 7).drop 5).length = 2 := QaK (by omega)
  have l4 : ((s.take 11).drop 8).length = 3 := QaK (by omega)
  have l5 : ((s.take 16).drop 12).length = 4 := QaK (by omega)
  have l6 : ((s.take 25).drop 17).length = 8 := QaK (by omega)
  have l7 : (s.drop 25).length = 4 := by rw [List.length_drop]; omega
  unfold f29
  have e' : QaR (s, true) = QaR (s.take 3 ++ ((s.take 5).drop 3 ++ ((s.take 7).drop 5 ++ ([s.getD 7 0] ++ ((s.take 11).drop 8 ++ ([s.getD 11 0] ++ ((s.take 16).drop 12 ++ ([s.getD 16 0] ++ ((s.take 25).drop 17 ++ s.drop 25)))))))), true) := by rw [← e]
  rw [e']
  clear e e'
  generalize s.take 3 = A at *
  generalize (s.take 5).drop 3 = P at *
  generalize (s.take 7).drop 5 = D at *
  generalize (s.take 11).drop 8 = M at *
  generalize (s.take 16).drop 12 = Y at *
  generalize (s.take 25).drop 17 = C at *
  generalize s.drop 25 = G at *
  generalize s.getD 7 0 = x at *
  generalize s.getD 11 0 = y at *
  generalize s.getD 16 0 = z at *
  have hG : G = G ++ [] := by simp
  obtain ⟨b, hb⟩ : ∃ b, b = P ++ (D ++ ([x] ++ (M ++ ([y] ++ (Y ++ ([z] ++ (C ++ G))))))) := ⟨_, rfl⟩
  have hb0 : 0 < b.length := by rw [hb, List.length_append]; omega
  rw [← hb]
  rcases QuV (ok := true) l1 hb0 with ⟨w, hw, ew, ed⟩ | ⟨ew, ed⟩
  · have lp : ([44, 32] : Bs).length = 2 := rfl
    have lg : ([32, 71, 77, 84] : Bs).length = 4 := rfl
    obtain ⟨X, hX, hX'⟩ := Ql0 (b := [y] ++ (Y ++ ([z] ++ (C ++ G)))) (ok := true && (P == [44, 32]) && D.all QU && ([x] == [32])) l4
    obtain ⟨Z, hZ, hZ'⟩ := Qk8 (b := G) (ok := true && (P == [44, 32]) && D.all QU && ([x] == [32]) && decide (lpos M Qz < 12) && ([y] == [32]) && Y.all QU && ([z] == [32])) l6
    have hN := Qbj (p := [32, 71, 77, 84]) (a := G) (b := []) (ok := true && (P == [44, 32]) && D.all QU && ([x] == [32]) && decide (lpos M Qz < 12) && ([y] == [32]) && Y.all QU && ([z] == [32]) && decide (0 ≤ Q8 C)) (by omega)
    rw [← hG] at hN
    subst hb
    unfold QaR
    simp only [ed, Qbj (p := [44, 32]) (a := P) (b := D ++ ([x] ++ (M ++ ([y] ++ (Y ++ ([z] ++ (C ++ G))))))) l2, QdT l3, Qbj (p := [32]) (a := [x]) rfl, hX, Qbj (p := [32]) (a := [y]) rfl, QdT l5, Qbj (p := [32]) (a := [z]) rfl, hZ, hN]
    by_cases q : G = [32, 71, 77, 84] ∧ P = [44, 32] ∧ x = 32 ∧ y = 32 ∧ z = 32
    · rw [if_pos q]
      obtain ⟨q1, q2, q3, q4, q5⟩ := q
      refine QmA (fun hB => ?_) (fun h1 h2 => ?_)
      · simp only [Bool.and_eq_true, beq_iff_eq, decide_eq_true_eq] at hB
        obtain ⟨⟨⟨⟨⟨⟨⟨⟨⟨_, _⟩, b1⟩, _⟩, b2⟩, _⟩, b3⟩, _⟩, b4⟩, _⟩ := hB
        exact ⟨b4, ew, QbI b3, (hX' b2).symm, QbI b1, (hZ' b4).symm⟩
      · obtain ⟨p1, p2, p3⟩ := Qlp h1
        have b1 := QcN (s := Y) (by omega)
        have b2 := QcN (s := D) (by omega)
        have b3 := Qma (l := Qz) (a := M) (by omega)
        have b3' : lpos M Qz < 12 := b3
        simp [q1, q2, q3, q4, q5, b1, b2, b3', h2]
    · rw [if_neg q]
      refine QgS ?_
      show _ = false
      rw [Bool.eq_false_iff]
      intro hB
      simp only [Bool.and_eq_true, beq_iff_eq, decide_eq_true_eq, List.cons.injEq, and_true] at hB
      obtain ⟨⟨⟨⟨⟨⟨⟨⟨⟨_, r1⟩, b1⟩, r2⟩, b2⟩, r3⟩, b3⟩, r4⟩, b4⟩, r5⟩ := hB
      exact q ⟨r5, r1, r2, r3, r4⟩
  · rw [QCV (QbD ed)]
    split
    · unfold QcT
      rw [if_neg]
      rintro ⟨h1, h2, h3⟩
      omega
    · rfl
theorem Qvf {D C Y : Bs} {x z : UInt8} {ok : Bool} {dg : Nat} {w m : Int} (hd : D.length = dg) (hc : C.length = 8) (hy : Y.length = 4) : ∃ Z : Int, (0 ≤ Q8 C → Z = Q8 C) ∧
    Qbo dg w m (D ++ ([x] ++ (C ++ ([z] ++ Y))), ok) = Qa3 ([], ok && D.all QU && ([x] == [32]) && decide (0 ≤ Q8 C) && ([z] == [32]) && Y.all QU) w (Q6 Y) m (Q6 D) Z := by
  obtain ⟨Z, hZ, hZ'⟩ := Qk8 (b := [z] ++ Y) (ok := ok && D.all QU && ([x] == [32])) hc
  have hN := QdT (a := Y) (b := []) (n := 4) (ok := ok && D.all QU && ([x] == [32]) && decide (0 ≤ Q8 C) && ([z] == [32])) hy
  rw [List.append_nil] at hN
  refine ⟨Z, hZ', ?_⟩
  unfold Qbo
  simp only [QdT hd, Qbj (p := [32]) (a := [x]) rfl, hZ, Qbj (p := [32]) (a := [z]) rfl, hN]
def Qdc (s : Bs) : Bs := if ((s.take 10).drop 8).getD 0 0 = 32 then ((s.take 10).drop 8).drop 1 else (s.take 10).drop 8
def f24 (s : Bs) : V := QcT (QY Qbv (s.take 3)) (Qn (s.drop 20)) (QY Qz ((s.take 7).drop 4) + 1) (Qn (Qdc s)) (Q8 ((s.take 19).drop 11))
theorem QFU {w y m d c : Int} (hw : w = -1) : QcT w y m d c = QaU := by
  unfold QcT
  rw [if_neg]; rfl
  rintro ⟨h1, h2, h3⟩
  omega
theorem QEz {r : Rd} (h : (Qaa false r).2.2 = false) : QaI r = QaU := by
  unfold QaI Qbo
  simp only
  split
  · exact QgS (QdH (QbD (Qpq (QbD (QdH (QiN (QbD (QqX (QbD h)))))))))
  · exact QgS (QdH (QbD (Qpq (QbD (QdH (QbD (QqX (QbD h))))))))
theorem QFu {D : Bs} (h : D.length = 2) : ∃ p q, D = [p, q] := by
  match D, h with
  | [p, q], _ => exact ⟨p, q, rfl⟩
theorem QvC {s : Bs} (hl : s.length = 24) : QaI (s, true) = if s.getD 3 0 = 32 ∧ s.getD 7 0 = 32 ∧ s.getD 10 0 = 32 ∧ s.getD 19 0 = 32 then f24 s else QaU := by
  have e : s = s.take 3 ++ ((s.take 4).drop 3 ++ ((s.take 7).drop 4 ++ ((s.take 8).drop 7 ++ ((s.take 10).drop 8 ++ ((s.take 11).drop 10 ++ ((s.take 19).drop 11 ++ ((s.take 20).drop 19 ++ s.drop 20))))))) := by
    rw [seg (by omega), seg (by omega), seg (by omega), seg (by omega), seg (by omega), seg (by omega), seg (by omega), List.take_append_drop]
  rw [QcD (a := 3) (by omega), QcD (a := 7) (by omega), QcD (a := 10) (by omega), QcD (a := 19) (by omega)] at e
  have l1 : (s.take 3).length = 3 := by rw [List.length_take]; omega
  have l2 : ((s.take 7).drop 4).length = 3 := QaK (by omega)
  have l3 : ((s.take 10).drop 8).length = 2 := QaK (by omega)
  have l4 : ((s.take 19).drop 11).length = 8 := QaK (by omega)
  have l5 : (s.drop 20).length = 4 := by rw [List.length_drop]; omega
  unfold f24 Qdc
  have e' : QaI (s, true) = QaI (s.take 3 ++ ([s.getD 3 0] ++ ((s.take 7).drop 4 ++ ([s.getD 7 0] ++ ((s.take 10).drop 8 ++ ([s.getD 10 0] ++ ((s.take 19).drop 11 ++ ([s.getD 19 0] ++ s.drop 20))))))), true) := by rw [← e]
  rw [e']
  clear e e'
  generalize s.take 3 = A at *
  generalize (s.take 7).drop 4 = M at *
  generalize (s.take 10).drop 8 = D at *
  generalize (s.take 19).drop 11 = C at *
  generalize s.drop 20 = Y at *
  generalize s.getD 3 0 = x at *
  generalize s.getD 7 0 = y at *
  generalize s.getD 10 0 = z at *
  generalize s.getD 19 0 = u at *
  obtain ⟨b, hb⟩ : ∃ b, b = [x] ++ (M ++ ([y] ++ (D ++ ([z] ++ (C ++ ([u] ++ Y)))))) := ⟨_, rfl⟩
  have hb0 : 0 < b.length := by rw [hb, List.length_append, List.length_singleton]; omega
  rw [← hb]
  rcases QuV (ok := true) l1 hb0 with ⟨w, hw, ew, ed⟩ | ⟨ew, ed⟩
  · obtain ⟨X, hX, hX'⟩ := Ql0 (b := [y] ++ (D ++ ([z] ++ (C ++ ([u] ++ Y))))) (ok := true && ([x] == [32])) l2
    subst hb
    obtain ⟨o4, ho4⟩ : ∃ o, o = (true && ([x] == [32]) && decide (lpos M Qz < 12) && ([y] == [32])) := ⟨_, rfl⟩
    have key : QaI (A ++ ([x] ++ (M ++ ([y] ++ (D ++ ([z] ++ (C ++ ([u] ++ Y))))))), true) = if D.getD 0 0 = 32 then Qbo 1 w X (D.drop 1 ++ ([z] ++ (C ++ ([u] ++ Y))), o4) else Qbo 2 w X (D ++ ([z] ++ (C ++ ([u] ++ Y))), o4) := by
      unfold QaI
      simp only [ed, Qbj (p := [32]) (a := [x]) rfl, hX, Qbj (p := [32]) (a := [y]) rfl, ← ho4]
      obtain ⟨p, q, rfl⟩ := QFu l3
      have eD : ([p, q] : Bs) ++ ([z] ++ (C ++ ([u] ++ Y))) = [p] ++ ([q] ++ ([z] ++ (C ++ ([u] ++ Y)))) := rfl
      have e0 : (([p, q] : Bs) ++ ([z] ++ (C ++ ([u] ++ Y)))).getD 0 0 = p := rfl
      have e1 : (([p, q] : Bs) ++ ([z] ++ (C ++ ([u] ++ Y)))).length > 0 := by rw [List.length_append]; show 0 < 2 + _; omega
      have e2 : ([p, q] : Bs).getD 0 0 = p := rfl
      have e3 : ([p, q] : Bs).drop 1 = [q] := rfl
      rw [e0, e2, e3]
      by_cases h32 : p = 32
      · rw [if_pos ⟨e1, h32⟩, if_pos h32, eD, Qko (n := 1) (a := [p]) rfl]
      · rw [if_neg (fun h => h32 h.2), if_neg h32]
    rw [key]
    obtain ⟨D', hD'⟩ : ∃ D', D' = if D.getD 0 0 = 32 then D.drop 1 else D := ⟨_, rfl⟩
    rw [← hD']
    have key2 : ∃ Z : Int, (0 ≤ Q8 C → Z = Q8 C) ∧ (if D.getD 0 0 = 32 then Qbo 1 w X (D.drop 1 ++ ([z] ++ (C ++ ([u] ++ Y))), o4) else Qbo 2 w X (D ++ ([z] ++ (C ++ ([u] ++ Y))), o4)) = Qa3 ([], o4 && D'.all QU && ([z] == [32]) && decide (0 ≤ Q8 C) && ([u] == [32]) && Y.all QU) w (Q6 Y) X (Q6 D') Z := by
      by_cases h32 : D.getD 0 0 = 32
      · rw [if_pos h32] at hD' ⊢
        subst hD'
        exact Qvf (by rw [List.length_drop]; omega) l4 l5
      · rw [if_neg h32] at hD' ⊢
        subst hD'
        exact Qvf l3 l4 l5
    obtain ⟨Z, hZ, ek⟩ := key2
    rw [ek]
    clear ek key hD'
    subst ho4
    by_cases q : x = 32 ∧ y = 32 ∧ z = 32 ∧ u = 32
    · rw [if_pos q]
      obtain ⟨q1, q2, q3, q4⟩ := q
      refine QmA (fun hB => ?_) (fun h1 h2 => ?_)
      · simp only [Bool.and_eq_true, beq_iff_eq, decide_eq_true_eq] at hB
        obtain ⟨⟨⟨⟨⟨⟨⟨⟨_, _⟩, b1⟩, _⟩, b2⟩, _⟩, b3⟩, _⟩, b4⟩ := hB
        exact ⟨b3, ew, QbI b4, (hX' b1).symm, QbI b2, (hZ b3).symm⟩
      · obtain ⟨p1, p2, p3⟩ := Qlp h1
        have b1 := QcN (s := Y) (by omega)
        have b2 := QcN (s := D') (by omega)
        have b3 := Qma (l := Qz) (a := M) (by omega)
        have b3' : lpos M Qz < 12 := b3
        simp [q1, q2, q3, q4, b1, b2, b3', h2]
    · rw [if_neg q]
      refine QgS ?_
      show _ = false
      rw [Bool.eq_false_iff]
      intro hB
      simp only [Bool.and_eq_true, beq_iff_eq, decide_eq_true_eq, List.cons.injEq, and_true] at hB
      obtain ⟨⟨⟨⟨⟨⟨⟨⟨_, r1⟩, b1⟩, r2⟩, b2⟩, r3⟩, b3⟩, r4⟩, b4⟩ := hB
      exact q ⟨r1, r2, r3, r4⟩
  · rw [QEz ed]
    split
    · rw [QFU ew]
    · rfl
def yrN (y : Int) : Int := if y ≥ 70 then y + 1900 else if y ≥ 0 then y + 2000 else y
def fold (w : Nat) (t : Bs) : V := QcT w (yrN (Qn ((t.take 11).drop 9))) (QY Qz ((t.take 8).drop 5) + 1) (Qn ((t.take 4).drop 2)) (Q8 ((t.take 20).drop 12))
theorem Qx3 {w : Nat} {t : Bs} (hw : w < 7) (hl : t.length = 24) : Qbq (Qo.getD w [] ++ t, true) = if t.take 2 = [44, 32] ∧ t.getD 4 0 = 45 ∧ t.getD 8 0 = 45 ∧ t.getD 11 0 = 32 ∧ t.drop 20 = [32, 71, 77, 84] then fold w t else QaU := by
  have ed := QDt (b := t) (ok := true) hw (by omega)
  have e : t = t.take 2 ++ ((t.take 4).drop 2 ++ ((t.take 5).drop 4 ++ ((t.take 8).drop 5 ++ ((t.take 9).drop 8 ++ ((t.take 11).drop 9 ++ ((t.take 12).drop 11 ++ ((t.take 20).drop 12 ++ t.drop 20))))))) := by
    rw [seg (by omega), seg (by omega), seg (by omega), seg (by omega), seg (by omega), seg (by omega), seg (by omega), List.take_append_drop]
  rw [QcD (a := 4) (by omega), QcD (a := 8) (by omega), QcD (a := 11) (by omega)] at e
  have l1 : (t.take 2).length = 2 := by rw [List.length_take]; omega
  have l2 : ((t.take 4).drop 2).length = 2 := QaK (by omega)
  have l3 : ((t.take 8).drop 5).length = 3 := QaK (by omega)
  have l4 : ((t.take 11).drop 9).length = 2 := QaK (by omega)
  have l5 : ((t.take 20).drop 12).length = 8 := QaK (by omega)
  have l6 : (t.drop 20).length = 4 := by rw [List.length_drop]; omega
  unfold fold
  have ed' : Qaa true (Qo.getD w [] ++ t, true) = ((w : Int), (t.take 2 ++ ((t.take 4).drop 2 ++ ([t.getD 4 0] ++ ((t.take 8).drop 5 ++ ([t.getD 8 0] ++ ((t.take 11).drop 9 ++ ([t.getD 11 0] ++ ((t.take 20).drop 12 ++ t.drop 20))))))), true)) := by rw [← e]; exact ed
  generalize hs : Qo.getD w [] ++ t = s at *
  clear e ed hs
  generalize t.take 2 = P at *
  generalize (t.take 4).drop 2 = D at *
  generalize (t.take 8).drop 5 = M at *
  generalize (t.take 11).drop 9 = Y at *
  generalize (t.take 20).drop 12 = C at *
  generalize t.drop 20 = G at *
  generalize t.getD 4 0 = x at *
  generalize t.getD 8 0 = y at *
  generalize t.getD 11 0 = z at *
  have hG : G = G ++ [] := by simp
  obtain ⟨X, hX, hX'⟩ := Ql0 (b := [y] ++ (Y ++ ([z] ++ (C ++ G)))) (ok := true && (P == [44, 32]) && D.all QU && ([x] == [45])) l3
  obtain ⟨Z, hZ, hZ'⟩ := Qk8 (b := G) (ok := true && (P == [44, 32]) && D.all QU && ([x] == [45]) && decide (lpos M Qz < 12) && ([y] == [45]) && Y.all QU && ([z] == [32])) l5
  have hN := Qbj (p := [32, 71, 77, 84]) (a := G) (b := []) (ok := true && (P == [44, 32]) && D.all QU && ([x] == [45]) && decide (lpos M Qz < 12) && ([y] == [45]) && Y.all QU && ([z] == [32]) && decide (0 ≤ Q8 C)) l6
  rw [← hG] at hN
  unfold Qbq
  simp only [ed', Qbj (p := [44, 32]) (a := P) (b := D ++ ([x] ++ (M ++ ([y] ++ (Y ++ ([z] ++ (C ++ G))))))) l1, QdT l2, Qbj (p := [45]) (a := [x]) rfl, hX, Qbj (p := [45]) (a := [y]) rfl, QdT l4, Qbj (p := [32]) (a := [z]) rfl, hZ, hN]
  have nv := QeW (s := Y) (by omega)
  by_cases q : P = [44, 32] ∧ x = 45 ∧ y = 45 ∧ z = 32 ∧ G = [32, 71, 77, 84]
  · rw [if_pos q]
    obtain ⟨q1, q2, q3, q4, q5⟩ := q
    refine QmA (fun hB => ?_) (fun h1 h2 => ?_)
    · simp only [Bool.and_eq_true, beq_iff_eq, decide_eq_true_eq] at hB
      obtain ⟨⟨⟨⟨⟨⟨⟨⟨⟨_, _⟩, b1⟩, _⟩, b2⟩, _⟩, b3⟩, _⟩, b4⟩, _⟩ := hB
      refine ⟨b4, rfl, ?_, (hX' b2).symm, QbI b1, (hZ' b4).symm⟩
      rw [QbI b3]
      unfold yrN
      split <;> (try rfl)
      rw [if_pos (by omega)]
    · obtain ⟨p1, p2, p3⟩ := Qlp h1
      have b1 := QcN (s := Y) (by
        unfold yrN at p1
        have := QuW (s := Y) (by omega)
        split at p1
        · omega
        · split at p1 <;> omega)
      have b2 := QcN (s := D) (by omega)
      have b3 := Qma (l := Qz) (a := M) (by omega)
      have b3' : lpos M Qz < 12 := b3
      simp [q1, q2, q3, q4, q5, b1, b2, b3', h2]
  · rw [if_neg q]
    refine QgS ?_
    show _ = false
    rw [Bool.eq_false_iff]
    intro hB
    simp only [Bool.and_eq_true, beq_iff_eq, decide_eq_true_eq, List.cons.injEq, and_true] at hB
    obtain ⟨⟨⟨⟨⟨⟨⟨⟨⟨_, r1⟩, b1⟩, r2⟩, b2⟩, r3⟩, b3⟩, r4⟩, b4⟩, r5⟩ := hB
    exact q ⟨r1, r2, r3, r4, r5⟩
theorem Qkr {n : Nat} {r : Rd} (h : (Q2 n r).2.2 = true) : r.2 = true ∧ r.1.length = n + (Q2 n r).2.1.length := by
  unfold Q2 at h ⊢
  split at h
  · cases h
  · rename_i q; rw [if_neg q]; exact ⟨h, by simp only [List.length_drop]; omega⟩
theorem Qbr {p : Bs} {r : Rd} (h : (Qs p r).2 = true) : r.2 = true ∧ r.1.length = p.length + (Qs p r).1.length := by
  unfold Qs at h ⊢
  split at h
  · rename_i q; rw [if_pos q]; exact Qkr h
  · cases h
theorem QdG {n : Nat} {r : Rd} (h : (QP n r).2.2 = true) : r.2 = true ∧ r.1.length = n + (QP n r).2.1.length := by
  unfold QP at h ⊢
  simp only [Bool.and_eq_true] at h
  exact Qkr h.1
theorem Qlq {r : Rd} (h : (QaC r).2.2 = true) : r.2 = true ∧ r.1.length = 3 + (QaC r).2.1.length := by
  unfold QaC at h ⊢
  split at h
  · rename_i q; rw [if_pos q]; exact Qkr h
  · cases h
theorem Qpg {r : Rd} (h : (Qaz r).2.2 = true) : r.2 = true ∧ r.1.length = 8 + (Qaz r).2.1.length := by
  unfold Qaz at h ⊢
  simp only at h ⊢
  split at h
  · cases h
  · rename_i q
    rw [if_neg q]
    obtain ⟨h1, e1⟩ := QdG h
    obtain ⟨h2, e2⟩ := Qbr h1
    obtain ⟨h3, e3⟩ := QdG h2
    obtain ⟨h4, e4⟩ := Qbr h3
    obtain ⟨h5, e5⟩ := QdG h4
    simp only [List.length_cons, List.length_nil] at e2 e4
    exact ⟨h5, by omega⟩
theorem Qtk {p : Nat → Bool} : ∀ {n : Nat}, Qbf p n < n → p (Qbf p n) = true
  | 0, h => by omega
  | n + 1, h => by
    unfold Qbf at h ⊢
    by_cases a : Qbf p n < n
    · rw [if_pos a]; exact Qtk a
    · rw [if_neg a] at h ⊢
      by_cases b : p n = true
      · rw [if_pos b]; exact b
      · rw [if_neg b] at h; omega
theorem QqM {long : Bool} {r : Rd} (h : (Qaa long r).2.2 = true) : r.2 = true ∧ ∃ w, w < 7 ∧ r.1.take (nmD long w).length = nmD long w ∧ r.1.length = (nmD long w).length + (Qaa long r).2.1.length := by
  unfold Qaa at h ⊢
  split at h
  · rename_i q
    rw [if_pos q]
    have hh := Qtk q
    generalize Qbf (Qav long r.1) 7 = w at *
    unfold Qav at hh
    rw [Bool.and_eq_true, decide_eq_true_eq, beq_iff_eq] at hh
    exact ⟨h, w, q, hh.2, by simp only [List.length_drop]; omega⟩
  · cases h
theorem QoW {r : Rd} {w y m d c : Int} (h : ¬ (r.2 = true ∧ r.1 = [])) : Qa3 r w y m d c = QaU := by
  unfold Qa3; rw [if_neg (fun q => h ⟨q.1, q.2.1⟩)]; rfl
theorem QvO {s : Bs} (h : s.length ≠ 29) : QaR (s, true) = QaU := by
  unfold QaR
  refine QoW fun q => h ?_
  obtain ⟨q1, q2⟩ := q
  obtain ⟨h1, e1⟩ := Qbr q1
  obtain ⟨h2, e2⟩ := Qpg h1
  obtain ⟨h3, e3⟩ := Qbr h2
  obtain ⟨h4, e4⟩ := QdG h3
  obtain ⟨h5, e5⟩ := Qbr h4
  obtain ⟨h6, e6⟩ := Qlq h5
  obtain ⟨h7, e7⟩ := Qbr h6
  obtain ⟨h8, e8⟩ := QdG h7
  obtain ⟨h9, e9⟩ := Qbr h8
  obtain ⟨ha, w, hw, _, e10⟩ := QqM h9
  rw [nm3 w hw] at e10
  rw [q2] at e1
  simp only [List.length_cons, List.length_nil] at e1 e3 e5 e7 e9 e10
  omega
theorem Qne {s : Bs} (h : Qbq (s, true) ≠ QaU) : ∃ w, w < 7 ∧ s.take (Qo.getD w []).length = Qo.getD w [] ∧ s.length = (Qo.getD w []).length + 24 := by
  unfold Qbq at h
  have q := Classical.byContradiction fun q => h (QoW q)
  obtain ⟨q1, q2⟩ := q
  obtain ⟨h1, e1⟩ := Qbr q1
  obtain ⟨h2, e2⟩ := Qpg h1
  obtain ⟨h3, e3⟩ := Qbr h2
  obtain ⟨h4, e4⟩ := QdG h3
  obtain ⟨h5, e5⟩ := Qbr h4
  obtain ⟨h6, e6⟩ := Qlq h5
  obtain ⟨h7, e7⟩ := Qbr h6
  obtain ⟨h8, e8⟩ := QdG h7
  obtain ⟨h9, e9⟩ := Qbr h8
  obtain ⟨ha, w, hw, ep, e10⟩ := QqM h9
  rw [QiP] at e10 ep
  rw [q2] at e1
  simp only [List.length_cons, List.length_nil] at e1 e3 e5 e7 e9 e10
  exact ⟨w, hw, ep, by omega⟩
theorem Qrw {dg : Nat} {w m : Int} {x : Rd} (h : Qbo dg w m x ≠ QaU) : x.2 = true ∧ x.1.length = dg + 14 := by
  unfold Qbo at h
  have q := Classical.byContradiction fun q => h (QoW q)
  obtain ⟨q1, q2⟩ := q
  obtain ⟨h1, e1⟩ := QdG q1
  obtain ⟨h2, e2⟩ := Qbr h1
  obtain ⟨h3, e3⟩ := Qpg h2
  obtain ⟨h4, e4⟩ := Qbr h3
  obtain ⟨h5, e5⟩ := QdG h4
  rw [q2] at e1
  simp only [List.length_cons, List.length_nil] at e1 e2 e4
  exact ⟨h5, by omega⟩
theorem Qvc {s : Bs} (h : s.length ≠ 24) : QaI (s, true) = QaU := by
  refine Classical.byContradiction fun hp => h ?_
  unfold QaI at hp
  simp only at hp
  have key : (Qs [32] (QaC (Qs [32] (Qaa false (s, true)).2)).2).2 = true ∧ (Qs [32] (QaC (Qs [32] (Qaa false (s, true)).2)).2).1.length = 16 := by
    split at hp
    · obtain ⟨k1, k2⟩ := Qrw hp
      obtain ⟨k3, k4⟩ := Qkr k1
      exact ⟨k3, by omega⟩
    · exact Qrw hp
  obtain ⟨k1, k2⟩ := key
  obtain ⟨h1, e1⟩ := Qbr k1
  obtain ⟨h2, e2⟩ := Qlq h1
  obtain ⟨h3, e3⟩ := Qbr h2
  obtain ⟨h4, w, hw, _, e4⟩ := QqM h3
  rw [nm3 w hw] at e4
  simp only [List.length_cons, List.length_nil] at e1 e3 e4
  omega
theorem QhY : ∀ w, w < 7 → 6 ≤ (Qo.getD w []).length ∧ (Qo.getD w []).length ≤ 9 := by decide +kernel
def QhM (v : V) : Prop := ∃ (n : Int) (b : Bool), v = .tup [.int .i64 n, .bool b] ∧ (b = false → n = 0)
theorem Qno (r : Rd) (w y m d c : Int) : QhM (Qa3 r w y m d c) := by
  unfold Qa3; split
  · exact ⟨_, true, rfl, fun h => by cases h⟩
  · exact ⟨_, false, rfl, fun _ => rfl⟩
theorem Qqs {v : V} (h : QhM v) : Qax (okV v) = v := by
  obtain ⟨n, b, rfl, hb⟩ := h
  cases b
  · rw [hb rfl]; rfl
  · rfl
theorem QCn (r : Rd) : QhM (QaR r) := by unfold QaR; exact Qno _ _ _ _ _ _
theorem QH3 (r : Rd) : QhM (Qbq r) := by unfold Qbq; exact Qno _ _ _ _ _ _
theorem Qwi (r : Rd) : QhM (QaI r) := by
  unfold QaI Qbo
  simp only
  split <;> exact Qno _ _ _ _ _ _
theorem Qou : okV QaU = none := rfl
theorem or1 {a : Option Int} : orG a (orG none none) = a := by cases a <;> rfl
theorem or2 {a : Option Int} : orG none (orG none a) = a := rfl
theorem or3 {a : Option Int} : orG none (orG a none) = a := by cases a <;> rfl
theorem QsH {s : Bs} (h : s.length = 29) : Qax (QC s) = QaR (s, true) := by
  have e1 : Qbq (s, true) = QaU := Classical.byContradiction fun q => by
    obtain ⟨w, hw, _, e⟩ := Qne q
    have := QhY w hw
    omega
  have e2 : QaI (s, true) = QaU := Qvc (by omega)
  have : QC s = okV (QaR (s, true)) := by
    unfold QC QaQ
    simp only [e1, e2, Qou, or1]
  rw [this, Qqs (QCn _)]
theorem Qtz {s : Bs} (h : s.length = 24) : Qax (QC s) = QaI (s, true) := by
  have e1 : Qbq (s, true) = QaU := Classical.byContradiction fun q => by
    obtain ⟨w, hw, _, e⟩ := Qne q
    have := QhY w hw
    omega
  have e2 : QaR (s, true) = QaU := QvO (by omega)
  have : QC s = okV (QaI (s, true)) := by
    unfold QC QaQ
    simp only [e1, e2, Qou, or2]
  rw [this, Qqs (Qwi _)]
theorem Qsl {s : Bs} (h : s.length ≠ 29) (h' : s.length ≠ 24) : Qax (QC s) = Qbq (s, true) := by
  have e1 : QaR (s, true) = QaU := QvO h
  have e2 : QaI (s, true) = QaU := Qvc h'
  have : QC s = okV (Qbq (s, true)) := by
    unfold QC QaQ
    simp only [e1, e2, Qou, or3]
  rw [this, Qqs (QH3 _)]
def c24 (s : Bs) : Prop := s.length = 24 ∧ s.getD 3 0 = 32 ∧ s.getD 7 0 = 32 ∧ s.getD 10 0 = 32 ∧ s.getD 19 0 = 32
def cO (s : Bs) (w : Nat) : Prop := s.length = (Qo.getD w []).length + 24 ∧ s.take (Qo.getD w []).length = Qo.getD w []
def cT (t : Bs) : Prop := t.take 2 = [44, 32] ∧ t.getD 4 0 = 45 ∧ t.getD 8 0 = 45 ∧ t.getD 11 0 = 32 ∧ t.drop 20 = [32, 71, 77, 84]
theorem QEO {s : Bs} (h : c29 s) : f29 s = Qax (QC s) := by
  obtain ⟨h1, h2, h3, h4, h5, h6⟩ := h
  rw [QsH h1, QrJ h1, if_pos ⟨h6, h2, h3, h4, h5⟩]
theorem QGo {s : Bs} (h : c24 s) : f24 s = Qax (QC s) := by
  obtain ⟨h1, h2, h3, h4, h5⟩ := h
  rw [Qtz h1, QvC h1, if_pos ⟨h2, h3, h4, h5⟩]
theorem QIN {s : Bs} {w : Nat} (hw : w < 7) (h : cO s w) : (cT (s.drop (Qo.getD w []).length) → fold w (s.drop (Qo.getD w []).length) = Qax (QC s)) ∧ (¬ cT (s.drop (Qo.getD w []).length) → QaU = Qax (QC s)) := by
  obtain ⟨h1, h2⟩ := h
  have ll := QhY w hw
  obtain ⟨t, ht⟩ : ∃ t, t = s.drop (Qo.getD w []).length := ⟨_, rfl⟩
  have lt : t.length = 24 := by rw [ht, List.length_drop]; omega
  have es : s = Qo.getD w [] ++ t := by rw [ht]; conv => lhs; rw [← List.take_append_drop (Qo.getD w []).length s, h2]
  rw [← ht, Qsl (by omega) (by omega)]
  have oe := Qx3 hw lt
  rw [← es] at oe
  rw [oe]
  constructor
  · intro c; unfold cT at c; rw [if_pos c]
  · intro c; unfold cT at c; rw [if_neg c]
theorem QAs {s : Bs} (h1 : ¬ c29 s) (h2 : ¬ c24 s) (h3 : ∀ w, w < 7 → ¬ cO s w) : QaU = Qax (QC s) := by
  by_cases a : s.length = 29
  · rw [QsH a, QrJ a, if_neg]
    rintro ⟨q1, q2, q3, q4, q5⟩
    exact h1 ⟨a, q2, q3, q4, q5, q1⟩
  by_cases b : s.length = 24
  · rw [Qtz b, QvC b, if_neg]
    intro q
    exact h2 ⟨b, q⟩
  rw [Qsl a b]
  refine Classical.byContradiction fun q => ?_
  obtain ⟨w, hw, e1, e2⟩ := Qne (fun e => q e.symm)
  exact h3 w hw ⟨e2, e1⟩
end Go.Proofs.YtaahialaegfjgaaGreatDoor.Vh
end
section
set_option linter.unusedVariables false
set_option linter.unusedSimpArgs false
namespace Go.Proofs.YtaahialaegfjgaaGreatDoor.Vh
open Go.Vm Go.Vt
attribute [local congr] QF QI QE QG QD QJ
variable {L : QL} {h : Heap}
theorem QhB {l : List Bs} {a : Bs} (h : l.length ≤ 100) : -1 ≤ QY l a ∧ QY l a ≤ 100 := by unfold QY; split <;> omega
theorem Ql6 {w y m d c : Int} : ∃ (n : Int) (b : Bool), QcT w y m d c = .tup [.int .i64 n, .bool b] := by unfold QcT; split <;> exact ⟨_, _, rfl⟩
theorem QAc {u0 : Heap} {e : Env} {N0 : QN} {w : Nat} {t : Bs} {y : Int} (hl : t.length = 24) (hw : w < 7) (hy : y = yrN (Qn ((t.take 11).drop 9))) : Qih L (Pu h (fold w t)) N0 e (.int .i64 w) (.str t) (.int .i64 y) (h ++ u0) := by
  
  unfold Qih fold
  have o1 : 8 ≤ t.length := by omega
  have o2 : 4 ≤ t.length := by omega
  have o3 : 20 ≤ t.length := by omega
  have f1 := QhB (l := Qz) (a := (t.take 8).drop 5) (by decide)
  have w1 : IntKind.i64.wrap (QY Qz ((t.take 8).drop 5) + 1) = QY Qz ((t.take 8).drop 5) + 1 := Qe (by omega) (by omega)
  have l1 : ((t.take 4).drop 2).length ≤ 4 := by rw [QaK (by omega)]; omega
  have l2 : ((t.take 20).drop 12).length ≤ 100 := by rw [QaK (by omega)]; omega
  obtain ⟨n, b, et⟩ := Ql6 (w := w) (y := y) (m := QY Qz ((t.take 8).drop 5) + 1) (d := Qn ((t.take 4).drop 2)) (c := Q8 ((t.take 20).drop 12))
  have S : ∀ hh, Cf F L Qcd [.int .i64 w, .int .i64 y, .int .i64 (QY Qz ((t.take 8).drop 5) + 1), .int .i64 (Qn ((t.take 4).drop 2)), .int .i64 (Q8 ((t.take 20).drop 12))] hh (Pu hh (.tup [.int .i64 n, .bool b])) := fun hh => by rw [← et]; exact Qpr (QoS _).2
  rw [← hy, et]
  simp (maxSteps := 4000000) only [vm, vl, Arg.get, Qi, Qa, Qc, reduceIte, Nat.reduceLeDiff, Int.reduceLE, Int.reduceToNat, o1, o2, o3]
  refine Cf.pu Qmc fun u1 => ?_
  simp (maxSteps := 4000000) only [vm, vl, o1, o2, o3]
  refine Cf.pu (QiC (by decide)) fun u2 => ?_
  simp (maxSteps := 4000000) only [vm, vl, o1, o2, o3, w1]
  refine Cf.pu (QdW l1) fun u3 => ?_
  simp (maxSteps := 4000000) only [vm, vl, o1, o2, o3, w1]
  refine Cf.pu (Ql4 l2) fun u4 => ?_
  simp (maxSteps := 4000000) only [vm, vl, o1, o2, o3, w1]
  refine Cf.pu (S _) fun u5 => ?_
  simp (maxSteps := 4000000) only [vm, vl]
theorem QFQ {u0 : Heap} {e : Env} {N0 : QN} {w : Nat} {t : Bs} (hl : t.length = 24) (hw : w < 7) : QlP L (Pu h (fold w t)) N0 e (.int .i64 w) (.str t) (h ++ u0) := by
  
  unfold QlP
  have o1 : 11 ≤ t.length := by omega
  have l1 : ((t.take 11).drop 9).length ≤ 4 := by rw [QaK (by omega)]; omega
  have nl := QuW l1
  have P := fun e y hy u => QAc (L := L) (h := h) (u0 := u) (N0 := N0) (e := e) (w := w) (t := t) (y := y) hl hw hy
  simp (maxSteps := 4000000) only [vm, vl, Arg.get, Qi, reduceIte, Nat.reduceLeDiff, Int.reduceLE, Int.reduceToNat, o1]
  refine Cf.pu (QdW l1) fun u1 => ?_
  have w1 : IntKind.i64.wrap (Qn ((t.take 11).drop 9) + 1900) = Qn ((t.take 11).drop 9) + 1900 := Qe (by omega) (by omega)
  have w2 : IntKind.i64.wrap (Qn ((t.take 11).drop 9) + 2000) = Qn ((t.take 11).drop 9) + 2000 := Qe (by omega) (by omega)
  by_cases a : Qn ((t.take 11).drop 9) ≥ 70
  · simp (maxSteps := 4000000) only [vm, vl, a, decide_true, w1]
    exact P _ _ (by unfold yrN; rw [if_pos a]) _
  by_cases b : Qn ((t.take 11).drop 9) ≥ 0
  · simp (maxSteps := 4000000) only [vm, vl, a, b, decide_true, decide_false, w2]
    exact P _ _ (by unfold yrN; rw [if_neg a, if_pos b]) _
  · simp (maxSteps := 4000000) only [vm, vl, a, b, decide_true, decide_false]
    exact P _ _ (by unfold yrN; rw [if_neg a, if_neg b]) _
theorem QE4 {u0 : Heap} {e : Env} {N0 : QN} {w : Nat} {s : Bs} (hw : w < 7) (hc : cO s w) : QoZ L (Pu h (Qax (QC s))) N0 e (.str s) (.int .i64 w) (.int .i64 (Qo.getD w []).length) (h ++ u0) := by
  
  unfold QoZ
  obtain ⟨r1, r2⟩ := QIN hw hc
  obtain ⟨c1, c2⟩ := hc
  have ll := QhY w hw
  have o1 : (Qo.getD w []).length ≤ s.length := by omega
  have lt : (s.drop (Qo.getD w []).length).length = 24 := by rw [List.length_drop]; omega
  generalize Qax (QC s) = R at *
  generalize hnw : (Qo.getD w []).length = nw at *
  generalize ht : s.drop nw = t at *
  have P := fun e u => QFQ (L := L) (h := h) (u0 := u) (N0 := N0) (e := e) (w := w) (t := t) lt hw
  have q1 : 2 ≤ t.length := by omega
  have q2 : 4 < t.length := by omega
  have q3 : 8 < t.length := by omega
  have q4 : 11 < t.length := by omega
  have q5 : 20 ≤ t.length := by omega
  by_cases a1 : t.take 2 = [44, 32]
  case neg =>
    have b1 : (t.take 2 == [44, 32]) = false := beq_eq_false_iff_ne.2 a1
    rw [← r2 (fun h => a1 h.1)]
    simp (maxSteps := 4000000) only [vm, vl, Arg.get, Qi, Qa, Qc, reduceIte, Int.reduceLE, Int.reduceToNat, Nat.zero_le, List.take_length, ht, o1, q1, b1, Bool.not_false]
    rfl
  have b1 : (t.take 2 == [44, 32]) = true := beq_iff_eq.2 a1
  by_cases a2 : t.getD 4 0 = 45
  case neg =>
    have b2 : ¬ ((t.getD 4 0).toNat : Int) = 45 := Qcw a2
    rw [← r2 (fun h => a2 h.2.1)]
    simp (maxSteps := 4000000) only [vm, vl, Arg.get, Qi, Qa, Qc, reduceIte, Int.reduceLE, Int.reduceToNat, Nat.zero_le, List.take_length, ht, o1, q1, q2, b1, b2, Bool.not_false, Bool.not_true, decide_false]
    rfl
  have b2 : ((t.getD 4 0).toNat : Int) = 45 := by rw [a2]; rfl
  by_cases a3 : t.getD 8 0 = 45
  case neg =>
    have b3 : ¬ ((t.getD 8 0).toNat : Int) = 45 := Qcw a3
    rw [← r2 (fun h => a3 h.2.2.1)]
    simp (maxSteps := 4000000) only [vm, vl, Arg.get, Qi, Qa, Qc, reduceIte, Int.reduceLE, Int.reduceToNat, Nat.zero_le, List.take_length, ht, o1, q1, q2, q3, b1, b2, b3, Bool.not_false, Bool.not_true, decide_false, decide_true]
    rfl
  have b3 : ((t.getD 8 0).toNat : Int) = 45 := by rw [a3]; rfl
  by_cases a4 : t.getD 11 0 = 32
  case neg =>
    have b4 : ¬ ((t.getD 11 0).toNat : Int) = 32 := Qcw a4
    rw [← r2 (fun h => a4 h.2.2.2.1)]
    simp (maxSteps := 4000000) only [vm, vl, Arg.get, Qi, Qa, Qc, reduceIte, Int.reduceLE, Int.reduceToNat, Nat.zero_le, List.take_length, ht, o1, q1, q2, q3, q4, b1, b2, b3, b4, Bool.not_false, Bool.not_true, decide_false, decide_true]
    rfl
  have b4 : ((t.getD 11 0).toNat : Int) = 32 := by rw [a4]; rfl
  by_cases a5 : t.drop 20 = [32, 71, 77, 84]
  case neg =>
    have b5 : (t.drop 20 == [32, 71, 77, 84]) = false := beq_eq_false_iff_ne.2 a5
    rw [← r2 (fun h => a5 h.2.2.2.2)]
    simp (maxSteps := 4000000) only [vm, vl, Arg.get, Qi, Qa, Qc, reduceIte, Int.reduceLE, Int.reduceToNat, Nat.zero_le, List.take_length, ht, o1, q1, q2, q3, q4, q5, b1, b2, b3, b4, b5, Bool.not_false, Bool.not_true, decide_false, decide_true]
    rfl
  have b5 : (t.drop 20 == [32, 71, 77, 84]) = true := beq_iff_eq.2 a5
  rw [r1 ⟨a1, a2, a3, a4, a5⟩] at P
  simp (maxSteps := 4000000) only [vm, vl, Arg.get, Qi, Qa, Qc, reduceIte, Int.reduceLE, Int.reduceToNat, Nat.zero_le, List.take_length, ht, o1, q1, q2, q3, q4, q5, b1, b2, b3, b4, b5, Bool.not_false, Bool.not_true, decide_false, decide_true]
  exact P _ _
theorem QBT {u0 : Heap} {e : Env} {s : Bs} (hl : s.length < 9223372036854775807) (e0 : e 0 = .str s) (hN : (∀ w, w < 7 → ¬ cO s w) → QaU = Qax (QC s)) : QoR L (Pu h (Qax (QC s))) e (h ++ u0) := by
  
  unfold QoR
  have eL : ([.str [77, 111, 110, 100, 97, 121], .str [84, 117, 101, 115, 100, 97, 121], .str [87, 101, 100, 110, 101, 115, 100, 97, 121], .str [84, 104, 117, 114, 115, 100, 97, 121], .str [70, 114, 105, 100, 97, 121], .str [83, 97, 116, 117, 114, 100, 97, 121], .str [83, 117, 110, 100, 97, 121]] : List V) = Qo.map .str := rfl
  simp (maxSteps := 4000000) only [vm, vl, Arg.get, cells, stor, reduceIte, List.all_cons, List.all_nil, List.map_cons, List.map_nil, Bool.and_true, Bool.and_self, List.length_cons, List.length_nil, Nat.reduceAdd, decide_true]
  refine QDZ (fun n e h' => ∃ j : Nat, n = 7 - j ∧ j ≤ 7 ∧ e 0 = .str s ∧ e 5 = .sl 1 .full (Qo.map .str) ∧ e 6 = .int .i64 j ∧ (∃ u, h' = h ++ u) ∧ ∀ i, i < j → ¬ cO s i) ?_ (n := 7) ⟨0, rfl, by omega, e0, rfl, rfl, ⟨u0, rfl⟩, by simp⟩
  rintro n e h' ⟨j, rfl, hj, e0, e5, e6, ⟨u, rfl⟩, hn⟩
  simp only [QkV]
  by_cases h7 : j < 7
  · have h7' : (j : Int) < 7 := by omega
    have r1 : (Qo.map V.str).getD j (.tup []) = .str (Qo.getD j []) := QjU h7
    have z1 : (Qo.map V.str).length = 7 := rfl
    have i0 : (0 : Int) ≤ j := by omega
    have w1 : IntKind.i64.wrap ((j : Int) + 1) = ((j + 1 : Nat) : Int) := by rw [Qe (by omega) (by omega)]; omega
    have ll := QhY j h7
    have w2 : IntKind.i64.wrap (((Qo.getD j []).length : Int) + 24) = ((Qo.getD j []).length + 24 : Nat) := by rw [Qe (by omega) (by omega)]; omega
    have nx : ¬ cO s j → ∀ i, i < j + 1 → ¬ cO s i := fun hc i hi => by
      rcases Nat.lt_or_ge i j with h | h
      · exact hn i h
      · rw [show i = j by omega]; exact hc
    by_cases hc : cO s j
    · have P := fun e N0 u => QE4 (L := L) (h := h) (u0 := u) (N0 := N0) (e := e) h7 hc
      obtain ⟨c1, c2⟩ := hc
      have c1' : (s.length : Int) = ((Qo.getD j []).length + 24 : Nat) := by omega
      have c2' : (s.take (Qo.getD j []).length == Qo.getD j []) = true := beq_iff_eq.2 c2
      have o1 : (Qo.getD j []).length ≤ s.length := by omega
      generalize (Qo.map V.str) = LL at *
      generalize Qo.getD j [] = X1 at *
      simp (maxSteps := 4000000) only [vm, vl, Arg.get, cells, Qi, Qb, reduceIte, Nat.zero_le, e0, e5, e6, h7', h7, r1, z1, i0, decide_true, QjK, w2, c1', c2', o1, Bool.not_true]
      exact P _ _ _
    · by_cases c1 : s.length = (Qo.getD j []).length + 24
      · have c2 : ¬ s.take (Qo.getD j []).length = Qo.getD j [] := fun e => hc ⟨c1, e⟩
        have c1' : (s.length : Int) = ((Qo.getD j []).length + 24 : Nat) := by omega
        have c2' : (s.take (Qo.getD j []).length == Qo.getD j []) = false := beq_eq_false_iff_ne.2 c2
        have o1 : (Qo.getD j []).length ≤ s.length := by omega
        generalize (Qo.map V.str) = LL at *
        generalize Qo.getD j [] = X1 at *
        simp (maxSteps := 4000000) only [vm, vl, Arg.get, cells, Qi, Qb, reduceIte, reduceCtorEq, Nat.reduceEqDiff, Nat.zero_le, e0, e5, e6, h7', h7, r1, z1, i0, decide_true, QjK, Qra, w1, w2, c1', c2', o1, Bool.not_true, Bool.not_false]
        exact ⟨7 - (j + 1), by omega, j + 1, rfl, by omega, rfl, ⟨_, rfl⟩, nx hc⟩
      · have c1' : ¬ (s.length : Int) = ((Qo.getD j []).length + 24 : Nat) := by omega
        generalize (Qo.map V.str) = LL at *
        generalize Qo.getD j [] = X1 at *
        simp (maxSteps := 4000000) only [vm, vl, Arg.get, cells, Qb, reduceIte, reduceCtorEq, Nat.reduceEqDiff, e0, e5, e6, h7', h7, r1, z1, i0, decide_true, decide_false, QjK, Qra, w1, w2, c1', Bool.not_true, Bool.not_false]
        exact ⟨7 - (j + 1), by omega, j + 1, rfl, by omega, rfl, ⟨_, rfl⟩, nx hc⟩
  · have h7' : ¬ (j : Int) < 7 := by omega
    rw [← hN (fun w hw => hn w (by omega))]
    simp (maxSteps := 4000000) only [vm, vl, Arg.get, Qa, Qc, e0, e5, e6, h7', decide_false, Qlc]
    rfl
theorem QxV {u0 : Heap} {e : Env} {s : Bs} (hl : s.length = 24) : Qjy L (Pu h (f24 s)) e (.str s) (.str (Qdc s)) (h ++ u0) := by
  
  unfold Qjy f24
  have o1 : 3 ≤ s.length := by omega
  have o2 : 20 ≤ s.length := by omega
  have o3 : 7 ≤ s.length := by omega
  have o4 : 19 ≤ s.length := by omega
  have f0 := QhB (l := Qbv) (a := s.take 3) (by decide)
  have f1 := QhB (l := Qz) (a := (s.take 7).drop 4) (by decide)
  have w1 : IntKind.i64.wrap (QY Qz ((s.take 7).drop 4) + 1) = QY Qz ((s.take 7).drop 4) + 1 := Qe (by omega) (by omega)
  have l1 : (s.drop 20).length ≤ 4 := by rw [List.length_drop]; omega
  have l2 : (Qdc s).length ≤ 4 := by
    have : ((s.take 10).drop 8).length = 2 := QaK (by omega)
    unfold Qdc; split
    · rw [List.length_drop]; omega
    · omega
  have l3 : ((s.take 19).drop 11).length ≤ 100 := by rw [QaK (by omega)]; omega
  obtain ⟨n, b, et⟩ := Ql6 (w := QY Qbv (s.take 3)) (y := Qn (s.drop 20)) (m := QY Qz ((s.take 7).drop 4) + 1) (d := Qn (Qdc s)) (c := Q8 ((s.take 19).drop 11))
  have S : ∀ hh, Cf F L Qcd [.int .i64 (QY Qbv (s.take 3)), .int .i64 (Qn (s.drop 20)), .int .i64 (QY Qz ((s.take 7).drop 4) + 1), .int .i64 (Qn (Qdc s)), .int .i64 (Q8 ((s.take 19).drop 11))] hh (Pu hh (.tup [.int .i64 n, .bool b])) := fun hh => by rw [← et]; exact Qpr (QoS _).2
  rw [et]
  simp (maxSteps := 4000000) only [vm, vl, Arg.get, Qi, Qa, Qc, reduceIte, Nat.reduceLeDiff, Int.reduceLE, Int.reduceToNat, Nat.zero_le, List.take_length, o1, o2, o3, o4]
  refine Cf.pu Qvk fun u1 => ?_
  simp (maxSteps := 4000000) only [vm, vl, List.take_length, o1, o2, o3, o4, w1]
  refine Cf.pu (QiC (by decide)) fun u2 => ?_
  simp (maxSteps := 4000000) only [vm, vl, List.take_length, o1, o2, o3, o4, w1]
  refine Cf.pu (QdW l1) fun u3 => ?_
  simp (maxSteps := 4000000) only [vm, vl, List.take_length, o1, o2, o3, o4, w1]
  refine Cf.pu Qmc fun u4 => ?_
  simp (maxSteps := 4000000) only [vm, vl, List.take_length, o1, o2, o3, o4, w1]
  refine Cf.pu (QiC (by decide)) fun u5 => ?_
  simp (maxSteps := 4000000) only [vm, vl, List.take_length, o1, o2, o3, o4, w1]
  refine Cf.pu (QdW l2) fun u6 => ?_
  simp (maxSteps := 4000000) only [vm, vl, List.take_length, o1, o2, o3, o4, w1]
  refine Cf.pu (Ql4 l3) fun u7 => ?_
  simp (maxSteps := 4000000) only [vm, vl, List.take_length, o1, o2, o3, o4, w1]
  refine Cf.pu (S _) fun u8 => ?_
  simp (maxSteps := 4000000) only [vm, vl]
theorem Qy9 {e : Env} {s : Bs} (hl : s.length < 9223372036854775807) (e0 : e 0 = .str s) (h29 : ¬ c29 s) : QpZ L (Pu h (Qax (QC s))) e (.str s) h := by
  
  unfold QpZ
  have P := fun e e0 h24 => QBT (L := L) (h := h) (u0 := []) (e := e) hl e0 (fun hw => QAs h29 h24 hw)
  simp only [List.append_nil] at P
  by_cases a0 : s.length = 24
  case neg =>
    have b0 : ¬ (s.length : Int) = 24 := by omega
    simp (maxSteps := 4000000) only [vm, vl, Arg.get, Qi, reduceIte, Nat.reduceLeDiff, Int.reduceLE, Int.reduceToNat, b0, decide_false]
    exact P _ (by simp [upd, e0]) (fun c => a0 c.1)
  have b0 : (s.length : Int) = 24 := by omega
  have o1 : 3 < s.length := by omega
  by_cases a1 : s.getD 3 0 = 32
  case neg =>
    have b1 : ¬ ((s.getD 3 0).toNat : Int) = 32 := Qcw a1
    simp (maxSteps := 4000000) only [vm, vl, Arg.get, Qi, reduceIte, Nat.reduceLeDiff, Int.reduceLE, Int.reduceToNat, b0, o1, b1, decide_false, decide_true]
    exact P _ (by simp [upd, e0]) (fun c => a1 c.2.1)
  have b1 : ((s.getD 3 0).toNat : Int) = 32 := by rw [a1]; rfl
  have o2 : 7 < s.length := by omega
  by_cases a2 : s.getD 7 0 = 32
  case neg =>
    have b2 : ¬ ((s.getD 7 0).toNat : Int) = 32 := Qcw a2
    simp (maxSteps := 4000000) only [vm, vl, Arg.get, Qi, reduceIte, Nat.reduceLeDiff, Int.reduceLE, Int.reduceToNat, b0, o1, b1, o2, b2, decide_false, decide_true]
    exact P _ (by simp [upd, e0]) (fun c => a2 c.2.2.1)
  have b2 : ((s.getD 7 0).toNat : Int) = 32 := by rw [a2]; rfl
  have o3 : 10 < s.length := by omega
  by_cases a3 : s.getD 10 0 = 32
  case neg =>
    have b3 : ¬ ((s.getD 10 0).toNat : Int) = 32 := Qcw a3
    simp (maxSteps := 4000000) only [vm, vl, Arg.get, Qi, reduceIte, Nat.reduceLeDiff, Int.reduceLE, Int.reduceToNat, b0, o1, b1, o2, b2, o3, b3, decide_false, decide_true]
    exact P _ (by simp [upd, e0]) (fun c => a3 c.2.2.2.1)
  have b3 : ((s.getD 10 0).toNat : Int) = 32 := by rw [a3]; rfl
  have o4 : 19 < s.length := by omega
  by_cases a4 : s.getD 19 0 = 32
  case neg =>
    have b4 : ¬ ((s.getD 19 0).toNat : Int) = 32 := Qcw a4
    simp (maxSteps := 4000000) only [vm, vl, Arg.get, Qi, reduceIte, Nat.reduceLeDiff, Int.reduceLE, Int.reduceToNat, b0, o1, b1, o2, b2, o3, b3, o4, b4, decide_false, decide_true]
    exact P _ (by simp [upd, e0]) (fun c => a4 c.2.2.2.2)
  have b4 : ((s.getD 19 0).toNat : Int) = 32 := by rw [a4]; rfl
  rw [← QGo ⟨a0, a1, a2, a3, a4⟩]
  have o5 : 10 ≤ s.length := by omega
  have ld : ((s.take 10).drop 8).length = 2 := QaK (by omega)
  have o6 : 0 < ((s.take 10).drop 8).length := by omega
  have o7 : 1 ≤ ((s.take 10).drop 8).length := by omega
  have P8 := fun e => QxV (L := L) (h := h) (u0 := []) (e := e) (s := s) a0
  simp only [List.append_nil] at P8
  by_cases d : ((s.take 10).drop 8).getD 0 0 = 32
  · have d' : ((((s.take 10).drop 8).getD 0 0).toNat : Int) = 32 := by rw [d]; rfl
    have ed : Qdc s = ((s.take 10).drop 8).drop 1 := by unfold Qdc; rw [if_pos d]
    rw [ed] at P8
    generalize hD : (s.take 10).drop 8 = D at *
    simp (maxSteps := 4000000) only [vm, vl, Arg.get, Qi, reduceIte, Nat.reduceLeDiff, Int.reduceLE, Int.reduceToNat, b0, o1, b1, o2, b2, o3, b3, o4, b4, o5, o6, o7, hD, d', List.take_length, decide_false, decide_true]
    exact P8 _
  · have d' : ¬ ((((s.take 10).drop 8).getD 0 0).toNat : Int) = 32 := Qcw d
    have ed : Qdc s = (s.take 10).drop 8 := by unfold Qdc; rw [if_neg d]
    rw [ed] at P8
    generalize hD : (s.take 10).drop 8 = D at *
    simp (maxSteps := 4000000) only [vm, vl, Arg.get, Qi, reduceIte, Nat.reduceLeDiff, Int.reduceLE, Int.reduceToNat, b0, o1, b1, o2, b2, o3, b3, o4, b4, o5, o6, o7, hD, d', List.take_length, decide_false, decide_true]
    exact P8 _
theorem QHA {s : Bs} (hl : s.length < 9223372036854775807) (hc : ¬ c29 s) : Cf F L Qdi [.str s] h (Pu h (Qax (QC s))) := by
  refine QvV ?_
  simp only [QkD]
  
  have P := fun e e0 h29 => Qy9 (L := L) (h := h) (e := e) hl e0 h29
  by_cases a0 : s.length = 29
  case neg =>
    have b0 : ¬ (s.length : Int) = 29 := by omega
    simp (maxSteps := 4000000) only [vm, vl, Arg.get, Qi, Qa, Qc, reduceIte, Nat.reduceLeDiff, Int.reduceLE, Int.reduceToNat, Nat.zero_le, b0, decide_false]
    exact P _ (by simp [upd, Qd]) (fun c => a0 c.1)
  have b0 : (s.length : Int) = 29 := by omega
  have o1 : 5 ≤ s.length := by omega
  have o2 : 7 < s.length := by omega
  have o3 : 11 < s.length := by omega
  have o4 : 16 < s.length := by omega
  have o5 : 25 ≤ s.length := by omega
  by_cases a1 : (s.take 5).drop 3 = [44, 32]
  case neg =>
    have b1 : ((s.take 5).drop 3 == [44, 32]) = false := beq_eq_false_iff_ne.2 a1
    simp (maxSteps := 4000000) only [vm, vl, Arg.get, Qi, Qa, Qc, reduceIte, Nat.reduceLeDiff, Int.reduceLE, Int.reduceToNat, Nat.zero_le, b0, o1, o2, o3, o4, o5, List.take_length, b1, decide_false, decide_true]
    exact P _ (by simp [upd, Qd]) (fun c => a1 c.2.1)
  have b1 : ((s.take 5).drop 3 == [44, 32]) = true := beq_iff_eq.2 a1
  by_cases a2 : s.getD 7 0 = 32
  case neg =>
    have b2 : ¬ ((s.getD 7 0).toNat : Int) = 32 := Qcw a2
    simp (maxSteps := 4000000) only [vm, vl, Arg.get, Qi, Qa, Qc, reduceIte, Nat.reduceLeDiff, Int.reduceLE, Int.reduceToNat, Nat.zero_le, b0, o1, o2, o3, o4, o5, List.take_length, b1, b2, decide_false, decide_true]
    exact P _ (by simp [upd, Qd]) (fun c => a2 c.2.2.1)
  have b2 : ((s.getD 7 0).toNat : Int) = 32 := by rw [a2]; rfl
  by_cases a3 : s.getD 11 0 = 32
  case neg =>
    have b3 : ¬ ((s.getD 11 0).toNat : Int) = 32 := Qcw a3
    simp (maxSteps := 4000000) only [vm, vl, Arg.get, Qi, Qa, Qc, reduceIte, Nat.reduceLeDiff, Int.reduceLE, Int.reduceToNat, Nat.zero_le, b0, o1, o2, o3, o4, o5, List.take_length, b1, b2, b3, decide_false, decide_true]
    exact P _ (by simp [upd, Qd]) (fun c => a3 c.2.2.2.1)
  have b3 : ((s.getD 11 0).toNat : Int) = 32 := by rw [a3]; rfl
  by_cases a4 : s.getD 16 0 = 32
  case neg =>
    have b4 : ¬ ((s.getD 16 0).toNat : Int) = 32 := Qcw a4
    simp (maxSteps := 4000000) only [vm, vl, Arg.get, Qi, Qa, Qc, reduceIte, Nat.reduceLeDiff, Int.reduceLE, Int.reduceToNat, Nat.zero_le, b0, o1, o2, o3, o4, o5, List.take_length, b1, b2, b3, b4, decide_false, decide_true]
    exact P _ (by simp [upd, Qd]) (fun c => a4 c.2.2.2.2.1)
  have b4 : ((s.getD 16 0).toNat : Int) = 32 := by rw [a4]; rfl
  by_cases a5 : s.drop 25 = [32, 71, 77, 84]
  case neg =>
    have b5 : (s.drop 25 == [32, 71, 77, 84]) = false := beq_eq_false_iff_ne.2 a5
    simp (maxSteps := 4000000) only [vm, vl, Arg.get, Qi, Qa, Qc, reduceIte, Nat.reduceLeDiff, Int.reduceLE, Int.reduceToNat, Nat.zero_le, b0, o1, o2, o3, o4, o5, List.take_length, b1, b2, b3, b4, b5, decide_false, decide_true]
    exact P _ (by simp [upd, Qd]) (fun c => a5 c.2.2.2.2.2)
  have b5 : (s.drop 25 == [32, 71, 77, 84]) = true := beq_iff_eq.2 a5
  exact absurd ⟨a0, a1, a2, a3, a4, a5⟩ hc
theorem QJu {s : Bs} (hc : c29 s) : Cf F L Qdi [.str s] h (Pu h (f29 s)) := by
  refine QvV ?_
  simp only [QkD]
  
  obtain ⟨a0, a1, a2, a3, a4, a5⟩ := hc
  have b0 : (s.length : Int) = 29 := by omega
  have o1 : 5 ≤ s.length := by omega
  have o2 : 7 < s.length := by omega
  have o3 : 11 < s.length := by omega
  have o4 : 16 < s.length := by omega
  have o5 : 25 ≤ s.length := by omega
  have b1 : ((s.take 5).drop 3 == [44, 32]) = true := beq_iff_eq.2 a1
  have b2 : ((s.getD 7 0).toNat : Int) = 32 := by rw [a2]; rfl
  have b3 : ((s.getD 11 0).toNat : Int) = 32 := by rw [a3]; rfl
  have b4 : ((s.getD 16 0).toNat : Int) = 32 := by rw [a4]; rfl
  have b5 : (s.drop 25 == [32, 71, 77, 84]) = true := beq_iff_eq.2 a5
  unfold f29
  have q1 : 3 ≤ s.length := by omega
  have q2 : 16 ≤ s.length := by omega
  have q3 : 11 ≤ s.length := by omega
  have q4 : 7 ≤ s.length := by omega
  have f0 := QhB (l := Qbv) (a := s.take 3) (by decide)
  have f1 := QhB (l := Qz) (a := (s.take 11).drop 8) (by decide)
  have w1 : IntKind.i64.wrap (QY Qz ((s.take 11).drop 8) + 1) = QY Qz ((s.take 11).drop 8) + 1 := Qe (by omega) (by omega)
  have l1 : ((s.take 16).drop 12).length ≤ 4 := by rw [QaK (by omega)]; omega
  have l2 : ((s.take 7).drop 5).length ≤ 4 := by rw [QaK (by omega)]; omega
  have l3 : ((s.take 25).drop 17).length ≤ 100 := by rw [QaK (by omega)]; omega
  obtain ⟨n, b, et⟩ := Ql6 (w := QY Qbv (s.take 3)) (y := Qn ((s.take 16).drop 12)) (m := QY Qz ((s.take 11).drop 8) + 1) (d := Qn ((s.take 7).drop 5)) (c := Q8 ((s.take 25).drop 17))
  have S : ∀ hh, Cf F L Qcd [.int .i64 (QY Qbv (s.take 3)), .int .i64 (Qn ((s.take 16).drop 12)), .int .i64 (QY Qz ((s.take 11).drop 8) + 1), .int .i64 (Qn ((s.take 7).drop 5)), .int .i64 (Q8 ((s.take 25).drop 17))] hh (Pu hh (.tup [.int .i64 n, .bool b])) := fun hh => by rw [← et]; exact Qpr (QoS _).2
  rw [et]
  simp (maxSteps := 4000000) only [vm, vl, Arg.get, Qi, Qa, Qc, reduceIte, Nat.reduceLeDiff, Int.reduceLE, Int.reduceToNat, Nat.zero_le, b0, o1, o2, o3, o4, o5, List.take_length, b1, b2, b3, b4, b5, q1, q2, q3, q4, w1, decide_true]
  refine Cf.pu Qvk fun u1 => ?_
  simp (maxSteps := 4000000) only [vm, vl, b0, o1, o2, o3, o4, o5, List.take_length, b1, b2, b3, b4, b5, q1, q2, q3, q4, w1, decide_true]
  refine Cf.pu (QiC (by decide)) fun u2 => ?_
  simp (maxSteps := 4000000) only [vm, vl, b0, o1, o2, o3, o4, o5, List.take_length, b1, b2, b3, b4, b5, q1, q2, q3, q4, w1, decide_true]
  refine Cf.pu (QdW l1) fun u3 => ?_
  simp (maxSteps := 4000000) only [vm, vl, b0, o1, o2, o3, o4, o5, List.take_length, b1, b2, b3, b4, b5, q1, q2, q3, q4, w1, decide_true]
  refine Cf.pu Qmc fun u4 => ?_
  simp (maxSteps := 4000000) only [vm, vl, b0, o1, o2, o3, o4, o5, List.take_length, b1, b2, b3, b4, b5, q1, q2, q3, q4, w1, decide_true]
  refine Cf.pu (QiC (by decide)) fun u5 => ?_
  simp (maxSteps := 4000000) only [vm, vl, b0, o1, o2, o3, o4, o5, List.take_length, b1, b2, b3, b4, b5, q1, q2, q3, q4, w1, decide_true]
  refine Cf.pu (QdW l2) fun u6 => ?_
  simp (maxSteps := 4000000) only [vm, vl, b0, o1, o2, o3, o4, o5, List.take_length, b1, b2, b3, b4, b5, q1, q2, q3, q4, w1, decide_true]
  refine Cf.pu (Ql4 l3) fun u7 => ?_
  simp (maxSteps := 4000000) only [vm, vl, b0, o1, o2, o3, o4, o5, List.take_length, b1, b2, b3, b4, b5, q1, q2, q3, q4, w1, decide_true]
  refine Cf.pu (S _) fun u8 => ?_
  simp (maxSteps := 4000000) only [vm, vl, b0, o1, o2, o3, o4, o5, List.take_length, b1, b2, b3, b4, b5, q1, q2, q3, q4, w1, decide_true]
theorem QGJ {s : Bs} (hl : s.length < 9223372036854775807) : Cf F L Qdi [.str s] h (Pu h (Qax (QC s))) := by
  by_cases hc : c29 s
  · rw [← QEO hc]; exact QJu hc
  · exact QHA hl hc
end Go.Proofs.YtaahialaegfjgaaGreatDoor.Vh
end
section
set_option linter.unusedVariables false
set_option linter.unusedSimpArgs false
namespace Go.Proofs.YtaahialaegfjgaaGreatDoor.Vh
open Go.Vm Go.Vt
attribute [local congr] QF QI QE QG QD QJ
variable {L : QL} {h : Heap}
variable {code d e m mo a s g t v x : V} {c : Ct} {j : Nat} {ms : List V} {hh : Heap} {l : List Fld}
def Qbe (l : List Fld) (name : Bs) : Int := if (Qj l name).length = 0 then -1 else if (Qj l name).length > 1 then -2 else (QC (Qm (Qj l name))).getD (-2)
theorem Qo7 {l : List Fld} {a b : Bs} (e : low a = low b) : Qbe l a = Qbe l b := by unfold Qbe; rw [Qgm e]
theorem Qvr (l : List Fld) (name : Bs) : (if Qbe l name < 0 then -1 else Qbe l name) = Qac l name := by
  unfold Qbe Qac
  generalize (Qj l name).length = n
  cases h : QC (Qm (Qj l name)) with
  | none =>
    by_cases h0 : n = 0
    · subst h0; rfl
    · by_cases h1 : n > 1
      · rw [if_neg h0, if_pos h1, if_neg (show ¬ n = 1 by omega)]; rfl
      · rw [if_neg h0, if_neg h1, if_pos (show n = 1 by omega)]; rfl
  | some d =>
    have := Qrh h
    by_cases h0 : n = 0
    · subst h0; rfl
    · by_cases h1 : n > 1
      · rw [if_neg h0, if_pos h1, if_neg (show ¬ n = 1 by omega)]; rfl
      · rw [if_neg h0, if_neg h1, if_pos (show n = 1 by omega)]
        simp only [Option.getD_some]
        rw [if_neg (by omega)]
theorem QxH (l : List Fld) : (if Qbe l Q5 = -2 then 0 else Qbe l Q5) = QaX l := by
  unfold QaX Qbe Qac
  generalize (Qj l Q5).length = n
  cases h : QC (Qm (Qj l Q5)) with
  | none =>
    by_cases h0 : n = 0
    · subst h0; rfl
    · by_cases h1 : n > 1
      · rw [if_neg h0, if_pos h1, if_neg h0, if_neg (show ¬ n = 1 by omega)]; rfl
      · rw [if_neg h0, if_neg h1, if_neg h0, if_pos (show n = 1 by omega)]; rfl
  | some d =>
    have := Qrh h
    by_cases h0 : n = 0
    · subst h0; rfl
    · by_cases h1 : n > 1
      · rw [if_neg h0, if_pos h1, if_neg h0, if_neg (show ¬ n = 1 by omega)]; rfl
      · rw [if_neg h0, if_neg h1, if_neg h0, if_pos (show n = 1 by omega)]
        simp only [Option.getD_some]
        rw [if_neg (by omega)]; omega
theorem Qk6 {x : V} {l : List Fld} {name : Bs} (hx : Qf 2 x (flds l)) (hl : l.length < 100000) (hln : ∀ f ∈ l, f.1.length ≤ 140737488355328) (hn : name.length ≤ 140737488355328) (hsm : Qk l < 100000) :
    Cf F L QdM [x, .str name] h (Pu h (.int .i64 (Qbe l name))) := by
  refine QA6 ?_
  simp only [Qmd]
  
  have j1 := Qbd l name
  simp (maxSteps := 4000000) only [vm, vl, Arg.get, Int.reduceNeg]
  refine Cf.pu (QeC (name := name) hx hl hln hn hsm) fun u1 => ?_
  simp only [QaG]
  unfold Qbe
  have pp : Cf F L Qdi [.str (Qm (Qj l name))] (h ++ u1) (Pu (h ++ u1) (Qax (QC (Qm (Qj l name))))) := QGJ (by omega)
  rw [Quh] at pp
  generalize QC (Qm (Qj l name)) = o at *
  generalize Qm (Qj l name) = jj at *
  generalize (Qj l name).length = n
  by_cases c0 : n = 0
  · have c0' : (n : Int) = 0 := by omega
    rw [if_pos c0]
    simp (maxSteps := 4000000) only [vm, vl, Int.reduceNeg, c0', decide_true]
  · have c0' : ¬ (n : Int) = 0 := by omega
    rw [if_neg c0]
    simp (maxSteps := 4000000) only [vm, vl, Int.reduceNeg, c0', decide_false]
    unfold Qr8
    refine Cf.pu pp fun u2 => ?_
    by_cases c1 : n > 1
    · have c1' : (n : Int) > 1 := by omega
      rw [if_pos c1]
      simp (maxSteps := 4000000) only [vm, vl, Arg.get, reduceIte, Int.reduceNeg, c1', decide_true]
    · have c1' : ¬ (n : Int) > 1 := by omega
      rw [if_neg c1]
      cases o with
      | none => simp (maxSteps := 4000000) only [vm, vl, Arg.get, reduceIte, Int.reduceNeg, c1', decide_false, Option.isSome_none, Option.getD_none, Bool.not_false]
      | some d => simp (maxSteps := 4000000) only [vm, vl, Arg.get, reduceIte, Int.reduceNeg, c1', decide_false, Option.isSome_some, Option.getD_some, Bool.not_true, Qt2]
theorem Qkt {x : V} {l : List Fld} {name : Bs} (hx : Qf 2 x (flds l)) (hl : l.length < 100000) (hln : ∀ f ∈ l, f.1.length ≤ 140737488355328) (hn : name.length ≤ 140737488355328) (hsm : Qk l < 100000) :
    Cf F L Qda [x, .str name] h (Pu h (.bool (Qt l name))) := by
  refine QDm ?_
  simp only [Qk1]
  simp (maxSteps := 4000000) only [vm, vl, Arg.get]
  refine Cf.pu (QeC (name := name) hx hl hln hn hsm) fun u1 => ?_
  have e : decide (((Qj l name).length : Int) > 0) = Qt l name := decide_eq_decide.2 (by omega)
  simp (maxSteps := 4000000) only [vm, vl, QaG, e]
theorem Qiv (m : MI h x j (mM code (ctV c) d e mo a s g t) hh) (hx : Qf 2 x (flds l)) (hl : l.length < 100000) (hln : ∀ f ∈ l, f.1.length ≤ 140737488355328) (hsm : Qk l < 100000) :
    Qiq L (Pu h (.agg (mM code (ctV c) d e mo a s g (.str (Qaf l))))) (.ptr h.length 0) (.ptr (h.length + 1) 0) (.ptr (h.length + j) 0) hh := by
  
  unfold Qiq
  obtain ⟨a1, b1, c1, g0⟩ := m.g0
  simp (maxSteps := 4000000) only [vm, vl, Arg.get, cells, stor, Qa, Qc, Qb, QA, Vm.part, splice, reduceIte, Nat.reduceEqDiff, Nat.reduceAdd, g0]
  refine Cf.pu (QeC (name := Qqi) hx hl hln (by simp [Qqi]) hsm) fun u => ?_
  simp only [QaG]
  rw [Qgm QGb]
  have m2 := m.more (t := u)
  have gj := m2.gj
  have m3 := m2.put (mM code (ctV c) d e mo a s g (.str (Qaf l)))
  have gj3 := m3.gj
  obtain ⟨Z, hZ, g1⟩ := m3.g1
  obtain ⟨g4, T, hT⟩ := m3.fin (.box (mM code (ctV c) d e mo a s g (.str (Qaf l))))
  have hZd : List.drop 21 Z = [] := List.drop_eq_nil_of_le (by omega)
  rw [show Qm (Qj l nET) = Qaf l from rfl]
  simp (maxSteps := 4000000) only [vm, vl, reduceIte, Nat.reduceAdd, gj, QbW, QsL, gj3, QtY, g1, hZ, hZd, List.append_nil, g4]
  exact ⟨rfl, T, hT⟩
theorem QJw {v : V} {o : Option (List Bs)} {h0 : Heap} (m : MI h x j (mM code (ctV c) d e mo (.int .i64 (-1)) s g t) hh) (hx : Qf 2 x (flds l)) (hl : l.length < 100000) (hln : ∀ f ∈ l, f.1.length ≤ 140737488355328) (hsm : Qk l < 100000)
    (ho : split (Qm (Qj l Qc8)) = o) (hp : (o = none ∧ v = .tup [.nsl, .bool false]) ∨ ∃ out x, o = some out ∧ v = .tup [x, .bool true] ∧ Qf 1 x (strs out)) :
    Qnt L (Pu h (.agg (mM code (ctV c) d e mo (.int .i64 (QV l)) s g (.str (Qaf l))))) (.ptr h.length 0) (.ptr (h.length + 1) 0) (.ptr (h.length + j) 0) v hh := by
  
  unfold Qnt
  have j1 := Qbd l Qc8
  rcases hp with ⟨rfl, rfl⟩ | ⟨ws, xs, rfl, rfl, hL⟩
  · have ea : QV l = -1 := by unfold QV; rw [ho]
    rw [ea]
    simp (maxSteps := 4000000) only [vm, vl, Arg.get, cells, stor, Qb, splice, reduceIte, Nat.reduceAdd, Int.reduceNeg, Int.reduceGT]
    exact Qiv m hx hl hln hsm
  · rcases hL with ⟨he, rfl⟩ | ⟨ow, rfl⟩
    · have hw : ws = [] := by cases ws with
        | nil => rfl
        | cons a b => simp [strs] at he
      subst hw
      have ea : QV l = -1 := by unfold QV; rw [ho]
      rw [ea]
      simp (maxSteps := 4000000) only [vm, vl, Arg.get, cells, stor, Qb, splice, reduceIte, Nat.reduceAdd, Int.reduceNeg, Int.reduceGT]
      exact Qiv m hx hl hln hsm
    · cases ws with
      | nil =>
        have ea : QV l = -1 := by unfold QV; rw [ho]
        rw [ea, show strs [] = [] from rfl]
        have c0 : ¬ ((0 : Nat) : Int) > 0 := by simp
        simp (maxSteps := 4000000) only [vm, vl, Arg.get, cells, stor, Qb, splice, reduceIte, Nat.reduceAdd, Int.reduceNeg, Int.reduceGT, List.length_nil, c0, decide_false]
        exact Qiv m hx hl hln hsm
      | cons w r =>
        have hw := QgA ho w (by simp)
        rw [show strs (w :: r) = .str w :: strs r from rfl]
        have c0 : (((strs r).length + 1 : Nat) : Int) > 0 := by omega
        simp (maxSteps := 4000000) only [vm, vl, Arg.get, cells, stor, Qb, splice, reduceIte, Nat.reduceAdd, Int.reduceGT, Nat.succ_pos, List.length_cons, c0, decide_true, Int.le_refl, Int.toNat_zero, List.getD_cons_zero]
        refine Cf.pu (QuY (s := w) (most := 2147483648) (by omega) (by decide) (by decide)) fun u => ?_
        have m2 := m.more (t := u)
        have gj := m2.gj
        cases hb : (Q3 w 2147483648).2 with
        | false =>
          have ea : QV l = -1 := by unfold QV; rw [ho]; simp only [hb]; rfl
          rw [ea]
          simp (maxSteps := 4000000) only [vm, vl, Nat.reduceAdd, Int.reduceNeg]
          exact Qiv m2 hx hl hln hsm
        | true =>
          have ea : QV l = (Q3 w 2147483648).1 := by unfold QV; rw [ho]; simp only [hb]; rfl
          rw [ea]
          generalize (Q3 w 2147483648).1 = n
          have m3 := m2.put (mM code (ctV c) d e mo (.int .i64 n) s g t)
          simp (maxSteps := 4000000) only [vm, vl, Nat.reduceAdd, Nat.reduceLeDiff, Int.reduceNeg, gj, QbW, Qu9]
          exact Qiv m3 hx hl hln hsm
theorem Qvb (m : MI h x j (mM code (ctV c) d e mo (.int .i64 (-1)) s g t) hh) (hx : Qf 2 x (flds l)) (hl : l.length < 100000) (hln : ∀ f ∈ l, f.1.length ≤ 140737488355328) (hsm : Qk l < 100000) :
    Qkz L (Pu h (.agg (mM code (ctV c) d e mo (.int .i64 (QV l)) s g (.str (Qaf l))))) (.ptr h.length 0) (.ptr (h.length + 1) 0) (.ptr (h.length + j) 0) hh := by
  
  unfold Qkz
  have j1 := Qbd l Qc8
  obtain ⟨a1, b1, c1, g0⟩ := m.g0
  simp (maxSteps := 4000000) only [vm, vl, Arg.get, Qb, reduceIte, Nat.reduceAdd, g0]
  refine Cf.pu (QeC (name := QlV) hx hl hln (by simp [QlV]) hsm) fun u => ?_
  simp only [QaG]
  rw [Qgm Qw8]
  simp (maxSteps := 4000000) only [vm, vl]
  refine (QhT (by omega)).mono fun v h' hp => ?_
  obtain ⟨⟨t, rfl⟩, hp⟩ := hp
  exact QJw (h0 := h) m.more.more hx hl hln hsm rfl hp
theorem QCg (m : MI h x j (mM code (ctV c) d e mo (.int .i64 (-1)) s g t) hh) (hx : Qf 2 x (flds l)) (hl : l.length < 100000) (hln : ∀ f ∈ l, f.1.length ≤ 140737488355328) (hsm : Qk l < 100000) :
    QnU L (Pu h (.agg (mM code (ctV c) d (.int .i64 (QaX l)) mo (.int .i64 (QV l)) s g (.str (Qaf l))))) (.ptr h.length 0) (.ptr (h.length + 1) 0) (.ptr (h.length + j) 0) (.int .i64 (Qbe l Q5)) hh := by
  
  unfold QnU
  rw [← QxH]
  generalize Qbe l Q5 = n
  have gj := m.gj
  have m2 := m.put (mM code (ctV c) d (.int .i64 n) mo (.int .i64 (-1)) s g t)
  have gj2 := m2.gj
  by_cases c1 : n = -2
  · rw [if_pos c1]
    have m3 := m2.put (mM code (ctV c) d (.int .i64 0) mo (.int .i64 (-1)) s g t)
    subst c1
    simp (maxSteps := 4000000) only [vm, vl, Arg.get, cells, stor, Qb, splice, reduceIte, Nat.reduceAdd, Nat.reduceLeDiff, Int.reduceNeg, gj, QbW, Qlt, gj2, QsN, decide_true]
    exact Qvb m3 hx hl hln hsm
  · rw [if_neg c1]
    simp (maxSteps := 4000000) only [vm, vl, Arg.get, cells, stor, Qb, splice, reduceIte, Nat.reduceAdd, Nat.reduceLeDiff, Int.reduceNeg, gj, QbW, Qlt, gj2, QsN, c1, decide_false]
    exact Qvb m2 hx hl hln hsm
theorem QsC (m : MI h x j (mM code (ctV c) d e mo (.int .i64 (-1)) s g t) hh) (hx : Qf 2 x (flds l)) (hl : l.length < 100000) (hln : ∀ f ∈ l, f.1.length ≤ 140737488355328) (hsm : Qk l < 100000) :
    Qkf L (Pu h (.agg (mM code (ctV c) d (.int .i64 (QaX l)) mo (.int .i64 (QV l)) s g (.str (Qaf l))))) (.ptr h.length 0) (.ptr (h.length + 1) 0) (.ptr (h.length + j) 0) hh := by
  
  unfold Qkf
  obtain ⟨a1, b1, c1, g0⟩ := m.g0
  simp (maxSteps := 4000000) only [vm, vl, Arg.get, Qb, reduceIte, Nat.reduceAdd, g0]
  refine Cf.pu (Qk6 (name := Qh7) hx hl hln (by simp [Qh7]) hsm) fun u => ?_
  rw [Qo7 QuP]
  exact QCg m.more hx hl hln hsm
theorem Qxi (m : MI h x j (mM code (ctV c) d e mo (.int .i64 (-1)) s g t) hh) (hx : Qf 2 x (flds l)) (hl : l.length < 100000) (hln : ∀ f ∈ l, f.1.length ≤ 140737488355328) (hsm : Qk l < 100000) :
    Qle L (Pu h (.agg (mM code (ctV c) d (.int .i64 (QaX l)) (.int .i64 (Qac l nLM)) (.int .i64 (QV l)) s g (.str (Qaf l))))) (.ptr h.length 0) (.ptr (h.length + 1) 0) (.ptr (h.length + j) 0) (.int .i64 (Qbe l nLM)) hh := by
  
  unfold Qle
  rw [← Qvr]
  generalize Qbe l nLM = n
  have gj := m.gj
  have m2 := m.put (mM code (ctV c) d e (.int .i64 n) (.int .i64 (-1)) s g t)
  have gj2 := m2.gj
  by_cases c1 : n < 0
  · rw [if_pos c1]
    have m3 := m2.put (mM code (ctV c) d e (.int .i64 (-1)) (.int .i64 (-1)) s g t)
    simp (maxSteps := 4000000) only [vm, vl, Arg.get, cells, stor, Qb, splice, reduceIte, Nat.reduceAdd, Nat.reduceLeDiff, Int.reduceNeg, gj, QbW, Qpe, gj2, Quo, c1, decide_true]
    exact QsC m3 hx hl hln hsm
  · rw [if_neg c1]
    simp (maxSteps := 4000000) only [vm, vl, Arg.get, cells, stor, Qb, splice, reduceIte, Nat.reduceAdd, Nat.reduceLeDiff, Int.reduceNeg, gj, QbW, Qpe, gj2, Quo, c1, decide_false]
    exact QsC m2 hx hl hln hsm
theorem QsK (m : MI h x j (mM code (ctV c) d e mo (.int .i64 (-1)) s g t) hh) (hx : Qf 2 x (flds l)) (hl : l.length < 100000) (hln : ∀ f ∈ l, f.1.length ≤ 140737488355328) (hsm : Qk l < 100000) :
    QjX L (Pu h (.agg (mM code (ctV c) d (.int .i64 (QaX l)) (.int .i64 (Qac l nLM)) (.int .i64 (QV l)) s g (.str (Qaf l))))) (.ptr h.length 0) (.ptr (h.length + 1) 0) (.ptr (h.length + j) 0) hh := by
  
  unfold QjX
  obtain ⟨a1, b1, c1, g0⟩ := m.g0
  simp (maxSteps := 4000000) only [vm, vl, Arg.get, Qb, reduceIte, Nat.reduceAdd, g0]
  refine Cf.pu (Qk6 (name := QoN) hx hl hln (by simp [QoN]) hsm) fun u => ?_
  rw [Qo7 QBp]
  exact Qxi m.more hx hl hln hsm
theorem Qxh (m : MI h x j (mM code (ctV c) d e mo (.int .i64 (-1)) s g t) hh) (hx : Qf 2 x (flds l)) (hl : l.length < 100000) (hln : ∀ f ∈ l, f.1.length ≤ 140737488355328) (hsm : Qk l < 100000) :
    Qoy L (Pu h (.agg (mM code (ctV c) (.int .i64 (Qac l Qbs)) (.int .i64 (QaX l)) (.int .i64 (Qac l nLM)) (.int .i64 (QV l)) s g (.str (Qaf l))))) (.ptr h.length 0) (.ptr (h.length + 1) 0) (.ptr (h.length + j) 0) (.int .i64 (Qbe l Qbs)) hh := by
  
  unfold Qoy
  rw [← Qvr l Qbs]
  generalize Qbe l Qbs = n
  have gj := m.gj
  have m2 := m.put (mM code (ctV c) (.int .i64 n) e mo (.int .i64 (-1)) s g t)
  have gj2 := m2.gj
  by_cases c1 : n < 0
  · rw [if_pos c1]
    have m3 := m2.put (mM code (ctV c) (.int .i64 (-1)) e mo (.int .i64 (-1)) s g t)
    simp (maxSteps := 4000000) only [vm, vl, Arg.get, cells, stor, Qb, splice, reduceIte, Nat.reduceAdd, Nat.reduceLeDiff, Int.reduceNeg, gj, QbW, Qqw, gj2, Qv9, c1, decide_true]
    exact QsK m3 hx hl hln hsm
  · rw [if_neg c1]
    simp (maxSteps := 4000000) only [vm, vl, Arg.get, cells, stor, Qb, splice, reduceIte, Nat.reduceAdd, Nat.reduceLeDiff, Int.reduceNeg, gj, QbW, Qqw, gj2, Qv9, c1, decide_false]
    exact QsK m2 hx hl hln hsm
end Go.Proofs.YtaahialaegfjgaaGreatDoor.Vh
end
section
set_option linter.unusedVariables false
set_option linter.unusedSimpArgs false
namespace Go.Proofs.YtaahialaegfjgaaGreatDoor.Vh
open Go.Vm Go.Vt
attribute [local congr] QF QI QE QG QD QJ
variable {L : QL} {h : Heap}
theorem gold {b T u : Heap} {k : Nat} {o : O} (hk : (b ++ T)[k]? = some o) : (b ++ (T ++ u))[k]? = some o := by rw [← List.append_assoc]; exact Qp hk
theorem QwW {k3 k6 : Nat} {h1 T : Heap} {a c z : V} {code : Int} {C : Ct} {b : Bool} (hb3 : (h1 ++ T)[k3]? = some (O.box [a, .int .i64 code, c, z])) (hb6 : (h1 ++ T)[k6]? = some (O.box (ctV C))) :
    Qlw L (Pu h1 (.bool (b || C.f 3 || decide (C.n 0 ≥ 0) || decide (C.n 1 ≥ 0) || Q4 code))) (.ptr k3 0) (.ptr k6 0) (.bool b) (h1 ++ T) := by
  
  unfold Qlw
  have hc13 := QaM C
  have g3 : (ctV C).getD 3 (.tup []) = .bool (C.f 3) := rfl
  have g7 : (ctV C).getD 7 (.tup []) = .int .i64 (C.n 0) := rfl
  have g8 : (ctV C).getD 8 (.tup []) = .int .i64 (C.n 1) := rfl
  generalize ctV C = cs at *
  generalize C.f 3 = b3 at *
  generalize C.n 0 = n0 at *
  generalize C.n 1 = n1 at *
  cases b with
  | true => simp (maxSteps := 4000000) only [vm, vl, Arg.get, reduceIte, Bool.true_or]
  | false =>
    cases b3 with
    | true => simp (maxSteps := 4000000) only [vm, vl, Arg.get, Qb, reduceIte, Nat.reduceAdd, Nat.reduceLeDiff, hb6, hc13, g3, Bool.true_or, Bool.or_true]
    | false =>
      by_cases c0 : n0 ≥ 0
      · simp (maxSteps := 4000000) only [vm, vl, Arg.get, Qb, reduceIte, Nat.reduceAdd, Nat.reduceLeDiff, hb6, hc13, g3, g7, c0, decide_true, Bool.true_or, Bool.or_true]
      · by_cases c1 : n1 ≥ 0
        · simp (maxSteps := 4000000) only [vm, vl, Arg.get, Qb, reduceIte, Nat.reduceAdd, Nat.reduceLeDiff, hb6, hc13, g3, g7, g8, c0, c1, decide_true, decide_false, Bool.true_or, Bool.or_true, Bool.false_or]
        · simp (maxSteps := 4000000) only [vm, vl, Arg.get, Qb, reduceIte, Nat.reduceAdd, Nat.reduceLeDiff, hb6, hc13, g3, g7, g8, c0, c1, hb3, decide_true, decide_false, Bool.false_or]
          refine Cf.pu (QxQ) fun u => ?_
          simp (maxSteps := 4000000) only [vm, vl]
theorem QDu {k3 k6 : Nat} {h1 T : Heap} {a c z : V} {code : Int} {C : Ct} {l : List Fld} (hb3 : (h1 ++ T)[k3]? = some (O.box [a, .int .i64 code, c, z])) (hb6 : (h1 ++ T)[k6]? = some (O.box (ctV C)))
    (hx : Qf 2 z (flds l)) (hl : l.length < 100000) (hln : ∀ f ∈ l, f.1.length ≤ 140737488355328) :
    QmI L (Pu h1 (.bool (Qt l Q5 || C.f 3 || decide (C.n 0 ≥ 0) || decide (C.n 1 ≥ 0) || Q4 code))) (.ptr k3 0) (.ptr k6 0) (h1 ++ T) := by
  
  unfold QmI
  simp (maxSteps := 4000000) only [vm, vl, Arg.get, Qb, reduceIte, Nat.reduceAdd, hb3]
  refine Cf.pu (Qj7 (name := Q5) hx (by omega) hln (by simp [Q5])) fun u => ?_
  rw [List.append_assoc]
  exact QwW (gold hb3) (gold hb6)
theorem QHe {k3 k6 : Nat} {h1 T : Heap} {a c z : V} {code : Int} {C : Ct} {l : List Fld} {b : Bool} (hb3 : (h1 ++ T)[k3]? = some (O.box [a, .int .i64 code, c, z])) (hb6 : (h1 ++ T)[k6]? = some (O.box (ctV C)))
    (hx : Qf 2 z (flds l)) (hl : l.length < 100000) (hln : ∀ f ∈ l, f.1.length ≤ 140737488355328) :
    Qj9 L (Pu h1 (.bool (if b = true ∧ C.f 3 = false ∧ C.f 4 = false ∧ C.n 1 < 0 then false else (Qt l Q5 || C.f 3 || decide (C.n 0 ≥ 0) || decide (C.n 1 ≥ 0) || Q4 code)))) (.ptr k3 0) (.ptr k6 0) (.bool b) (h1 ++ T) := by
  
  unfold Qj9
  have M := QDu (L := L) hb3 hb6 hx hl hln
  have hc13 := QaM C
  have g3 : (ctV C).getD 3 (.tup []) = .bool (C.f 3) := rfl
  have g4 : (ctV C).getD 4 (.tup []) = .bool (C.f 4) := rfl
  have g8 : (ctV C).getD 8 (.tup []) = .int .i64 (C.n 1) := rfl
  generalize (Qt l Q5 || C.f 3 || decide (C.n 0 ≥ 0) || decide (C.n 1 ≥ 0) || Q4 code) = R at *
  generalize ctV C = cs at *
  generalize C.f 3 = b3 at *
  generalize C.f 4 = b4 at *
  generalize C.n 1 = n1 at *
  cases b with
  | false =>
    rw [if_neg (by simp)]
    simp (maxSteps := 4000000) only [vm, vl, Arg.get, reduceIte]
    exact M
  | true =>
    cases b3 with
    | true =>
      rw [if_neg (by simp)]
      simp (maxSteps := 4000000) only [vm, vl, Arg.get, Qb, reduceIte, Nat.reduceAdd, Nat.reduceLeDiff, hb6, hc13, g3, Bool.not_true]
      exact M
    | false =>
      cases b4 with
      | true =>
        rw [if_neg (by simp)]
        simp (maxSteps := 4000000) only [vm, vl, Arg.get, Qb, reduceIte, Nat.reduceAdd, Nat.reduceLeDiff, hb6, hc13, g3, g4, Bool.not_true, Bool.not_false]
        exact M
      | false =>
        by_cases c1 : n1 < 0
        · rw [if_pos ⟨rfl, rfl, rfl, c1⟩]
          simp (maxSteps := 4000000) only [vm, vl, Arg.get, Qb, reduceIte, Nat.reduceAdd, Nat.reduceLeDiff, hb6, hc13, g3, g4, g8, c1, decide_true, Bool.not_false]
        · rw [if_neg (by simp [c1])]
          simp (maxSteps := 4000000) only [vm, vl, Arg.get, Qb, reduceIte, Nat.reduceAdd, Nat.reduceLeDiff, hb6, hc13, g3, g4, g8, c1, decide_false, Bool.not_false]
          exact M
theorem QxC (HJ : Qad L) {k2 k3 k6 : Nat} {h1 T : Heap} {m p y x a c z : V} {code : Int} {C : Ct} {la l : List Fld} (hb2 : (h1 ++ T)[k2]? = some (O.box [m, p, y, x])) (hb3 : (h1 ++ T)[k3]? = some (O.box [a, .int .i64 code, c, z])) (hb6 : (h1 ++ T)[k6]? = some (O.box (ctV C)))
    (hxa : Qf 2 x (flds la)) (hla : la.length < 100000) (hlna : ∀ f ∈ la, f.1.length ≤ 140737488355328)
    (hx : Qf 2 z (flds l)) (hl : l.length < 100000) (hln : ∀ f ∈ l, f.1.length ≤ 140737488355328) (hsm : Qk l < 100000) :
    Qrb L (Pu h1 (.bool (if Qcz code (Qt la Qco) = false ∨ QaP l = true then false else if Qt la QdS = true ∧ C.f 3 = false ∧ C.f 4 = false ∧ C.n 1 < 0 then false else (Qt l Q5 || C.f 3 || decide (C.n 0 ≥ 0) || decide (C.n 1 ≥ 0) || Q4 code)))) (.ptr k2 0) (.ptr k3 0) (.ptr k6 0) (h1 ++ T) := by
  
  unfold Qrb
  simp (maxSteps := 4000000) only [vm, vl, Arg.get, Qb, reduceIte, Nat.reduceAdd, Nat.reduceLeDiff, hb2, hb3]
  refine Cf.pu (Qj7 (name := Qco) hxa (by omega) hlna (by simp [Qco])) fun u1 => ?_
  simp (maxSteps := 4000000) only [vm, vl]
  refine Cf.pu Qx2 fun u2 => ?_
  have tail : ∀ (t : Heap), Cf F L QcU [x, .str [65, 117, 116, 104, 111, 114, 105, 122, 97, 116, 105, 111, 110]] (h1 ++ (T ++ t)) fun v45 h' => Qj9 L (Pu h1 (.bool (if Qt la QdS = true ∧ C.f 3 = false ∧ C.f 4 = false ∧ C.n 1 < 0 then false else (Qt l Q5 || C.f 3 || decide (C.n 0 ≥ 0) || decide (C.n 1 ≥ 0) || Q4 code)))) (.ptr k3 0) (.ptr k6 0) v45 h' := by
    intro t
    refine Cf.pu (Qj7 (name := QdS) hxa (by omega) hlna (by simp [QdS])) fun u5 => ?_
    rw [List.append_assoc, List.append_assoc]
    exact QHe (gold hb3) (gold hb6) hx hl hln
  generalize (if Qt la QdS = true ∧ C.f 3 = false ∧ C.f 4 = false ∧ C.n 1 < 0 then false else (Qt l Q5 || C.f 3 || decide (C.n 0 ≥ 0) || decide (C.n 1 ≥ 0) || Q4 code)) = R at *
  have hb2' := fun t => gold (u := t) hb2
  have hb3' := fun t => gold (u := t) hb3
  cases hk : Qcz code (Qt la Qco) with
  | false =>
    rw [if_pos (.inl rfl)]
    simp (maxSteps := 4000000) only [vm, vl, Arg.get, Qb, reduceIte, Nat.reduceAdd, Qkk, Bool.not_false]
  | true =>
    simp (maxSteps := 4000000) only [vm, vl, Arg.get, Qb, reduceIte, reduceCtorEq, Nat.reduceAdd, hb3', Bool.not_true, List.append_assoc]
    refine Cf.pu (QCY HJ hx hl hln hsm) fun u3 => ?_
    cases hv : QaP l with
    | true =>
      rw [if_pos (.inr rfl)]
      simp (maxSteps := 4000000) only [vm, vl, Arg.get, reduceIte, Qkk]
    | false =>
      rw [if_neg (by simp)]
      simp (maxSteps := 4000000) only [vm, vl, Arg.get, Qb, reduceIte, Nat.reduceAdd, Qkk, hb2', List.append_assoc]
      exact tail _
theorem QJg {hh : Heap} {A C : Ct} {K : V → V → Heap → Prop} (hk : K (.ptr hh.length 0) (.ptr (hh.length + 1) 0) (hh ++ [.box (ctV A), .box (ctV C)])) :
    wi F L (.boxz [.bool false, .bool false, .bool false, .bool false, .bool false, .bool false, .bool false, .int .i64 0, .int .i64 0, .int .i64 0, .int .i64 0, .int .i64 0, .int .i64 0]) E0 hh fun v5 h' => Ext hh h' ∧ wi F L (.boxz [.bool false, .bool false, .bool false, .bool false, .bool false, .bool false, .bool false, .int .i64 0, .int .i64 0, .int .i64 0, .int .i64 0, .int .i64 0, .int .i64 0]) E0 h' fun v6 h => Ext h' h ∧ wi F L (.store 13 (.c v5) (.c (.agg (ctV A)))) E0 h fun _ h => wi F L (.store 13 (.c v6) (.c (.agg (ctV C)))) E0 h fun _ h => K v5 v6 h := by
  
  have e13 : ([.bool false, .bool false, .bool false, .bool false, .bool false, .bool false, .bool false, .int .i64 0, .int .i64 0, .int .i64 0, .int .i64 0, .int .i64 0, .int .i64 0] : List V).length = 13 := rfl
  have d13 : List.drop 13 ([.bool false, .bool false, .bool false, .bool false, .bool false, .bool false, .bool false, .int .i64 0, .int .i64 0, .int .i64 0, .int .i64 0, .int .i64 0, .int .i64 0] : List V) = [] := rfl
  generalize ([.bool false, .bool false, .bool false, .bool false, .bool false, .bool false, .bool false, .int .i64 0, .int .i64 0, .int .i64 0, .int .i64 0, .int .i64 0, .int .i64 0] : List V) = z at *
  have g5 : (hh ++ [O.box z, O.box z])[hh.length]? = some (O.box z) := by rw [List.getElem?_append_right (Nat.le_refl _), Nat.sub_self]; rfl
  have g6 : ∀ X, (hh ++ [X, O.box z])[hh.length + 1]? = some (O.box z) := fun X => by rw [List.getElem?_append_right (Nat.le_add_right _ _), Nat.add_sub_cancel_left]; rfl
  have e5 : ∀ X, (hh ++ [O.box z, O.box z]).set hh.length X = hh ++ [X, O.box z] := fun X => by rw [List.set_append_right _ _ (Nat.le_refl _), Nat.sub_self]; rfl
  have e6 : ∀ X Y, (hh ++ [X, O.box z]).set (hh.length + 1) Y = hh ++ [X, Y] := fun X Y => by rw [List.set_append_right _ _ (Nat.le_add_right _ _), Nat.add_sub_cancel_left]; rfl
  have hA := QaM A
  have hC := QaM C
  simp (maxSteps := 4000000) only [vm, vl, Arg.get, cells, stor, splice, g5, g6, e5, e6, e13, d13, hA, hC, List.append_nil]
  exact hk
theorem QEU (HJ : Qad L) {p y x a c z : V} {m : Bs} {code : Int} {la l : List Fld} {T : Heap} (hT0 : T[0]? = some (O.box [.str m, p, y, x])) (hT1 : T[1]? = some (O.box [a, .int .i64 code, c, z]))
    (hxa : Qf 2 x (flds la)) (hla : la.length < 100000) (hlna : ∀ f ∈ la, f.1.length ≤ 140737488355328)
    (hx : Qf 2 z (flds l)) (hl : l.length < 100000) (hln : ∀ f ∈ l, f.1.length ≤ 140737488355328) (hsm : Qk l < 100000) :
    QnH L (Pu h (.bool (Qds m la code l))) (.ptr h.length 0) (.ptr (h.length + 1) 0) (.agg (ctV (ofC la))) (.agg (ctV (ofC l))) (h ++ T) := by
  
  unfold QnH Qds
  refine QJg ?_
  have hb2 : (h ++ T ++ [O.box (ctV (ofC la)), O.box (ctV (ofC l))])[h.length]? = some (O.box [.str m, p, y, x]) := Qp (by rw [List.getElem?_append_right (Nat.le_refl _), Nat.sub_self, hT0])
  have hb3 : (h ++ T ++ [O.box (ctV (ofC la)), O.box (ctV (ofC l))])[h.length + 1]? = some (O.box [a, .int .i64 code, c, z]) := Qp (by rw [List.getElem?_append_right (Nat.le_add_right _ _), Nat.add_sub_cancel_left, hT1])
  have hb5 : (h ++ T ++ [O.box (ctV (ofC la)), O.box (ctV (ofC l))])[(h ++ T).length]? = some (O.box (ctV (ofC la))) := by rw [List.getElem?_append_right (Nat.le_refl _), Nat.sub_self]; rfl
  have hb6 : (h ++ T ++ [O.box (ctV (ofC la)), O.box (ctV (ofC l))])[(h ++ T).length + 1]? = some (O.box (ctV (ofC l))) := by rw [List.getElem?_append_right (Nat.le_add_right _ _), Nat.add_sub_cancel_left]; rfl
  generalize hk5 : (h ++ T).length = k5 at *
  rw [List.append_assoc] at *
  generalize hT' : T ++ [O.box (ctV (ofC la)), O.box (ctV (ofC l))] = T' at *
  have M := QxC HJ hb2 hb3 hb6 hxa hla hlna hx hl hln hsm
  generalize (if Qcz code (Qt la Qco) = false ∨ QaP l = true then false else if Qt la QdS = true ∧ (ofC l).f 3 = false ∧ (ofC l).f 4 = false ∧ (ofC l).n 1 < 0 then false else (Qt l Q5 || (ofC l).f 3 || decide ((ofC l).n 0 ≥ 0) || decide ((ofC l).n 1 ≥ 0) || Q4 code)) = R at *
  have hcA := QaM (ofC la)
  have hcC := QaM (ofC l)
  have a0 : (ctV (ofC la)).getD 0 (.tup []) = .bool ((ofC la).f 0) := rfl
  have c0 : (ctV (ofC l)).getD 0 (.tup []) = .bool ((ofC l).f 0) := rfl
  have c2 : (ctV (ofC l)).getD 2 (.tup []) = .bool ((ofC l).f 2) := rfl
  clear hT' hk5
  generalize ctV (ofC la) = A at *
  generalize ctV (ofC l) = C at *
  generalize (ofC la).f 0 = b1 at *
  generalize (ofC l).f 0 = b2 at *
  generalize (ofC l).f 2 = b3 at *
  by_cases hm : m = [71, 69, 84]
  case neg =>
    rw [if_pos (.inl hm)]
    have ne : (m == [71, 69, 84]) = false := by simpa using hm
    simp (maxSteps := 4000000) only [vm, vl, Arg.get, Qb, reduceIte, Nat.reduceAdd, Nat.reduceLeDiff, hb2, ne, Bool.not_false]
  subst hm
  cases b1 with
  | true =>
    rw [if_pos (by simp)]
    simp (maxSteps := 4000000) only [vm, vl, Arg.get, Qb, reduceIte, Nat.reduceAdd, Nat.reduceLeDiff, beq_self_eq_true, hb2, hb5, hcA, a0, bne_self_eq_false]
  | false =>
    cases b2 with
    | true =>
      rw [if_pos (by simp)]
      simp (maxSteps := 4000000) only [vm, vl, Arg.get, Qb, reduceIte, Nat.reduceAdd, Nat.reduceLeDiff, beq_self_eq_true, hb2, hb5, hcA, a0, hb6, hcC, c0, bne_self_eq_false]
    | false =>
      cases b3 with
      | true =>
        rw [if_pos (by simp)]
        simp (maxSteps := 4000000) only [vm, vl, Arg.get, Qb, reduceIte, Nat.reduceAdd, Nat.reduceLeDiff, beq_self_eq_true, hb2, hb5, hcA, a0, hb6, hcC, c0, c2, bne_self_eq_false]
      | false =>
        rw [if_neg (by simp)]
        simp (maxSteps := 4000000) only [vm, vl, Arg.get, Qb, reduceIte, Nat.reduceAdd, Nat.reduceLeDiff, beq_self_eq_true, hb2, hb5, hcA, a0, hb6, hcC, c0, c2, bne_self_eq_false]
        exact M
theorem Qu1 (HJ : Qad L) (HI : QaZ L) (HU : Qa1 L) {p y x a c z : V} {m : Bs} {code : Int} {la l : List Fld}
    (hxa : Qf 2 x (flds la)) (hla : la.length < 100000) (hlna : ∀ f ∈ la, f.1.length ≤ 140737488355328) (hsma : Qk la < 100000)
    (hx : Qf 2 z (flds l)) (hl : l.length < 100000) (hln : ∀ f ∈ l, f.1.length ≤ 140737488355328) (hsm : Qk l < 100000) :
    Cf F L Qeo [.agg [.str m, p, y, x], .agg [a, .int .i64 code, c, z]] h (Pu h (.bool (Qds m la code l))) := by
  refine QzF ?_
  simp only [Qo3]
  
  simp (maxSteps := 4000000) only [vm, vl, Arg.get, cells, stor, Qb, reduceIte, Nat.reduceAdd, QsD]
  refine Cf.pu (QnQ HJ HI HU hxa hla hlna hsma) fun u1 => ?_
  have hb3 : ∀ t, (h ++ (O.box [.str m, p, y, x] :: O.box [a, .int .i64 code, c, z] :: t))[h.length + 1]? = some (O.box [a, .int .i64 code, c, z]) := fun t => by
    rw [List.getElem?_append_right (Nat.le_add_right _ _), Nat.add_sub_cancel_left]; rfl
  simp (maxSteps := 4000000) only [vm, vl, Nat.reduceAdd, hb3]
  refine Cf.pu (QnQ HJ HI HU hx hl hln hsm) fun u2 => ?_
  rw [List.append_assoc]
  refine ⟨by simp (maxSteps := 4000000) only [vm, vl], ?_⟩
  exact QEU HJ rfl rfl hxa hla hlna hx hl hln hsm
end Go.Proofs.YtaahialaegfjgaaGreatDoor.Vh
end
section
set_option linter.unusedVariables false
set_option linter.unusedSimpArgs false
namespace Go.Proofs.YtaahialaegfjgaaGreatDoor.Vh
open Go.Vm Go.Vt
attribute [local congr] QF QI QE QG QD QJ
variable {L : QL} {h : Heap}
variable {h1 T : Heap} {k2 k3 k6 : Nat} {m p y x a c z : V} {code : Int} {C : Ct} {la l : List Fld}
theorem QBB {c : Int} : Cf F L Qgj [.int .i64 c] h (Pu h (.bool (Q4 c))) := by
  refine Qzu ?_
  simp only [QpE]
  
  by_cases c0 : c = 200
  · have e : Q4 c = true := by subst c0; rfl
    rw [e]
    simp (maxSteps := 4000000) only [vm, vl, Arg.get, Int.reduceEq, c0, decide_true, decide_false, Qau, QbY]
  by_cases c1 : c = 203
  · have e : Q4 c = true := by subst c1; rfl
    rw [e]
    simp (maxSteps := 4000000) only [vm, vl, Arg.get, Int.reduceEq, c0, c1, decide_true, decide_false, Qau, QbY]
  by_cases c2 : c = 204
  · have e : Q4 c = true := by subst c2; rfl
    rw [e]
    simp (maxSteps := 4000000) only [vm, vl, Arg.get, Int.reduceEq, c0, c1, c2, decide_true, decide_false, Qau, QbY]
  by_cases c3 : c = 206
  · have e : Q4 c = true := by subst c3; rfl
    rw [e]
    simp (maxSteps := 4000000) only [vm, vl, Arg.get, Int.reduceEq, c0, c1, c2, c3, decide_true, decide_false, Qau, QbY]
  by_cases c4 : c = 300
  · have e : Q4 c = true := by subst c4; rfl
    rw [e]
    simp (maxSteps := 4000000) only [vm, vl, Arg.get, Int.reduceEq, c0, c1, c2, c3, c4, decide_true, decide_false, Qau, QbY]
  by_cases c5 : c = 301
  · have e : Q4 c = true := by subst c5; rfl
    rw [e]
    simp (maxSteps := 4000000) only [vm, vl, Arg.get, Int.reduceEq, c0, c1, c2, c3, c4, c5, decide_true, decide_false, Qau, QbY]
  by_cases c6 : c = 308
  · have e : Q4 c = true := by subst c6; rfl
    rw [e]
    simp (maxSteps := 4000000) only [vm, vl, Arg.get, Int.reduceEq, c0, c1, c2, c3, c4, c5, c6, decide_true, decide_false, Qau, QbY]
  by_cases c7 : c = 404
  · have e : Q4 c = true := by subst c7; rfl
    rw [e]
    simp (maxSteps := 4000000) only [vm, vl, Arg.get, Int.reduceEq, c0, c1, c2, c3, c4, c5, c6, c7, decide_true, decide_false, Qau, QbY]
  by_cases c8 : c = 405
  · have e : Q4 c = true := by subst c8; rfl
    rw [e]
    simp (maxSteps := 4000000) only [vm, vl, Arg.get, Int.reduceEq, c0, c1, c2, c3, c4, c5, c6, c7, c8, decide_true, decide_false, Qau, QbY]
  by_cases c9 : c = 410
  · have e : Q4 c = true := by subst c9; rfl
    rw [e]
    simp (maxSteps := 4000000) only [vm, vl, Arg.get, Int.reduceEq, c0, c1, c2, c3, c4, c5, c6, c7, c8, c9, decide_true, decide_false, Qau, QbY]
  by_cases c10 : c = 414
  · have e : Q4 c = true := by subst c10; rfl
    rw [e]
    simp (maxSteps := 4000000) only [vm, vl, Arg.get, Int.reduceEq, c0, c1, c2, c3, c4, c5, c6, c7, c8, c9, c10, decide_true, decide_false, Qau, QbY]
  by_cases c11 : c = 501
  · have e : Q4 c = true := by subst c11; rfl
    rw [e]
    simp (maxSteps := 4000000) only [vm, vl, Arg.get, Int.reduceEq, c0, c1, c2, c3, c4, c5, c6, c7, c8, c9, c10, c11, decide_true, decide_false, Qau, QbY]
  have e : Q4 c = false := by
    unfold Q4
    rw [Bool.eq_false_iff]
    intro h
    rw [List.contains_iff_mem] at h
    simp [c0, c1, c2, c3, c4, c5, c6, c7, c8, c9, c10, c11] at h
  rw [e]
  simp (maxSteps := 4000000) only [vm, vl, Arg.get, reduceCtorEq, c0, c1, c2, c3, c4, c5, c6, c7, c8, c9, c10, c11, decide_false, Qau, QbY]
theorem Qx8 {k3 k6 : Nat} {h1 T : Heap} {a c z : V} {code : Int} {C : Ct} {b : Bool} (hb3 : (h1 ++ T)[k3]? = some (O.box [a, .int .i64 code, c, z])) (hb6 : (h1 ++ T)[k6]? = some (O.box (ctV C))) :
    Qqe L (Pu h1 (.bool (b || C.f 3 || decide (C.n 0 ≥ 0) || decide (C.n 1 ≥ 0) || Q4 code))) (.ptr k3 0) (.ptr k6 0) (.bool b) (h1 ++ T) := by
  
  unfold Qqe
  have hc13 := QaM C
  have g3 : (ctV C).getD 3 (.tup []) = .bool (C.f 3) := rfl
  have g7 : (ctV C).getD 7 (.tup []) = .int .i64 (C.n 0) := rfl
  have g8 : (ctV C).getD 8 (.tup []) = .int .i64 (C.n 1) := rfl
  generalize ctV C = cs at *
  generalize C.f 3 = b3 at *
  generalize C.n 0 = n0 at *
  generalize C.n 1 = n1 at *
  cases b with
  | true => simp (maxSteps := 4000000) only [vm, vl, Arg.get, reduceIte, Bool.true_or]
  | false =>
    cases b3 with
    | true => simp (maxSteps := 4000000) only [vm, vl, Arg.get, Qb, reduceIte, Nat.reduceAdd, Nat.reduceLeDiff, hb6, hc13, g3, Bool.true_or, Bool.or_true]
    | false =>
      by_cases c0 : n0 ≥ 0
      · simp (maxSteps := 4000000) only [vm, vl, Arg.get, Qb, reduceIte, Nat.reduceAdd, Nat.reduceLeDiff, hb6, hc13, g3, g7, c0, decide_true, Bool.true_or, Bool.or_true]
      · by_cases c1 : n1 ≥ 0
        · simp (maxSteps := 4000000) only [vm, vl, Arg.get, Qb, reduceIte, Nat.reduceAdd, Nat.reduceLeDiff, hb6, hc13, g3, g7, g8, c0, c1, decide_true, decide_false, Bool.true_or, Bool.or_true, Bool.false_or]
        · simp (maxSteps := 4000000) only [vm, vl, Arg.get, Qb, reduceIte, Nat.reduceAdd, Nat.reduceLeDiff, hb6, hc13, g3, g7, g8, c0, c1, hb3, decide_true, decide_false, Bool.false_or]
          refine Cf.pu (QBB) fun u => ?_
          simp (maxSteps := 4000000) only [vm, vl]
theorem QAh {k3 k6 : Nat} {h1 T : Heap} {a c z : V} {code : Int} {C : Ct} {l : List Fld} (hb3 : (h1 ++ T)[k3]? = some (O.box [a, .int .i64 code, c, z])) (hb6 : (h1 ++ T)[k6]? = some (O.box (ctV C)))
    (hx : Qf 2 z (flds l)) (hl : l.length < 100000) (hln : ∀ f ∈ l, f.1.length ≤ 140737488355328) (hsm : Qk l < 100000) :
    Qqy L (Pu h1 (.bool (Qt l Q5 || C.f 3 || decide (C.n 0 ≥ 0) || decide (C.n 1 ≥ 0) || Q4 code))) (.ptr k3 0) (.ptr k6 0) (h1 ++ T) := by
  
  unfold Qqy
  simp (maxSteps := 4000000) only [vm, vl, Arg.get, Qb, reduceIte, Nat.reduceAdd, hb3]
  refine Cf.pu (Qkt (name := Qh7) hx hl hln (by simp [Qh7]) hsm) fun u => ?_
  rw [Qqv QuP, List.append_assoc]
  exact Qx8 (gold hb3) (gold hb6)
theorem QAj {k3 k6 : Nat} {h1 T : Heap} {a c z : V} {code : Int} {C : Ct} {l : List Fld} {b : Bool} (hb3 : (h1 ++ T)[k3]? = some (O.box [a, .int .i64 code, c, z])) (hb6 : (h1 ++ T)[k6]? = some (O.box (ctV C)))
    (hx : Qf 2 z (flds l)) (hl : l.length < 100000) (hln : ∀ f ∈ l, f.1.length ≤ 140737488355328) (hsm : Qk l < 100000) :
    Qnh L (Pu h1 (.bool (if b = true ∧ C.f 3 = false ∧ C.f 4 = false ∧ C.n 1 < 0 then false else (Qt l Q5 || C.f 3 || decide (C.n 0 ≥ 0) || decide (C.n 1 ≥ 0) || Q4 code)))) (.ptr k3 0) (.ptr k6 0) (.bool b) (h1 ++ T) := by
  
  unfold Qnh
  have M := QAh (L := L) hb3 hb6 hx hl hln hsm
  have hc13 := QaM C
  have g3 : (ctV C).getD 3 (.tup []) = .bool (C.f 3) := rfl
  have g4 : (ctV C).getD 4 (.tup []) = .bool (C.f 4) := rfl
  have g8 : (ctV C).getD 8 (.tup []) = .int .i64 (C.n 1) := rfl
  generalize (Qt l Q5 || C.f 3 || decide (C.n 0 ≥ 0) || decide (C.n 1 ≥ 0) || Q4 code) = R at *
  generalize ctV C = cs at *
  generalize C.f 3 = b3 at *
  generalize C.f 4 = b4 at *
  generalize C.n 1 = n1 at *
  cases b with
  | false =>
    rw [if_neg (by simp)]
    simp (maxSteps := 4000000) only [vm, vl, Arg.get, reduceIte]
    exact M
  | true =>
    cases b3 with
    | true =>
      rw [if_neg (by simp)]
      simp (maxSteps := 4000000) only [vm, vl, Arg.get, Qb, reduceIte, Nat.reduceAdd, Nat.reduceLeDiff, hb6, hc13, g3, Bool.not_true]
      exact M
    | false =>
      cases b4 with
      | true =>
        rw [if_neg (by simp)]
        simp (maxSteps := 4000000) only [vm, vl, Arg.get, Qb, reduceIte, Nat.reduceAdd, Nat.reduceLeDiff, hb6, hc13, g3, g4, Bool.not_true, Bool.not_false]
        exact M
      | false =>
        by_cases c1 : n1 < 0
        · rw [if_pos ⟨rfl, rfl, rfl, c1⟩]
          simp (maxSteps := 4000000) only [vm, vl, Arg.get, Qb, reduceIte, Nat.reduceAdd, Nat.reduceLeDiff, hb6, hc13, g3, g4, g8, c1, decide_true, Bool.not_false]
        · rw [if_neg (by simp [c1])]
          simp (maxSteps := 4000000) only [vm, vl, Arg.get, Qb, reduceIte, Nat.reduceAdd, Nat.reduceLeDiff, hb6, hc13, g3, g4, g8, c1, decide_false, Bool.not_false]
          exact M
def QcR (la : List Fld) (code : Int) (l : List Fld) (C : Ct) : Bool := if Qt la QdS = true ∧ C.f 3 = false ∧ C.f 4 = false ∧ C.n 1 < 0 then false else (Qt l Q5 || C.f 3 || decide (C.n 0 ≥ 0) || decide (C.n 1 ≥ 0) || Q4 code)
theorem QD6 (hb2 : (h1 ++ T)[k2]? = some (O.box [m, p, y, x])) (hb3 : (h1 ++ T)[k3]? = some (O.box [a, .int .i64 code, c, z])) (hb6 : (h1 ++ T)[k6]? = some (O.box (ctV C)))
    (hxa : Qf 2 x (flds la)) (hla : la.length < 100000) (hlna : ∀ f ∈ la, f.1.length ≤ 140737488355328) (hsma : Qk la < 100000)
    (hx : Qf 2 z (flds l)) (hl : l.length < 100000) (hln : ∀ f ∈ l, f.1.length ≤ 140737488355328) (hsm : Qk l < 100000) :
    Qky L (Pu h1 (.bool (QcR la code l C))) (.ptr k2 0) (.ptr k3 0) (.ptr k6 0) (h1 ++ T) := by
  
  unfold Qky
  simp (maxSteps := 4000000) only [vm, vl, Arg.get, Qb, reduceIte, Nat.reduceAdd, hb2]
  refine Cf.pu (Qkt (name := Qnv) hxa hla hlna (by simp [Qnv]) hsma) fun u => ?_
  rw [Qqv QAl, List.append_assoc]
  exact QAj (gold hb3) (gold hb6) hx hl hln hsm
theorem QDS {xs : V} {ws : List Bs} {e : Env} (hb2 : (h1 ++ T)[k2]? = some (O.box [m, p, y, x])) (hb3 : (h1 ++ T)[k3]? = some (O.box [a, .int .i64 code, c, z])) (hb6 : (h1 ++ T)[k6]? = some (O.box (ctV C)))
    (hxa : Qf 2 x (flds la)) (hla : la.length < 100000) (hlna : ∀ f ∈ la, f.1.length ≤ 140737488355328) (hsma : Qk la < 100000)
    (hx : Qf 2 z (flds l)) (hl : l.length < 100000) (hln : ∀ f ∈ l, f.1.length ≤ 140737488355328) (hsm : Qk l < 100000)
    (hL : Qf 1 xs (strs ws)) (hw : ws.length < 1000000) (e2 : e 2 = .ptr k2 0) (e3 : e 3 = .ptr k3 0) (e6 : e 6 = .ptr k6 0) (e9 : e 9 = xs) (e11 : e 11 = .int .i64 0) :
    Wl F L Ql3 (QnK L (Pu h1 (.bool (if ws.contains [42] = true then false else QcR la code l C)))) e (h1 ++ T) := by
  refine QJ3 (fun n e h' => ∃ i : Nat, n = ws.length - i ∧ i ≤ ws.length ∧ e 2 = .ptr k2 0 ∧ e 3 = .ptr k3 0 ∧ e 6 = .ptr k6 0 ∧ e 9 = xs ∧ e 11 = .int .i64 i ∧ h' = h1 ++ T ∧ ws.contains [42] = (ws.drop i).contains [42]) ?_ (n := ws.length) ⟨0, by simp, by simp, e2, e3, e6, e9, e11, rfl, by simp⟩
  clear e2 e3 e6 e9 e11
  rintro n e h' ⟨i, rfl, hi, e2, e3, e6, e9, e11, rfl, hc⟩
  simp only [Ql2]
  
  have l1 := fun {K : QK} {h : Heap} => hL.len (F := F) (L := L) (e := E0) (K := K) (h := h)
  simp only [QW] at l1
  rcases QiH [] hi with ⟨hn, rfl, hd⟩ | ⟨hl1, hl2, hd, _⟩
  · rw [hd] at hc
    rw [hc, if_neg (by simp)]
    simp (maxSteps := 4000000) only [vm, vl, Arg.get, e2, e3, e6, e9, e11, l1, hn]
    exact QD6 hb2 hb3 hb6 hxa hla hlna hsma hx hl hln hsm
  · have hsl : (strs ws).length = ws.length := QW ws
    obtain ⟨o, rfl⟩ : ∃ o, xs = .sl 1 o (strs ws) := by
      rcases hL with ⟨he, _⟩ | h
      · rw [he] at hsl; simp at hsl; omega
      · exact h
    have hi0 : (0 : Int) ≤ (i : Int) := by omega
    have g := QjD hl2
    have w := Qe (x := (i : Int) + 1) (by omega) (by omega)
    rw [hd, List.contains_cons] at hc
    generalize ws.getD i [] = zz at *
    cases hz : (([42] : Bs) == zz) with
    | true =>
      rw [hz, Bool.true_or] at hc
      rw [hc, if_pos rfl]
      have hz' : (zz == ([42] : Bs)) = true := by rw [Bool.beq_comm]; exact hz
      simp (maxSteps := 4000000) only [vm, vl, Arg.get, cells, Qb, reduceIte, e2, e3, e6, e9, e11, hsl, hl1, hl2, hi0, g, hz', Int.toNat_natCast, Qn6]
    | false =>
      rw [hz, Bool.false_or] at hc
      have hz' : (zz == ([42] : Bs)) = false := by rw [Bool.beq_comm]; exact hz
      simp (maxSteps := 4000000) only [vm, vl, Arg.get, cells, Qb, reduceIte, Nat.reduceEqDiff, e2, e3, e6, e9, e11, hsl, hl1, hl2, hi0, g, hz', Int.toNat_natCast, Qn6, Qss, w]
      exact ⟨ws.length - (i + 1), by omega, i + 1, rfl, hl2, rfl, hc⟩
theorem QG9 {v v65 v66 v67 v68 v69 : V} {e : Env} {o : Option (List Bs)} (hb2 : (h1 ++ T)[k2]? = some (O.box [m, p, y, x])) (hb3 : (h1 ++ T)[k3]? = some (O.box [a, .int .i64 code, c, z])) (hb6 : (h1 ++ T)[k6]? = some (O.box (ctV C)))
    (hxa : Qf 2 x (flds la)) (hla : la.length < 100000) (hlna : ∀ f ∈ la, f.1.length ≤ 140737488355328) (hsma : Qk la < 100000)
    (hx : Qf 2 z (flds l)) (hl : l.length < 100000) (hln : ∀ f ∈ l, f.1.length ≤ 140737488355328) (hsm : Qk l < 100000)
    (ho : split (Qm (Qj l Qd9)) = o) (hp : (o = none ∧ v = .tup [.nsl, .bool false]) ∨ ∃ out x, o = some out ∧ v = .tup [x, .bool true] ∧ Qf 1 x (strs out)) (e2 : e 2 = .ptr k2 0) (e3 : e 3 = .ptr k3 0) (e6 : e 6 = .ptr k6 0) :
    QlS L (Pu h1 (.bool (if QaP l = true then false else QcR la code l C))) e v65 v66 v67 v68 v69 v (h1 ++ T) := by
  
  unfold QlS
  have j1 := Qbd l Qd9
  rcases hp with ⟨rfl, rfl⟩ | ⟨ws, xs, rfl, rfl, hL⟩
  · have ev : QaP l = true := by unfold QaP; rw [ho]
    rw [ev, if_pos rfl]
    simp (maxSteps := 4000000) only [vm, vl, Arg.get, Bool.not_false]
  · have ev : QaP l = ws.contains [42] := by unfold QaP; rw [ho]
    rw [ev]
    have hs := Qjj ho
    simp (maxSteps := 4000000) only [vm, vl, Arg.get, Bool.not_true, QrH]
    exact QDS hb2 hb3 hb6 hxa hla hlna hsma hx hl hln hsm hL (by omega) (by exact e2) (by exact e3) (by exact e6) rfl rfl
theorem QBo {e : Env} (hb2 : (h1 ++ T)[k2]? = some (O.box [m, p, y, x])) (hb3 : (h1 ++ T)[k3]? = some (O.box [a, .int .i64 code, c, z])) (hb6 : (h1 ++ T)[k6]? = some (O.box (ctV C)))
    (hxa : Qf 2 x (flds la)) (hla : la.length < 100000) (hlna : ∀ f ∈ la, f.1.length ≤ 140737488355328) (hsma : Qk la < 100000)
    (hx : Qf 2 z (flds l)) (hl : l.length < 100000) (hln : ∀ f ∈ l, f.1.length ≤ 140737488355328) (hsm : Qk l < 100000) (e2 : e 2 = .ptr k2 0) (e3 : e 3 = .ptr k3 0) (e6 : e 6 = .ptr k6 0) :
    Qm3 L (Pu h1 (.bool (if QaP l = true then false else QcR la code l C))) e (.ptr k3 0) (h1 ++ T) := by
  
  unfold Qm3
  have j1 := Qbd l Qd9
  simp (maxSteps := 4000000) only [vm, vl, Arg.get, Qb, reduceIte, Nat.reduceAdd, hb3]
  refine Cf.pu (QeC (name := Qn0) hx hl hln (by simp [Qn0]) hsm) fun u => ?_
  simp only [QaG]
  rw [Qgm QyD]
  simp (maxSteps := 4000000) only [vm, vl]
  refine (QhT (by omega)).mono fun v h' hp => ?_
  obtain ⟨⟨t, rfl⟩, hp⟩ := hp
  rw [List.append_assoc, List.append_assoc]
  exact QG9 (gold hb2) (gold hb3) (gold hb6) hxa hla hlna hsma hx hl hln hsm rfl hp e2 e3 e6
theorem QyE {e : Env} {v46 v47 : V} {b : Bool} (hb2 : (h1 ++ T)[k2]? = some (O.box [m, p, y, x])) (hb3 : (h1 ++ T)[k3]? = some (O.box [a, .int .i64 code, c, z])) (hb6 : (h1 ++ T)[k6]? = some (O.box (ctV C)))
    (hxa : Qf 2 x (flds la)) (hla : la.length < 100000) (hlna : ∀ f ∈ la, f.1.length ≤ 140737488355328) (hsma : Qk la < 100000)
    (hx : Qf 2 z (flds l)) (hl : l.length < 100000) (hln : ∀ f ∈ l, f.1.length ≤ 140737488355328) (hsm : Qk l < 100000) (e2 : e 2 = .ptr k2 0) (e3 : e 3 = .ptr k3 0) (e6 : e 6 = .ptr k6 0) :
    Qn9 L (Pu h1 (.bool (if b = true ∧ code ≠ 200 ∧ code ≠ 206 ∧ code < 300 then false else if QaP l = true then false else QcR la code l C))) e (.ptr k3 0) v46 v47 (.bool b) (h1 ++ T) := by
  
  unfold Qn9
  have M := fun e' (a2 : e' 2 = V.ptr k2 0) (a3 : e' 3 = V.ptr k3 0) (a6 : e' 6 = V.ptr k6 0) => QBo (L := L) (e := e') hb2 hb3 hb6 hxa hla hlna hsma hx hl hln hsm a2 a3 a6
  generalize (if QaP l = true then false else QcR la code l C) = R at *
  cases b with
  | false =>
    rw [if_neg (by simp)]
    simp (maxSteps := 4000000) only [vm, vl, Arg.get, reduceIte]
    exact M _ (by exact e2) (by exact e3) (by exact e6)
  | true =>
    by_cases c1 : code = 200
    · rw [if_neg (by simp [c1])]
      simp (maxSteps := 4000000) only [vm, vl, Arg.get, Qb, reduceIte, Nat.reduceAdd, Nat.reduceLeDiff, hb3, c1, bne_self_eq_false, decide_true, decide_false, Bool.not_true]
      exact M _ (by exact e2) (by exact e3) (by exact e6)
    · have n1 : (code == 200) = false := by simpa using c1
      by_cases c2 : code = 206
      · rw [if_neg (by simp [c2])]
        simp (maxSteps := 4000000) only [vm, vl, Arg.get, Qb, reduceIte, Nat.reduceAdd, Nat.reduceLeDiff, Int.reduceEq, hb3, n1, c1, c2, decide_true, decide_false, Bool.not_true, Bool.not_false]
        exact M _ (by exact e2) (by exact e3) (by exact e6)
      · by_cases c3 : code < 300
        · rw [if_pos ⟨rfl, c1, c2, c3⟩]
          simp (maxSteps := 4000000) only [vm, vl, Arg.get, Qb, reduceIte, Nat.reduceAdd, Nat.reduceLeDiff, hb3, c1, c2, c3, decide_true, decide_false, Bool.not_true, Bool.not_false]
        · rw [if_neg (by simp [c3])]
          simp (maxSteps := 4000000) only [vm, vl, Arg.get, Qb, reduceIte, Nat.reduceAdd, Nat.reduceLeDiff, hb3, c1, c2, c3, decide_true, decide_false, Bool.not_true, Bool.not_false]
          exact M _ (by exact e2) (by exact e3) (by exact e6)
theorem QEq {e : Env} (hb2 : (h1 ++ T)[k2]? = some (O.box [m, p, y, x])) (hb3 : (h1 ++ T)[k3]? = some (O.box [a, .int .i64 code, c, z])) (hb6 : (h1 ++ T)[k6]? = some (O.box (ctV C)))
    (hxa : Qf 2 x (flds la)) (hla : la.length < 100000) (hlna : ∀ f ∈ la, f.1.length ≤ 140737488355328) (hsma : Qk la < 100000)
    (hx : Qf 2 z (flds l)) (hl : l.length < 100000) (hln : ∀ f ∈ l, f.1.length ≤ 140737488355328) (hsm : Qk l < 100000) (e2 : e 2 = .ptr k2 0) (e3 : e 3 = .ptr k3 0) (e6 : e 6 = .ptr k6 0) :
    QlE L (Pu h1 (.bool (if Qt la Qco = true ∧ code ≠ 200 ∧ code ≠ 206 ∧ code < 300 then false else if QaP l = true then false else QcR la code l C))) e (.ptr k2 0) (.ptr k3 0) (h1 ++ T) := by
  
  unfold QlE
  simp (maxSteps := 4000000) only [vm, vl, Arg.get, Qb, reduceIte, Nat.reduceAdd, ne_eq, hb2]
  refine Cf.pu (Qkt (name := QqK) hxa hla hlna (by simp [QqK]) hsma) fun u => ?_
  rw [Qqv QJt, List.append_assoc]
  exact QyE (gold hb2) (gold hb3) (gold hb6) hxa hla hlna hsma hx hl hln hsm e2 e3 e6
theorem QI1 (code : Int) (r R : Bool) : (if code < 200 ∨ code > 599 ∨ code = 304 then false else if r = true ∧ code ≠ 200 ∧ code ≠ 206 ∧ code < 300 then false else R) = if Qcz code r = false then false else R := by
  unfold Qcz
  by_cases c1 : code < 200 ∨ code > 599 ∨ code = 304
  · rw [if_pos c1, if_pos c1]; simp
  · rw [if_neg c1, if_neg c1]
    by_cases c2 : r = true ∧ code ≠ 200 ∧ code ≠ 206 ∧ code < 300
    · obtain ⟨d1, d2, d3, d4⟩ := c2
      subst d1
      simp [d2, d3, d4]
    · rw [if_neg c2]
      by_cases c3 : code < 300 ∧ r = true
      · rw [if_pos c3]
        have : code = 200 ∨ code = 206 := by
          by_cases d1 : code = 200
          · exact .inl d1
          · by_cases d2 : code = 206
            · exact .inr d2
            · exact absurd ⟨c3.2, d1, d2, c3.1⟩ c2
        simp [this]
      · rw [if_neg c3]; simp
theorem QCB {e : Env} (hb2 : (h1 ++ T)[k2]? = some (O.box [m, p, y, x])) (hb3 : (h1 ++ T)[k3]? = some (O.box [a, .int .i64 code, c, z])) (hb6 : (h1 ++ T)[k6]? = some (O.box (ctV C)))
    (hxa : Qf 2 x (flds la)) (hla : la.length < 100000) (hlna : ∀ f ∈ la, f.1.length ≤ 140737488355328) (hsma : Qk la < 100000)
    (hx : Qf 2 z (flds l)) (hl : l.length < 100000) (hln : ∀ f ∈ l, f.1.length ≤ 140737488355328) (hsm : Qk l < 100000) (e2 : e 2 = .ptr k2 0) (e3 : e 3 = .ptr k3 0) (e6 : e 6 = .ptr k6 0) :
    Qrf L (Pu h1 (.bool (if Qcz code (Qt la Qco) = false then false else if QaP l = true then false else QcR la code l C))) e (.ptr k2 0) (.ptr k3 0) (h1 ++ T) := by
  
  unfold Qrf
  rw [← QI1]
  have M := fun e' (a2 : e' 2 = V.ptr k2 0) (a3 : e' 3 = V.ptr k3 0) (a6 : e' 6 = V.ptr k6 0) => QEq (L := L) (e := e') hb2 hb3 hb6 hxa hla hlna hsma hx hl hln hsm a2 a3 a6
  generalize (if Qt la Qco = true ∧ code ≠ 200 ∧ code ≠ 206 ∧ code < 300 then false else if QaP l = true then false else QcR la code l C) = R at *
  by_cases c1 : code < 200
  · rw [if_pos (.inl c1)]
    simp (maxSteps := 4000000) only [vm, vl, Arg.get, Qb, reduceIte, Nat.reduceAdd, Nat.reduceLeDiff, hb3, c1, decide_true]
  by_cases c2 : code > 599
  · rw [if_pos (.inr (.inl c2))]
    simp (maxSteps := 4000000) only [vm, vl, Arg.get, Qb, reduceIte, Nat.reduceAdd, Nat.reduceLeDiff, hb3, c1, c2, decide_true, decide_false]
  by_cases c3 : code = 304
  · rw [if_pos (.inr (.inr c3))]
    simp (maxSteps := 4000000) only [vm, vl, Arg.get, Qb, reduceIte, Nat.reduceAdd, Nat.reduceLeDiff, Int.reduceLT, Int.reduceGT, hb3, c1, c2, c3, decide_true, decide_false]
  rw [if_neg (by omega)]
  simp (maxSteps := 4000000) only [vm, vl, Arg.get, Qb, reduceIte, Nat.reduceAdd, Nat.reduceLeDiff, hb3, c1, c2, c3, decide_true, decide_false]
  exact M _ (by exact e2) (by exact e3) (by exact e6)
theorem QDn (m : Bs) (la : List Fld) (code : Int) (l : List Fld) : Qds m la code l = if m ≠ [71, 69, 84] ∨ (ofC la).f 0 = true ∨ (ofC l).f 0 = true ∨ (ofC l).f 2 = true then false else if Qcz code (Qt la Qco) = false then false else if QaP l = true then false else QcR la code l (ofC l) := by
  unfold Qds QcR
  split
  · rfl
  · cases Qcz code (Qt la Qco) with
    | false => simp
    | true => cases QaP l <;> simp
theorem Qvi {hh : Heap} {A : Ct} {K : QK} (hk : K (.ptr hh.length 0) (hh ++ [.box (ctV A)])) :
    wi F L (.boxz [.bool false, .bool false, .bool false, .bool false, .bool false, .bool false, .bool false, .int .i64 0, .int .i64 0, .int .i64 0, .int .i64 0, .int .i64 0, .int .i64 0]) E0 hh fun v5 h => wi F L (.store 13 (.c v5) (.c (.agg (ctV A)))) E0 h fun _ h => K v5 h := by
  
  have e13 : ([.bool false, .bool false, .bool false, .bool false, .bool false, .bool false, .bool false, .int .i64 0, .int .i64 0, .int .i64 0, .int .i64 0, .int .i64 0, .int .i64 0] : List V).length = 13 := rfl
  have d13 : List.drop 13 ([.bool false, .bool false, .bool false, .bool false, .bool false, .bool false, .bool false, .int .i64 0, .int .i64 0, .int .i64 0, .int .i64 0, .int .i64 0, .int .i64 0] : List V) = [] := rfl
  generalize ([.bool false, .bool false, .bool false, .bool false, .bool false, .bool false, .bool false, .int .i64 0, .int .i64 0, .int .i64 0, .int .i64 0, .int .i64 0, .int .i64 0] : List V) = z at *
  have g5 : (hh ++ [O.box z])[hh.length]? = some (O.box z) := by rw [List.getElem?_append_right (Nat.le_refl _), Nat.sub_self]; rfl
  have e5 : ∀ X, (hh ++ [O.box z]).set hh.length X = hh ++ [X] := fun X => by rw [List.set_append_right _ _ (Nat.le_refl _), Nat.sub_self]; rfl
  have hA := QaM A
  simp (maxSteps := 4000000) only [vm, vl, Arg.get, cells, stor, splice, g5, e5, e13, d13, hA, List.append_nil]
  exact hk
theorem QyX {mb : Bs} {a0 a1 v12 v13 v14 v15 v16 : V} {k5 : Nat} (hT0 : T[0]? = some (O.box [.str mb, p, y, x])) (hT1 : T[1]? = some (O.box [a, .int .i64 code, c, z])) (hT5 : (h ++ T)[k5]? = some (O.box (ctV (ofC la))))
    (hxa : Qf 2 x (flds la)) (hla : la.length < 100000) (hlna : ∀ f ∈ la, f.1.length ≤ 140737488355328) (hsma : Qk la < 100000)
    (hx : Qf 2 z (flds l)) (hl : l.length < 100000) (hln : ∀ f ∈ l, f.1.length ≤ 140737488355328) (hsm : Qk l < 100000) :
    Qq6 L (Pu h (.bool (Qds mb la code l))) a0 a1 (.ptr h.length 0) (.ptr (h.length + 1) 0) (.ptr k5 0) v12 v13 v14 v15 v16 (.agg (ctV (ofC l))) (h ++ T) := by
  
  unfold Qq6
  refine Qvi ?_
  rw [QDn]
  have hb2 : (h ++ T ++ [O.box (ctV (ofC l))])[h.length]? = some (O.box [.str mb, p, y, x]) := Qp (by rw [List.getElem?_append_right (Nat.le_refl _), Nat.sub_self, hT0])
  have hb3 : (h ++ T ++ [O.box (ctV (ofC l))])[h.length + 1]? = some (O.box [a, .int .i64 code, c, z]) := Qp (by rw [List.getElem?_append_right (Nat.le_add_right _ _), Nat.add_sub_cancel_left, hT1])
  have hb5 : (h ++ T ++ [O.box (ctV (ofC l))])[k5]? = some (O.box (ctV (ofC la))) := Qp hT5
  have hb6 : (h ++ T ++ [O.box (ctV (ofC l))])[(h ++ T).length]? = some (O.box (ctV (ofC l))) := by rw [List.getElem?_append_right (Nat.le_refl _), Nat.sub_self]; rfl
  clear hT5
  generalize hk6 : (h ++ T).length = k6 at *
  rw [List.append_assoc] at *
  generalize hT' : T ++ [O.box (ctV (ofC l))] = T' at *
  have M := fun e' (a2 : e' 2 = V.ptr h.length 0) (a3 : e' 3 = V.ptr (h.length + 1) 0) (a6 : e' 6 = V.ptr k6 0) => QCB (L := L) (e := e') hb2 hb3 hb6 hxa hla hlna hsma hx hl hln hsm a2 a3 a6
  generalize (if Qcz code (Qt la Qco) = false then false else if QaP l = true then false else QcR la code l (ofC l)) = R at *
  have hcA := QaM (ofC la)
  have hcC := QaM (ofC l)
  have a0' : (ctV (ofC la)).getD 0 (.tup []) = .bool ((ofC la).f 0) := rfl
  have c0 : (ctV (ofC l)).getD 0 (.tup []) = .bool ((ofC l).f 0) := rfl
  have c2 : (ctV (ofC l)).getD 2 (.tup []) = .bool ((ofC l).f 2) := rfl
  clear hT' hk6
  generalize ctV (ofC la) = A at *
  generalize ctV (ofC l) = C at *
  generalize (ofC la).f 0 = b1 at *
  generalize (ofC l).f 0 = b2 at *
  generalize (ofC l).f 2 = b3 at *
  by_cases hm : mb = [71, 69, 84]
  case neg =>
    rw [if_pos (.inl hm)]
    have ne : (mb == [71, 69, 84]) = false := by simpa using hm
    simp (maxSteps := 4000000) only [vm, vl, Arg.get, Qb, reduceIte, Nat.reduceAdd, Nat.reduceLeDiff, hb2, ne, Bool.not_false]
  subst hm
  cases b1 with
  | true =>
    rw [if_pos (by simp)]
    simp (maxSteps := 4000000) only [vm, vl, Arg.get, Qb, reduceIte, Nat.reduceAdd, Nat.reduceLeDiff, beq_self_eq_true, hb2, hb5, hcA, a0', bne_self_eq_false]
  | false =>
    cases b2 with
    | true =>
      rw [if_pos (by simp)]
      simp (maxSteps := 4000000) only [vm, vl, Arg.get, Qb, reduceIte, Nat.reduceAdd, Nat.reduceLeDiff, beq_self_eq_true, hb2, hb5, hcA, a0', hb6, hcC, c0, bne_self_eq_false]
    | false =>
      cases b3 with
      | true =>
        rw [if_pos (by simp)]
        simp (maxSteps := 4000000) only [vm, vl, Arg.get, Qb, reduceIte, Nat.reduceAdd, Nat.reduceLeDiff, beq_self_eq_true, hb2, hb5, hcA, a0', hb6, hcC, c0, c2, bne_self_eq_false]
      | false =>
        rw [if_neg (by simp)]
        simp (maxSteps := 4000000) only [vm, vl, Arg.get, Qb, reduceIte, Nat.reduceAdd, Nat.reduceLeDiff, beq_self_eq_true, hb2, hb5, hcA, a0', hb6, hcC, c0, c2, bne_self_eq_false]
        exact M _ rfl rfl rfl
theorem Qyq {mb : Bs} {a0 a1 v12 v13 : V} (hT0 : T[0]? = some (O.box [.str mb, p, y, x])) (hT1 : T[1]? = some (O.box [a, .int .i64 code, c, z]))
    (hxa : Qf 2 x (flds la)) (hla : la.length < 100000) (hlna : ∀ f ∈ la, f.1.length ≤ 140737488355328) (hsma : Qk la < 100000)
    (hx : Qf 2 z (flds l)) (hl : l.length < 100000) (hln : ∀ f ∈ l, f.1.length ≤ 140737488355328) (hsm : Qk l < 100000) :
    Qqh L (Pu h (.bool (Qds mb la code l))) a0 a1 (.ptr h.length 0) (.ptr (h.length + 1) 0) v12 v13 (.agg (ctV (ofC la))) (h ++ T) := by
  
  unfold Qqh
  refine Qvi ?_
  have hb3 : (h ++ T ++ [O.box (ctV (ofC la))])[h.length + 1]? = some (O.box [a, .int .i64 code, c, z]) := Qp (by rw [List.getElem?_append_right (Nat.le_add_right _ _), Nat.add_sub_cancel_left, hT1])
  have hb5 : ∀ u, (h ++ T ++ [O.box (ctV (ofC la))] ++ u)[(h ++ T).length]? = some (O.box (ctV (ofC la))) := fun u => Qp (by rw [List.getElem?_append_right (Nat.le_refl _), Nat.sub_self]; rfl)
  generalize (h ++ T).length = k5 at *
  have hT1' : (T ++ [O.box (ctV (ofC la))])[1]? = some (O.box [a, .int .i64 code, c, z]) := Qp hT1
  simp (maxSteps := 4000000) only [vm, vl, Arg.get, Qb, reduceIte, Nat.reduceAdd, hb3, hT1']
  refine Cf.pu (QlW hx hl hln hsm) fun u => ?_
  have q := hb5 u
  rw [List.append_assoc, List.append_assoc] at q ⊢
  exact QyX (by rw [List.getElem?_append_left (List.getElem?_eq_some_iff.1 hT0).1]; exact hT0) (by rw [List.getElem?_append_left (List.getElem?_eq_some_iff.1 hT1).1]; exact hT1) q hxa hla hlna hsma hx hl hln hsm
theorem Qwd {mb : Bs} (hxa : Qf 2 x (flds la)) (hla : la.length < 100000) (hlna : ∀ f ∈ la, f.1.length ≤ 140737488355328) (hsma : Qk la < 100000)
    (hx : Qf 2 z (flds l)) (hl : l.length < 100000) (hln : ∀ f ∈ l, f.1.length ≤ 140737488355328) (hsm : Qk l < 100000) :
    Cf F L Qfz [.agg [.str mb, p, y, x], .agg [a, .int .i64 code, c, z]] h (Pu h (.bool (Qds mb la code l))) := by
  refine QEu ?_
  simp only [Qmh]
  
  simp (maxSteps := 4000000) only [vm, vl, Arg.get, cells, stor, Qb, reduceIte, Nat.reduceAdd]
  refine Cf.pu (QlW hxa hla hlna hsma) fun u => ?_
  rw [List.append_assoc]
  exact Qyq rfl rfl hxa hla hlna hsma hx hl hln hsm
end Go.Proofs.YtaahialaegfjgaaGreatDoor.Vh
end
section
set_option linter.unusedVariables false
set_option linter.unusedSimpArgs false
namespace Go.Proofs.YtaahialaegfjgaaGreatDoor.Vh
open Go.Vm Go.Vt
attribute [local congr] QF QI QE QG QD QJ
variable {L : QL} {h : Heap}
theorem QCF {code s g : Int} {c : Ct} : Qu E0 [.int .i64 0, .bool false, .bool false, .bool false, .bool false, .bool false, .bool false, .bool false, .int .i64 0, .int .i64 0, .int .i64 0, .int .i64 0, .int .i64 0, .int .i64 0, .int .i64 0, .int .i64 0, .int .i64 0, .int .i64 0, .int .i64 0, .int .i64 0, .str []] [(0, 1, .c (.int .i64 code)), (1, 13, .c (.agg (ctV c))), (18, 1, .c (.int .i64 s)), (19, 1, .c (.int .i64 g)), (17, 1, .c (.int .i64 (-1)))] = some (mM (.int .i64 code) (ctV c) (.int .i64 0) (.int .i64 0) (.int .i64 0) (.int .i64 (-1)) (.int .i64 s) (.int .i64 g) (.str [])) := by
  simp [Qu, cells, stor, Arg.get, splice, ctV, mM]
theorem QBa {x a b c : V} {code s g : Int} {l : List Fld} {C : Ct} {Z : List V} {u : Heap} (hZ : Z.length = 21) (hx : Qf 2 x (flds l)) (hl : l.length < 100000) (hln : ∀ f ∈ l, f.1.length ≤ 140737488355328) (hsm : Qk l < 100000) :
    QoX L (Pu h (.agg (mM (.int .i64 code) (ctV C) (.int .i64 (Qac l Qbs)) (.int .i64 (QaX l)) (.int .i64 (Qac l nLM)) (.int .i64 (QV l)) (.int .i64 s) (.int .i64 g) (.str (Qaf l))))) (.int .i64 s) (.int .i64 g) (.ptr h.length 0) (.ptr (h.length + 1) 0) (.int .i64 code) (.agg (ctV C)) (h ++ O.box [a, b, c, x] :: O.box Z :: u) := by
  
  unfold QoX
  rw [QoM, QCF]
  have e2 : h.length + (u.length + 1 + 1) = h.length + (2 + u.length) := by omega
  have gj : (h ++ O.box [a, b, c, x] :: O.box Z :: (u ++ [O.box z21]))[h.length + (2 + u.length)]? = some (O.box z21) := (Qkg (ms := z21) hZ).gj
  have zl : z21.length = 21 := rfl
  have zd : List.drop 21 z21 = [] := rfl
  have m0 : MI h x (2 + u.length) _ _ := (Qkg (h := h) (u := u) (a := a) (b := b) (c := c) (ms := z21) hZ).put (mM (.int .i64 code) (ctV C) (.int .i64 0) (.int .i64 0) (.int .i64 0) (.int .i64 (-1)) (.int .i64 s) (.int .i64 g) (.str []))
  have ez : ([.int .i64 0, .bool false, .bool false, .bool false, .bool false, .bool false, .bool false, .bool false, .int .i64 0, .int .i64 0, .int .i64 0, .int .i64 0, .int .i64 0, .int .i64 0, .int .i64 0, .int .i64 0, .int .i64 0, .int .i64 0, .int .i64 0, .int .i64 0, .str []] : List V) = z21 := rfl
  rw [ez]
  rw [List.set_append_right _ _ (Nat.le_add_right _ _), Nat.add_sub_cancel_left] at m0
  obtain ⟨a1, b1, c1, g0⟩ := m0.g0
  simp (maxSteps := 4000000) only [vm, vl, Arg.get, cells, stor, Qb, splice, reduceIte, Nat.reduceAdd, Int.reduceNeg, e2, gj, zl, zd, QbW, List.append_nil, g0]
  refine Cf.pu (Qk6 (name := Qnl) hx hl hln (by simp [Qnl]) hsm) fun u1 => ?_
  rw [Qo7 QwY]
  exact Qxh m0.more hx hl hln hsm
theorem QvW {x a c : V} {code s g : Int} {l : List Fld} (hx : Qf 2 x (flds l)) (hl : l.length < 100000) (hln : ∀ f ∈ l, f.1.length ≤ 140737488355328) (hsm : Qk l < 100000) :
    Cf F L Qfk [.agg [a, .int .i64 code, c, x], .int .i64 s, .int .i64 g] h (Pu h (.agg (mM (.int .i64 code) (ctV (ofC l)) (.int .i64 (Qac l Qbs)) (.int .i64 (QaX l)) (.int .i64 (Qac l nLM)) (.int .i64 (QV l)) (.int .i64 s) (.int .i64 g) (.str (Qaf l))))) := by
  refine QEL ?_
  simp only [Qo6]
  
  simp (maxSteps := 4000000) only [vm, vl, Arg.get, cells, stor, Qb, reduceIte, Nat.reduceAdd, Nat.reduceLeDiff]
  refine Cf.pu (QlW hx hl hln hsm) fun u => ?_
  simp (maxSteps := 4000000) only [vm, vl]
  exact QBa rfl hx hl hln hsm
theorem QAO {ms Z : List V} {B1 : O} {code s g : Int} {y12 y15 : V} {lo lm : List Fld} {hh : Heap} (hm : ms.getD 0 (.tup []) = .int .i64 code) (hm1 : 1 ≤ ms.length) (hZ : Z.length = 21)
    (G : Grow 2 (h ++ [.box ms, B1, .box Z]) hh y15 (flds lo)) (hy : Qf 2 y12 (flds lm)) (hl : (lo ++ lm).length < 100000) (hsm : Qk (lo ++ lm) < 100000) :
    Qkx L (Qdk h code s g (lo ++ lm)) (.int .i64 s) (.int .i64 g) (.ptr h.length 0) (.ptr (h.length + 2) 0) y12 y15 hh := by
  
  unfold Qkx
  rw [List.length_append] at hl
  obtain ⟨x', h'', ha, O2⟩ := G.ow.app (bytes := 32) hy (by rw [Q7, Q7]; omega)
  rw [Qsx] at O2
  obtain ⟨t, rfl⟩ := O2.1
  have hb0 : (h ++ [O.box ms, B1, O.box Z] ++ t)[h.length]? = some (O.box ms) := Qp (by rw [List.getElem?_append_right (Nat.le_refl _), Nat.sub_self]; rfl)
  have hb2 : ∀ u, (h ++ [O.box ms, B1, O.box Z] ++ t ++ u)[h.length + 2]? = some (O.box Z) := fun u => Qp (Qp (by rw [List.getElem?_append_right (Nat.le_add_right _ _), Nat.add_sub_cancel_left]; rfl))
  have O3 := fun u => QuE (j := 2) (O2.more (t := u)) (by simp) (.box (Q9 code s g (lo ++ lm)))
  have hb3 : ∀ u X, ((h ++ [O.box ms, B1, O.box Z] ++ t ++ u).set (h.length + 2) X)[h.length + 2]? = some X := fun u X => List.getElem?_set_self (by simp)
  have S := fun hh => QvW (L := L) (h := hh) (a := .int .i64 0) (c := .str []) (code := code) (s := s) (g := g) O2.list (by rw [List.length_append]; exact hl) (QbV hsm) hsm
  have hl2 := O2.list
  have Zd : List.drop 21 Z = [] := List.drop_eq_nil_of_le (by omega)
  generalize hH : h ++ [O.box ms, B1, O.box Z] ++ t = H at *
  rcases (show x' = .nsl ∨ ∃ o, x' = .sl 2 o (flds (lo ++ lm)) from hl2.imp (fun h => h.2) id) with rfl | ⟨o, rfl⟩
  all_goals
    simp (maxSteps := 4000000) only [vm, vl, Arg.get, cells, stor, Qa, Qc, Qb, QA, Vm.part, Qu, splice, reduceIte, Nat.reduceEqDiff, Nat.reduceAdd, Nat.reduceLeDiff, ha, hb0, hm, hm1]
    refine Cf.pu (S _) fun u => ?_
    have e1 := Qdz code s g (lo ++ lm)
    have e2 := Qga code s g (lo ++ lm)
    have O4 := O3 u
    rw [show mM (.int .i64 code) (ctV (ofC (lo ++ lm))) (.int .i64 (Qac (lo ++ lm) Qbs)) (.int .i64 (QaX (lo ++ lm))) (.int .i64 (Qac (lo ++ lm) nLM)) (.int .i64 (QV (lo ++ lm))) (.int .i64 s) (.int .i64 g) (.str (Qaf (lo ++ lm))) = Q9 code s g (lo ++ lm) from rfl]
    unfold Qdk
    generalize Q9 code s g (lo ++ lm) = R at *
    simp (maxSteps := 4000000) only [vm, vl, reduceIte, hb2, e1, e2, hZ, Zd, List.append_nil, hb3]
    exact ⟨_, rfl, O4⟩
theorem QJO {ms Z : List V} {B1 : O} {code s g : Int} {y12 x : V} {l lm : List Fld} {H hh : Heap} {e : Env} (hm : ms.getD 0 (.tup []) = .int .i64 code) (hm1 : 1 ≤ ms.length) (hZ : Z.length = 21) (hH : H = h ++ [.box ms, B1, .box Z])
    (hx : Qf 2 x (flds l)) (hy : Qf 2 y12 (flds lm)) (hl : l.length + lm.length < 100000) (hsm : Qk l + Qk lm < 100000) (he : ∃ t, hh = H ++ t)
    (e3 : e 3 = .int .i64 s) (e4 : e 4 = .int .i64 g) (e5 : e 5 = .ptr h.length 0) (e10 : e 10 = .ptr (h.length + 2) 0) (e12 : e 12 = y12) (e15 : e 15 = .nsl) (e1 : e 1 = x) (e16 : e 16 = .int .i64 0) :
    Wl F L Qoq (QpR L (Qdk h code s g (l.filter (fun f => !Qt lm f.1) ++ lm))) e hh := by
  refine Qwo (fun n e h' => ∃ i, n = l.length - i ∧ i ≤ l.length ∧ e 3 = .int .i64 s ∧ e 4 = .int .i64 g ∧ e 5 = .ptr h.length 0 ∧ e 10 = .ptr (h.length + 2) 0 ∧ e 12 = y12 ∧ e 1 = x ∧ e 16 = .int .i64 i ∧ Grow 2 H h' (e 15) (flds ((l.take i).filter (fun f => !Qt lm f.1)))) ?_ (n := l.length) ⟨0, by simp, by simp, e3, e4, e5, e10, e12, e1, e16, by rw [e15]; obtain ⟨t, rfl⟩ := he; exact Grow.nil⟩
  clear e3 e4 e5 e10 e12 e15 e1 e16 he hh
  rintro n e h' ⟨i, rfl, hi, e3, e4, e5, e10, e12, e1, e16, G⟩
  simp only [QlA]
  
  have l1 := fun {K : QK} {h : Heap} => hx.len (F := F) (L := L) (e := E0) (K := K) (h := h)
  simp only [Q7] at l1
  generalize e15 : e 15 = x15 at *
  rcases QbX ([], []) hi with ⟨hn, rfl, hd⟩ | ⟨hl1, hl2, hd, htk⟩
  · rw [List.take_of_length_le (Nat.le_refl _)] at G
    simp (maxSteps := 4000000) only [vm, vl, Arg.get, e1, e3, e4, e5, e10, e12, e15, e16, l1, hn]
    subst hH
    have lf := List.length_filter_le (fun f : Fld => !Qt lm f.1) l
    have sf := QgR l (fun f => !Qt lm f.1)
    exact QAO hm hm1 hZ G hy (by rw [List.length_append]; omega) (by rw [QuC]; omega)
  · have w := Qe (x := (i : Int) + 1) (by omega) (by omega)
    have i1 := fun {K : QK} {h : Heap} => hx.at (F := F) (L := L) (e := E0) (K := K) (h := h) (i := i) (by rw [Q7]; exact hl2)
    have a1 := Qdf hl2
    have hmem : l.getD i ([], []) ∈ l := Qez hl2
    have hfl := Qkm hmem
    obtain ⟨⟨t0, rfl⟩, _⟩ := id G
    generalize hf : l.getD i ([], []) = f at *
    simp (maxSteps := 4000000) only [vm, vl, Arg.get, cells, Qb, reduceIte, Nat.reduceAdd, Nat.reduceLeDiff, e1, e3, e4, e5, e10, e12, e15, e16, l1, hl1, i1, a1, Q1, QtN]
    refine Cf.pu (Qkt (name := f.1) hy (by omega) (QbV (by omega)) (by omega) (by omega)) fun t1 => ?_
    have G2 := G.more (t := t1)
    cases hp : Qt lm f.1 with
    | true =>
      have ef : (l.take (i + 1)).filter (fun f => !Qt lm f.1) = (l.take i).filter (fun f => !Qt lm f.1) := by
        rw [htk, List.filter_append]; simp [hp]
      simp (maxSteps := 4000000) only [vm, vl, Arg.get, cells, stor, Qb, reduceIte, Nat.reduceEqDiff, QnF, Qi3, Bool.not_true, w]
      refine ⟨l.length - (i + 1), by omega, i + 1, rfl, hl2, e3, e4, e5, e10, e12, e1, rfl, ?_⟩
      rw [ef]
      simp only [e15]
      simpa using G2
    | false =>
      have ef : (l.take (i + 1)).filter (fun f => !Qt lm f.1) = (l.take i).filter (fun f => !Qt lm f.1) ++ [f] := by
        rw [htk, List.filter_append]; simp [hp]
      have lf := List.length_filter_le (fun f : Fld => !Qt lm f.1) (l.take i)
      rw [List.length_take] at lf
      obtain ⟨x', h'', ha, G3⟩ := G2.app (bytes := 32) (y := Q1 f) (by rw [Q7]; omega)
      rw [QjY, ← ef] at G3
      simp only [Q1] at ha
      rw [List.append_assoc] at ha
      simp (maxSteps := 4000000) only [vm, vl, Arg.get, cells, stor, Qb, reduceIte, Nat.reduceEqDiff, Nat.reduceAdd, QnF, Qi3, Bool.not_false, List.append_assoc, i1, a1, Q1, e15, ha, w]
      refine ⟨l.length - (i + 1), by omega, i + 1, rfl, hl2, e3, e4, e5, e10, e12, e1, rfl, ?_⟩
      exact G3
theorem QwI {i : Nat} (hi : i < 5) : (strs Qa8).getD i (.tup []) = .str (Qa8.getD i []) ∧ (Qa8.getD i []).length ≤ 100 ∧ Qa8.take (i + 1) = Qa8.take i ++ [Qa8.getD i []] := by
  rcases (show i = 0 ∨ i = 1 ∨ i = 2 ∨ i = 3 ∨ i = 4 by omega) with rfl | rfl | rfl | rfl | rfl <;> exact ⟨rfl, by decide, rfl⟩
theorem QD9 (r : List Fld) : Qa8.foldl without (Qbh r) = Qfu r := by
  unfold Qfu
  rw [QfS, QfS]
  exact List.filter_congr fun f _ => Qtm Qxq.symm f
theorem QJr {ms : List V} {code s g : Int} {a b c x z : V} {l lr : List Fld} (hm : ms.getD 0 (.tup []) = .int .i64 code) (hm1 : 1 ≤ ms.length)
    (hx : Qf 2 x (flds l)) (hl : l.length < 10000) (hsm : Qk l < 10000) (hz : Qf 2 z (flds lr)) (hlr : lr.length < 10000) (hsr : Qk lr < 10000) :
    Cf F L QfB [.agg ms, x, .agg [a, b, c, z], .int .i64 s, .int .i64 g] h (Qdk h code s g (Qdv l lr)) := by
  refine QxM ?_
  simp only [Qnf]
  
  simp (maxSteps := 4000000) only [vm, vl, Arg.get, cells, stor, Qb, reduceIte, Nat.reduceAdd]
  have jc := Qbd lr Qa7
  refine (QE8 hz (by omega) (QbV (by omega)) (by omega) (by omega)).mono fun v h' G => ?_
  obtain ⟨t, rfl⟩ := G.1
  have hL := G.list
  clear G
  generalize hZ : ([.int .i64 0, .bool false, .bool false, .bool false, .bool false, .bool false, .bool false, .bool false, .int .i64 0, .int .i64 0, .int .i64 0, .int .i64 0, .int .i64 0, .int .i64 0, .int .i64 0, .int .i64 0, .int .i64 0, .int .i64 0, .int .i64 0, .int .i64 0, .str []] : List V) = Z
  have hZ1 : Z.length = 21 := by rw [← hZ]; rfl
  generalize hB1 : O.box [a, b, c, z] = B1
  obtain ⟨H, hH⟩ : ∃ H, H = h ++ [O.box ms, B1, O.box Z] := ⟨_, rfl⟩
  simp (maxSteps := 4000000) only [vm, vl, Arg.get, cells, stor, Qtc]
  refine QIJ (fun n e h' => ∃ i, n = 5 - i ∧ i ≤ 5 ∧ e 1 = x ∧ e 3 = .int .i64 s ∧ e 4 = .int .i64 g ∧ e 5 = .ptr h.length 0 ∧ e 10 = .ptr (h.length + 2) 0 ∧ e 13 = .sl 1 .full (strs Qa8) ∧ e 14 = .int .i64 i ∧ Qf 2 (e 12) (flds ((Qa8.take i).foldl without (Qbh lr))) ∧ ∃ t, h' = H ++ t) ?_ (n := 5) ⟨0, by simp, by simp, rfl, rfl, rfl, rfl, rfl, rfl, rfl, hL, t, by rw [hH]; simp⟩
  clear hL
  rintro n e h' ⟨i, rfl, hi, e1, e3, e4, e5, e10, e13, e14, hL, t1, rfl⟩
  simp only [Qla]
  generalize e12 : e 12 = y12 at *
  have f4 : (strs Qa8).length = 5 := rfl
  by_cases hl1 : (i : Int) < 5
  · have hi5 : i < 5 := by omega
    have i0 : (0 : Int) ≤ (i : Int) := by omega
    have w := Qe (x := (i : Int) + 1) (by omega) (by omega)
    obtain ⟨f1, f2, f3⟩ := QwI hi5
    have fl := QjV (Qa8.take i) (Qbh lr)
    have fs' : (Qbh lr).length ≤ lr.length := List.length_filter_le _ _
    have ss := Nat.le_trans (QlC (Qa8.take i) (Qbh lr)) (QgR lr _)
    have hl1' : (i : Int) < ((5 : Nat) : Int) := hl1
    generalize strs Qa8 = SL at *
    generalize Qa8.getD i [] = nm at *
    simp (maxSteps := 4000000) only [vm, vl, Arg.get, cells, Qb, reduceIte, e12, e13, e14, hl1, hl1', hi5, i0, f1, f4, Int.toNat_natCast, decide_true, QtX]
    refine (Qt0 (name := nm) hL (by omega) (QbV (by omega)) (by omega)).mono fun v h2 G2 => ?_
    obtain ⟨⟨t2, rfl⟩, _⟩ := id G2
    simp (maxSteps := 4000000) only [vm, vl, Arg.get, reduceIte, Nat.reduceEqDiff, QtC, w]
    refine ⟨5 - (i + 1), by omega, i + 1, rfl, by omega, e1, e3, e4, e5, e10, e13, rfl, ?_, t1 ++ t2, by simp⟩
    rw [f3, List.foldl_append]
    exact G2.list
  · have hi5 : i = 5 := by omega
    subst hi5
    rw [show Qa8.take 5 = Qa8 from rfl, QD9] at hL
    have hl1' : ¬ ((5 : Nat) : Int) < ((5 : Nat) : Int) := by omega
    generalize strs Qa8 = SL at *
    simp (maxSteps := 4000000) only [vm, vl, Arg.get, Nat.reduceSub, Int.reduceLT, e1, e13, e14, f4, hl1, hl1', decide_false, Qpa]
    have fl := QmH lr
    have fs := Qv8 lr
    exact QJO hm hm1 hZ1 hH hx hL (by omega) (by omega) ⟨t1, rfl⟩ (by exact e3) (by exact e4) (by exact e5) (by exact e10) (by exact e12) rfl (by exact e1) rfl
end Go.Proofs.YtaahialaegfjgaaGreatDoor.Vh
end
section
set_option linter.unusedVariables false
set_option linter.unusedSimpArgs false
namespace Go.Proofs.YtaahialaegfjgaaGreatDoor.Vh
open Go.Vm Go.Vt
attribute [local congr] QF QI QE QG QD QJ
variable {L : QL} {h : Heap}
theorem Qu7 {x : V} {l : List Fld} (hx : Qf 2 x (flds l)) (hl : l.length ≤ 140737488351232) (hz : ∀ f ∈ l, f.1.length ≤ 140737488351232 ∧ f.2.length ≤ 140737488351232) :
    Cf F L QeG [x] h (Pu h (.bool (decide (20 * l.length + Qk l < 3000)))) := by
  refine QC4 ?_
  simp only [Qlx]
  have l1 := fun {K : QK} {h : Heap} => hx.len (F := F) (L := L) (e := E0) (K := K) (h := h)
  simp only [Q7] at l1
  have w20 := Qe (x := 20 * (l.length : Int)) (by omega) (by omega)
  simp (maxSteps := 4000000) only [vm, vl, Arg.get, QgK, Qip, QhJ, l1, w20]
  refine QCb (fun n e h' => ∃ i, n = l.length - i ∧ i ≤ l.length ∧ e 0 = x ∧ e 3 = .int .i64 ((20 * l.length + Qk (l.take i) : Nat)) ∧ e 4 = .int .i64 i ∧ ∃ t, h' = h ++ t) ?_ (n := l.length) ⟨0, by simp, by simp, rfl, by simp [upd, Qk], rfl, [], by simp⟩
  rintro n e h' ⟨i, rfl, hi, e0, e3, e4, t, rfl⟩
  simp only [QlY]
  generalize hS : 20 * l.length + Qk (l.take i) = S at *
  have hmono := Qri l i
  rcases QbX ([], []) hi with ⟨hn, rfl, hd⟩ | ⟨hl1, hl2, hd, htk⟩
  · rw [List.take_of_length_le (Nat.le_refl _)] at hS
    have d : decide ((S : Int) < 3000) = decide (20 * l.length + Qk l < 3000) := by rw [hS]; exact decide_eq_decide.2 (by omega)
    simp (maxSteps := 4000000) only [vm, vl, Arg.get, cells, Qb, reduceIte, reduceCtorEq, Nat.reduceEqDiff, Nat.reduceAdd, QgK, Qip, QhJ, e0, e3, e4, hn, l1, d]
  · by_cases hs : (S : Int) < 3000
    · have w := Qe (x := (i : Int) + 1) (by omega) (by omega)
      have i1 := fun {K : QK} {h : Heap} => hx.at (F := F) (L := L) (e := E0) (K := K) (h := h) (i := i) (by rw [Q7]; exact hl2)
      have a1 := Qdf hl2
      have hmem : l.getD i ([], []) ∈ l := by
        rw [List.getD_eq_getElem?_getD, List.getElem?_eq_getElem hl2]; exact List.getElem_mem _
      have hst := QwT hl2
      have hzf := hz _ hmem
      generalize hf : l.getD i ([], []) = f at *
      have w1 := Qe (x := (S : Int) + f.1.length) (by omega) (by omega)
      have w2 := Qe (x := (S : Int) + f.1.length + f.2.length) (by omega) (by omega)
      simp (maxSteps := 4000000) only [vm, vl, Arg.get, cells, Qb, reduceIte, reduceCtorEq, Nat.reduceEqDiff, Nat.reduceAdd, Nat.reduceLeDiff, QgK, Qip, QhJ, e0, e3, e4, l1, hl1, hs, i1, a1, Q1, w, w1, w2]
      exact ⟨l.length - (i + 1), by omega, i + 1, rfl, hl2, by rw [hst]; congr 1; omega, rfl, t, rfl⟩
    · have d : decide ((S : Int) < 3000) = false := by simpa using hs
      have d2 : decide (20 * l.length + Qk l < 3000) = false := by simp; omega
      simp (maxSteps := 4000000) only [vm, vl, Arg.get, cells, Qb, reduceIte, reduceCtorEq, Nat.reduceEqDiff, Nat.reduceAdd, QgK, Qip, QhJ, e0, e3, e4, hl1, hs, l1, d, d2]
end Go.Proofs.YtaahialaegfjgaaGreatDoor.Vh
end
section
set_option linter.unusedVariables false
set_option linter.unusedSimpArgs false
namespace Go.Proofs.YtaahialaegfjgaaGreatDoor.Vh
open Go.Vm Go.Vt
theorem QyR {B : Nat} {G : Gh} {w : World} {x : V} {l : List Bs} {v : Value} (hx : Qf 1 x (strs l)) (h : Rv B G w x v) : (l = [] ∧ ∃ a cap, v = .slice a 0 cap) ∨ (l ≠ [] ∧ ∃ b o cap, v = .slice (some ⟨b, o, none⟩) l.length cap ∧ l.length ≤ cap ∧ ∀ (j : Nat) s, l[j]? = some s → w.cell? ⟨b, o + j, none⟩ = some (.string ⟨s.toArray⟩)) := by
  rcases hx with ⟨he, rfl⟩ | ⟨own, rfl⟩
  · have : l = [] := by simpa [strs] using he
    subst this
    cases h
    exact .inl ⟨rfl, _, _, rfl⟩
  · generalize he : strs l = es at h
    cases h with
    | sl vs hsz hsp hcap hc h1 hr hfull htip =>
      rename_i a cap
      subst he
      rcases List.eq_nil_or_concat l with rfl | hcc
      · exact .inl ⟨rfl, _, _, rfl⟩
      · have hne : l ≠ [] := by rintro rfl; obtain ⟨l', b, h⟩ := hcc; simp at h
        have ha := hsp (by simpa [strs] using hne)
        have hf : flat (strs l) = strs l := QCQ (by intro e he; obtain ⟨s, _, rfl⟩ := List.mem_map.1 he; rfl)
        obtain ⟨ab, ao, asp⟩ := a
        simp only at ha; subst ha
        refine .inr ⟨hne, ab, ao, cap, by rw [QW], by rwa [QW] at hcap, fun j s hj => ?_⟩
        have hjl := (List.getElem?_eq_some_iff.1 hj).1
        have h2 := (hc j (by rw [hf, QW]; exact hjl)).2
        have h3 := hr j (.str s) (by rw [hf]; simp [strs, hj])
        simp only at h2
        generalize hv : vs j = vj at h2 h3
        cases h3
        exact h2
def LJoin : FuncId → List V → V → Prop := fun f args v => f = Qqg ∧ ∃ (x : V) (l : List Bs), Qf 1 x (strs l) ∧ l.length ≤ 140737488355328 ∧ (Qm l).length ≤ 140737488355328 ∧ args = [x, .str [44, 32]] ∧ v = .str (Qm l)
theorem Qzn (w0 : World) : QhF Tryz.prog w0 LJoin := by
  rintro f args v ⟨rfl, x, l, hx, hl, hj, rfl, rfl⟩
  refine ⟨by kernel_rfl, QqJ fun B G h w vs hr hb hv => ?_⟩
  obtain ⟨a, b, rfl, ha, hs⟩ := QsW hv
  cases hs
  rcases QyR hx ha with ⟨rfl, a', cap, rfl⟩ | ⟨hne, bk, o, cap, rfl, hcap, hc⟩
  · refine (Tryz.strings_Join_none a' cap _ w).mono fun e w' ⟨h1, h2⟩ => ?_
    subst h2
    exact ⟨_, h1, .str [], Go.RowKit.Below.refl ..⟩
  · have hlt : bk < w.heap.size := by
      obtain ⟨s, hs⟩ : ∃ s, l[0]? = some s := by
        cases l with
        | nil => exact absurd rfl hne
        | cons s _ => exact ⟨s, rfl⟩
      exact World.block_lt_of_cell? w _ (hc 0 s hs)
    have hm : (l.map fun s : Bs => (⟨s.toArray⟩ : ByteArray)).map (fun x => x.data.toList) = l := by rw [List.map_map]; exact List.map_id' l
    have := Tryz.strings_Join bk o cap (l.map fun s => ⟨s.toArray⟩) ⟨[44, 32].toArray⟩ w (by
        intro j x hx
        rw [List.getElem?_map] at hx
        obtain ⟨s, h1, rfl⟩ := Option.map_eq_some_iff.1 hx
        exact hc j s h1) hlt (by simpa using hl) (by simpa using hcap) (by rw [hm]; exact hj)
    rw [hm, List.length_map] at this
    exact this.mono fun e w' ⟨h1, h2⟩ => ⟨_, h1, .str _, h2⟩
theorem QzM {L : QL} (hL : ∀ f a v, LJoin f a v → L f a v) : Qad L := by
  intro x l h hx hl hj
  exact wlib (hL _ _ _ ⟨rfl, x, l, hx, by omega, hj, rfl, rfl⟩) ⟨rfl, [], by simp⟩
end Go.Proofs.YtaahialaegfjgaaGreatDoor.Vh
end
section
set_option linter.unusedVariables false
set_option linter.unusedSimpArgs false
namespace Go.Proofs.YtaahialaegfjgaaGreatDoor.Vh
open Go.Vm Go.Vt
attribute [local congr] QF QI QE QG QD QJ
variable {L : QL} {h : Heap}
theorem QrT (code s g : Int) (l : List Fld) : eqV (.agg [.i, .b, .b, .b, .b, .b, .b, .b, .i, .i, .i, .i, .i, .i, .i, .i, .i, .i, .i, .i, .s]) (.agg (Q9 code s g l)) (.agg (Q9 code s g l)) = some true := by
  unfold Q9
  generalize ofC l = c
  simp [eqV, Qae, QaF, mM, ctV]
theorem Qyy : Qds [71, 69, 84] [] 200 [] = true := by decide +kernel
theorem Qxg {hh : Heap} {ms : List V} {K : QK} (hm : ms.length = 21) (hk : K (.ptr hh.length 0) (hh ++ [.box ms])) :
    wi F L (.boxz [.int .i64 0, .bool false, .bool false, .bool false, .bool false, .bool false, .bool false, .bool false, .int .i64 0, .int .i64 0, .int .i64 0, .int .i64 0, .int .i64 0, .int .i64 0, .int .i64 0, .int .i64 0, .int .i64 0, .int .i64 0, .int .i64 0, .int .i64 0, .str []]) E0 hh fun v5 h => wi F L (.store 21 (.c v5) (.c (.agg ms))) E0 h fun _ h => K v5 h := by
  
  have e13 : ([.int .i64 0, .bool false, .bool false, .bool false, .bool false, .bool false, .bool false, .bool false, .int .i64 0, .int .i64 0, .int .i64 0, .int .i64 0, .int .i64 0, .int .i64 0, .int .i64 0, .int .i64 0, .int .i64 0, .int .i64 0, .int .i64 0, .int .i64 0, .str []] : List V).length = 21 := rfl
  have d13 : List.drop 21 ([.int .i64 0, .bool false, .bool false, .bool false, .bool false, .bool false, .bool false, .bool false, .int .i64 0, .int .i64 0, .int .i64 0, .int .i64 0, .int .i64 0, .int .i64 0, .int .i64 0, .int .i64 0, .int .i64 0, .int .i64 0, .int .i64 0, .int .i64 0, .str []] : List V) = [] := rfl
  generalize ([.int .i64 0, .bool false, .bool false, .bool false, .bool false, .bool false, .bool false, .bool false, .int .i64 0, .int .i64 0, .int .i64 0, .int .i64 0, .int .i64 0, .int .i64 0, .int .i64 0, .int .i64 0, .int .i64 0, .int .i64 0, .int .i64 0, .int .i64 0, .str []] : List V) = z at *
  have g5 : (hh ++ [O.box z])[hh.length]? = some (O.box z) := by rw [List.getElem?_append_right (Nat.le_refl _), Nat.sub_self]; rfl
  have e5 : ∀ X, (hh ++ [O.box z]).set hh.length X = hh ++ [X] := fun X => by rw [List.set_append_right _ _ (Nat.le_refl _), Nat.sub_self]; rfl
  simp (maxSteps := 4000000) only [vm, vl, Arg.get, cells, stor, splice, g5, e5, e13, d13, hm, List.append_nil]
  exact hk
theorem Qy6 (HJ : Qad L) (HI : QaZ L) (HU : Qa1 L) {hh : Heap} : Ql8 L (fun v _ => v = .bool true) (.bool true) (.bool true) hh := by
  
  unfold Ql8
  have A := Qu1 (L := L) (h := hh) (p := .str []) (y := .int .i64 0) (a := .int .i64 0) (c := .str []) (m := [71, 69, 84]) (code := 200) HJ HI HU (la := []) (l := []) (x := .nsl) (z := .nsl) (.inl ⟨rfl, rfl⟩) (by simp) (by simp) (by simp [Qk]) (.inl ⟨rfl, rfl⟩) (by simp) (by simp) (by simp [Qk])
  rw [Qyy] at A
  simp (maxSteps := 4000000) only [vm, vl, Arg.get, cells, stor, Qu, splice, reduceIte, Nat.reduceAdd, Nat.reduceLeDiff]
  refine Cf.pu A fun u => ?_
  simp (maxSteps := 4000000) only [vm, vl]
theorem QFw (HJ : Qad L) (HI : QaZ L) (HU : Qa1 L) {hh : Heap} {k8 : Nat} {code s g : Int} {out : List Fld} {y1 y2 : V} (h8 : hh[k8]? = some (.box (Q9 code s g out))) (hy1 : Qf 2 y1 (flds out)) (hy2 : Qf 2 y2 (flds out)) (ho : out.length < 1000000000) :
    Qm9 L (fun v _ => v = .bool true) (.ptr k8 0) y1 (.tup [.agg (Q9 code s g out), y2]) hh := by
  
  unfold Qm9
  have e1 := Qdz code s g out
  have e2 := Qga code s g out
  have e3 := QrT code s g out
  have h8' := fun t => Qp (t := t) h8
  generalize Q9 code s g out = M at *
  generalize hZ : ([.int .i64 0, .bool false, .bool false, .bool false, .bool false, .bool false, .bool false, .bool false, .int .i64 0, .int .i64 0, .int .i64 0, .int .i64 0, .int .i64 0, .int .i64 0, .int .i64 0, .int .i64 0, .int .i64 0, .int .i64 0, .int .i64 0, .int .i64 0, .str []] : List V) = Z
  have hZ1 : Z.length = 21 := by rw [← hZ]; rfl
  have hZ2 : List.drop 21 Z = [] := List.drop_eq_nil_of_le (by omega)
  simp (maxSteps := 4000000) only [vm, vl, Arg.get, cells, stor, Qb, splice, reduceIte, Nat.reduceEqDiff, h8', e1, e2, e3, hZ1, hZ2, List.append_nil]
  refine Cf.pu (QEb hy1 hy2 ho ho) fun u => ?_
  rw [decide_eq_true rfl]
  exact Qy6 HJ HI HU
theorem QwN (l r : List Fld) : (Qdv l r).length ≤ l.length + r.length := by
  unfold Qdv
  rw [List.length_append]
  have := QmH r
  have := List.length_filter_le (fun f => !Qt (Qfu r) f.1) l
  omega
theorem QF5 (HJ : Qad L) (HI : QaZ L) (HU : Qa1 L) {hh : Heap} {k3 k4 k5 k7 : Nat} {mb p y x a c z y1 : V} {code s g : Int} {la l : List Fld} (hb3 : hh[k3]? = some (.box [mb, p, y, x])) (hb4 : hh[k4]? = some (.box [a, .int .i64 code, c, z]))
    (hb5 : hh[k5]? = some (.box [.int .i64 s, .int .i64 g])) (hb7 : hh[k7]? = some (.box (Q9 code s g l))) (hx : Qf 2 x (flds la)) (hla : la.length < 1000) (hsa : Qk la < 5000) (hz : Qf 2 z (flds l)) (hl : l.length < 1000) (hsl : Qk l < 5000)
    (hy1 : Qf 2 y1 (flds (Qdv la l))) :
    Ql7 L (fun v _ => v = .bool true) (.ptr k3 0) (.ptr k4 0) (.ptr k5 0) (.ptr k7 0) (.tup [.agg (Q9 code g s (Qdv la l)), y1]) hh := by
  
  unfold Ql7
  have R := fun h' => QJr (L := L) (h := h') (ms := Q9 code s g l) (code := code) (s := g) (g := s) (a := a) (b := .int .i64 code) (c := c) (x := x) (z := z) (l := la) (lr := l) rfl (by rw [Qdz]; decide) hx (by omega) (by omega) hz (by omega) (by omega)
  unfold Qdk at R
  have hlo := QwN la l
  have e1 := Qdz code s g l
  have e2 := Qga code s g l
  obtain ⟨M7, hM7⟩ : ∃ M, M = Q9 code s g l := ⟨_, rfl⟩
  rw [← hM7] at e1 e2 hb7 R
  have f1 := Qdz code g s (Qdv la l)
  have f2 := Qga code g s (Qdv la l)
  obtain ⟨M8, hM8⟩ : ∃ M, M = Q9 code g s (Qdv la l) := ⟨_, rfl⟩
  rw [← hM8] at f1 f2 R ⊢
  generalize hZ : ([.int .i64 0, .bool false, .bool false, .bool false, .bool false, .bool false, .bool false, .bool false, .int .i64 0, .int .i64 0, .int .i64 0, .int .i64 0, .int .i64 0, .int .i64 0, .int .i64 0, .int .i64 0, .int .i64 0, .int .i64 0, .int .i64 0, .int .i64 0, .str []] : List V) = Z
  have hZ1 : Z.length = 21 := by rw [← hZ]; rfl
  have hZ2 : List.drop 21 Z = [] := List.drop_eq_nil_of_le (by omega)
  have b3 := fun t => Qp (t := t) hb3
  have b4 := fun t => Qp (t := t) hb4
  have b5 := fun t => Qp (t := t) hb5
  have b7 := fun t => Qp (t := t) hb7
  simp (maxSteps := 4000000) only [vm, vl, Arg.get, cells, stor, Qb, splice, reduceIte, Nat.reduceEqDiff, Nat.reduceAdd, Nat.reduceLeDiff, Int.reduceLT, Int.reduceLE, Int.reduceToNat, b3, b4, b5, b7, e1, e2, f1, f2, hZ1, hZ2, List.append_nil]
  refine (R _).mono fun v h' hv => ?_
  obtain ⟨y2, rfl, O3⟩ := hv
  have O4 := O3.list
  obtain ⟨t3, rfl⟩ := O3.1
  subst hM8
  exact QFw HJ HI HU (Qp (by rw [List.getElem?_append_right (Nat.le_refl _), Nat.sub_self]; rfl)) hy1 O4 (by omega)
theorem QHV (HJ : Qad L) (HI : QaZ L) (HU : Qa1 L) {hh : Heap} {k3 k4 k5 k7 : Nat} {mb p y x a c z : V} {code s g : Int} {la l : List Fld} (hb3 : hh[k3]? = some (.box [mb, p, y, x])) (hb4 : hh[k4]? = some (.box [a, .int .i64 code, c, z]))
    (hb5 : hh[k5]? = some (.box [.int .i64 s, .int .i64 g])) (hb7 : hh[k7]? = some (.box (Q9 code s g l))) (hx : Qf 2 x (flds la)) (hla : la.length < 1000) (hsa : Qk la < 5000) (hz : Qf 2 z (flds l)) (hl : l.length < 1000) (hsl : Qk l < 5000) :
    Qqd L (fun v _ => v = .bool true) (.ptr k3 0) (.ptr k4 0) (.ptr k5 0) (.ptr k7 0) hh := by
  
  unfold Qqd
  have R := fun h' => QH2 (L := L) (h := h') (ms := Q9 code s g l) (code := code) (s := g) (g := s) (a := a) (b := .int .i64 code) (c := c) (x := x) (z := z) (l := la) (lr := l) HJ HI HU rfl (by rw [Qdz]; decide) hx (by omega) (by omega) hz (by omega) (by omega)
  unfold Qdk at R
  have e1 := Qdz code s g l
  have e2 := Qga code s g l
  have K4 := fun t y1 (hy1 : Qf 2 y1 (flds (Qdv la l))) => QF5 (hh := hh ++ t) HJ HI HU (Qp hb3) (Qp hb4) (Qp hb5) (Qp hb7) hx hla hsa hz hl hsl hy1
  obtain ⟨M7, hM7⟩ : ∃ M, M = Q9 code s g l := ⟨_, rfl⟩
  rw [← hM7] at e1 e2 hb7 R
  simp (maxSteps := 4000000) only [vm, vl, Arg.get, Qb, reduceIte, Nat.reduceEqDiff, Nat.reduceAdd, Nat.reduceLeDiff, Int.reduceLT, Int.reduceLE, Int.reduceToNat, hb3, hb4, hb5, hb7, e1, e2]
  refine (R _).mono fun v h' hv => ?_
  obtain ⟨y1, rfl, O3⟩ := hv
  have O4 := O3.list
  obtain ⟨t3, rfl⟩ := O3.1
  exact K4 t3 y1 O4
theorem QAZ (HJ : Qad L) (HI : QaZ L) (HU : Qa1 L) {hh : Heap} {k3 k4 k5 k7 : Nat} {mb : Bs} {p y x a c z : V} {code s g : Int} {la l : List Fld} (hb3 : hh[k3]? = some (.box [.str mb, p, y, x])) (hb4 : hh[k4]? = some (.box [a, .int .i64 code, c, z]))
    (hb5 : hh[k5]? = some (.box [.int .i64 s, .int .i64 g])) (hb7 : hh[k7]? = some (.box (Q9 code s g l))) (hx : Qf 2 x (flds la)) (hla : la.length < 1000) (hsa : Qk la < 5000) (hz : Qf 2 z (flds l)) (hl : l.length < 1000) (hsl : Qk l < 5000) :
    QnT L (fun v _ => v = .bool true) (.ptr k3 0) (.ptr k4 0) (.ptr k5 0) (.ptr k7 0) (.agg (Q9 code s g l)) (.agg (Q9 code s g l)) hh := by
  
  unfold QnT
  have K1 := fun t => QHV (hh := hh ++ t) HJ HI HU (Qp hb3) (Qp hb4) (Qp hb5) (Qp hb7) hx hla hsa hz hl hsl
  have e3 := QrT code s g l
  obtain ⟨M7, hM7⟩ : ∃ M, M = Q9 code s g l := ⟨_, rfl⟩
  rw [← hM7] at e3 hb7 ⊢
  have b3 := fun t => Qp (t := t) hb3
  have b4 := fun t => Qp (t := t) hb4
  simp (maxSteps := 4000000) only [vm, vl, Arg.get, Qb, reduceIte, Nat.reduceEqDiff, Nat.reduceAdd, e3, hb3, hb4, Bool.not_true]
  refine Cf.pu (Qu1 HJ HI HU hx (by omega) (QbV (by omega)) (by omega) hz (by omega) (QbV (by omega)) (by omega)) fun u => ?_
  refine ⟨by simp (maxSteps := 4000000) only [vm, vl], ?_⟩
  unfold Qr9
  simp (maxSteps := 4000000) only [vm, vl, Arg.get, Qb, reduceIte, Nat.reduceEqDiff, Nat.reduceAdd, b3, b4]
  refine Cf.pu (Qwd hx (by omega) (QbV (by omega)) (by omega) hz (by omega) (QbV (by omega)) (by omega)) fun u2 => ?_
  rw [List.append_assoc]
  cases Qds mb la code l <;> (simp (maxSteps := 4000000) only [vm, vl, beq_self_eq_true]; exact K1 _)
theorem QAV (HJ : Qad L) (HI : QaZ L) (HU : Qa1 L) {hh : Heap} {k3 k4 k5 k7 : Nat} {mb : Bs} {p y x a c z : V} {code s g : Int} {la l : List Fld} (hb3 : hh[k3]? = some (.box [.str mb, p, y, x])) (hb4 : hh[k4]? = some (.box [a, .int .i64 code, c, z]))
    (hb5 : hh[k5]? = some (.box [.int .i64 s, .int .i64 g])) (hb7 : hh[k7]? = some (.box (Q9 code s g l))) (hx : Qf 2 x (flds la)) (hla : la.length < 1000) (hsa : Qk la < 5000) (hz : Qf 2 z (flds l)) (hl : l.length < 1000) (hsl : Qk l < 5000) :
    QqS L (fun v _ => v = .bool true) (.ptr k3 0) (.ptr k4 0) (.ptr k5 0) (.ptr k7 0) hh := by
  
  unfold QqS
  have R := QvW (L := L) (h := hh) (a := a) (c := c) (x := z) (code := code) (s := s) (g := g) hz (by omega) (QbV (by omega)) (by omega)
  have K6 := fun t => QAZ (hh := hh ++ t) HJ HI HU (Qp hb3) (Qp hb4) (Qp hb5) (Qp hb7) hx hla hsa hz hl hsl
  have e1 := Qdz code s g l
  have e2 := Qga code s g l
  rw [show mM (.int .i64 code) (ctV (ofC l)) (.int .i64 (Qac l Qbs)) (.int .i64 (QaX l)) (.int .i64 (Qac l nLM)) (.int .i64 (QV l)) (.int .i64 s) (.int .i64 g) (.str (Qaf l)) = Q9 code s g l from rfl] at R
  obtain ⟨M7, hM7⟩ : ∃ M, M = Q9 code s g l := ⟨_, rfl⟩
  rw [← hM7] at e1 e2 hb7 R K6
  simp (maxSteps := 4000000) only [vm, vl, Arg.get, Qb, reduceIte, Nat.reduceEqDiff, Nat.reduceAdd, Nat.reduceLeDiff, Int.reduceLT, Int.reduceLE, Int.reduceToNat, hb4, hb5, hb7, e1, e2]
  refine Cf.pu R fun u => ?_
  refine ⟨by simp (maxSteps := 4000000) only [vm, vl], ?_⟩
  exact K6 u
theorem QBx (HJ : Qad L) (HI : QaZ L) (HU : Qa1 L) {hh : Heap} {k3 k4 k5 : Nat} {mb : Bs} {p y x a c z : V} {code s g : Int} {la l : List Fld} (hb3 : hh[k3]? = some (.box [.str mb, p, y, x])) (hb4 : hh[k4]? = some (.box [a, .int .i64 code, c, z]))
    (hb5 : hh[k5]? = some (.box [.int .i64 s, .int .i64 g])) (hx : Qf 2 x (flds la)) (hla : la.length < 1000) (hsa : Qk la < 5000) (hz : Qf 2 z (flds l)) (hl : l.length < 1000) (hsl : Qk l < 5000) :
    Qnx L (fun v _ => v = .bool true) (.ptr k3 0) (.ptr k4 0) (.ptr k5 0) hh := by
  
  unfold Qnx
  have R := Qv3 (L := L) (h := hh) (a := a) (c := c) (x := z) (code := code) (s := s) (g := g) HJ HI HU hz (by omega) (QbV (by omega)) (by omega)
  rw [show mM (.int .i64 code) (ctV (ofC l)) (.int .i64 (Qac l Qbs)) (.int .i64 (QaX l)) (.int .i64 (Qac l nLM)) (.int .i64 (QV l)) (.int .i64 s) (.int .i64 g) (.str (Qaf l)) = Q9 code s g l from rfl] at R
  simp (maxSteps := 4000000) only [vm, vl, Arg.get, Qb, reduceIte, Nat.reduceEqDiff, Nat.reduceAdd, Nat.reduceLeDiff, Int.reduceLT, Int.reduceLE, Int.reduceToNat, hb4, hb5]
  refine Cf.pu R fun u => ?_
  unfold Qsd
  refine Qxg (Qdz code s g l) ?_
  exact QAV HJ HI HU (Qp (Qp hb3)) (Qp (Qp hb4)) (Qp (Qp hb5)) (by rw [List.getElem?_append_right (Nat.le_refl _), Nat.sub_self]; rfl) hx hla hsa hz hl hsl
theorem QGn (HJ : Qad L) (HI : QaZ L) (HU : Qa1 L) {mb : Bs} {p y x a c z : V} {code s g : Int} {la l : List Fld} (hx : Qf 2 x (flds la)) (hla : la.length ≤ 140737488351232) (hlz : ∀ f ∈ la, f.1.length ≤ 140737488351232 ∧ f.2.length ≤ 140737488351232)
    (hz : Qf 2 z (flds l)) (hl : l.length ≤ 140737488351232) (hzz : ∀ f ∈ l, f.1.length ≤ 140737488351232 ∧ f.2.length ≤ 140737488351232) :
    Cf F L QgB [.agg [.str mb, p, y, x], .agg [a, .int .i64 code, c, z], .agg [.int .i64 s, .int .i64 g]] h (fun v _ => v = .bool true) := by
  refine QE0 ?_
  simp only [Qll]
  
  simp (maxSteps := 4000000) only [vm, vl, Arg.get, cells, stor, Qb, reduceIte, Nat.reduceAdd]
  refine Cf.pu (Qu7 hx hla hlz) fun u => ?_
  unfold QsP
  by_cases c1 : 20 * la.length + Qk la < 3000
  case neg => simp (maxSteps := 4000000) only [vm, vl, Arg.get, reduceIte, c1, decide_false, Bool.not_false]
  have hb3 : (h ++ ([O.box [.str mb, p, y, x], O.box [a, .int .i64 code, c, z], O.box [.int .i64 s, .int .i64 g]] ++ u))[h.length]? = some (.box [.str mb, p, y, x]) := by
    rw [List.getElem?_append_right (Nat.le_refl _), Nat.sub_self]; rfl
  have hb4 : (h ++ ([O.box [.str mb, p, y, x], O.box [a, .int .i64 code, c, z], O.box [.int .i64 s, .int .i64 g]] ++ u))[h.length + 1]? = some (.box [a, .int .i64 code, c, z]) := by
    rw [List.getElem?_append_right (by omega), Nat.add_sub_cancel_left]; rfl
  have hb5 : (h ++ ([O.box [.str mb, p, y, x], O.box [a, .int .i64 code, c, z], O.box [.int .i64 s, .int .i64 g]] ++ u))[h.length + 2]? = some (.box [.int .i64 s, .int .i64 g]) := by
    rw [List.getElem?_append_right (by omega), Nat.add_sub_cancel_left]; rfl
  rw [List.append_assoc]
  generalize h ++ ([O.box [.str mb, p, y, x], O.box [a, .int .i64 code, c, z], O.box [.int .i64 s, .int .i64 g]] ++ u) = hh at *
  simp (maxSteps := 4000000) only [vm, vl, Arg.get, Qb, reduceIte, Nat.reduceAdd, c1, decide_true, Bool.not_true, hb4]
  refine Cf.pu (Qu7 hz hl hzz) fun u2 => ?_
  by_cases c2 : 20 * l.length + Qk l < 3000
  case neg => simp (maxSteps := 4000000) only [vm, vl, c2, decide_false, Bool.not_false]
  simp (maxSteps := 4000000) only [vm, vl, c2, decide_true, Bool.not_true]
  exact QBx HJ HI HU (Qp hb3) (Qp hb4) (Qp hb5) hx (by omega) (by omega) hz (by omega) (by omega)
theorem Qs6 {k1 k2 k3 k4 : SK} {xs : List V} (h : VSKs [k1, k2, k3, k4] xs) : ∃ x y z u, xs = [x, y, z, u] ∧ VSK k1 x ∧ VSK k2 y ∧ VSK k3 z ∧ VSK k4 u := by
  match xs, h with
  | [x, y, z, u], ⟨h1, h2, h3, h4, _⟩ => exact ⟨x, y, z, u, rfl, h1, h2, h3, h4⟩
theorem QFY {k1 k2 : SK} {xs : List V} (h : VSKs [k1, k2] xs) : ∃ x y, xs = [x, y] ∧ VSK k1 x ∧ VSK k2 y := by
  match xs, h with
  | [x, y], ⟨a, b, _⟩ => exact ⟨x, y, rfl, a, b⟩
def LC : FuncId → List V → V → Prop := fun f a v => LJoin f a v ∨ LIndex f a v ∨ LUnq f a v
theorem QzX (w0 : World) : QhF Tryz.prog w0 LC := fun f a v h => h.elim (Qzn w0 f a v) fun h => h.elim (QAp w0 f a v) (Qzz w0 f a v)
theorem StoringTells_row {x0 x1 x2 : V} (v0 : VPar [.l .s, .l .s, .l (.i .i64), .sl [.s, .s]] x0) (v1 : VPar [.l (.i .i64), .l (.i .i64), .l .s, .sl [.s, .s]] x1) (v2 : VPar [.l (.i .i64), .l (.i .i64)] x2) (w : World) (vs : List Value) (hv : Rvs w.heap.size G0 w [x0, x1, x2] vs) :
    Calls Tryz.prog QgB vs.toArray w fun e w' => e = .returned (.bool true) ∧ RowKit.Below w.heap.size w w' := by
  obtain ⟨ms, rfl, hms⟩ := v0
  obtain ⟨ns, rfl, hns⟩ := v1
  obtain ⟨qs, rfl, hqs⟩ := v2
  obtain ⟨a1, b1, c1, d1, rfl, ⟨mb, e1, _⟩, _, _, hd1⟩ := Qs6 hms
  obtain ⟨a2, b2, c2, d2, rfl, _, ⟨code, e2, _⟩, _, hd2⟩ := Qs6 hns
  obtain ⟨a3, b3, rfl, ⟨s, e3, _⟩, ⟨g, e4, _⟩⟩ := QFY hqs
  subst e1; subst e2; subst e3; subst e4
  obtain ⟨la, h1, h2, h3⟩ := QvD hd1
  obtain ⟨l, h4, h5, h6⟩ := QvD hd2
  exact Qzk hm hF (QzX w) (QGn (QzM fun _ _ _ h => .inl h) (QH8 fun _ _ _ h => .inr (.inl h)) (QA9 fun _ _ _ h => .inr (.inr h)) h1 h2 h3 h4 h5 h6) hv
end Go.Proofs.YtaahialaegfjgaaGreatDoor.Vh
end
