/- Package field on the small machine: keep, without, Del, Set. -/
import Derived.Test.YtfihnnebffkbfaaDoorPk4
import Derived.Test.YtfihnnebffkbfaaDoorPk5
section
set_option linter.unusedVariables false
set_option linter.unusedSimpArgs false
namespace Go.Proofs.YtfihnnebffkbfaaDoor.Vh
open Go.Vm Go.Vt
attribute [local congr] wi_congr wg_congr wgd_congr wb_congr wl_congr cf_congr
variable {L : FuncId → List V → V → Prop} {h : Heap}
abbrev Fld := Bs × Bs
def fldV (f : Fld) : V := .agg [.str f.1, .str f.2]
def flds (l : List Fld) : List V := l.map fldV
theorem flds_len (l : List Fld) : (flds l).length = l.length := by simp [flds]
theorem flds_at {l : List Fld} {i : Nat} (hi : i < l.length) : (flds l).getD i (.tup []) = fldV (l.getD i ([], [])) := by
  unfold flds
  rw [List.getD_eq_getElem?_getD, List.getD_eq_getElem?_getD, List.getElem?_map, List.getElem?_eq_getElem hi]; rfl
theorem list_at {α : Type} {l : List α} {i : Nat} (d : α) (hi : i ≤ l.length) : (¬ (i : Int) < l.length ∧ i = l.length ∧ l.drop i = []) ∨ ((i : Int) < l.length ∧ i < l.length ∧ l.drop i = l.getD i d :: l.drop (i + 1) ∧ l.take (i + 1) = l.take i ++ [l.getD i d]) := by
  rcases Nat.lt_or_eq_of_le hi with h | h
  · have e : l.getD i d = l[i] := by rw [List.getD_eq_getElem?_getD, List.getElem?_eq_getElem h, Option.getD_some]
    exact .inr ⟨by omega, h, by rw [e]; exact List.drop_eq_getElem_cons h, by rw [e, List.take_add_one, List.getElem?_eq_getElem h]; rfl⟩
  · exact .inl ⟨by omega, h, by rw [h]; simp⟩
/-- A set of texts, as a map's entries. -/
def mapK (ks : List Bs) : List (V × V) := ks.map fun k => (.str k, .bool true)
def insK (ks : List Bs) (k : Bs) : List Bs := if k ∈ ks then ks else ks ++ [k]
theorem find_mapK {k : Bs} : ∀ {ks : List Bs} {n : Nat}, ∃ r, findE .s (.str k) (mapK ks) n = some r ∧ ((k ∈ ks ∧ ∃ i, r = some (n + i, .bool true) ∧ ks[i]? = some k) ∨ (k ∉ ks ∧ r = none))
  | [], n => ⟨none, rfl, .inr ⟨by simp, rfl⟩⟩
  | a :: ks, n => by
    by_cases h : k = a
    · subst h
      exact ⟨some (n, .bool true), by simp [mapK, findE, eqLeaf], .inl ⟨by simp, 0, by simp, rfl⟩⟩
    · obtain ⟨r, h1, h2⟩ := find_mapK (k := k) (ks := ks) (n := n + 1)
      refine ⟨r, ?_, ?_⟩
      · have : (k == a) = false := by simpa using h
        simp only [mapK, List.map_cons, findE, eqLeaf, this, Option.bind_some]
        exact h1
      · rcases h2 with ⟨h3, i, h4, h5⟩ | ⟨h3, h4⟩
        · exact .inl ⟨by simp [h3], i + 1, by rw [h4]; congr 2; omega, by simpa using h5⟩
        · exact .inr ⟨by simp [h, h3], h4⟩
theorem set_mapK {k : Bs} {ks : List Bs} : mapsetE .s (.str k) (.bool true) (mapK ks) = some (mapK (insK ks k)) := by
  obtain ⟨r, h1, h2⟩ := find_mapK (k := k) (ks := ks) (n := 0)
  rcases h2 with ⟨h3, i, rfl, h5⟩ | ⟨h3, rfl⟩
  · simp only [mapsetE, h1, Option.map_some, insK, if_pos h3]
    congr 1
    have hi := (List.getElem?_eq_some_iff.1 h5).1
    apply List.ext_getElem?
    intro j
    rw [List.getElem?_set]
    by_cases hj : 0 + i = j
    · subst hj
      simp [mapK, hi]
      exact (List.getElem?_eq_some_iff.1 h5).2.symm
    · rw [if_neg hj]
  · simp only [mapsetE, h1, Option.map_some, insK, if_neg h3]
    simp [mapK]
theorem mem_ins {ks : List Bs} {k x : Bs} : x ∈ insK ks k ↔ x ∈ ks ∨ x = k := by
  unfold insK; split
  · rename_i h
    refine ⟨.inl, fun hh => hh.elim id fun e => e ▸ h⟩
  · simp
/-- Texts with commas between. -/
def joinS (l : List Bs) : Bs := [44, 32].intercalate l
def JoinOk (L : FuncId → List V → V → Prop) : Prop := ∀ {x : V} {l : List Bs} {h : Heap}, ListV 1 x (strs l) → l.length ≤ 1000000000 → (joinS l).length ≤ 140737488355328 → Cf F L i_strings_Join [x, .str [44, 32]] h (Pu h (.str (joinS l)))
def valsOf (l : List Fld) (name : Bs) : List Bs := (l.filter fun f => low f.1 == low name).map (·.2)
def getV (l : List Fld) (name : Bs) : V := .tup [.str (joinS (valsOf l name)), .int .i64 (valsOf l name).length]
theorem vals_len (l : List Fld) (name : Bs) : (valsOf l name).length ≤ l.length := by
  unfold valsOf; rw [List.length_map]; exact List.length_filter_le _ _
theorem Get_ok {x : V} {l : List Fld} {name : Bs} (HJ : JoinOk L) (hx : ListV 2 x (flds l)) (hl : l.length < 1000000000) (hln : ∀ f ∈ l, f.1.length ≤ 140737488355328) (hn : name.length ≤ 140737488355328) (hj : (joinS (valsOf l name)).length ≤ 140737488355328) :
    Cf F L i_field_Get [x, .str name] h (Pu h (getV l name)) := by
  refine run_field_Get ?_
  simp only [p_field_Get]
  have l1 := fun {K : V → Heap → Prop} {h : Heap} => hx.len (F := F) (L := L) (e := E0) (K := K) (h := h)
  simp only [flds_len] at l1
  simp (maxSteps := 4000000) only [vm, vl, Arg.get, cells, stor, boundO, resultsV, resV, partK, loadV, Vm.part, fillC, splice, reduceIte, reduceCtorEq, Nat.reduceEqDiff, Nat.reduceAdd, Nat.reduceSub, Nat.reduceMul, Nat.reduceLeDiff, ne_eq, not_false_eq_true, Int.reduceEq, Int.reduceLT, Int.reduceLE, Int.reduceNeg, Int.reduceToNat, Int.reduceGT, Int.reduceGE, Nat.reduceLT, Nat.lt_add_one, Nat.zero_lt_succ, Nat.succ_pos, Nat.zero_le, beq_self_eq_true, k_field_Get_0, k_field_Get_2, k_field_Get_1, l1]
  refine l_field_Get_0 (fun n e h' => ∃ i, n = l.length - i ∧ i ≤ l.length ∧ e 1 = .str name ∧ e 9 = x ∧ e 10 = .int .i64 l.length ∧ e 11 = .int .i64 i ∧ Grow 1 h h' (e 6) (strs (valsOf (l.take i) name))) ?_ (n := l.length) ⟨0, by simp, by simp, rfl, rfl, rfl, rfl, .nil0⟩
  rintro n e h' ⟨i, rfl, hi, e1, e9, e10, e11, G⟩
  simp only [b_field_Get_0]
  generalize e6 : e 6 = x6 at *
  have vln := vals_len (l.take i) name
  rw [List.length_take] at vln
  rcases list_at ([], []) hi with ⟨hn, rfl, hd⟩ | ⟨hl1, hl2, hd, htk⟩
  · rw [List.take_of_length_le (Nat.le_refl _)] at G
    have vln := vals_len l name
    have g1 := fun {K : V → Heap → Prop} {h : Heap} => G.list.len (F := F) (L := L) (e := E0) (K := K) (h := h)
    simp only [strs_len] at g1
    simp (maxSteps := 4000000) only [vm, vl, Arg.get, cells, stor, boundO, resultsV, resV, partK, loadV, Vm.part, fillC, splice, reduceIte, reduceCtorEq, Nat.reduceEqDiff, Nat.reduceAdd, Nat.reduceSub, Nat.reduceMul, Nat.reduceLeDiff, ne_eq, not_false_eq_true, Int.reduceEq, Int.reduceLT, Int.reduceLE, Int.reduceNeg, Int.reduceToNat, Int.reduceGT, Int.reduceGE, Nat.reduceLT, Nat.lt_add_one, Nat.zero_lt_succ, Nat.succ_pos, Nat.zero_le, beq_self_eq_true, k_field_Get_0, k_field_Get_2, k_field_Get_1, e1, e6, e9, e10, e11, hn]
    refine Cf.pu (HJ G.list (by omega) hj) fun t => ?_
    obtain ⟨t0, rfl⟩ := G.1
    rcases G.list with ⟨he, rfl⟩ | ⟨o, rfl⟩
    · have he' : valsOf l name = [] := by simpa [strs] using he
      simp (maxSteps := 4000000) only [vm, vl, Arg.get, cells, stor, boundO, resultsV, resV, partK, loadV, Vm.part, fillC, splice, reduceIte, reduceCtorEq, Nat.reduceEqDiff, Nat.reduceAdd, Nat.reduceSub, Nat.reduceMul, Nat.reduceLeDiff, ne_eq, not_false_eq_true, Int.reduceEq, Int.reduceLT, Int.reduceLE, Int.reduceNeg, Int.reduceToNat, Int.reduceGT, Int.reduceGE, Nat.reduceLT, Nat.lt_add_one, Nat.zero_lt_succ, Nat.succ_pos, Nat.zero_le, beq_self_eq_true, k_field_Get_0, k_field_Get_2, k_field_Get_1]
      simp [getV, he']
    · simp (maxSteps := 4000000) only [vm, vl, Arg.get, cells, stor, boundO, resultsV, resV, partK, loadV, Vm.part, fillC, splice, reduceIte, reduceCtorEq, Nat.reduceEqDiff, Nat.reduceAdd, Nat.reduceSub, Nat.reduceMul, Nat.reduceLeDiff, ne_eq, not_false_eq_true, Int.reduceEq, Int.reduceLT, Int.reduceLE, Int.reduceNeg, Int.reduceToNat, Int.reduceGT, Int.reduceGE, Nat.reduceLT, Nat.lt_add_one, Nat.zero_lt_succ, Nat.succ_pos, Nat.zero_le, beq_self_eq_true, k_field_Get_0, k_field_Get_2, k_field_Get_1, strs_len]
      simp [getV]
  · have w := wrap64 (x := (i : Int) + 1) (by omega) (by omega)
    have i1 := fun {K : V → Heap → Prop} {h : Heap} => hx.at (F := F) (L := L) (e := E0) (K := K) (h := h) (i := i) (by rw [flds_len]; exact hl2)
    have a1 := flds_at hl2
    have hmem : l.getD i ([], []) ∈ l := by
      rw [List.getD_eq_getElem?_getD, List.getElem?_eq_getElem hl2]; exact List.getElem_mem _
    generalize hf : l.getD i ([], []) = f at *
    obtain ⟨t0, rfl⟩ := G.1
    simp (maxSteps := 4000000) only [vm, vl, Arg.get, cells, stor, boundO, resultsV, resV, partK, loadV, Vm.part, fillC, splice, reduceIte, reduceCtorEq, Nat.reduceEqDiff, Nat.reduceAdd, Nat.reduceSub, Nat.reduceMul, Nat.reduceLeDiff, ne_eq, not_false_eq_true, Int.reduceEq, Int.reduceLT, Int.reduceLE, Int.reduceNeg, Int.reduceToNat, Int.reduceGT, Int.reduceGE, Nat.reduceLT, Nat.lt_add_one, Nat.zero_lt_succ, Nat.succ_pos, Nat.zero_le, beq_self_eq_true, k_field_Get_0, k_field_Get_2, k_field_Get_1, e1, e6, e9, e10, e11, hl1, i1, a1, fldV]
    refine Cf.pu (Same_ok (hln f hmem) hn) fun t1 => ?_
    have hb : (h ++ (t0 ++ O.box [.str f.1, .str f.2] :: t1))[h.length + t0.length]? = some (.box [.str f.1, .str f.2]) := by
      rw [← List.append_assoc, List.getElem?_append_right (by simp)]; simp
    have G2 := G.more (t := [O.box [.str f.1, .str f.2]] ++ t1)
    cases hp : (low f.1 == low name) with
    | false =>
      simp (maxSteps := 4000000) only [vm, vl, Arg.get, cells, stor, boundO, resultsV, resV, partK, loadV, Vm.part, fillC, splice, reduceIte, reduceCtorEq, Nat.reduceEqDiff, Nat.reduceAdd, Nat.reduceSub, Nat.reduceMul, Nat.reduceLeDiff, ne_eq, not_false_eq_true, Int.reduceEq, Int.reduceLT, Int.reduceLE, Int.reduceNeg, Int.reduceToNat, Int.reduceGT, Int.reduceGE, Nat.reduceLT, Nat.lt_add_one, Nat.zero_lt_succ, Nat.succ_pos, Nat.zero_le, beq_self_eq_true, k_field_Get_0, k_field_Get_2, k_field_Get_1, w]
      refine ⟨l.length - (i + 1), by omega, i + 1, rfl, hl2, rfl, ?_⟩
      have : valsOf (l.take (i + 1)) name = valsOf (l.take i) name := by simp [valsOf, htk, hp]
      rw [this]
      simpa using G2
    | true =>
      obtain ⟨x', h'', ha, G3⟩ := G2.app (bytes := 16) (y := .str f.2) (by rw [strs_len]; omega)
      rw [strs_app] at G3
      simp only [List.append_assoc, List.cons_append, List.nil_append] at ha
      simp (maxSteps := 4000000) only [vm, vl, Arg.get, cells, stor, boundO, resultsV, resV, partK, loadV, Vm.part, fillC, splice, reduceIte, reduceCtorEq, Nat.reduceEqDiff, Nat.reduceAdd, Nat.reduceSub, Nat.reduceMul, Nat.reduceLeDiff, ne_eq, not_false_eq_true, Int.reduceEq, Int.reduceLT, Int.reduceLE, Int.reduceNeg, Int.reduceToNat, Int.reduceGT, Int.reduceGE, Nat.reduceLT, Nat.lt_add_one, Nat.zero_lt_succ, Nat.succ_pos, Nat.zero_le, beq_self_eq_true, k_field_Get_0, k_field_Get_2, k_field_Get_1, w, hb, ha]
      refine ⟨l.length - (i + 1), by omega, i + 1, rfl, hl2, rfl, ?_⟩
      have : valsOf (l.take (i + 1)) name = valsOf (l.take i) name ++ [f.2] := by simp [valsOf, htk, hp]
      rw [this]
      exact G3
end Go.Proofs.YtfihnnebffkbfaaDoor.Vh
end
