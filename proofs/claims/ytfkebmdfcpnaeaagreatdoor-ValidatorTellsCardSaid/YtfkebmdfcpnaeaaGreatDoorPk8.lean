/- Several texts in one: VField, VDateA. -/
import Derived.Test.YtfkebmdfcpnaeaaGreatDoorPk4
import Derived.Test.YtfkebmdfcpnaeaaGreatDoorPk7
import Derived.Test.YtfkebmdfcpnaeaaGreatDoorPk1
import Derived.Test.YtfkebmdfcpnaeaaGreatDoorPk3
section
set_option linter.unusedVariables false
set_option linter.unusedSimpArgs false
namespace Go.Proofs.YtfkebmdfcpnaeaaGreatDoor.Vh
open Go.Vm Go.Vt
attribute [local congr] wi_congr wg_congr wgd_congr wb_congr wl_congr cf_congr
variable {L : FuncId → List V → V → Prop} {h : Heap}
abbrev Fld := Bs × Bs
def fldV (f : Fld) : V := .agg [.str f.1, .str f.2]
def flds (l : List Fld) : List V := l.map fldV
theorem flds_len (l : List Fld) : (flds l).length = l.length := by simp [flds]
theorem flds_app (l : List Fld) (f : Fld) : flds l ++ [fldV f] = flds (l ++ [f]) := by simp [flds]
theorem flds_at {l : List Fld} {i : Nat} (hi : i < l.length) : (flds l).getD i (.tup []) = fldV (l.getD i ([], [])) := by
  unfold flds
  rw [List.getD_eq_getElem?_getD, List.getD_eq_getElem?_getD, List.getElem?_map, List.getElem?_eq_getElem hi]; rfl
theorem list_at {α : Type} {l : List α} {i : Nat} (d : α) (hi : i ≤ l.length) : (¬ (i : Int) < l.length ∧ i = l.length ∧ l.drop i = []) ∨ ((i : Int) < l.length ∧ i < l.length ∧ l.drop i = l.getD i d :: l.drop (i + 1) ∧ l.take (i + 1) = l.take i ++ [l.getD i d]) := by
  rcases Nat.lt_or_eq_of_le hi with h | h
  · have e : l.getD i d = l[i] := by rw [List.getD_eq_getElem?_getD, List.getElem?_eq_getElem h, Option.getD_some]
    exact .inr ⟨by omega, h, by rw [e]; exact List.drop_eq_getElem_cons h, by rw [e, List.take_add_one, List.getElem?_eq_getElem h]; rfl⟩
  · exact .inl ⟨by omega, h, by rw [h]; simp⟩
/-- Texts with commas between. -/
def joinS (l : List Bs) : Bs := [44, 32].intercalate l
def JoinOk (L : FuncId → List V → V → Prop) : Prop := ∀ {x : V} {l : List Bs} {h : Heap}, ListV 1 x (strs l) → l.length ≤ 1000000000 → (joinS l).length ≤ 140737488355328 → Cf F L i_strings_Join [x, .str [44, 32]] h (Pu h (.str (joinS l)))
def valsOf (l : List Fld) (name : Bs) : List Bs := (l.filter fun f => low f.1 == low name).map (·.2)
def getV (l : List Fld) (name : Bs) : V := .tup [.str (joinS (valsOf l name)), .int .i64 (valsOf l name).length]
theorem vals_len (l : List Fld) (name : Bs) : (valsOf l name).length ≤ l.length := by
  unfold valsOf; rw [List.length_map]; exact List.length_filter_le _ _
theorem Get_ok {x : V} {l : List Fld} {name : Bs} (HJ : JoinOk L) (hx : ListV 2 x (flds l)) (hl : l.length < 1000000000) (hln : ∀ f ∈ l, f.1.length ≤ 140737488355328) (hn : name.length ≤ 140737488355328) (hj : (joinS (valsOf l name)).length ≤ 140737488355328) :
    Cf F L i_field_Get [x, .str name] h (Pu h (getV l name)) := by
  refine run_field_Get ?_
  simp only [p_field_Get]
  have l1 := fun {K : V → Heap → Prop} {h : Heap} => hx.len (F := F) (L := L) (e := E0) (K := K) (h := h)
  simp only [flds_len] at l1
  simp (maxSteps := 4000000) only [vm, vl, Arg.get, cells, stor, boundO, resultsV, resV, partK, loadV, Vm.part, fillC, splice, reduceIte, reduceCtorEq, Nat.reduceEqDiff, Nat.reduceAdd, Nat.reduceSub, Nat.reduceMul, Nat.reduceLeDiff, ne_eq, not_false_eq_true, Int.reduceEq, Int.reduceLT, Int.reduceLE, Int.reduceNeg, Int.reduceToNat, Int.reduceGT, Int.reduceGE, Nat.reduceLT, Nat.lt_add_one, Nat.zero_lt_succ, Nat.succ_pos, Nat.zero_le, beq_self_eq_true, k_field_Get_0, k_field_Get_2, k_field_Get_1, l1]
  refine l_field_Get_0 (fun n e h' => ∃ i, n = l.length - i ∧ i ≤ l.length ∧ e 1 = .str name ∧ e 9 = x ∧ e 10 = .int .i64 l.length ∧ e 11 = .int .i64 i ∧ Grow 1 h h' (e 6) (strs (valsOf (l.take i) name))) ?_ (n := l.length) ⟨0, by simp, by simp, rfl, rfl, rfl, rfl, .nil0⟩
  rintro n e h' ⟨i, rfl, hi, e1, e9, e10, e11, G⟩
  simp only [b_field_Get_0]
  generalize e6 : e 6 = x6 at *
  have vln := vals_len (l.take i) name
  rw [List.length_take] at vln
  rcases list_at ([], []) hi with ⟨hn, rfl, hd⟩ | ⟨hl1, hl2, hd, htk⟩
  · rw [List.take_of_length_le (Nat.le_refl _)] at G
    have vln := vals_len l name
    have g1 := fun {K : V → Heap → Prop} {h : Heap} => G.list.len (F := F) (L := L) (e := E0) (K := K) (h := h)
    simp only [strs_len] at g1
    simp (maxSteps := 4000000) only [vm, vl, Arg.get, cells, stor, boundO, resultsV, resV, partK, loadV, Vm.part, fillC, splice, reduceIte, reduceCtorEq, Nat.reduceEqDiff, Nat.reduceAdd, Nat.reduceSub, Nat.reduceMul, Nat.reduceLeDiff, ne_eq, not_false_eq_true, Int.reduceEq, Int.reduceLT, Int.reduceLE, Int.reduceNeg, Int.reduceToNat, Int.reduceGT, Int.reduceGE, Nat.reduceLT, Nat.lt_add_one, Nat.zero_lt_succ, Nat.succ_pos, Nat.zero_le, beq_self_eq_true, k_field_Get_0, k_field_Get_2, k_field_Get_1, e1, e6, e9, e10, e11, hn]
    refine Cf.pu (HJ G.list (by omega) hj) fun t => ?_
    obtain ⟨t0, rfl⟩ := G.1
    rcases G.list with ⟨he, rfl⟩ | ⟨o, rfl⟩
    · have he' : valsOf l name = [] := by simpa [strs] using he
      simp (maxSteps := 4000000) only [vm, vl, Arg.get, cells, stor, boundO, resultsV, resV, partK, loadV, Vm.part, fillC, splice, reduceIte, reduceCtorEq, Nat.reduceEqDiff, Nat.reduceAdd, Nat.reduceSub, Nat.reduceMul, Nat.reduceLeDiff, ne_eq, not_false_eq_true, Int.reduceEq, Int.reduceLT, Int.reduceLE, Int.reduceNeg, Int.reduceToNat, Int.reduceGT, Int.reduceGE, Nat.reduceLT, Nat.lt_add_one, Nat.zero_lt_succ, Nat.succ_pos, Nat.zero_le, beq_self_eq_true, k_field_Get_0, k_field_Get_2, k_field_Get_1]
      simp [getV, he']
    · simp (maxSteps := 4000000) only [vm, vl, Arg.get, cells, stor, boundO, resultsV, resV, partK, loadV, Vm.part, fillC, splice, reduceIte, reduceCtorEq, Nat.reduceEqDiff, Nat.reduceAdd, Nat.reduceSub, Nat.reduceMul, Nat.reduceLeDiff, ne_eq, not_false_eq_true, Int.reduceEq, Int.reduceLT, Int.reduceLE, Int.reduceNeg, Int.reduceToNat, Int.reduceGT, Int.reduceGE, Nat.reduceLT, Nat.lt_add_one, Nat.zero_lt_succ, Nat.succ_pos, Nat.zero_le, beq_self_eq_true, k_field_Get_0, k_field_Get_2, k_field_Get_1, strs_len]
      simp [getV]
  · have w := wrap64 (x := (i : Int) + 1) (by omega) (by omega)
    have i1 := fun {K : V → Heap → Prop} {h : Heap} => hx.at (F := F) (L := L) (e := E0) (K := K) (h := h) (i := i) (by rw [flds_len]; exact hl2)
    have a1 := flds_at hl2
    have hmem : l.getD i ([], []) ∈ l := by
      rw [List.getD_eq_getElem?_getD, List.getElem?_eq_getElem hl2]; exact List.getElem_mem _
    generalize hf : l.getD i ([], []) = f at *
    obtain ⟨t0, rfl⟩ := G.1
    simp (maxSteps := 4000000) only [vm, vl, Arg.get, cells, stor, boundO, resultsV, resV, partK, loadV, Vm.part, fillC, splice, reduceIte, reduceCtorEq, Nat.reduceEqDiff, Nat.reduceAdd, Nat.reduceSub, Nat.reduceMul, Nat.reduceLeDiff, ne_eq, not_false_eq_true, Int.reduceEq, Int.reduceLT, Int.reduceLE, Int.reduceNeg, Int.reduceToNat, Int.reduceGT, Int.reduceGE, Nat.reduceLT, Nat.lt_add_one, Nat.zero_lt_succ, Nat.succ_pos, Nat.zero_le, beq_self_eq_true, k_field_Get_0, k_field_Get_2, k_field_Get_1, e1, e6, e9, e10, e11, hl1, i1, a1, fldV]
    refine Cf.pu (Same_ok (hln f hmem) hn) fun t1 => ?_
    have hb : (h ++ (t0 ++ O.box [.str f.1, .str f.2] :: t1))[h.length + t0.length]? = some (.box [.str f.1, .str f.2]) := by
      rw [← List.append_assoc, List.getElem?_append_right (by simp)]; simp
    have G2 := G.more (t := [O.box [.str f.1, .str f.2]] ++ t1)
    cases hp : (low f.1 == low name) with
    | false =>
      simp (maxSteps := 4000000) only [vm, vl, Arg.get, cells, stor, boundO, resultsV, resV, partK, loadV, Vm.part, fillC, splice, reduceIte, reduceCtorEq, Nat.reduceEqDiff, Nat.reduceAdd, Nat.reduceSub, Nat.reduceMul, Nat.reduceLeDiff, ne_eq, not_false_eq_true, Int.reduceEq, Int.reduceLT, Int.reduceLE, Int.reduceNeg, Int.reduceToNat, Int.reduceGT, Int.reduceGE, Nat.reduceLT, Nat.lt_add_one, Nat.zero_lt_succ, Nat.succ_pos, Nat.zero_le, beq_self_eq_true, k_field_Get_0, k_field_Get_2, k_field_Get_1, w]
      refine ⟨l.length - (i + 1), by omega, i + 1, rfl, hl2, rfl, ?_⟩
      have : valsOf (l.take (i + 1)) name = valsOf (l.take i) name := by simp [valsOf, htk, hp]
      rw [this]
      simpa using G2
    | true =>
      obtain ⟨x', h'', ha, G3⟩ := G2.app (bytes := 16) (y := .str f.2) (by rw [strs_len]; omega)
      rw [strs_app] at G3
      simp only [List.append_assoc, List.cons_append, List.nil_append] at ha
      simp (maxSteps := 4000000) only [vm, vl, Arg.get, cells, stor, boundO, resultsV, resV, partK, loadV, Vm.part, fillC, splice, reduceIte, reduceCtorEq, Nat.reduceEqDiff, Nat.reduceAdd, Nat.reduceSub, Nat.reduceMul, Nat.reduceLeDiff, ne_eq, not_false_eq_true, Int.reduceEq, Int.reduceLT, Int.reduceLE, Int.reduceNeg, Int.reduceToNat, Int.reduceGT, Int.reduceGE, Nat.reduceLT, Nat.lt_add_one, Nat.zero_lt_succ, Nat.succ_pos, Nat.zero_le, beq_self_eq_true, k_field_Get_0, k_field_Get_2, k_field_Get_1, w, hb, ha]
      refine ⟨l.length - (i + 1), by omega, i + 1, rfl, hl2, rfl, ?_⟩
      have : valsOf (l.take (i + 1)) name = valsOf (l.take i) name ++ [f.2] := by simp [valsOf, htk, hp]
      rw [this]
      exact G3
end Go.Proofs.YtfkebmdfcpnaeaaGreatDoor.Vh
end
section
set_option linter.unusedVariables false
set_option linter.unusedSimpArgs false
namespace Go.Proofs.YtfkebmdfcpnaeaaGreatDoor.Vh
/-- Years that begin with March: the day n of 400 years is the day s of the year 100B + 4Q + R. -/
theorem years_ok (n y : Int) (h0 : 0 ≤ n) (h1 : n < 146097) (hy : y = (n - n / 1460 + n / 36524 - n / 146096) / 365) :
    ∃ B Q R s : Int, 0 ≤ B ∧ B ≤ 3 ∧ 0 ≤ Q ∧ Q ≤ 24 ∧ 0 ≤ R ∧ R ≤ 3 ∧ 0 ≤ s ∧ s ≤ 365 ∧ (s = 365 → R = 3 ∧ (Q ≤ 23 ∨ B = 3)) ∧ n = 36524 * B + 1461 * Q + 365 * R + s ∧ y = 100 * B + 4 * Q + R := by
  obtain ⟨B, hB0, hB3, r, hr0, hr1, hn⟩ : ∃ B : Int, 0 ≤ B ∧ B ≤ 3 ∧ ∃ r : Int, 0 ≤ r ∧ (r ≤ 36523 ∨ B = 3 ∧ r ≤ 36524) ∧ n = 36524 * B + r := by
    by_cases h : n = 146096
    · exact ⟨3, by omega, by omega, 36524, by omega, by omega, by omega⟩
    · exact ⟨n / 36524, by omega, by omega, n - 36524 * (n / 36524), by omega, by omega, by omega⟩
  obtain ⟨Q, hQ0, hQ4, s0, hs0, hs1, hr⟩ : ∃ Q : Int, 0 ≤ Q ∧ Q ≤ 24 ∧ ∃ s : Int, 0 ≤ s ∧ s ≤ 1460 ∧ r = 1461 * Q + s :=
    ⟨r / 1461, by omega, by omega, r - 1461 * (r / 1461), by omega, by omega, by omega⟩
  obtain ⟨R, hR0, hR3, s, hs2, hs3, hs⟩ : ∃ R : Int, 0 ≤ R ∧ R ≤ 3 ∧ ∃ s : Int, 0 ≤ s ∧ (s ≤ 364 ∨ R = 3 ∧ s ≤ 365) ∧ s0 = 365 * R + s := by
    by_cases h : s0 = 1460
    · exact ⟨3, by omega, by omega, 365, by omega, by omega, by omega⟩
    · exact ⟨s0 / 365, by omega, by omega, s0 - 365 * (s0 / 365), by omega, by omega, by omega⟩
  refine ⟨B, Q, R, s, hB0, hB3, hQ0, hQ4, hR0, hR3, hs2, by omega, by omega, by omega, ?_⟩
  subst hs hr hn
  obtain ⟨t, ht, ht01⟩ : ∃ t, (36524 * B + (1461 * Q + (365 * R + s))) / 1460 = 25 * B + Q + t ∧ (t = 0 ∧ 24 * B + Q + 365 * R + s < 1460 ∨ t = 1 ∧ 1460 ≤ 24 * B + Q + 365 * R + s) := by
    by_cases h : 24 * B + Q + 365 * R + s < 1460
    · exact ⟨0, by omega, by omega⟩
    · exact ⟨1, by omega, by omega⟩
  have hu : (36524 * B + (1461 * Q + (365 * R + s))) / 36524 - (36524 * B + (1461 * Q + (365 * R + s))) / 146096 = B := by omega
  rw [hy]
  omega
def mlen (k : Int) : Int := if k = 1 ∨ k = 3 ∨ k = 6 ∨ k = 8 then 30 else if k = 11 then 29 else 31
theorem month_ok (s k : Int) (h0 : 0 ≤ s) (h1 : s ≤ 365) (hk : k = (5 * s + 2) / 153) : 0 ≤ k ∧ k ≤ 11 ∧ 1 ≤ s - (153 * k + 2) / 5 + 1 ∧ s - (153 * k + 2) / 5 + 1 ≤ mlen k := by
  have hk12 : k = 0 ∨ k = 1 ∨ k = 2 ∨ k = 3 ∨ k = 4 ∨ k = 5 ∨ k = 6 ∨ k = 7 ∨ k = 8 ∨ k = 9 ∨ k = 10 ∨ k = 11 := by omega
  unfold mlen
  rcases hk12 with rfl | rfl | rfl | rfl | rfl | rfl | rfl | rfl | rfl | rfl | rfl | rfl <;> simp <;> omega
theorem month_of (k d : Int) (h0 : 0 ≤ k) (h1 : k ≤ 11) (hd1 : 1 ≤ d) (hd2 : d ≤ mlen k) : 0 ≤ (153 * k + 2) / 5 + d - 1 ∧ (153 * k + 2) / 5 + d - 1 ≤ 365 ∧ (5 * ((153 * k + 2) / 5 + d - 1) + 2) / 153 = k := by
  have hk12 : k = 0 ∨ k = 1 ∨ k = 2 ∨ k = 3 ∨ k = 4 ∨ k = 5 ∨ k = 6 ∨ k = 7 ∨ k = 8 ∨ k = 9 ∨ k = 10 ∨ k = 11 := by omega
  unfold mlen at hd2
  rcases hk12 with rfl | rfl | rfl | rfl | rfl | rfl | rfl | rfl | rfl | rfl | rfl | rfl <;> simp at hd2 <;> omega
theorem years_uniq (B Q R s B' Q' R' s' : Int) (h : 36524 * B + 1461 * Q + 365 * R + s = 36524 * B' + 1461 * Q' + 365 * R' + s')
    (a1 : 0 ≤ B) (a2 : B ≤ 3) (a3 : 0 ≤ Q) (a4 : Q ≤ 24) (a5 : 0 ≤ R) (a6 : R ≤ 3) (a7 : 0 ≤ s) (a8 : s ≤ 365) (a9 : s = 365 → R = 3 ∧ (Q ≤ 23 ∨ B = 3))
    (b1 : 0 ≤ B') (b2 : B' ≤ 3) (b3 : 0 ≤ Q') (b4 : Q' ≤ 24) (b5 : 0 ≤ R') (b6 : R' ≤ 3) (b7 : 0 ≤ s') (b8 : s' ≤ 365) (b9 : s' = 365 → R' = 3 ∧ (Q' ≤ 23 ∨ B' = 3)) :
    B = B' ∧ Q = Q' ∧ R = R' ∧ s = s' := by
  have e1 : B = B' := by omega
  have e2 : Q = Q' := by omega
  have e3 : R = R' := by omega
  exact ⟨e1, e2, e3, by omega⟩
def leapP (y : Int) : Prop := y % 4 = 0 ∧ (y % 100 ≠ 0 ∨ y % 400 = 0)
instance (y : Int) : Decidable (leapP y) := by unfold leapP; infer_instance
def dim (y m : Int) : Int := if m = 2 then (if leapP y then 29 else 28) else if m = 4 ∨ m = 6 ∨ m = 9 ∨ m = 11 then 30 else 31
def numY (Y M d : Int) : Int := (Y / 400) * 146097 + (Y % 400) * 365 + (Y % 400) / 4 - (Y % 400) / 100 + (153 * M + 2) / 5 + d - 1 - 719468
def numD (y m d : Int) : Int := if m ≤ 2 then numY (y - 1) (m + 9) d else numY y (m - 3) d
def yearsS (n : Int) : Int := (n - n / 1460 + n / 36524 - n / 146096) / 365
def restS (n : Int) : Int := n - (365 * yearsS n + yearsS n / 4 - yearsS n / 100)
def monS (n : Int) : Int := (5 * restS n + 2) / 153
def civilS (day : Int) : Int × Int × Int :=
  if monS ((day + 719468) % 146097) + 3 > 12 then (yearsS ((day + 719468) % 146097) + 400 * ((day + 719468) / 146097) + 1, monS ((day + 719468) % 146097) + 3 - 12, restS ((day + 719468) % 146097) - (153 * monS ((day + 719468) % 146097) + 2) / 5 + 1)
  else (yearsS ((day + 719468) % 146097) + 400 * ((day + 719468) / 146097), monS ((day + 719468) % 146097) + 3, restS ((day + 719468) % 146097) - (153 * monS ((day + 719468) % 146097) + 2) / 5 + 1)
theorem years_parts (B Q R : Int) (a1 : 0 ≤ B) (a2 : B ≤ 3) (a3 : 0 ≤ Q) (a4 : Q ≤ 24) (a5 : 0 ≤ R) (a6 : R ≤ 3) :
    (100 * B + 4 * Q + R) / 4 = 25 * B + Q ∧ (100 * B + 4 * Q + R) / 100 = B := by omega
theorem leap_next (e B Q R : Int) (a1 : 0 ≤ B) (a2 : B ≤ 3) (a3 : 0 ≤ Q) (a4 : Q ≤ 24) (a5 : 0 ≤ R) (a6 : R ≤ 3) : leapP (100 * B + 4 * Q + R + 400 * e + 1) ↔ R = 3 ∧ (Q ≤ 23 ∨ B = 3) := by
  unfold leapP
  omega
theorem year_lo (e y s : Int) (h : 719468 ≤ 146097 * e + (365 * y + y / 4 - y / 100 + s)) (hy0 : 0 ≤ y) (hy1 : y ≤ 399) (hs : s ≤ 305) : 1970 ≤ y + 400 * e := by
  rcases Int.lt_or_le (y + 400 * e) 1970 with h1 | h1
  · exfalso
    obtain ⟨a, ha⟩ : ∃ a, a = y / 4 := ⟨_, rfl⟩
    obtain ⟨b, hb⟩ : ∃ b, b = y / 100 := ⟨_, rfl⟩
    have ha1 : a ≤ 99 := by omega
    have hb1 : 0 ≤ b := by omega
    rw [← ha, ← hb] at h
    have he : 4 ≤ e := by omega
    have he : e = 4 := by omega
    subst he
    have : y ≤ 369 := by omega
    have : a ≤ 92 := by omega
    have : b = 3 ∨ y ≤ 299 := by omega
    omega
  · exact h1
theorem year_hi (e y s : Int) (h : 146097 * e + (365 * y + y / 4 - y / 100 + s) ≤ 3652364) (hy0 : 0 ≤ y) (hy1 : y ≤ 399) (hs : 0 ≤ s) : y + 400 * e ≤ 9999 := by
  rcases Int.lt_or_le 9999 (y + 400 * e) with h1 | h1
  · exfalso
    obtain ⟨a, ha⟩ : ∃ a, a = y / 4 := ⟨_, rfl⟩
    obtain ⟨b, hb⟩ : ∃ b, b = y / 100 := ⟨_, rfl⟩
    have ha1 : 0 ≤ a := by omega
    have hb1 : b ≤ 3 := by omega
    rw [← ha, ← hb] at h
    have : 25 ≤ e := by omega
    omega
  · exact h1
theorem day_hi (e y s : Int) (h : y + 400 * e ≤ 9999) (hy0 : 0 ≤ y) (hy1 : y ≤ 399) (hs : s ≤ 305) : 146097 * e + (365 * y + y / 4 - y / 100 + s) ≤ 3652364 := by
  obtain ⟨a, ha⟩ : ∃ a, a = y / 4 := ⟨_, rfl⟩
  obtain ⟨b, hb⟩ : ∃ b, b = y / 100 := ⟨_, rfl⟩
  have ha1 : a ≤ 99 := by omega
  have hb1 : b = 3 ∨ y ≤ 299 := by omega
  have hb0 : 0 ≤ b := by omega
  rw [← ha, ← hb]
  have : e ≤ 24 := by omega
  omega
theorem civil_ok (day : Int) (h0 : 0 ≤ day) (h1 : day ≤ 2932896) :
    ∃ y m d, civilS day = (y, m, d) ∧ 1970 ≤ y ∧ y ≤ 9999 ∧ 1 ≤ m ∧ m ≤ 12 ∧ 1 ≤ d ∧ d ≤ dim y m ∧ numD y m d = day := by
  obtain ⟨e, he⟩ : ∃ e, e = (day + 719468) / 146097 := ⟨_, rfl⟩
  obtain ⟨n, hn⟩ : ∃ n, n = (day + 719468) % 146097 := ⟨_, rfl⟩
  obtain ⟨y, hy⟩ : ∃ y, y = yearsS n := ⟨_, rfl⟩
  obtain ⟨B, Q, R, s, a1, a2, a3, a4, a5, a6, a7, a8, a9, hn2, hy2⟩ := years_ok n y (by omega) (by omega) hy
  obtain ⟨p4, p100⟩ := years_parts B Q R a1 a2 a3 a4 a5 a6
  have hs : restS n = s := by unfold restS; rw [← hy, hy2, p4, p100]; omega
  obtain ⟨k, hk⟩ : ∃ k, k = monS n := ⟨_, rfl⟩
  have hk2 : k = (5 * s + 2) / 153 := by rw [hk]; unfold monS; rw [hs]
  obtain ⟨k0, k1, d0, d1⟩ := month_ok s k a7 a8 hk2
  obtain ⟨d, hd⟩ : ∃ d, d = s - (153 * k + 2) / 5 + 1 := ⟨_, rfl⟩
  rw [← hd] at d0 d1
  have hl := leap_next e B Q R a1 a2 a3 a4 a5 a6
  unfold civilS
  rw [← hn, ← he, ← hk, ← hy, hs, ← hd]
  by_cases h12 : k + 3 > 12
  · rw [if_pos h12]
    refine ⟨_, _, _, rfl, by omega, by omega, by omega, by omega, d0, ?_, ?_⟩
    · unfold dim
      unfold mlen at d1
      have hk : k = 10 ∨ k = 11 := by omega
      rcases hk with rfl | rfl
      · simp at d1 ⊢; omega
      · simp only [show (11 + 3 - 12 : Int) = 2 from rfl, if_true]
        by_cases hlp : leapP (y + 400 * e + 1)
        · rw [if_pos hlp]; simp at d1; omega
        · rw [if_neg hlp]
          have : s ≠ 365 := fun h => hlp (by rw [hy2]; exact hl.2 (a9 h))
          omega
    · unfold numD numY
      rw [if_pos (by omega)]
      have e1 : (y + 400 * e + 1 - 1) / 400 = e := by omega
      have e2 : (y + 400 * e + 1 - 1) % 400 = y := by omega
      rw [e1, e2, hy2, p4, p100]
      have : k + 3 - 12 + 9 = k := by omega
      rw [this]
      omega
  · rw [if_neg h12]
    have hs305 : s ≤ 305 := by omega
    have hn3 : n = 365 * y + y / 4 - y / 100 + s := by rw [hy2, p4, p100]; omega
    have hlo : 1970 ≤ y + 400 * e := year_lo e y s (by rw [← hn3]; omega) (by omega) (by omega) hs305
    have hhi : y + 400 * e ≤ 9999 := year_hi e y s (by rw [← hn3]; omega) (by omega) (by omega) a7
    refine ⟨_, _, _, rfl, hlo, hhi, by omega, by omega, d0, ?_, ?_⟩
    · unfold dim
      unfold mlen at d1
      rw [if_neg (by omega)]
      split at d1 <;> split <;> omega
    · unfold numD numY
      rw [if_neg (by omega)]
      have e1 : (y + 400 * e) / 400 = e := by omega
      have e2 : (y + 400 * e) % 400 = y := by omega
      rw [e1, e2, hy2, p4, p100]
      have : k + 3 - 3 = k := by omega
      rw [this]
      omega
theorem numY_parts (Y M d : Int) (hY : 0 ≤ Y) : ∃ e B Q R, 0 ≤ e ∧ 0 ≤ B ∧ B ≤ 3 ∧ 0 ≤ Q ∧ Q ≤ 24 ∧ 0 ≤ R ∧ R ≤ 3 ∧ Y = 100 * B + 4 * Q + R + 400 * e ∧ numY Y M d = 146097 * e + 36524 * B + 1461 * Q + 365 * R + (153 * M + 2) / 5 + d - 1 - 719468 := by
  refine ⟨Y / 400, (Y % 400) / 100, (Y % 100) / 4, Y % 4, by omega, by omega, by omega, by omega, by omega, by omega, by omega, by omega, ?_⟩
  unfold numY
  omega
theorem civil_num (y m d : Int) (hy0 : 1970 ≤ y) (hy1 : y ≤ 9999) (hm0 : 1 ≤ m) (hm1 : m ≤ 12) (hd0 : 1 ≤ d) (hd1 : d ≤ dim y m) :
    0 ≤ numD y m d ∧ numD y m d ≤ 2932896 ∧ civilS (numD y m d) = (y, m, d) := by
  obtain ⟨Y, M, hY, hM0, hM1, hnum, hback, hdm⟩ : ∃ Y M, 1969 ≤ Y ∧ 0 ≤ M ∧ M ≤ 11 ∧ numD y m d = numY Y M d ∧ (if M + 3 > 12 then (Y + 1, M + 3 - 12, d) else (Y, M + 3, d)) = (y, m, d) ∧ (d ≤ mlen M ∧ (M = 11 → d = 29 → leapP (Y + 1)) ∧ (M + 3 > 12 → Y ≤ 9998) ∧ Y ≤ 9999 ∧ (M + 3 ≤ 12 → 1970 ≤ Y)) := by
    unfold dim at hd1
    by_cases h2 : m ≤ 2
    · refine ⟨y - 1, m + 9, by omega, by omega, by omega, by unfold numD; rw [if_pos h2], ?_, ?_⟩
      · rw [if_pos (by omega)]
        congr 1
        · omega
        · congr 1; omega
      · unfold mlen
        have hm12 : m = 1 ∨ m = 2 := by omega
        rcases hm12 with rfl | rfl
        · simp at hd1 ⊢; omega
        · simp only [if_true] at hd1
          split at hd1
          · rename_i hl
            refine ⟨by simp; omega, fun _ _ => by rw [show y - 1 + 1 = y from by omega]; exact hl, by omega, by omega, by omega⟩
          · refine ⟨by simp; omega, fun _ h => by omega, by omega, by omega, by omega⟩
    · refine ⟨y, m - 3, by omega, by omega, by omega, by unfold numD; rw [if_neg h2], ?_, ?_⟩
      · rw [if_neg (by omega)]
        congr 2; omega
      · unfold mlen
        rw [if_neg (by omega)] at hd1
        refine ⟨?_, by omega, by omega, by omega, by omega⟩
        split at hd1 <;> split <;> omega
  obtain ⟨hdl, hlp, hYu, hYv, hYw⟩ := hdm
  obtain ⟨e, B, Q, R, he, a1, a2, a3, a4, a5, a6, hYp, hn⟩ := numY_parts Y M d (by omega)
  obtain ⟨s0, s1, hk⟩ := month_of M d hM0 hM1 hd0 hdl
  obtain ⟨s, hs⟩ : ∃ s, s = (153 * M + 2) / 5 + d - 1 := ⟨_, rfl⟩
  rw [← hs] at s0 s1 hk
  have hl := leap_next e B Q R a1 a2 a3 a4 a5 a6
  have a9 : s = 365 → R = 3 ∧ (Q ≤ 23 ∨ B = 3) := by
    intro h
    have h11 : M = 11 ∧ d = 29 := by
      unfold mlen at hdl
      split at hdl
      · omega
      · split at hdl <;> omega
    exact hl.1 (by rw [← hYp]; exact hlp h11.1 h11.2)
  have hz : numD y m d + 719468 = 146097 * e + (36524 * B + 1461 * Q + 365 * R + s) := by rw [hnum, hn, hs]; omega
  have hn1 : 36524 * B + 1461 * Q + 365 * R + s ≤ 146096 := by omega
  have hz1 : (numD y m d + 719468) / 146097 = e := by rw [hz]; omega
  have hz2 : (numD y m d + 719468) % 146097 = 36524 * B + 1461 * Q + 365 * R + s := by rw [hz]; omega
  obtain ⟨B', Q', R', s', b1, b2, b3, b4, b5, b6, b7, b8, b9, hn2, hy2⟩ := years_ok (36524 * B + 1461 * Q + 365 * R + s) (yearsS (36524 * B + 1461 * Q + 365 * R + s)) (by omega) (by omega) rfl
  obtain ⟨rfl, rfl, rfl, rfl⟩ := years_uniq B Q R s B' Q' R' s' hn2 a1 a2 a3 a4 a5 a6 s0 s1 a9 b1 b2 b3 b4 b5 b6 b7 b8 b9
  obtain ⟨p4, p100⟩ := years_parts B Q R a1 a2 a3 a4 a5 a6
  have hr : restS (36524 * B + 1461 * Q + 365 * R + s) = s := by unfold restS; rw [hy2, p4, p100]; omega
  have hmn : monS (36524 * B + 1461 * Q + 365 * R + s) = M := by unfold monS; rw [hr]; exact hk
  refine ⟨?_, ?_, ?_⟩
  · have : 0 ≤ M := hM0
    by_cases h12 : M + 3 > 12
    · have := hYu h12
      have hM10 : 10 ≤ M := by omega
      have : 306 ≤ (153 * M + 2) / 5 := by omega
      omega
    · have := hYw (by omega)
      omega
  · by_cases h12 : M + 3 > 12
    · have := hYu h12
      omega
    · have h9 : M ≤ 9 := by omega
      have : s ≤ 305 := by
        have hM : M = 0 ∨ M = 1 ∨ M = 2 ∨ M = 3 ∨ M = 4 ∨ M = 5 ∨ M = 6 ∨ M = 7 ∨ M = 8 ∨ M = 9 := by omega
        unfold mlen at hdl
        rcases hM with rfl | rfl | rfl | rfl | rfl | rfl | rfl | rfl | rfl | rfl <;> simp at hdl hs <;> omega
      obtain ⟨yy, hyy⟩ : ∃ yy, yy = 100 * B + 4 * Q + R := ⟨_, rfl⟩
      have hq : 36524 * B + 1461 * Q + 365 * R = 365 * yy + yy / 4 - yy / 100 := by rw [hyy, p4, p100]; omega
      have hYY : Y = yy + 400 * e := by rw [hyy]; exact hYp
      have hyy1 : yy ≤ 399 := by omega
      have hd9 := day_hi e yy s (by rw [← hYY]; exact hYv) (by omega) hyy1 this
      rw [← hq] at hd9
      omega
  · unfold civilS
    rw [hz1, hz2, hmn, hr, hy2, ← hYp]
    have : s - (153 * M + 2) / 5 + 1 = d := by omega
    rw [this]
    exact hback
open Go.Vm
attribute [local congr] wi_congr wg_congr wgd_congr wb_congr wl_congr cf_congr
variable {L : FuncId → List V → V → Prop} {h : Heap}
theorem wdiv {x c : Int} (h0 : 0 ≤ x) (hc : 0 < c) (h1 : x ≤ 9223372036854775807) : IntKind.i64.wrap (Int.tdiv x c) = x / c := by
  rw [Int.tdiv_eq_ediv_of_nonneg h0]
  have h2 : x / c ≤ x := Int.ediv_le_self _ h0
  have h3 : 0 ≤ x / c := Int.ediv_nonneg h0 (Int.le_of_lt hc)
  exact wrap64 (by omega) (by omega)
theorem tmod_nn {x c : Int} (h0 : 0 ≤ x) : Int.tmod x c = x % c := Int.tmod_eq_emod_of_nonneg h0
theorem w_years (n : Int) (n0 : 0 ≤ n) (n1 : n < 146097) : IntKind.i64.wrap (Int.tdiv (IntKind.i64.wrap ((IntKind.i64.wrap ((IntKind.i64.wrap (n - (IntKind.i64.wrap (Int.tdiv n 1460)))) + (IntKind.i64.wrap (Int.tdiv n 36524)))) - (IntKind.i64.wrap (Int.tdiv n 146096)))) 365) = yearsS n := by
  rw [wdiv (x := n) (c := 1460) n0 (by omega) (by omega), wdiv (x := n) (c := 36524) n0 (by omega) (by omega), wdiv (x := n) (c := 146096) n0 (by omega) (by omega),
    wrap64 (x := n - n / 1460) (by omega) (by omega), wrap64 (x := n - n / 1460 + n / 36524) (by omega) (by omega), wrap64 (x := n - n / 1460 + n / 36524 - n / 146096) (by omega) (by omega),
    wdiv (x := n - n / 1460 + n / 36524 - n / 146096) (c := 365) (by omega) (by omega) (by omega)]
  rfl
theorem years_rest (n : Int) (n0 : 0 ≤ n) (n1 : n < 146097) : 0 ≤ yearsS n ∧ yearsS n ≤ 399 ∧ 0 ≤ restS n ∧ restS n ≤ 365 := by
  obtain ⟨B, Q, R, s, a1, a2, a3, a4, a5, a6, a7, a8, a9, hn2, hy2⟩ := years_ok n (yearsS n) n0 n1 rfl
  obtain ⟨p4, p100⟩ := years_parts B Q R a1 a2 a3 a4 a5 a6
  have hs : restS n = s := by unfold restS; rw [hy2, p4, p100]; omega
  rw [hs, hy2]
  omega
theorem w_rest (n : Int) (n0 : 0 ≤ n) (n1 : n < 146097) : IntKind.i64.wrap (n - (IntKind.i64.wrap ((IntKind.i64.wrap ((IntKind.i64.wrap (365 * yearsS n)) + (IntKind.i64.wrap (Int.tdiv (yearsS n) 4)))) - (IntKind.i64.wrap (Int.tdiv (yearsS n) 100))))) = restS n := by
  obtain ⟨y0, y1, _, _⟩ := years_rest n n0 n1
  unfold restS
  generalize yearsS n = y at *
  rw [wrap64 (x := 365 * y) (by omega) (by omega), wdiv (x := y) (c := 4) y0 (by omega) (by omega), wdiv (x := y) (c := 100) y0 (by omega) (by omega),
    wrap64 (x := 365 * y + y / 4) (by omega) (by omega), wrap64 (x := 365 * y + y / 4 - y / 100) (by omega) (by omega)]
  exact wrap64 (by omega) (by omega)
theorem w_mon (n : Int) (n0 : 0 ≤ n) (n1 : n < 146097) : IntKind.i64.wrap (Int.tdiv (IntKind.i64.wrap ((IntKind.i64.wrap (5 * restS n)) + 2)) 153) = monS n := by
  obtain ⟨_, _, s0, s1⟩ := years_rest n n0 n1
  unfold monS
  generalize restS n = s at *
  rw [wrap64 (x := 5 * s) (by omega) (by omega), wrap64 (x := 5 * s + 2) (by omega) (by omega)]
  exact wdiv (by omega) (by omega) (by omega)
theorem mon_range (n : Int) (n0 : 0 ≤ n) (n1 : n < 146097) : 0 ≤ monS n ∧ monS n ≤ 11 := by
  obtain ⟨_, _, s0, s1⟩ := years_rest n n0 n1
  obtain ⟨m0, m1, _, _⟩ := month_ok (restS n) (monS n) s0 s1 rfl
  exact ⟨m0, m1⟩
theorem w_day (n : Int) (n0 : 0 ≤ n) (n1 : n < 146097) : IntKind.i64.wrap ((IntKind.i64.wrap (restS n - (IntKind.i64.wrap (Int.tdiv (IntKind.i64.wrap ((IntKind.i64.wrap (153 * monS n)) + 2)) 5)))) + 1) = restS n - (153 * monS n + 2) / 5 + 1 := by
  obtain ⟨_, _, s0, s1⟩ := years_rest n n0 n1
  obtain ⟨m0, m1⟩ := mon_range n n0 n1
  generalize restS n = s at *
  generalize monS n = m at *
  rw [wrap64 (x := 153 * m) (by omega) (by omega), wrap64 (x := 153 * m + 2) (by omega) (by omega), wdiv (x := 153 * m + 2) (c := 5) (by omega) (by omega) (by omega),
    wrap64 (x := s - (153 * m + 2) / 5) (by omega) (by omega)]
  exact wrap64 (by omega) (by omega)
def daysS (y m d : Int) : Int := if 1970 ≤ y ∧ y ≤ 9999 ∧ 1 ≤ m ∧ m ≤ 12 ∧ 1 ≤ d ∧ d ≤ dim y m then numD y m d else -1
theorem dim_le (y m : Int) : dim y m ≤ 31 := by
  unfold dim
  split
  · split <;> omega
  · split <;> omega
theorem w_num (Y M d : Int) (h0 : 1969 ≤ Y) (h1 : Y ≤ 9999) (m0 : 0 ≤ M) (m1 : M ≤ 11) (d0 : 1 ≤ d) (d1 : d ≤ 31) :
    IntKind.i64.wrap ((IntKind.i64.wrap ((IntKind.i64.wrap ((IntKind.i64.wrap ((IntKind.i64.wrap ((IntKind.i64.wrap ((IntKind.i64.wrap ((IntKind.i64.wrap ((IntKind.i64.wrap (Int.tdiv Y 400)) * 146097)) + (IntKind.i64.wrap ((Int.tmod Y 400) * 365)))) + (IntKind.i64.wrap (Int.tdiv (Int.tmod Y 400) 4)))) - (IntKind.i64.wrap (Int.tdiv (Int.tmod Y 400) 100)))) + (IntKind.i64.wrap (Int.tdiv (IntKind.i64.wrap ((IntKind.i64.wrap (153 * M)) + 2)) 5)))) + d)) - 1)) - 719468) = numY Y M d := by
  rw [tmod_nn (x := Y) (by omega), wdiv (x := Y) (by omega) (by omega) (by omega)]
  unfold numY
  have e0 : 0 ≤ Y / 400 := by omega
  have e1 : Y / 400 ≤ 25 := by omega
  have r0 : 0 ≤ Y % 400 := by omega
  have r1 : Y % 400 ≤ 399 := by omega
  generalize Y / 400 = e at *
  generalize Y % 400 = r at *
  have q0 : 0 ≤ r / 4 := by omega
  have q1 : r / 4 ≤ 99 := by omega
  have c0 : 0 ≤ r / 100 := by omega
  have c1 : r / 100 ≤ 3 := by omega
  rw [wdiv (x := r) (c := 4) r0 (by omega) (by omega), wdiv (x := r) (c := 100) r0 (by omega) (by omega), wrap64 (x := 153 * M) (by omega) (by omega), wrap64 (x := 153 * M + 2) (by omega) (by omega), wdiv (x := 153 * M + 2) (c := 5) (by omega) (by omega) (by omega)]
  have v0 : 0 ≤ (153 * M + 2) / 5 := by omega
  have v1 : (153 * M + 2) / 5 ≤ 337 := by omega
  generalize r / 4 = q at *
  generalize r / 100 = c at *
  generalize (153 * M + 2) / 5 = v at *
  rw [wrap64 (x := e * 146097) (by omega) (by omega), wrap64 (x := r * 365) (by omega) (by omega), wrap64 (x := e * 146097 + r * 365) (by omega) (by omega), wrap64 (x := e * 146097 + r * 365 + q) (by omega) (by omega),
    wrap64 (x := e * 146097 + r * 365 + q - c) (by omega) (by omega), wrap64 (x := e * 146097 + r * 365 + q - c + v) (by omega) (by omega), wrap64 (x := e * 146097 + r * 365 + q - c + v + d) (by omega) (by omega), wrap64 (x := e * 146097 + r * 365 + q - c + v + d - 1) (by omega) (by omega)]
  exact wrap64 (by omega) (by omega)
theorem days_core (y m d n : Int) (hn : n = numD y m d) (hy0 : 1970 ≤ y) (hy1 : y ≤ 9999) (hm0 : 1 ≤ m) (hm1 : m ≤ 12) (hd0 : 1 ≤ d) (t : Int × Int × Int) (ht : t = if 0 ≤ n ∧ n ≤ 2932896 then civilS n else (0, 0, 0)) :
    (if t.1 = y then (if t.2.1 = m then (if t.2.2 = d then some n else some (-1)) else some (-1)) else some (-1)) = some (daysS y m d) := by
  unfold daysS
  by_cases hd : d ≤ dim y m
  · obtain ⟨c0, c1, c2⟩ := civil_num y m d hy0 hy1 hm0 hm1 hd0 hd
    rw [← hn] at c0 c1 c2
    rw [if_pos ⟨c0, c1⟩, c2] at ht
    subst ht
    rw [if_pos rfl, if_pos rfl, if_pos rfl, if_pos ⟨hy0, hy1, hm0, hm1, hd0, hd⟩, hn]
  · rw [if_neg (show ¬ (1970 ≤ y ∧ y ≤ 9999 ∧ 1 ≤ m ∧ m ≤ 12 ∧ 1 ≤ d ∧ d ≤ dim y m) from fun h => hd h.2.2.2.2.2)]
    by_cases hr : 0 ≤ n ∧ n ≤ 2932896
    · rw [if_pos hr] at ht
      obtain ⟨y', m', d', hc, _, _, _, _, _, hd', _⟩ := civil_ok n hr.1 hr.2
      rw [hc] at ht
      subst ht
      simp only
      by_cases e1 : y' = y
      · rw [if_pos e1]
        by_cases e2 : m' = m
        · rw [if_pos e2]
          subst e1 e2
          rw [if_neg (fun e3 => hd (by rw [← e3]; exact hd'))]
        · rw [if_neg e2]
      · rw [if_neg e1]
    · rw [if_neg hr] at ht
      subst ht
      simp only
      rw [if_neg (by omega)]
theorem bin_quo {x y : Int} : binV .quo (.int .i64 x) (.int .i64 y) = if y = 0 then none else some (.int .i64 (IntKind.i64.wrap (x.tdiv y))) := by
  by_cases h : y = 0 <;> simp [binV, binI, h]
theorem bin_rem {x y : Int} : binV .rem (.int .i64 x) (.int .i64 y) = if y = 0 then none else some (.int .i64 (x.tmod y)) := by
  by_cases h : y = 0 <;> simp [binV, binI, h]
def civV (t : Int × Int × Int) : V := .tup [.int .i64 t.1, .int .i64 t.2.1, .int .i64 t.2.2]
def civA (day : Int) : Int × Int × Int := if 0 ≤ day ∧ day ≤ 2932896 then civilS day else (0, 0, 0)
theorem Civil_ok {day : Int} : Cf F L i_date_Civil [.int .i64 day] h (Pu h (civV (civA day))) := by
  refine run_date_Civil ?_
  simp only [p_date_Civil]
  by_cases h0 : day < 0
  · have e : civA day = (0, 0, 0) := if_neg (by omega)
    rw [e]
    simp (maxSteps := 4000000) only [vm, vl, Arg.get, cells, stor, boundO, resultsV, resV, partK, loadV, Vm.part, fillC, splice, reduceIte, reduceCtorEq, Nat.reduceEqDiff, Nat.reduceAdd, Nat.reduceSub, Nat.reduceMul, Nat.reduceLeDiff, ne_eq, not_false_eq_true, Int.reduceEq, Int.reduceLT, Int.reduceLE, Int.reduceNeg, Int.reduceToNat, Int.reduceGT, Int.reduceGE, Nat.reduceLT, Nat.lt_add_one, Nat.zero_lt_succ, Nat.succ_pos, Nat.zero_le, beq_self_eq_true, k_date_Civil_1, k_date_Civil_0, h0, decide_true, civV]
  by_cases h1 : day > 2932896
  · have e : civA day = (0, 0, 0) := if_neg (by omega)
    rw [e]
    simp (maxSteps := 4000000) only [vm, vl, Arg.get, cells, stor, boundO, resultsV, resV, partK, loadV, Vm.part, fillC, splice, reduceIte, reduceCtorEq, Nat.reduceEqDiff, Nat.reduceAdd, Nat.reduceSub, Nat.reduceMul, Nat.reduceLeDiff, ne_eq, not_false_eq_true, Int.reduceEq, Int.reduceLT, Int.reduceLE, Int.reduceNeg, Int.reduceToNat, Int.reduceGT, Int.reduceGE, Nat.reduceLT, Nat.lt_add_one, Nat.zero_lt_succ, Nat.succ_pos, Nat.zero_le, beq_self_eq_true, k_date_Civil_1, k_date_Civil_0, h0, h1, decide_true, decide_false, civV]
  have e : civA day = civilS day := if_pos (by omega)
  rw [e]
  have f1 : IntKind.i64.wrap (day + 719468) = day + 719468 := wrap64 (by omega) (by omega)
  have f2 : IntKind.i64.wrap ((day + 719468).tdiv 146097) = (day + 719468) / 146097 := wdiv (by omega) (by omega) (by omega)
  have f3 : (day + 719468).tmod 146097 = (day + 719468) % 146097 := tmod_nn (by omega)
  unfold civilS
  have n0 : 0 ≤ (day + 719468) % 146097 := by omega
  have n1 : (day + 719468) % 146097 < 146097 := by omega
  have e0 : 0 ≤ (day + 719468) / 146097 := by omega
  have e1 : (day + 719468) / 146097 ≤ 100 := by omega
  have g1 := w_years _ n0 n1
  have g2 := w_rest _ n0 n1
  have g3 := w_mon _ n0 n1
  have g4 := w_day _ n0 n1
  obtain ⟨y0, y1, s0, s1⟩ := years_rest _ n0 n1
  obtain ⟨m0, m1⟩ := mon_range _ n0 n1
  have k1 : IntKind.i64.wrap (monS ((day + 719468) % 146097) + 3) = monS ((day + 719468) % 146097) + 3 := wrap64 (by omega) (by omega)
  have k2 : IntKind.i64.wrap (400 * ((day + 719468) / 146097)) = 400 * ((day + 719468) / 146097) := wrap64 (by omega) (by omega)
  have k3 : IntKind.i64.wrap (yearsS ((day + 719468) % 146097) + 400 * ((day + 719468) / 146097)) = yearsS ((day + 719468) % 146097) + 400 * ((day + 719468) / 146097) := wrap64 (by omega) (by omega)
  have k4 : IntKind.i64.wrap (yearsS ((day + 719468) % 146097) + 400 * ((day + 719468) / 146097) + 1) = yearsS ((day + 719468) % 146097) + 400 * ((day + 719468) / 146097) + 1 := wrap64 (by omega) (by omega)
  have k5 : IntKind.i64.wrap (monS ((day + 719468) % 146097) + 3 - 12) = monS ((day + 719468) % 146097) + 3 - 12 := wrap64 (by omega) (by omega)
  by_cases hm : monS ((day + 719468) % 146097) + 3 > 12
  · rw [if_pos hm]
    simp (maxSteps := 4000000) only [vm, vl, Arg.get, cells, stor, boundO, resultsV, resV, partK, loadV, Vm.part, fillC, splice, reduceIte, reduceCtorEq, Nat.reduceEqDiff, Nat.reduceAdd, Nat.reduceSub, Nat.reduceMul, Nat.reduceLeDiff, ne_eq, not_false_eq_true, Int.reduceEq, Int.reduceLT, Int.reduceLE, Int.reduceNeg, Int.reduceToNat, Int.reduceGT, Int.reduceGE, Nat.reduceLT, Nat.lt_add_one, Nat.zero_lt_succ, Nat.succ_pos, Nat.zero_le, beq_self_eq_true, k_date_Civil_1, k_date_Civil_0, h0, h1, decide_true, decide_false, bin_quo, bin_rem, f1, f2, f3, g1, g2, g3, g4, k1, k2, k3, k4, k5, hm, civV]
  · rw [if_neg hm]
    simp (maxSteps := 4000000) only [vm, vl, Arg.get, cells, stor, boundO, resultsV, resV, partK, loadV, Vm.part, fillC, splice, reduceIte, reduceCtorEq, Nat.reduceEqDiff, Nat.reduceAdd, Nat.reduceSub, Nat.reduceMul, Nat.reduceLeDiff, ne_eq, not_false_eq_true, Int.reduceEq, Int.reduceLT, Int.reduceLE, Int.reduceNeg, Int.reduceToNat, Int.reduceGT, Int.reduceGE, Nat.reduceLT, Nat.lt_add_one, Nat.zero_lt_succ, Nat.succ_pos, Nat.zero_le, beq_self_eq_true, k_date_Civil_1, k_date_Civil_0, h0, h1, decide_true, decide_false, bin_quo, bin_rem, f1, f2, f3, g1, g2, g3, g4, k1, k2, k3, k4, k5, hm, civV]
open Go.Vm
attribute [local congr] wi_congr wg_congr wgd_congr wb_congr wl_congr cf_congr
theorem days1_ok {y m d Y M n : Int} (hy0 : 1970 ≤ y) (hy1 : y ≤ 9999) (hm0 : 1 ≤ m) (hm1 : m ≤ 12) (hd0 : 1 ≤ d) (hd1 : d ≤ 31) (h0 : 1969 ≤ Y) (h1 : Y ≤ 9999) (m0 : 0 ≤ M) (m1 : M ≤ 11) (hn : numY Y M d = n) (hnd : n = numD y m d) :
    k_date_Days_1 L (Pu h (.int .i64 (daysS y m d))) (.int .i64 y) (.int .i64 m) (.int .i64 d) (.int .i64 Y) (.int .i64 M) h := by
  
  have hw := w_num Y M d h0 h1 m0 m1 hd0 hd1
  rw [hn] at hw
  have hc := days_core y m d n hnd hy0 hy1 hm0 hm1 hd0 (civA n) rfl
  simp (maxSteps := 4000000) only [vm, vl, Arg.get, cells, stor, boundO, resultsV, resV, partK, loadV, Vm.part, fillC, splice, reduceIte, reduceCtorEq, Nat.reduceEqDiff, Nat.reduceAdd, Nat.reduceSub, Nat.reduceMul, Nat.reduceLeDiff, ne_eq, not_false_eq_true, Int.reduceEq, Int.reduceLT, Int.reduceLE, Int.reduceNeg, Int.reduceToNat, Int.reduceGT, Int.reduceGE, Nat.reduceLT, Nat.lt_add_one, Nat.zero_lt_succ, Nat.succ_pos, Nat.zero_le, beq_self_eq_true, k_date_Days_2, k_date_Days_1, k_date_Days_0, bin_quo, bin_rem, hw]
  refine Cf.pu Civil_ok fun t => ?_
  generalize civA n = t at *
  simp only [civV]
  by_cases e1 : t.1 = y
  · by_cases e2 : t.2.1 = m
    · by_cases e3 : t.2.2 = d
      · rw [if_pos e1, if_pos e2, if_pos e3] at hc
        injection hc with hc
        simp (maxSteps := 4000000) only [vm, vl, Arg.get, cells, stor, boundO, resultsV, resV, partK, loadV, Vm.part, fillC, splice, reduceIte, reduceCtorEq, Nat.reduceEqDiff, Nat.reduceAdd, Nat.reduceSub, Nat.reduceMul, Nat.reduceLeDiff, ne_eq, not_false_eq_true, Int.reduceEq, Int.reduceLT, Int.reduceLE, Int.reduceNeg, Int.reduceToNat, Int.reduceGT, Int.reduceGE, Nat.reduceLT, Nat.lt_add_one, Nat.zero_lt_succ, Nat.succ_pos, Nat.zero_le, beq_self_eq_true, k_date_Days_2, k_date_Days_1, k_date_Days_0, e1, e2, e3, hc, decide_true, decide_false, Bool.not_true]
      · rw [if_pos e1, if_pos e2, if_neg e3] at hc
        injection hc with hc
        rw [← hc]
        simp (maxSteps := 4000000) only [vm, vl, Arg.get, cells, stor, boundO, resultsV, resV, partK, loadV, Vm.part, fillC, splice, reduceIte, reduceCtorEq, Nat.reduceEqDiff, Nat.reduceAdd, Nat.reduceSub, Nat.reduceMul, Nat.reduceLeDiff, ne_eq, not_false_eq_true, Int.reduceEq, Int.reduceLT, Int.reduceLE, Int.reduceNeg, Int.reduceToNat, Int.reduceGT, Int.reduceGE, Nat.reduceLT, Nat.lt_add_one, Nat.zero_lt_succ, Nat.succ_pos, Nat.zero_le, beq_self_eq_true, k_date_Days_2, k_date_Days_1, k_date_Days_0, e1, e2, e3, decide_true, decide_false, Bool.not_true, Bool.not_false]
    · rw [if_pos e1, if_neg e2] at hc
      injection hc with hc
      rw [← hc]
      simp (maxSteps := 4000000) only [vm, vl, Arg.get, cells, stor, boundO, resultsV, resV, partK, loadV, Vm.part, fillC, splice, reduceIte, reduceCtorEq, Nat.reduceEqDiff, Nat.reduceAdd, Nat.reduceSub, Nat.reduceMul, Nat.reduceLeDiff, ne_eq, not_false_eq_true, Int.reduceEq, Int.reduceLT, Int.reduceLE, Int.reduceNeg, Int.reduceToNat, Int.reduceGT, Int.reduceGE, Nat.reduceLT, Nat.lt_add_one, Nat.zero_lt_succ, Nat.succ_pos, Nat.zero_le, beq_self_eq_true, k_date_Days_2, k_date_Days_1, k_date_Days_0, e1, e2, decide_true, decide_false, Bool.not_true, Bool.not_false]
  · rw [if_neg e1] at hc
    injection hc with hc
    rw [← hc]
    simp (maxSteps := 4000000) only [vm, vl, Arg.get, cells, stor, boundO, resultsV, resV, partK, loadV, Vm.part, fillC, splice, reduceIte, reduceCtorEq, Nat.reduceEqDiff, Nat.reduceAdd, Nat.reduceSub, Nat.reduceMul, Nat.reduceLeDiff, ne_eq, not_false_eq_true, Int.reduceEq, Int.reduceLT, Int.reduceLE, Int.reduceNeg, Int.reduceToNat, Int.reduceGT, Int.reduceGE, Nat.reduceLT, Nat.lt_add_one, Nat.zero_lt_succ, Nat.succ_pos, Nat.zero_le, beq_self_eq_true, k_date_Days_2, k_date_Days_1, k_date_Days_0, e1, decide_true, decide_false, Bool.not_true, Bool.not_false]
theorem Days_ok {y m d : Int} : Cf F L i_date_Days [.int .i64 y, .int .i64 m, .int .i64 d] h (Pu h (.int .i64 (daysS y m d))) := by
  refine run_date_Days ?_
  simp only [p_date_Days]
  
  by_cases a1 : y < 1970
  · rw [show daysS y m d = -1 from if_neg (by omega)]
    simp (maxSteps := 4000000) only [vm, vl, Arg.get, cells, stor, boundO, resultsV, resV, partK, loadV, Vm.part, fillC, splice, reduceIte, reduceCtorEq, Nat.reduceEqDiff, Nat.reduceAdd, Nat.reduceSub, Nat.reduceMul, Nat.reduceLeDiff, ne_eq, not_false_eq_true, Int.reduceEq, Int.reduceLT, Int.reduceLE, Int.reduceNeg, Int.reduceToNat, Int.reduceGT, Int.reduceGE, Nat.reduceLT, Nat.lt_add_one, Nat.zero_lt_succ, Nat.succ_pos, Nat.zero_le, beq_self_eq_true, a1, decide_true]
  by_cases a2 : y > 9999
  · rw [show daysS y m d = -1 from if_neg (by omega)]
    simp (maxSteps := 4000000) only [vm, vl, Arg.get, cells, stor, boundO, resultsV, resV, partK, loadV, Vm.part, fillC, splice, reduceIte, reduceCtorEq, Nat.reduceEqDiff, Nat.reduceAdd, Nat.reduceSub, Nat.reduceMul, Nat.reduceLeDiff, ne_eq, not_false_eq_true, Int.reduceEq, Int.reduceLT, Int.reduceLE, Int.reduceNeg, Int.reduceToNat, Int.reduceGT, Int.reduceGE, Nat.reduceLT, Nat.lt_add_one, Nat.zero_lt_succ, Nat.succ_pos, Nat.zero_le, beq_self_eq_true, a1, a2, decide_true, decide_false]
  by_cases a3 : m < 1
  · rw [show daysS y m d = -1 from if_neg (by omega)]
    simp (maxSteps := 4000000) only [vm, vl, Arg.get, cells, stor, boundO, resultsV, resV, partK, loadV, Vm.part, fillC, splice, reduceIte, reduceCtorEq, Nat.reduceEqDiff, Nat.reduceAdd, Nat.reduceSub, Nat.reduceMul, Nat.reduceLeDiff, ne_eq, not_false_eq_true, Int.reduceEq, Int.reduceLT, Int.reduceLE, Int.reduceNeg, Int.reduceToNat, Int.reduceGT, Int.reduceGE, Nat.reduceLT, Nat.lt_add_one, Nat.zero_lt_succ, Nat.succ_pos, Nat.zero_le, beq_self_eq_true, a1, a2, a3, decide_true, decide_false]
  by_cases a4 : m > 12
  · rw [show daysS y m d = -1 from if_neg (by omega)]
    simp (maxSteps := 4000000) only [vm, vl, Arg.get, cells, stor, boundO, resultsV, resV, partK, loadV, Vm.part, fillC, splice, reduceIte, reduceCtorEq, Nat.reduceEqDiff, Nat.reduceAdd, Nat.reduceSub, Nat.reduceMul, Nat.reduceLeDiff, ne_eq, not_false_eq_true, Int.reduceEq, Int.reduceLT, Int.reduceLE, Int.reduceNeg, Int.reduceToNat, Int.reduceGT, Int.reduceGE, Nat.reduceLT, Nat.lt_add_one, Nat.zero_lt_succ, Nat.succ_pos, Nat.zero_le, beq_self_eq_true, a1, a2, a3, a4, decide_true, decide_false]
  by_cases a5 : d < 1
  · rw [show daysS y m d = -1 from if_neg (by omega)]
    simp (maxSteps := 4000000) only [vm, vl, Arg.get, cells, stor, boundO, resultsV, resV, partK, loadV, Vm.part, fillC, splice, reduceIte, reduceCtorEq, Nat.reduceEqDiff, Nat.reduceAdd, Nat.reduceSub, Nat.reduceMul, Nat.reduceLeDiff, ne_eq, not_false_eq_true, Int.reduceEq, Int.reduceLT, Int.reduceLE, Int.reduceNeg, Int.reduceToNat, Int.reduceGT, Int.reduceGE, Nat.reduceLT, Nat.lt_add_one, Nat.zero_lt_succ, Nat.succ_pos, Nat.zero_le, beq_self_eq_true, a1, a2, a3, a4, a5, decide_true, decide_false]
  by_cases a6 : d > 31
  · rw [show daysS y m d = -1 from if_neg (by have := dim_le y m; omega)]
    simp (maxSteps := 4000000) only [vm, vl, Arg.get, cells, stor, boundO, resultsV, resV, partK, loadV, Vm.part, fillC, splice, reduceIte, reduceCtorEq, Nat.reduceEqDiff, Nat.reduceAdd, Nat.reduceSub, Nat.reduceMul, Nat.reduceLeDiff, ne_eq, not_false_eq_true, Int.reduceEq, Int.reduceLT, Int.reduceLE, Int.reduceNeg, Int.reduceToNat, Int.reduceGT, Int.reduceGE, Nat.reduceLT, Nat.lt_add_one, Nat.zero_lt_succ, Nat.succ_pos, Nat.zero_le, beq_self_eq_true, a1, a2, a3, a4, a5, a6, decide_true, decide_false]
  have w1 : IntKind.i64.wrap (m - 3) = m - 3 := wrap64 (by omega) (by omega)
  have w2 : IntKind.i64.wrap (y - 1) = y - 1 := wrap64 (by omega) (by omega)
  have w3 : IntKind.i64.wrap (m + 9) = m + 9 := wrap64 (by omega) (by omega)
  by_cases a7 : m ≤ 2
  · simp (maxSteps := 4000000) only [vm, vl, Arg.get, cells, stor, boundO, resultsV, resV, partK, loadV, Vm.part, fillC, splice, reduceIte, reduceCtorEq, Nat.reduceEqDiff, Nat.reduceAdd, Nat.reduceSub, Nat.reduceMul, Nat.reduceLeDiff, ne_eq, not_false_eq_true, Int.reduceEq, Int.reduceLT, Int.reduceLE, Int.reduceNeg, Int.reduceToNat, Int.reduceGT, Int.reduceGE, Nat.reduceLT, Nat.lt_add_one, Nat.zero_lt_succ, Nat.succ_pos, Nat.zero_le, beq_self_eq_true, a1, a2, a3, a4, a5, a6, a7, decide_true, decide_false, w1, w2, w3, k_date_Days_0]
    exact days1_ok (by omega) (by omega) (by omega) (by omega) (by omega) (by omega) (by omega) (by omega) (by omega) (by omega) rfl (by unfold numD; rw [if_pos a7])
  · simp (maxSteps := 4000000) only [vm, vl, Arg.get, cells, stor, boundO, resultsV, resV, partK, loadV, Vm.part, fillC, splice, reduceIte, reduceCtorEq, Nat.reduceEqDiff, Nat.reduceAdd, Nat.reduceSub, Nat.reduceMul, Nat.reduceLeDiff, ne_eq, not_false_eq_true, Int.reduceEq, Int.reduceLT, Int.reduceLE, Int.reduceNeg, Int.reduceToNat, Int.reduceGT, Int.reduceGE, Nat.reduceLT, Nat.lt_add_one, Nat.zero_lt_succ, Nat.succ_pos, Nat.zero_le, beq_self_eq_true, a1, a2, a3, a4, a5, a6, a7, decide_true, decide_false, w1, w2, w3, k_date_Days_0]
    exact days1_ok (by omega) (by omega) (by omega) (by omega) (by omega) (by omega) (by omega) (by omega) (by omega) (by omega) rfl (by unfold numD; rw [if_neg a7])
end Go.Proofs.YtfkebmdfcpnaeaaGreatDoor.Vh
end
