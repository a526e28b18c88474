/- Several texts in one: VSplit3, VNum, VCtl1, VSplitN, VCtl2, VPairR, VCtl3, VCtl4, VField, VFew, VRGet, VCtlOf, VJoin, VCTells. -/
import Derived.Test.YtgplldjcopfjpaaDoorPk7
import Derived.Test.YtgplldjcopfjpaaDoorPk8
import Derived.Test.YtgplldjcopfjpaaDoorPk5
import Derived.Test.YtgplldjcopfjpaaDoorPk4
import Derived.Test.YtgplldjcopfjpaaDoorPk6
section
set_option linter.unusedVariables false
set_option linter.unusedSimpArgs false
namespace Go.Proofs.YtgplldjcopfjpaaDoor.Vh
open Go.Vm Go.Vt
attribute [local congr] wi_congr wg_congr wgd_congr wb_congr wl_congr cf_congr
variable {L : FuncId → List V → V → Prop} {h : Heap}
theorem full_list (out : List Bs) : ListV 1 (fullV out) (strs out) := by
  unfold fullV ListV
  by_cases h : out = []
  · simp [h, strs]
  · simp [h, strs]
theorem splitG_none {s own : Bs} {q : Bool} {out : List Bs} (h : s = []) : splitG s own q out = if q then none else some (flush out own) := by subst h; rfl
def RSplitI (h : Heap) (s : Bs) (n : Nat) (e : Env) (h' : Heap) : Prop :=
  ∃ (i : Nat) (own : Bs) (q : Bool) (out : List Bs), n = s.length - i ∧ i ≤ s.length ∧ own.length ≤ i ∧ out.length ≤ i ∧ Grow 1 h h' (e 4) (strs out) ∧
    e 0 = .str s ∧ e 5 = .str own ∧ e 6 = .bool q ∧ e 7 = .int .i64 i ∧ split s = splitG (s.drop i) own q out
/-- What Split comes to: a list, or none. -/
def SplitP (h : Heap) (o : Option (List Bs)) (v : V) (h' : Heap) : Prop := (∃ t, h' = h ++ t) ∧ ((o = none ∧ v = .tup [.nsl, .bool false]) ∨ ∃ out x, o = some out ∧ v = .tup [x, .bool true] ∧ ListV 1 x (strs out))
theorem SplitP.no {h h' : Heap} (hh : ∃ t, h' = h ++ t) : SplitP h none (.tup [.nsl, .bool false]) h' := ⟨hh, .inl ⟨rfl, rfl⟩⟩
theorem SplitP.yes {h h' : Heap} {x : V} {out : List Bs} (hh : ∃ t, h' = h ++ t) (hl : ListV 1 x (strs out)) : SplitP h (some out) (.tup [x, .bool true]) h' := ⟨hh, .inr ⟨out, x, rfl, rfl, hl⟩⟩
theorem rSplit_ok {s : Bs} (hs : s.length < 1000000000) : Cf F L i_gatepostref01_Split [.str s] h (SplitP h (split s)) := by
  refine run_gatepostref01_Split ?_
  simp only [p_gatepostref01_Split]
  refine l_gatepostref01_Split_0 (RSplitI h s) ?_ (n := s.length) ⟨0, [], false, [], by simp, by simp, by simp, by simp, .nil0, rfl, rfl, rfl, rfl, by simp [split]⟩
  rintro n e h' ⟨i, own, q, out, rfl, hi, how, hol, G, e0, e5, e6, e7, hst⟩
  simp only [b_gatepostref01_Split_0]
  generalize e4 : e 4 = x4 at *
  have hown : own.length < 9223372036854775807 := by omega
  have hfl := flush_len out own
  rcases str_at hi with ⟨hn, rfl, hd⟩ | ⟨c, hl, hl', hc, hd⟩
  · rw [hd] at hst
    simp (maxSteps := 4000000) only [vm, vl, Arg.get, cells, stor, boundO, resultsV, resV, partK, loadV, Vm.part, fillC, splice, reduceIte, reduceCtorEq, Nat.reduceEqDiff, Nat.reduceAdd, Nat.reduceSub, Nat.reduceMul, Nat.reduceLeDiff, ne_eq, not_false_eq_true, Int.reduceEq, Int.reduceLT, Int.reduceLE, Int.reduceNeg, Int.reduceToNat, Int.reduceGT, Int.reduceGE, Nat.reduceLT, Nat.lt_add_one, Nat.zero_lt_succ, Nat.succ_pos, Nat.zero_le, beq_self_eq_true, k_gatepostref01_Split_2, k_gatepostref01_Split_1, k_gatepostref01_Split_0, k_gatepostref01_Split_4, k_gatepostref01_Split_6, k_gatepostref01_Split_5, k_gatepostref01_Split_7, k_gatepostref01_Split_3, e0, e4, e5, e6, e7, hn]
    refine Cf.pu (rTrim_ok hown) fun t => ?_
    have G' := G.more (t := t)
    rw [hst]
    cases q with
    | true =>
      simp (maxSteps := 4000000) only [vm, vl, Arg.get, cells, stor, boundO, resultsV, resV, partK, loadV, Vm.part, fillC, splice, reduceIte, reduceCtorEq, Nat.reduceEqDiff, Nat.reduceAdd, Nat.reduceSub, Nat.reduceMul, Nat.reduceLeDiff, ne_eq, not_false_eq_true, Int.reduceEq, Int.reduceLT, Int.reduceLE, Int.reduceNeg, Int.reduceToNat, Int.reduceGT, Int.reduceGE, Nat.reduceLT, Nat.lt_add_one, Nat.zero_lt_succ, Nat.succ_pos, Nat.zero_le, beq_self_eq_true, k_gatepostref01_Split_2, k_gatepostref01_Split_1, k_gatepostref01_Split_0, k_gatepostref01_Split_4, k_gatepostref01_Split_6, k_gatepostref01_Split_5, k_gatepostref01_Split_7, k_gatepostref01_Split_3]
      exact .no G'.1
    | false =>
      show _
      have ef2 : splitG [] own false out = some (flush out own) := rfl
      rw [ef2]
      by_cases he : trim own = []
      · have q : (trim own == []) = true := by rw [he]; rfl
        have ef : flush out own = out := by simp [flush, he]
        rw [ef]
        simp (maxSteps := 4000000) only [vm, vl, Arg.get, cells, stor, boundO, resultsV, resV, partK, loadV, Vm.part, fillC, splice, reduceIte, reduceCtorEq, Nat.reduceEqDiff, Nat.reduceAdd, Nat.reduceSub, Nat.reduceMul, Nat.reduceLeDiff, ne_eq, not_false_eq_true, Int.reduceEq, Int.reduceLT, Int.reduceLE, Int.reduceNeg, Int.reduceToNat, Int.reduceGT, Int.reduceGE, Nat.reduceLT, Nat.lt_add_one, Nat.zero_lt_succ, Nat.succ_pos, Nat.zero_le, beq_self_eq_true, k_gatepostref01_Split_2, k_gatepostref01_Split_1, k_gatepostref01_Split_0, k_gatepostref01_Split_4, k_gatepostref01_Split_6, k_gatepostref01_Split_5, k_gatepostref01_Split_7, k_gatepostref01_Split_3, q]
        exact .yes G'.1 G'.list
      · have q : (trim own == []) = false := by simpa using he
        have ef : flush out own = out ++ [trim own] := by simp [flush, he]
        rw [ef]
        obtain ⟨x', h'', ha, G''⟩ := G'.app (bytes := 16) (y := .str (trim own)) (by rw [strs_len]; omega)
        rw [strs_app] at G''
        simp (maxSteps := 4000000) only [vm, vl, Arg.get, cells, stor, boundO, resultsV, resV, partK, loadV, Vm.part, fillC, splice, reduceIte, reduceCtorEq, Nat.reduceEqDiff, Nat.reduceAdd, Nat.reduceSub, Nat.reduceMul, Nat.reduceLeDiff, ne_eq, not_false_eq_true, Int.reduceEq, Int.reduceLT, Int.reduceLE, Int.reduceNeg, Int.reduceToNat, Int.reduceGT, Int.reduceGE, Nat.reduceLT, Nat.lt_add_one, Nat.zero_lt_succ, Nat.succ_pos, Nat.zero_le, beq_self_eq_true, k_gatepostref01_Split_2, k_gatepostref01_Split_1, k_gatepostref01_Split_0, k_gatepostref01_Split_4, k_gatepostref01_Split_6, k_gatepostref01_Split_5, k_gatepostref01_Split_7, k_gatepostref01_Split_3, q, ha]
        exact .yes G''.1 G''.list
  · have w := wrap64 (x := (i : Int) + 1) (by omega) (by omega)
    rw [hd, splitG_step] at hst
    have k0 : i ≤ i + 1 := by omega
    have ec : List.drop i (List.take (i + 1) s) = [c] := by
      rw [take_succ hl' hd, List.drop_append]
      simp [Nat.min_eq_left (Nat.le_of_lt hl'), List.drop_eq_nil_of_le]
    have hadd : binV .add (.str own) (.str [c]) = some (.str (own ++ [c])) := bin_sadd (by simp; omega)
    by_cases c44 : q = false ∧ c = 44
    · obtain ⟨rfl, rfl⟩ := c44
      have k1 : ¬ (44 : UInt8) = 34 := by decide
      rw [if_neg k1, if_neg (by simp), if_pos (by simp)] at hst
      simp (maxSteps := 4000000) only [vm, vl, Arg.get, cells, stor, boundO, resultsV, resV, partK, loadV, Vm.part, fillC, splice, reduceIte, reduceCtorEq, Nat.reduceEqDiff, Nat.reduceAdd, Nat.reduceSub, Nat.reduceMul, Nat.reduceLeDiff, ne_eq, not_false_eq_true, Int.reduceEq, Int.reduceLT, Int.reduceLE, Int.reduceNeg, Int.reduceToNat, Int.reduceGT, Int.reduceGE, Nat.reduceLT, Nat.lt_add_one, Nat.zero_lt_succ, Nat.succ_pos, Nat.zero_le, beq_self_eq_true, k_gatepostref01_Split_2, k_gatepostref01_Split_1, k_gatepostref01_Split_0, k_gatepostref01_Split_4, k_gatepostref01_Split_6, k_gatepostref01_Split_5, k_gatepostref01_Split_7, k_gatepostref01_Split_3, e0, e4, e5, e6, e7, hl, hl', hc, u44]
      refine Cf.pu (rTrim_ok hown) fun t => ?_
      have G' := G.more (t := t)
      by_cases he : trim own = []
      · have q : (trim own == []) = true := by rw [he]; rfl
        have ef : flush out own = out := by simp [flush, he]
        rw [ef] at hst
        simp (maxSteps := 4000000) only [vm, vl, Arg.get, cells, stor, boundO, resultsV, resV, partK, loadV, Vm.part, fillC, splice, reduceIte, reduceCtorEq, Nat.reduceEqDiff, Nat.reduceAdd, Nat.reduceSub, Nat.reduceMul, Nat.reduceLeDiff, ne_eq, not_false_eq_true, Int.reduceEq, Int.reduceLT, Int.reduceLE, Int.reduceNeg, Int.reduceToNat, Int.reduceGT, Int.reduceGE, Nat.reduceLT, Nat.lt_add_one, Nat.zero_lt_succ, Nat.succ_pos, Nat.zero_le, beq_self_eq_true, k_gatepostref01_Split_2, k_gatepostref01_Split_1, k_gatepostref01_Split_0, k_gatepostref01_Split_4, k_gatepostref01_Split_6, k_gatepostref01_Split_5, k_gatepostref01_Split_7, k_gatepostref01_Split_3, q, w]
        exact ⟨s.length - (i + 1), by omega, i + 1, [], false, out, rfl, hl', by simp, by omega, by simpa [upd, e4] using G', by simp [upd, e0], by simp [upd], by simp [upd, e6], by simp [upd], hst⟩
      · have q : (trim own == []) = false := by simpa using he
        have ef : flush out own = out ++ [trim own] := by simp [flush, he]
        rw [ef] at hst
        obtain ⟨x', h'', ha, G''⟩ := G'.app (bytes := 16) (y := .str (trim own)) (by rw [strs_len]; omega)
        rw [strs_app] at G''
        simp (maxSteps := 4000000) only [vm, vl, Arg.get, cells, stor, boundO, resultsV, resV, partK, loadV, Vm.part, fillC, splice, reduceIte, reduceCtorEq, Nat.reduceEqDiff, Nat.reduceAdd, Nat.reduceSub, Nat.reduceMul, Nat.reduceLeDiff, ne_eq, not_false_eq_true, Int.reduceEq, Int.reduceLT, Int.reduceLE, Int.reduceNeg, Int.reduceToNat, Int.reduceGT, Int.reduceGE, Nat.reduceLT, Nat.lt_add_one, Nat.zero_lt_succ, Nat.succ_pos, Nat.zero_le, beq_self_eq_true, k_gatepostref01_Split_2, k_gatepostref01_Split_1, k_gatepostref01_Split_0, k_gatepostref01_Split_4, k_gatepostref01_Split_6, k_gatepostref01_Split_5, k_gatepostref01_Split_7, k_gatepostref01_Split_3, q, ha, w]
        exact ⟨s.length - (i + 1), by omega, i + 1, [], false, out ++ [trim own], rfl, hl', by simp, by simp; omega, by simpa [upd] using G'', by simp [upd, e0], by simp [upd], by simp [upd, e6], by simp [upd], hst⟩
    · by_cases c34 : c = 34
      · subst c34
        have k1 : ¬ (34 : UInt8) = 44 := by decide
        have k2 : ¬ (34 : UInt8) = 92 := by decide
        rw [if_pos rfl] at hst
        have g := take_succ hl' hd
        cases q <;> simp (maxSteps := 4000000) only [vm, vl, Arg.get, cells, stor, boundO, resultsV, resV, partK, loadV, Vm.part, fillC, splice, reduceIte, reduceCtorEq, Nat.reduceEqDiff, Nat.reduceAdd, Nat.reduceSub, Nat.reduceMul, Nat.reduceLeDiff, ne_eq, not_false_eq_true, Int.reduceEq, Int.reduceLT, Int.reduceLE, Int.reduceNeg, Int.reduceToNat, Int.reduceGT, Int.reduceGE, Nat.reduceLT, Nat.lt_add_one, Nat.zero_lt_succ, Nat.succ_pos, Nat.zero_le, beq_self_eq_true, k_gatepostref01_Split_2, k_gatepostref01_Split_1, k_gatepostref01_Split_0, k_gatepostref01_Split_4, k_gatepostref01_Split_6, k_gatepostref01_Split_5, k_gatepostref01_Split_7, k_gatepostref01_Split_3, e0, e4, e5, e6, e7, hl, hl', hc, u44, u34, u92, k0, k1, k2, w, ec, hadd]
        · exact ⟨hl', s.length - (i + 1), by omega, i + 1, own ++ [34], true, out, rfl, hl', by simp; omega, by omega, by simpa [upd, e4] using G, by simp [upd, e0], by simp [upd], by simp [upd], by simp [upd], hst⟩
        · exact ⟨hl', s.length - (i + 1), by omega, i + 1, own ++ [34], false, out, rfl, hl', by simp; omega, by omega, by simpa [upd, e4] using G, by simp [upd, e0], by simp [upd], by simp [upd], by simp [upd], hst⟩
      · rw [if_neg c34] at hst
        cases q with
        | false =>
          have k1 : ¬ c = 44 := fun h => c44 ⟨rfl, h⟩
          rw [if_neg (by simp), if_neg (by simp [k1])] at hst
          simp (maxSteps := 4000000) only [vm, vl, Arg.get, cells, stor, boundO, resultsV, resV, partK, loadV, Vm.part, fillC, splice, reduceIte, reduceCtorEq, Nat.reduceEqDiff, Nat.reduceAdd, Nat.reduceSub, Nat.reduceMul, Nat.reduceLeDiff, ne_eq, not_false_eq_true, Int.reduceEq, Int.reduceLT, Int.reduceLE, Int.reduceNeg, Int.reduceToNat, Int.reduceGT, Int.reduceGE, Nat.reduceLT, Nat.lt_add_one, Nat.zero_lt_succ, Nat.succ_pos, Nat.zero_le, beq_self_eq_true, k_gatepostref01_Split_2, k_gatepostref01_Split_1, k_gatepostref01_Split_0, k_gatepostref01_Split_4, k_gatepostref01_Split_6, k_gatepostref01_Split_5, k_gatepostref01_Split_7, k_gatepostref01_Split_3, e0, e4, e5, e6, e7, hl, hl', hc, u44, u34, u92, k0, k1, c34, w, ec, hadd]
          exact ⟨hl', s.length - (i + 1), by omega, i + 1, own ++ [c], false, out, rfl, hl', by simp; omega, by omega, by simpa [upd, e4] using G, by simp [upd, e0], by simp [upd], by simp [upd, e6], by simp [upd], hst⟩
        | true =>
          by_cases c92 : c = 92
          · subst c92
            have k1 : ¬ (92 : UInt8) = 34 := by decide
            rw [if_pos (by simp)] at hst
            rcases str_at (s := s) (i := i + 1) (by omega) with ⟨hn1, hn2, hd1⟩ | ⟨d, hl2, hl1, _, hd1⟩
            · rw [hd1] at hst
              have hn3 : ¬ (i : Int) + 1 < s.length := by omega
              simp (maxSteps := 4000000) only [vm, vl, Arg.get, cells, stor, boundO, resultsV, resV, partK, loadV, Vm.part, fillC, splice, reduceIte, reduceCtorEq, Nat.reduceEqDiff, Nat.reduceAdd, Nat.reduceSub, Nat.reduceMul, Nat.reduceLeDiff, ne_eq, not_false_eq_true, Int.reduceEq, Int.reduceLT, Int.reduceLE, Int.reduceNeg, Int.reduceToNat, Int.reduceGT, Int.reduceGE, Nat.reduceLT, Nat.lt_add_one, Nat.zero_lt_succ, Nat.succ_pos, Nat.zero_le, beq_self_eq_true, k_gatepostref01_Split_2, k_gatepostref01_Split_1, k_gatepostref01_Split_0, k_gatepostref01_Split_4, k_gatepostref01_Split_6, k_gatepostref01_Split_5, k_gatepostref01_Split_7, k_gatepostref01_Split_3, e0, e4, e5, e6, e7, hl, hl', hc, u44, u34, u92, k0, k1, w, ec, hadd, hn3]
              have hd0 : splitG (s.drop (i + 1)) (own ++ [92]) true out = none := by rw [hd1]; rfl
              exact ⟨hl', s.length - (i + 1), by omega, i + 1, own ++ [92], true, out, rfl, hl', by simp; omega, by omega, by simpa [upd, e4] using G, by simp [upd, e0], by simp [upd], by simp [upd, e6], by simp [upd], by rw [hst, hd0]⟩
            · rw [hd1] at hst
              have hl3 : (i : Int) + 1 < s.length := by omega
              have w2 := wrap64 (x := (i : Int) + 1 + 1) (by omega) (by omega)
              have t1 : ((i : Int) + 1 + 1).toNat = i + 2 := by omega
              have t2 : 0 ≤ (i : Int) + 1 + 1 := by omega
              have k3 : i + 1 ≤ i + 2 := by omega
              have k4 : i + 2 ≤ s.length := by omega
              have ec2 : List.drop (i + 1) (List.take (i + 2) s) = [d] := by
                rw [show i + 2 = (i + 1) + 1 by rfl, take_succ hl1 hd1, List.drop_append]
                simp [Nat.min_eq_left (Nat.le_of_lt hl1), List.drop_eq_nil_of_le]
              have hadd2 : binV .add (.str (own ++ [92])) (.str [d]) = some (.str (own ++ [92, d])) := by
                rw [bin_sadd (by simp; omega)]; simp
              simp (maxSteps := 4000000) only [vm, vl, Arg.get, cells, stor, boundO, resultsV, resV, partK, loadV, Vm.part, fillC, splice, reduceIte, reduceCtorEq, Nat.reduceEqDiff, Nat.reduceAdd, Nat.reduceSub, Nat.reduceMul, Nat.reduceLeDiff, ne_eq, not_false_eq_true, Int.reduceEq, Int.reduceLT, Int.reduceLE, Int.reduceNeg, Int.reduceToNat, Int.reduceGT, Int.reduceGE, Nat.reduceLT, Nat.lt_add_one, Nat.zero_lt_succ, Nat.succ_pos, Nat.zero_le, beq_self_eq_true, k_gatepostref01_Split_2, k_gatepostref01_Split_1, k_gatepostref01_Split_0, k_gatepostref01_Split_4, k_gatepostref01_Split_6, k_gatepostref01_Split_5, k_gatepostref01_Split_7, k_gatepostref01_Split_3, e0, e4, e5, e6, e7, hl, hl', hc, u44, u34, u92, k0, k1, w, ec, hadd, hl3, w2, t1, t2, k3, k4, ec2, hadd2]
              exact ⟨hl', s.length - (i + 2), by omega, i + 2, own ++ [92, d], true, out, rfl, by omega, by simp; omega, by omega, by simpa [upd, e4] using G, by simp [upd, e0], by simp [upd], by simp [upd, e6], by simp [upd]; omega, hst⟩
          · rw [if_neg (by simp [c92]), if_neg (by simp)] at hst
            simp (maxSteps := 4000000) only [vm, vl, Arg.get, cells, stor, boundO, resultsV, resV, partK, loadV, Vm.part, fillC, splice, reduceIte, reduceCtorEq, Nat.reduceEqDiff, Nat.reduceAdd, Nat.reduceSub, Nat.reduceMul, Nat.reduceLeDiff, ne_eq, not_false_eq_true, Int.reduceEq, Int.reduceLT, Int.reduceLE, Int.reduceNeg, Int.reduceToNat, Int.reduceGT, Int.reduceGE, Nat.reduceLT, Nat.lt_add_one, Nat.zero_lt_succ, Nat.succ_pos, Nat.zero_le, beq_self_eq_true, k_gatepostref01_Split_2, k_gatepostref01_Split_1, k_gatepostref01_Split_0, k_gatepostref01_Split_4, k_gatepostref01_Split_6, k_gatepostref01_Split_5, k_gatepostref01_Split_7, k_gatepostref01_Split_3, e0, e4, e5, e6, e7, hl, hl', hc, u44, u34, u92, k0, c34, c92, w, ec, hadd]
            exact ⟨hl', s.length - (i + 1), by omega, i + 1, own ++ [c], true, out, rfl, hl', by simp; omega, by omega, by simpa [upd, e4] using G, by simp [upd, e0], by simp [upd], by simp [upd, e6], by simp [upd], hst⟩
end Go.Proofs.YtgplldjcopfjpaaDoor.Vh
end
section
set_option linter.unusedVariables false
set_option linter.unusedSimpArgs false
namespace Go.Proofs.YtgplldjcopfjpaaDoor.Vh
open Go.Vm Go.Vt
attribute [local congr] wi_congr wg_congr wgd_congr wb_congr wl_congr cf_congr
variable {L : FuncId → List V → V → Prop} {h : Heap}
theorem wquo {x c : Int} (h0 : 0 ≤ x) (hc : 0 < c) (h1 : x ≤ 9223372036854775807) : IntKind.i64.wrap (Int.tdiv x c) = x / c := by
  rw [Int.tdiv_eq_ediv_of_nonneg h0]
  have : 0 ≤ x / c := Int.ediv_nonneg h0 (by omega)
  have := Int.ediv_le_self c h0
  exact wrap64 (by omega) (by omega)
theorem bin_quo' {x y : Int} : binV .quo (.int .i64 x) (.int .i64 y) = if y = 0 then none else some (.int .i64 (IntKind.i64.wrap (x.tdiv y))) := by
  by_cases h : y = 0 <;> simp [binV, binI, h]
theorem dig_eq (c : UInt8) : digB c = (decide ((c.toNat : Int) ≥ 48) && decide ((c.toNat : Int) ≤ 57)) := byte_all (p := fun c => digB c = (decide ((c.toNat : Int) ≥ 48) && decide ((c.toNat : Int) ≤ 57))) (by decide +kernel) c
theorem dig_in {c : UInt8} (h : digB c = true) : 48 ≤ (c.toNat : Int) ∧ (c.toNat : Int) ≤ 57 := by
  rw [dig_eq, Bool.and_eq_true, decide_eq_true_eq, decide_eq_true_eq] at h; exact h
theorem dig_no {c : UInt8} (h : digB c = false) : (c.toNat : Int) < 48 ∨ ((¬ (c.toNat : Int) < 48) ∧ (c.toNat : Int) > 57) := by
  rw [dig_eq, Bool.and_eq_false_iff, decide_eq_false_iff_not, decide_eq_false_iff_not] at h; omega
theorem dig_wrap (c : UInt8) : (decide (48 ≤ (c.toNat : Int)) && decide ((c.toNat : Int) ≤ 57)) = true → IntKind.u8.wrap ((c.toNat : Int) - 48) = (c.toNat : Int) - 48 :=
  byte_all (p := fun c => (decide (48 ≤ (c.toNat : Int)) && decide ((c.toNat : Int) ≤ 57)) = true → IntKind.u8.wrap ((c.toNat : Int) - 48) = (c.toNat : Int) - 48) (by decide +kernel) c
theorem numG_le : ∀ {s : Bs} {n most : Int}, s.all digB = true → 0 ≤ n → n ≤ most → 0 ≤ numG s n most ∧ numG s n most ≤ most
  | [], n, most, _, h0, h1 => ⟨h0, h1⟩
  | c :: r, n, most, ha, h0, h1 => by
    rw [List.all_cons, Bool.and_eq_true] at ha
    have hd := dig_in ha.1
    unfold numG
    split
    · omega
    · exact numG_le ha.2 (by omega) (by omega)
theorem numS_le (s : Bs) {most : Int} (h : 0 ≤ most) : 0 ≤ (numS s most).1 ∧ (numS s most).1 ≤ most := by
  unfold numS
  split
  · exact ⟨Int.le_refl _, h⟩
  · rename_i q
    simp only [Bool.or_eq_true, Bool.not_eq_true', not_or, Bool.not_eq_false] at q
    exact numG_le q.2 (Int.le_refl _) h
theorem Number1_ok {c : UInt8} : Cf F L i_token_Number_1 [byV c] h (Pu h (.bool (digB c))) := by
  refine run_token_Number_1 ?_
  simp only [p_token_Number_1]
  rw [dig_eq]
  by_cases a : (c.toNat : Int) ≥ 48
  · simp (maxSteps := 4000000) only [vm, vl, Arg.get, cells, stor, boundO, resultsV, resV, partK, loadV, Vm.part, fillC, splice, reduceIte, reduceCtorEq, Nat.reduceEqDiff, Nat.reduceAdd, Nat.reduceSub, Nat.reduceMul, Nat.reduceLeDiff, ne_eq, not_false_eq_true, Int.reduceEq, Int.reduceLT, Int.reduceLE, Int.reduceNeg, Int.reduceToNat, Int.reduceGT, Int.reduceGE, Nat.reduceLT, Nat.lt_add_one, Nat.zero_lt_succ, Nat.succ_pos, Nat.zero_le, beq_self_eq_true, a, decide_true, Bool.true_and]
  · simp (maxSteps := 4000000) only [vm, vl, Arg.get, cells, stor, boundO, resultsV, resV, partK, loadV, Vm.part, fillC, splice, reduceIte, reduceCtorEq, Nat.reduceEqDiff, Nat.reduceAdd, Nat.reduceSub, Nat.reduceMul, Nat.reduceLeDiff, ne_eq, not_false_eq_true, Int.reduceEq, Int.reduceLT, Int.reduceLE, Int.reduceNeg, Int.reduceToNat, Int.reduceGT, Int.reduceGE, Nat.reduceLT, Nat.lt_add_one, Nat.zero_lt_succ, Nat.succ_pos, Nat.zero_le, beq_self_eq_true, a, decide_false, Bool.false_and]
theorem num_pair {n : Int} {b : Bool} {x : Int × Bool} (h : x = (n, b)) : V.tup [.int .i64 x.1, .bool x.2] = .tup [.int .i64 n, .bool b] := by subst h; rfl
theorem Number_ok {s : Bs} {most : Int} (hs : s.length ≤ 9223372036854775806) (h0 : -4000000000000000000 ≤ most) (h1 : most ≤ 4000000000000000000) : Cf F L i_token_Number [.str s, .int .i64 most] h (Pu h (.tup [.int .i64 (numS s most).1, .bool (numS s most).2])) := by
  refine run_token_Number ?_
  simp only [p_token_Number]
  by_cases a : s = []
  · subst a
    rw [num_pair (show numS [] most = (0, false) from rfl)]
    have e1 : (([] : Bs) == []) = true := rfl
    simp (maxSteps := 4000000) only [vm, vl, Arg.get, cells, stor, boundO, resultsV, resV, partK, loadV, Vm.part, fillC, splice, reduceIte, reduceCtorEq, Nat.reduceEqDiff, Nat.reduceAdd, Nat.reduceSub, Nat.reduceMul, Nat.reduceLeDiff, ne_eq, not_false_eq_true, Int.reduceEq, Int.reduceLT, Int.reduceLE, Int.reduceNeg, Int.reduceToNat, Int.reduceGT, Int.reduceGE, Nat.reduceLT, Nat.lt_add_one, Nat.zero_lt_succ, Nat.succ_pos, Nat.zero_le, beq_self_eq_true, k_token_Number_1, k_token_Number_3, k_token_Number_4, k_token_Number_2, k_token_Number_0, e1]
  have a' : (s == []) = false := beq_eq_false_iff_ne.2 a
  have ae : s.isEmpty = false := by cases s; exact absurd rfl a; rfl
  by_cases b : most < 0
  · rw [num_pair (show numS s most = (0, false) by unfold numS; simp [b])]
    simp (maxSteps := 4000000) only [vm, vl, Arg.get, cells, stor, boundO, resultsV, resV, partK, loadV, Vm.part, fillC, splice, reduceIte, reduceCtorEq, Nat.reduceEqDiff, Nat.reduceAdd, Nat.reduceSub, Nat.reduceMul, Nat.reduceLeDiff, ne_eq, not_false_eq_true, Int.reduceEq, Int.reduceLT, Int.reduceLE, Int.reduceNeg, Int.reduceToNat, Int.reduceGT, Int.reduceGE, Nat.reduceLT, Nat.lt_add_one, Nat.zero_lt_succ, Nat.succ_pos, Nat.zero_le, beq_self_eq_true, k_token_Number_1, k_token_Number_3, k_token_Number_4, k_token_Number_2, k_token_Number_0, a', b, decide_true]
  cases hd : s.all digB with
  | false =>
    rw [num_pair (show numS s most = (0, false) by unfold numS; simp [hd])]
    simp (maxSteps := 4000000) only [vm, vl, Arg.get, cells, stor, boundO, resultsV, resV, partK, loadV, Vm.part, fillC, splice, reduceIte, reduceCtorEq, Nat.reduceEqDiff, Nat.reduceAdd, Nat.reduceSub, Nat.reduceMul, Nat.reduceLeDiff, ne_eq, not_false_eq_true, Int.reduceEq, Int.reduceLT, Int.reduceLE, Int.reduceNeg, Int.reduceToNat, Int.reduceGT, Int.reduceGE, Nat.reduceLT, Nat.lt_add_one, Nat.zero_lt_succ, Nat.succ_pos, Nat.zero_le, beq_self_eq_true, k_token_Number_1, k_token_Number_3, k_token_Number_4, k_token_Number_2, k_token_Number_0, a', b, decide_false]
    refine Cf.pu (all_ok (caps := []) (by omega) fun c h => Number1_ok) fun u => ?_
    simp (maxSteps := 4000000) only [vm, vl, Arg.get, cells, stor, boundO, resultsV, resV, partK, loadV, Vm.part, fillC, splice, reduceIte, reduceCtorEq, Nat.reduceEqDiff, Nat.reduceAdd, Nat.reduceSub, Nat.reduceMul, Nat.reduceLeDiff, ne_eq, not_false_eq_true, Int.reduceEq, Int.reduceLT, Int.reduceLE, Int.reduceNeg, Int.reduceToNat, Int.reduceGT, Int.reduceGE, Nat.reduceLT, Nat.lt_add_one, Nat.zero_lt_succ, Nat.succ_pos, Nat.zero_le, beq_self_eq_true, k_token_Number_1, k_token_Number_3, k_token_Number_4, k_token_Number_2, k_token_Number_0, hd, Bool.not_false]
  | true =>
    rw [num_pair (show numS s most = (numG s 0 most, true) by unfold numS; simp [hd, b, ae])]
    simp (maxSteps := 4000000) only [vm, vl, Arg.get, cells, stor, boundO, resultsV, resV, partK, loadV, Vm.part, fillC, splice, reduceIte, reduceCtorEq, Nat.reduceEqDiff, Nat.reduceAdd, Nat.reduceSub, Nat.reduceMul, Nat.reduceLeDiff, ne_eq, not_false_eq_true, Int.reduceEq, Int.reduceLT, Int.reduceLE, Int.reduceNeg, Int.reduceToNat, Int.reduceGT, Int.reduceGE, Nat.reduceLT, Nat.lt_add_one, Nat.zero_lt_succ, Nat.succ_pos, Nat.zero_le, beq_self_eq_true, k_token_Number_1, k_token_Number_3, k_token_Number_4, k_token_Number_2, k_token_Number_0, a', b, decide_false]
    refine Cf.pu (all_ok (caps := []) (by omega) fun c h => Number1_ok) fun u => ?_
    simp (maxSteps := 4000000) only [vm, vl, Arg.get, cells, stor, boundO, resultsV, resV, partK, loadV, Vm.part, fillC, splice, reduceIte, reduceCtorEq, Nat.reduceEqDiff, Nat.reduceAdd, Nat.reduceSub, Nat.reduceMul, Nat.reduceLeDiff, ne_eq, not_false_eq_true, Int.reduceEq, Int.reduceLT, Int.reduceLE, Int.reduceNeg, Int.reduceToNat, Int.reduceGT, Int.reduceGE, Nat.reduceLT, Nat.lt_add_one, Nat.zero_lt_succ, Nat.succ_pos, Nat.zero_le, beq_self_eq_true, k_token_Number_1, k_token_Number_3, k_token_Number_4, k_token_Number_2, k_token_Number_0, hd, Bool.not_true]
    refine l_token_Number_0 (fun n e h' => ∃ (i : Nat) (v : Int), n = s.length - i ∧ i ≤ s.length ∧ e 0 = .str s ∧ e 1 = .int .i64 most ∧ e 6 = .int .i64 v ∧ e 21 = .int .i64 s.length ∧ e 22 = .int .i64 i ∧ 0 ≤ v ∧ v ≤ most ∧ numG s 0 most = numG (s.drop i) v most ∧ ∃ t, h' = h ++ t) ?_ (n := s.length) ⟨0, 0, by simp, by simp, rfl, rfl, rfl, rfl, rfl, by omega, by omega, rfl, u, rfl⟩
    rintro n e h' ⟨i, v, rfl, hi, e0, e1, e6, e21, e22, v0, v1, hg, t, rfl⟩
    simp only [b_token_Number_0]
    rw [hg]
    rcases str_at hi with ⟨hn, rfl, hdr⟩ | ⟨c, hl, hl', hc, hdr⟩
    · rw [hdr]
      simp (maxSteps := 4000000) only [vm, vl, Arg.get, cells, stor, boundO, resultsV, resV, partK, loadV, Vm.part, fillC, splice, reduceIte, reduceCtorEq, Nat.reduceEqDiff, Nat.reduceAdd, Nat.reduceSub, Nat.reduceMul, Nat.reduceLeDiff, ne_eq, not_false_eq_true, Int.reduceEq, Int.reduceLT, Int.reduceLE, Int.reduceNeg, Int.reduceToNat, Int.reduceGT, Int.reduceGE, Nat.reduceLT, Nat.lt_add_one, Nat.zero_lt_succ, Nat.succ_pos, Nat.zero_le, beq_self_eq_true, k_token_Number_1, k_token_Number_3, k_token_Number_4, k_token_Number_2, k_token_Number_0, e0, e1, e6, e21, e22, hn, decide_false]
      rfl
    · have w := wrap64 (x := (i : Int) + 1) (by omega) (by omega)
      have dc : digB c = true := by
        rw [← hc]
        refine (List.all_eq_true.1 hd) _ ?_
        rw [List.getD_eq_getElem?_getD, List.getElem?_eq_getElem hl', Option.getD_some]; exact List.getElem_mem _
      have di := dig_in dc
      have dw := dig_wrap c (by simp [di])
      have d64 : IntKind.i64.wrap ((c.toNat : Int) - 48) = (c.toNat : Int) - 48 := wrap64 (by omega) (by omega)
      have eg : numG (c :: s.drop (i + 1)) v most = if (c.toNat : Int) - 48 > most ∨ v > (most - ((c.toNat : Int) - 48)) / 10 then most else numG (s.drop (i + 1)) (10 * v + ((c.toNat : Int) - 48)) most := rfl
      rw [hdr, eg]
      generalize hD : (c.toNat : Int) - 48 = D at *
      by_cases p : D > most
      · rw [if_pos (.inl p)]
        simp (maxSteps := 4000000) only [vm, vl, Arg.get, cells, stor, boundO, resultsV, resV, partK, loadV, Vm.part, fillC, splice, reduceIte, reduceCtorEq, Nat.reduceEqDiff, Nat.reduceAdd, Nat.reduceSub, Nat.reduceMul, Nat.reduceLeDiff, ne_eq, not_false_eq_true, Int.reduceEq, Int.reduceLT, Int.reduceLE, Int.reduceNeg, Int.reduceToNat, Int.reduceGT, Int.reduceGE, Nat.reduceLT, Nat.lt_add_one, Nat.zero_lt_succ, Nat.succ_pos, Nat.zero_le, beq_self_eq_true, k_token_Number_1, k_token_Number_3, k_token_Number_4, k_token_Number_2, k_token_Number_0, e0, e1, e6, e21, e22, hl, hl', hc, hD, dw, d64, p, decide_true]
      have w1 : IntKind.i64.wrap (most - D) = most - D := wrap64 (by omega) (by omega)
      have w2 : IntKind.i64.wrap ((most - D).tdiv 10) = (most - D) / 10 := wquo (by omega) (by omega) (by omega)
      by_cases q : v > (most - D) / 10
      · rw [if_pos (.inr q)]
        simp (maxSteps := 4000000) only [vm, vl, Arg.get, cells, stor, boundO, resultsV, resV, partK, loadV, Vm.part, fillC, splice, reduceIte, reduceCtorEq, Nat.reduceEqDiff, Nat.reduceAdd, Nat.reduceSub, Nat.reduceMul, Nat.reduceLeDiff, ne_eq, not_false_eq_true, Int.reduceEq, Int.reduceLT, Int.reduceLE, Int.reduceNeg, Int.reduceToNat, Int.reduceGT, Int.reduceGE, Nat.reduceLT, Nat.lt_add_one, Nat.zero_lt_succ, Nat.succ_pos, Nat.zero_le, beq_self_eq_true, k_token_Number_1, k_token_Number_3, k_token_Number_4, k_token_Number_2, k_token_Number_0, e0, e1, e6, e21, e22, hl, hl', hc, hD, dw, d64, p, q, w1, w2, bin_quo', decide_true, decide_false]
      · rw [if_neg (fun h => h.elim p q)]
        have w3 : IntKind.i64.wrap (10 * v) = 10 * v := wrap64 (by omega) (by omega)
        have w4 : IntKind.i64.wrap (10 * v + D) = 10 * v + D := wrap64 (by omega) (by omega)
        simp (maxSteps := 4000000) only [vm, vl, Arg.get, cells, stor, boundO, resultsV, resV, partK, loadV, Vm.part, fillC, splice, reduceIte, reduceCtorEq, Nat.reduceEqDiff, Nat.reduceAdd, Nat.reduceSub, Nat.reduceMul, Nat.reduceLeDiff, ne_eq, not_false_eq_true, Int.reduceEq, Int.reduceLT, Int.reduceLE, Int.reduceNeg, Int.reduceToNat, Int.reduceGT, Int.reduceGE, Nat.reduceLT, Nat.lt_add_one, Nat.zero_lt_succ, Nat.succ_pos, Nat.zero_le, beq_self_eq_true, k_token_Number_1, k_token_Number_3, k_token_Number_4, k_token_Number_2, k_token_Number_0, e0, e1, e6, e21, e22, hl, hl', hc, hD, dw, d64, p, q, w, w1, w2, w3, w4, bin_quo', decide_true, decide_false]
        exact ⟨s.length - (i + 1), by omega, i + 1, 10 * v + D, rfl, hl', rfl, rfl, by omega, by omega, rfl, _, rfl⟩
theorem rNumber_ok {s : Bs} {most : Int} (hs : s.length ≤ 9223372036854775806) (h0 : -4000000000000000000 ≤ most) (h1 : most ≤ 4000000000000000000) : Cf F L i_gatepostref01_Number [.str s, .int .i64 most] h (Pu h (.tup [.int .i64 (numS s most).1, .bool (numS s most).2])) := by
  refine run_gatepostref01_Number ?_
  simp only [p_gatepostref01_Number]
  by_cases b : most < 0
  · rw [num_pair (show numS s most = (0, false) by unfold numS; simp [b])]
    simp (maxSteps := 4000000) only [vm, vl, Arg.get, cells, stor, boundO, resultsV, resV, partK, loadV, Vm.part, fillC, splice, reduceIte, reduceCtorEq, Nat.reduceEqDiff, Nat.reduceAdd, Nat.reduceSub, Nat.reduceMul, Nat.reduceLeDiff, ne_eq, not_false_eq_true, Int.reduceEq, Int.reduceLT, Int.reduceLE, Int.reduceNeg, Int.reduceToNat, Int.reduceGT, Int.reduceGE, Nat.reduceLT, Nat.lt_add_one, Nat.zero_lt_succ, Nat.succ_pos, Nat.zero_le, beq_self_eq_true, k_gatepostref01_Number_2, k_gatepostref01_Number_4, k_gatepostref01_Number_5, k_gatepostref01_Number_3, k_gatepostref01_Number_1, k_gatepostref01_Number_7, k_gatepostref01_Number_6, k_gatepostref01_Number_0, b, decide_true]
  by_cases a : s = []
  · subst a
    rw [num_pair (show numS [] most = (0, false) from rfl)]
    have e1 : (([] : Bs).length : Int) = 0 := rfl
    simp (maxSteps := 4000000) only [vm, vl, Arg.get, cells, stor, boundO, resultsV, resV, partK, loadV, Vm.part, fillC, splice, reduceIte, reduceCtorEq, Nat.reduceEqDiff, Nat.reduceAdd, Nat.reduceSub, Nat.reduceMul, Nat.reduceLeDiff, ne_eq, not_false_eq_true, Int.reduceEq, Int.reduceLT, Int.reduceLE, Int.reduceNeg, Int.reduceToNat, Int.reduceGT, Int.reduceGE, Nat.reduceLT, Nat.lt_add_one, Nat.zero_lt_succ, Nat.succ_pos, Nat.zero_le, beq_self_eq_true, k_gatepostref01_Number_2, k_gatepostref01_Number_4, k_gatepostref01_Number_5, k_gatepostref01_Number_3, k_gatepostref01_Number_1, k_gatepostref01_Number_7, k_gatepostref01_Number_6, k_gatepostref01_Number_0, b, e1, decide_true, decide_false]
  have a' : ¬ (s.length : Int) = 0 := by
    have : s.length ≠ 0 := fun h => a (List.eq_nil_of_length_eq_zero h)
    omega
  have ae : s.isEmpty = false := by cases s; exact absurd rfl a; rfl
  simp (maxSteps := 4000000) only [vm, vl, Arg.get, cells, stor, boundO, resultsV, resV, partK, loadV, Vm.part, fillC, splice, reduceIte, reduceCtorEq, Nat.reduceEqDiff, Nat.reduceAdd, Nat.reduceSub, Nat.reduceMul, Nat.reduceLeDiff, ne_eq, not_false_eq_true, Int.reduceEq, Int.reduceLT, Int.reduceLE, Int.reduceNeg, Int.reduceToNat, Int.reduceGT, Int.reduceGE, Nat.reduceLT, Nat.lt_add_one, Nat.zero_lt_succ, Nat.succ_pos, Nat.zero_le, beq_self_eq_true, k_gatepostref01_Number_2, k_gatepostref01_Number_4, k_gatepostref01_Number_5, k_gatepostref01_Number_3, k_gatepostref01_Number_1, k_gatepostref01_Number_7, k_gatepostref01_Number_6, k_gatepostref01_Number_0, b, a', decide_false]
  refine l_gatepostref01_Number_1 (fun n e h' => ∃ (i : Nat), n = s.length - i ∧ i ≤ s.length ∧ e 0 = .str s ∧ e 1 = .int .i64 most ∧ e 6 = .int .i64 0 ∧ e 7 = .int .i64 i ∧ s.all digB = (s.drop i).all digB ∧ h = h') ?_ (n := s.length) ⟨0, by simp, by simp, rfl, rfl, rfl, rfl, rfl, rfl⟩
  rintro n e h' ⟨i, rfl, hi, e0, e1, e6, e7, ha, rfl⟩
  simp only [b_gatepostref01_Number_1]
  rcases str_at hi with ⟨hn, rfl, hdr⟩ | ⟨c, hl, hl', hc, hdr⟩
  · have hd : s.all digB = true := by rw [ha, hdr]; rfl
    rw [num_pair (show numS s most = (numG s 0 most, true) by unfold numS; simp [hd, b, ae])]
    simp (maxSteps := 4000000) only [vm, vl, Arg.get, cells, stor, boundO, resultsV, resV, partK, loadV, Vm.part, fillC, splice, reduceIte, reduceCtorEq, Nat.reduceEqDiff, Nat.reduceAdd, Nat.reduceSub, Nat.reduceMul, Nat.reduceLeDiff, ne_eq, not_false_eq_true, Int.reduceEq, Int.reduceLT, Int.reduceLE, Int.reduceNeg, Int.reduceToNat, Int.reduceGT, Int.reduceGE, Nat.reduceLT, Nat.lt_add_one, Nat.zero_lt_succ, Nat.succ_pos, Nat.zero_le, beq_self_eq_true, k_gatepostref01_Number_2, k_gatepostref01_Number_4, k_gatepostref01_Number_5, k_gatepostref01_Number_3, k_gatepostref01_Number_1, k_gatepostref01_Number_7, k_gatepostref01_Number_6, k_gatepostref01_Number_0, e0, e1, e6, e7, hn, decide_false]
    refine l_gatepostref01_Number_0 (fun n e h' => ∃ (i : Nat) (v : Int), n = s.length - i ∧ i ≤ s.length ∧ e 0 = .str s ∧ e 1 = .int .i64 most ∧ e 6 = .int .i64 v ∧ e 8 = .int .i64 i ∧ 0 ≤ v ∧ v ≤ most ∧ numG s 0 most = numG (s.drop i) v most ∧ h = h') ?_ (n := s.length) ⟨0, 0, by simp, by simp, by simp [upd, e0], by simp [upd, e1], by simp [upd, e6], rfl, by omega, by omega, rfl, rfl⟩
    rintro n e h' ⟨i, v, rfl, hi, e0, e1, e6, e8, v0, v1, hg, rfl⟩
    simp only [b_gatepostref01_Number_0]
    rw [hg]
    rcases str_at hi with ⟨hn, rfl, hdr⟩ | ⟨c, hl, hl', hc, hdr⟩
    · rw [hdr]
      simp (maxSteps := 4000000) only [vm, vl, Arg.get, cells, stor, boundO, resultsV, resV, partK, loadV, Vm.part, fillC, splice, reduceIte, reduceCtorEq, Nat.reduceEqDiff, Nat.reduceAdd, Nat.reduceSub, Nat.reduceMul, Nat.reduceLeDiff, ne_eq, not_false_eq_true, Int.reduceEq, Int.reduceLT, Int.reduceLE, Int.reduceNeg, Int.reduceToNat, Int.reduceGT, Int.reduceGE, Nat.reduceLT, Nat.lt_add_one, Nat.zero_lt_succ, Nat.succ_pos, Nat.zero_le, beq_self_eq_true, k_gatepostref01_Number_2, k_gatepostref01_Number_4, k_gatepostref01_Number_5, k_gatepostref01_Number_3, k_gatepostref01_Number_1, k_gatepostref01_Number_7, k_gatepostref01_Number_6, k_gatepostref01_Number_0, e0, e1, e6, e8, hn, decide_false]
      rfl
    · have w := wrap64 (x := (i : Int) + 1) (by omega) (by omega)
      have dc : digB c = true := by
        rw [← hc]
        refine (List.all_eq_true.1 hd) _ ?_
        rw [List.getD_eq_getElem?_getD, List.getElem?_eq_getElem hl', Option.getD_some]; exact List.getElem_mem _
      have di := dig_in dc
      have dw := dig_wrap c (by simp [di])
      have d64 : IntKind.i64.wrap ((c.toNat : Int) - 48) = (c.toNat : Int) - 48 := wrap64 (by omega) (by omega)
      have eg : numG (c :: s.drop (i + 1)) v most = if (c.toNat : Int) - 48 > most ∨ v > (most - ((c.toNat : Int) - 48)) / 10 then most else numG (s.drop (i + 1)) (10 * v + ((c.toNat : Int) - 48)) most := rfl
      rw [hdr, eg]
      generalize hD : (c.toNat : Int) - 48 = D at *
      have w1 : IntKind.i64.wrap (most - D) = most - D := wrap64 (by omega) (by omega)
      by_cases p : most < D
      · rw [if_pos (.inl p)]
        have z : (most - D).tdiv 10 = 0 := by
          obtain ⟨k, hk⟩ : ∃ k : Nat, D - most = k := ⟨(D - most).toNat, by omega⟩
          have : most - D = -(k : Int) := by omega
          rw [this, Int.neg_tdiv]
          have : (k : Int).tdiv 10 = 0 := by rw [Int.tdiv_eq_ediv_of_nonneg (by omega)]; omega
          rw [this]; rfl
        have z0 : IntKind.i64.wrap 0 = 0 := rfl
        by_cases q : v > 0
        · simp (maxSteps := 4000000) only [vm, vl, Arg.get, cells, stor, boundO, resultsV, resV, partK, loadV, Vm.part, fillC, splice, reduceIte, reduceCtorEq, Nat.reduceEqDiff, Nat.reduceAdd, Nat.reduceSub, Nat.reduceMul, Nat.reduceLeDiff, ne_eq, not_false_eq_true, Int.reduceEq, Int.reduceLT, Int.reduceLE, Int.reduceNeg, Int.reduceToNat, Int.reduceGT, Int.reduceGE, Nat.reduceLT, Nat.lt_add_one, Nat.zero_lt_succ, Nat.succ_pos, Nat.zero_le, beq_self_eq_true, k_gatepostref01_Number_2, k_gatepostref01_Number_4, k_gatepostref01_Number_5, k_gatepostref01_Number_3, k_gatepostref01_Number_1, k_gatepostref01_Number_7, k_gatepostref01_Number_6, k_gatepostref01_Number_0, e0, e1, e6, e8, hl, hl', hc, hD, dw, d64, p, q, w1, z, z0, bin_quo', decide_true, decide_false]
        · simp (maxSteps := 4000000) only [vm, vl, Arg.get, cells, stor, boundO, resultsV, resV, partK, loadV, Vm.part, fillC, splice, reduceIte, reduceCtorEq, Nat.reduceEqDiff, Nat.reduceAdd, Nat.reduceSub, Nat.reduceMul, Nat.reduceLeDiff, ne_eq, not_false_eq_true, Int.reduceEq, Int.reduceLT, Int.reduceLE, Int.reduceNeg, Int.reduceToNat, Int.reduceGT, Int.reduceGE, Nat.reduceLT, Nat.lt_add_one, Nat.zero_lt_succ, Nat.succ_pos, Nat.zero_le, beq_self_eq_true, k_gatepostref01_Number_2, k_gatepostref01_Number_4, k_gatepostref01_Number_5, k_gatepostref01_Number_3, k_gatepostref01_Number_1, k_gatepostref01_Number_7, k_gatepostref01_Number_6, k_gatepostref01_Number_0, e0, e1, e6, e8, hl, hl', hc, hD, dw, d64, p, q, w1, z, z0, bin_quo', decide_true, decide_false]
      have w2 : IntKind.i64.wrap ((most - D).tdiv 10) = (most - D) / 10 := wquo (by omega) (by omega) (by omega)
      by_cases q : v > (most - D) / 10
      · rw [if_pos (.inr q)]
        simp (maxSteps := 4000000) only [vm, vl, Arg.get, cells, stor, boundO, resultsV, resV, partK, loadV, Vm.part, fillC, splice, reduceIte, reduceCtorEq, Nat.reduceEqDiff, Nat.reduceAdd, Nat.reduceSub, Nat.reduceMul, Nat.reduceLeDiff, ne_eq, not_false_eq_true, Int.reduceEq, Int.reduceLT, Int.reduceLE, Int.reduceNeg, Int.reduceToNat, Int.reduceGT, Int.reduceGE, Nat.reduceLT, Nat.lt_add_one, Nat.zero_lt_succ, Nat.succ_pos, Nat.zero_le, beq_self_eq_true, k_gatepostref01_Number_2, k_gatepostref01_Number_4, k_gatepostref01_Number_5, k_gatepostref01_Number_3, k_gatepostref01_Number_1, k_gatepostref01_Number_7, k_gatepostref01_Number_6, k_gatepostref01_Number_0, e0, e1, e6, e8, hl, hl', hc, hD, dw, d64, p, q, w1, w2, bin_quo', decide_true, decide_false]
      · rw [if_neg (fun h => h.elim (by omega) q)]
        have w3 : IntKind.i64.wrap (v * 10) = v * 10 := wrap64 (by omega) (by omega)
        have w4 : IntKind.i64.wrap (v * 10 + D) = 10 * v + D := by rw [wrap64 (by omega) (by omega)]; omega
        simp (maxSteps := 4000000) only [vm, vl, Arg.get, cells, stor, boundO, resultsV, resV, partK, loadV, Vm.part, fillC, splice, reduceIte, reduceCtorEq, Nat.reduceEqDiff, Nat.reduceAdd, Nat.reduceSub, Nat.reduceMul, Nat.reduceLeDiff, ne_eq, not_false_eq_true, Int.reduceEq, Int.reduceLT, Int.reduceLE, Int.reduceNeg, Int.reduceToNat, Int.reduceGT, Int.reduceGE, Nat.reduceLT, Nat.lt_add_one, Nat.zero_lt_succ, Nat.succ_pos, Nat.zero_le, beq_self_eq_true, k_gatepostref01_Number_2, k_gatepostref01_Number_4, k_gatepostref01_Number_5, k_gatepostref01_Number_3, k_gatepostref01_Number_1, k_gatepostref01_Number_7, k_gatepostref01_Number_6, k_gatepostref01_Number_0, e0, e1, e6, e8, hl, hl', hc, hD, dw, d64, p, q, w, w1, w2, w3, w4, bin_quo', decide_true, decide_false]
        exact ⟨s.length - (i + 1), by omega, i + 1, 10 * v + D, rfl, hl', rfl, rfl, by omega, by omega, rfl⟩
  · have w := wrap64 (x := (i : Int) + 1) (by omega) (by omega)
    rw [hdr, List.all_cons] at ha
    cases dc : digB c with
    | false =>
      rw [dc, Bool.false_and] at ha
      rw [num_pair (show numS s most = (0, false) by unfold numS; simp [ha])]
      rcases dig_no dc with p | ⟨p, q⟩
      · simp (maxSteps := 4000000) only [vm, vl, Arg.get, cells, stor, boundO, resultsV, resV, partK, loadV, Vm.part, fillC, splice, reduceIte, reduceCtorEq, Nat.reduceEqDiff, Nat.reduceAdd, Nat.reduceSub, Nat.reduceMul, Nat.reduceLeDiff, ne_eq, not_false_eq_true, Int.reduceEq, Int.reduceLT, Int.reduceLE, Int.reduceNeg, Int.reduceToNat, Int.reduceGT, Int.reduceGE, Nat.reduceLT, Nat.lt_add_one, Nat.zero_lt_succ, Nat.succ_pos, Nat.zero_le, beq_self_eq_true, k_gatepostref01_Number_2, k_gatepostref01_Number_4, k_gatepostref01_Number_5, k_gatepostref01_Number_3, k_gatepostref01_Number_1, k_gatepostref01_Number_7, k_gatepostref01_Number_6, k_gatepostref01_Number_0, e0, e1, e6, e7, hl, hl', hc, p, decide_true]
      · simp (maxSteps := 4000000) only [vm, vl, Arg.get, cells, stor, boundO, resultsV, resV, partK, loadV, Vm.part, fillC, splice, reduceIte, reduceCtorEq, Nat.reduceEqDiff, Nat.reduceAdd, Nat.reduceSub, Nat.reduceMul, Nat.reduceLeDiff, ne_eq, not_false_eq_true, Int.reduceEq, Int.reduceLT, Int.reduceLE, Int.reduceNeg, Int.reduceToNat, Int.reduceGT, Int.reduceGE, Nat.reduceLT, Nat.lt_add_one, Nat.zero_lt_succ, Nat.succ_pos, Nat.zero_le, beq_self_eq_true, k_gatepostref01_Number_2, k_gatepostref01_Number_4, k_gatepostref01_Number_5, k_gatepostref01_Number_3, k_gatepostref01_Number_1, k_gatepostref01_Number_7, k_gatepostref01_Number_6, k_gatepostref01_Number_0, e0, e1, e6, e7, hl, hl', hc, p, q, decide_true, decide_false]
    | true =>
      rw [dc, Bool.true_and] at ha
      have di := dig_in dc
      have p : ¬ (c.toNat : Int) < 48 := by omega
      have q : ¬ (c.toNat : Int) > 57 := by omega
      simp (maxSteps := 4000000) only [vm, vl, Arg.get, cells, stor, boundO, resultsV, resV, partK, loadV, Vm.part, fillC, splice, reduceIte, reduceCtorEq, Nat.reduceEqDiff, Nat.reduceAdd, Nat.reduceSub, Nat.reduceMul, Nat.reduceLeDiff, ne_eq, not_false_eq_true, Int.reduceEq, Int.reduceLT, Int.reduceLE, Int.reduceNeg, Int.reduceToNat, Int.reduceGT, Int.reduceGE, Nat.reduceLT, Nat.lt_add_one, Nat.zero_lt_succ, Nat.succ_pos, Nat.zero_le, beq_self_eq_true, k_gatepostref01_Number_2, k_gatepostref01_Number_4, k_gatepostref01_Number_5, k_gatepostref01_Number_3, k_gatepostref01_Number_1, k_gatepostref01_Number_7, k_gatepostref01_Number_6, k_gatepostref01_Number_0, e0, e1, e6, e7, hl, hl', hc, p, q, w, decide_true, decide_false]
      exact ⟨s.length - (i + 1), by omega, i + 1, rfl, hl', rfl, ha⟩
end Go.Proofs.YtgplldjcopfjpaaDoor.Vh
end
section
set_option linter.unusedVariables false
set_option linter.unusedSimpArgs false
namespace Go.Proofs.YtgplldjcopfjpaaDoor.Vh
open Go.Vm Go.Vt
attribute [local congr] wi_congr wg_congr wgd_congr wb_congr wl_congr cf_congr
variable {L : FuncId → List V → V → Prop} {h : Heap}
/-- Flags and numbers. -/
structure Ct where
  f : Nat → Bool
  n : Nat → Int
def ctV (c : Ct) : List V := [.bool (c.f 0), .bool (c.f 1), .bool (c.f 2), .bool (c.f 3), .bool (c.f 4), .bool (c.f 5), .bool (c.f 6), .int .i64 (c.n 0), .int .i64 (c.n 1), .int .i64 (c.n 2), .int .i64 (c.n 3), .int .i64 (c.n 4), .int .i64 (c.n 5)]
def ct0 : Ct := ⟨fun _ => false, fun _ => -1⟩
def setF (c : Ct) (i : Nat) : Ct := ⟨fun k => if k = i then true else c.f k, c.n⟩
def setN (c : Ct) (j : Nat) (v : Int) : Ct := ⟨c.f, fun k => if k = j then v else c.n k⟩
/-- What a name stands for. -/
inductive Rl where
  | no
  | flag (i : Nat)
  | num (j : Nat) (m b : Int)
def ruleT : List (Bs × Rl) := [([110, 111, 45, 115, 116, 111, 114, 101], .flag 0), ([110, 111, 45, 99, 97, 99, 104, 101], .flag 1), ([112, 114, 105, 118, 97, 116, 101], .flag 2), ([112, 117, 98, 108, 105, 99], .flag 3), ([109, 117, 115, 116, 45, 114, 101, 118, 97, 108, 105, 100, 97, 116, 101], .flag 4), ([112, 114, 111, 120, 121, 45, 114, 101, 118, 97, 108, 105, 100, 97, 116, 101], .flag 5), ([111, 110, 108, 121, 45, 105, 102, 45, 99, 97, 99, 104, 101, 100], .flag 6), ([109, 97, 120, 45, 97, 103, 101], .num 0 0 0), ([115, 45, 109, 97, 120, 97, 103, 101], .num 1 0 0), ([115, 116, 97, 108, 101, 45, 119, 104, 105, 108, 101, 45, 114, 101, 118, 97, 108, 105, 100, 97, 116, 101], .num 2 (-1) (-1)), ([115, 116, 97, 108, 101, 45, 105, 102, 45, 101, 114, 114, 111, 114], .num 3 (-1) (-1)), ([109, 105, 110, 45, 102, 114, 101, 115, 104], .num 4 (-1) (-1)), ([109, 97, 120, 45, 115, 116, 97, 108, 101], .num 5 2147483648 (-1))]
def ruleOf (nm : Bs) : Rl := (ruleT.lookup nm).getD .no
def valueS (text : Bs) (has : Bool) (m b : Int) : Int := if has then (if (numS text 2147483648).2 then (numS text 2147483648).1 else b) else m
/-- What an element does. -/
inductive Ac where
  | nop
  | flag (i : Nat)
  | num (j : Nat) (v : Int)
def actS (x : Bs) : Ac := match ruleOf (low (pairS x).1) with
  | .no => .nop
  | .flag i => .flag i
  | .num j m b => if valueS (pairS x).2.1 (pairS x).2.2.1 m b = -1 then .nop else .num j (valueS (pairS x).2.1 (pairS x).2.2.1 m b)
def lst (a v : Int) : Int := if a = -1 ∨ v < a then v else a
def applyA (c : Ct) : Ac → Ct
  | .nop => c
  | .flag i => setF c i
  | .num j v => setN c j (lst (c.n j) v)
def stepC (c : Ct) (x : Bs) : Ct := applyA c (actS x)
def parseC (s : Bs) : Ct × Bool := match split s with
  | none => (setF (setF ct0 0) 1, false)
  | some l => (l.foldl stepC ct0, true)
def parseCV (p : Ct × Bool) : V := .tup [.agg (ctV p.1), .bool p.2]
def flagF : List FuncId := [i_control_rules_3, i_control_rules_4, i_control_rules_5, i_control_rules_6, i_control_rules_7, i_control_rules_8, i_control_rules_9]
def numF : List FuncId := [i_control_rules_10, i_control_rules_11, i_control_rules_12, i_control_rules_13, i_control_rules_14, i_control_rules_15]
def ruleV : Rl → V
  | .no => .agg [.nfn, .nfn, .int .i64 0, .int .i64 0]
  | .flag i => .agg [.fn (flagF.getD i 0) [], .nfn, .int .i64 0, .int .i64 0]
  | .num j m b => .agg [.nfn, .fn (numF.getD j 0) [], .int .i64 m, .int .i64 b]
def ruleE : List (V × V) := ruleT.map fun p => (.str p.1, ruleV p.2)
theorem find_rule (nm : Bs) : ∀ (l : List (Bs × Rl)) (k : Nat), ∃ r, findE .s (.str nm) (l.map fun p => (V.str p.1, ruleV p.2)) k = some r ∧ (match l.lookup nm with | none => r = none | some a => ∃ i, r = some (i, ruleV a))
  | [], k => ⟨none, rfl, rfl⟩
  | (n, a) :: l, k => by
    by_cases hn : nm = n
    · subst hn
      refine ⟨some (k, ruleV a), ?_, ?_⟩
      · simp [findE, eqLeaf]
      · rw [List.lookup_cons, show (nm == nm) = true from beq_self_eq_true nm]; exact ⟨k, rfl⟩
    · obtain ⟨r, h1, h2⟩ := find_rule nm l (k + 1)
      have hb : (nm == n) = false := beq_eq_false_iff_ne.2 hn
      refine ⟨r, ?_, ?_⟩
      · rw [List.map_cons, findE]
        simp only [eqLeaf, hb, Option.bind_some, Bool.false_eq_true, if_false]
        exact h1
      · rw [List.lookup_cons, hb]; exact h2
theorem nothing_ok : Cf F L i_control_nothing [] h (fun v h' => v = .agg (ctV ct0) ∧ h' = h ++ [.box (ctV ct0)]) := by
  refine run_control_nothing ?_
  simp only [p_control_nothing]
  simp (maxSteps := 4000000) only [vm, vl, Arg.get, cells, stor, boundO, resultsV, resV, partK, loadV, Vm.part, fillC, splice, reduceIte, reduceCtorEq, Nat.reduceEqDiff, Nat.reduceAdd, Nat.reduceSub, Nat.reduceMul, Nat.reduceLeDiff, ne_eq, not_false_eq_true, Int.reduceEq, Int.reduceLT, Int.reduceLE, Int.reduceNeg, Int.reduceToNat, Int.reduceGT, Int.reduceGE, Nat.reduceLT, Nat.lt_add_one, Nat.zero_lt_succ, Nat.succ_pos, Nat.zero_le, beq_self_eq_true]
  exact ⟨rfl, rfl⟩
theorem value_ok {f g : V} {m b : Int} {text : Bs} {has : Bool} (hs : text.length ≤ 9223372036854775806) : Cf F L i__gatepost_control_rule__value [.agg [f, g, .int .i64 m, .int .i64 b], .str text, .bool has] h (Pu h (.int .i64 (valueS text has m b))) := by
  refine run__gatepost_control_rule__value ?_
  simp only [p__gatepost_control_rule__value]
  unfold valueS
  cases has with
  | false => simp (maxSteps := 4000000) only [vm, vl, Arg.get, cells, stor, boundO, resultsV, resV, partK, loadV, Vm.part, fillC, splice, reduceIte, reduceCtorEq, Nat.reduceEqDiff, Nat.reduceAdd, Nat.reduceSub, Nat.reduceMul, Nat.reduceLeDiff, ne_eq, not_false_eq_true, Int.reduceEq, Int.reduceLT, Int.reduceLE, Int.reduceNeg, Int.reduceToNat, Int.reduceGT, Int.reduceGE, Nat.reduceLT, Nat.lt_add_one, Nat.zero_lt_succ, Nat.succ_pos, Nat.zero_le, beq_self_eq_true, k__gatepost_control_rule__value_1, k__gatepost_control_rule__value_0, Bool.not_false]
  | true =>
    simp (maxSteps := 4000000) only [vm, vl, Arg.get, cells, stor, boundO, resultsV, resV, partK, loadV, Vm.part, fillC, splice, reduceIte, reduceCtorEq, Nat.reduceEqDiff, Nat.reduceAdd, Nat.reduceSub, Nat.reduceMul, Nat.reduceLeDiff, ne_eq, not_false_eq_true, Int.reduceEq, Int.reduceLT, Int.reduceLE, Int.reduceNeg, Int.reduceToNat, Int.reduceGT, Int.reduceGE, Nat.reduceLT, Nat.lt_add_one, Nat.zero_lt_succ, Nat.succ_pos, Nat.zero_le, beq_self_eq_true, k__gatepost_control_rule__value_1, k__gatepost_control_rule__value_0, Bool.not_true]
    refine Cf.pu (Number_ok hs (by decide) (by decide)) fun u => ?_
    cases hn : (numS text 2147483648).2 with
    | true => simp (maxSteps := 4000000) only [vm, vl, Arg.get, cells, stor, boundO, resultsV, resV, partK, loadV, Vm.part, fillC, splice, reduceIte, reduceCtorEq, Nat.reduceEqDiff, Nat.reduceAdd, Nat.reduceSub, Nat.reduceMul, Nat.reduceLeDiff, ne_eq, not_false_eq_true, Int.reduceEq, Int.reduceLT, Int.reduceLE, Int.reduceNeg, Int.reduceToNat, Int.reduceGT, Int.reduceGE, Nat.reduceLT, Nat.lt_add_one, Nat.zero_lt_succ, Nat.succ_pos, Nat.zero_le, beq_self_eq_true, k__gatepost_control_rule__value_1, k__gatepost_control_rule__value_0, hn]
    | false => simp (maxSteps := 4000000) only [vm, vl, Arg.get, cells, stor, boundO, resultsV, resV, partK, loadV, Vm.part, fillC, splice, reduceIte, reduceCtorEq, Nat.reduceEqDiff, Nat.reduceAdd, Nat.reduceSub, Nat.reduceMul, Nat.reduceLeDiff, ne_eq, not_false_eq_true, Int.reduceEq, Int.reduceLT, Int.reduceLE, Int.reduceNeg, Int.reduceToNat, Int.reduceGT, Int.reduceGE, Nat.reduceLT, Nat.lt_add_one, Nat.zero_lt_succ, Nat.succ_pos, Nat.zero_le, beq_self_eq_true, k__gatepost_control_rule__value_1, k__gatepost_control_rule__value_0, hn]
theorem flag0_ok {c : Ct} {p : Nat} {K : V → Heap → Prop} (hb : h[p]? = some (.box (ctV c))) (hk : K (.tup []) (h.set p (.box (ctV (setF c 0))))) : Cf F L i_control_rules_3 [.ptr p 0] h K := by
  have hb' := hb
  unfold ctV at hb'
  refine run_control_rules_3 ?_
  simp only [p_control_rules_3]
  simp (maxSteps := 4000000) only [vm, vl, Arg.get, cells, stor, boundO, resultsV, resV, partK, loadV, Vm.part, fillC, splice, reduceIte, reduceCtorEq, Nat.reduceEqDiff, Nat.reduceAdd, Nat.reduceSub, Nat.reduceMul, Nat.reduceLeDiff, ne_eq, not_false_eq_true, Int.reduceEq, Int.reduceLT, Int.reduceLE, Int.reduceNeg, Int.reduceToNat, Int.reduceGT, Int.reduceGE, Nat.reduceLT, Nat.lt_add_one, Nat.zero_lt_succ, Nat.succ_pos, Nat.zero_le, beq_self_eq_true, hb']
  exact hk
theorem flag1_ok {c : Ct} {p : Nat} {K : V → Heap → Prop} (hb : h[p]? = some (.box (ctV c))) (hk : K (.tup []) (h.set p (.box (ctV (setF c 1))))) : Cf F L i_control_rules_4 [.ptr p 0] h K := by
  have hb' := hb
  unfold ctV at hb'
  refine run_control_rules_4 ?_
  simp only [p_control_rules_4]
  simp (maxSteps := 4000000) only [vm, vl, Arg.get, cells, stor, boundO, resultsV, resV, partK, loadV, Vm.part, fillC, splice, reduceIte, reduceCtorEq, Nat.reduceEqDiff, Nat.reduceAdd, Nat.reduceSub, Nat.reduceMul, Nat.reduceLeDiff, ne_eq, not_false_eq_true, Int.reduceEq, Int.reduceLT, Int.reduceLE, Int.reduceNeg, Int.reduceToNat, Int.reduceGT, Int.reduceGE, Nat.reduceLT, Nat.lt_add_one, Nat.zero_lt_succ, Nat.succ_pos, Nat.zero_le, beq_self_eq_true, hb']
  exact hk
theorem flag2_ok {c : Ct} {p : Nat} {K : V → Heap → Prop} (hb : h[p]? = some (.box (ctV c))) (hk : K (.tup []) (h.set p (.box (ctV (setF c 2))))) : Cf F L i_control_rules_5 [.ptr p 0] h K := by
  have hb' := hb
  unfold ctV at hb'
  refine run_control_rules_5 ?_
  simp only [p_control_rules_5]
  simp (maxSteps := 4000000) only [vm, vl, Arg.get, cells, stor, boundO, resultsV, resV, partK, loadV, Vm.part, fillC, splice, reduceIte, reduceCtorEq, Nat.reduceEqDiff, Nat.reduceAdd, Nat.reduceSub, Nat.reduceMul, Nat.reduceLeDiff, ne_eq, not_false_eq_true, Int.reduceEq, Int.reduceLT, Int.reduceLE, Int.reduceNeg, Int.reduceToNat, Int.reduceGT, Int.reduceGE, Nat.reduceLT, Nat.lt_add_one, Nat.zero_lt_succ, Nat.succ_pos, Nat.zero_le, beq_self_eq_true, hb']
  exact hk
theorem flag3_ok {c : Ct} {p : Nat} {K : V → Heap → Prop} (hb : h[p]? = some (.box (ctV c))) (hk : K (.tup []) (h.set p (.box (ctV (setF c 3))))) : Cf F L i_control_rules_6 [.ptr p 0] h K := by
  have hb' := hb
  unfold ctV at hb'
  refine run_control_rules_6 ?_
  simp only [p_control_rules_6]
  simp (maxSteps := 4000000) only [vm, vl, Arg.get, cells, stor, boundO, resultsV, resV, partK, loadV, Vm.part, fillC, splice, reduceIte, reduceCtorEq, Nat.reduceEqDiff, Nat.reduceAdd, Nat.reduceSub, Nat.reduceMul, Nat.reduceLeDiff, ne_eq, not_false_eq_true, Int.reduceEq, Int.reduceLT, Int.reduceLE, Int.reduceNeg, Int.reduceToNat, Int.reduceGT, Int.reduceGE, Nat.reduceLT, Nat.lt_add_one, Nat.zero_lt_succ, Nat.succ_pos, Nat.zero_le, beq_self_eq_true, hb']
  exact hk
theorem flag4_ok {c : Ct} {p : Nat} {K : V → Heap → Prop} (hb : h[p]? = some (.box (ctV c))) (hk : K (.tup []) (h.set p (.box (ctV (setF c 4))))) : Cf F L i_control_rules_7 [.ptr p 0] h K := by
  have hb' := hb
  unfold ctV at hb'
  refine run_control_rules_7 ?_
  simp only [p_control_rules_7]
  simp (maxSteps := 4000000) only [vm, vl, Arg.get, cells, stor, boundO, resultsV, resV, partK, loadV, Vm.part, fillC, splice, reduceIte, reduceCtorEq, Nat.reduceEqDiff, Nat.reduceAdd, Nat.reduceSub, Nat.reduceMul, Nat.reduceLeDiff, ne_eq, not_false_eq_true, Int.reduceEq, Int.reduceLT, Int.reduceLE, Int.reduceNeg, Int.reduceToNat, Int.reduceGT, Int.reduceGE, Nat.reduceLT, Nat.lt_add_one, Nat.zero_lt_succ, Nat.succ_pos, Nat.zero_le, beq_self_eq_true, hb']
  exact hk
theorem flag5_ok {c : Ct} {p : Nat} {K : V → Heap → Prop} (hb : h[p]? = some (.box (ctV c))) (hk : K (.tup []) (h.set p (.box (ctV (setF c 5))))) : Cf F L i_control_rules_8 [.ptr p 0] h K := by
  have hb' := hb
  unfold ctV at hb'
  refine run_control_rules_8 ?_
  simp only [p_control_rules_8]
  simp (maxSteps := 4000000) only [vm, vl, Arg.get, cells, stor, boundO, resultsV, resV, partK, loadV, Vm.part, fillC, splice, reduceIte, reduceCtorEq, Nat.reduceEqDiff, Nat.reduceAdd, Nat.reduceSub, Nat.reduceMul, Nat.reduceLeDiff, ne_eq, not_false_eq_true, Int.reduceEq, Int.reduceLT, Int.reduceLE, Int.reduceNeg, Int.reduceToNat, Int.reduceGT, Int.reduceGE, Nat.reduceLT, Nat.lt_add_one, Nat.zero_lt_succ, Nat.succ_pos, Nat.zero_le, beq_self_eq_true, hb']
  exact hk
theorem flag6_ok {c : Ct} {p : Nat} {K : V → Heap → Prop} (hb : h[p]? = some (.box (ctV c))) (hk : K (.tup []) (h.set p (.box (ctV (setF c 6))))) : Cf F L i_control_rules_9 [.ptr p 0] h K := by
  have hb' := hb
  unfold ctV at hb'
  refine run_control_rules_9 ?_
  simp only [p_control_rules_9]
  simp (maxSteps := 4000000) only [vm, vl, Arg.get, cells, stor, boundO, resultsV, resV, partK, loadV, Vm.part, fillC, splice, reduceIte, reduceCtorEq, Nat.reduceEqDiff, Nat.reduceAdd, Nat.reduceSub, Nat.reduceMul, Nat.reduceLeDiff, ne_eq, not_false_eq_true, Int.reduceEq, Int.reduceLT, Int.reduceLE, Int.reduceNeg, Int.reduceToNat, Int.reduceGT, Int.reduceGE, Nat.reduceLT, Nat.lt_add_one, Nat.zero_lt_succ, Nat.succ_pos, Nat.zero_le, beq_self_eq_true, hb']
  exact hk
theorem num0_ok {p : Nat} : Cf F L i_control_rules_10 [.ptr p 0] h (fun v h' => v = .ptr p 7 ∧ h' = h) := by
  refine run_control_rules_10 ?_
  simp only [p_control_rules_10]
  simp (maxSteps := 4000000) only [vm, vl, Arg.get, cells, stor, boundO, resultsV, resV, partK, loadV, Vm.part, fillC, splice, reduceIte, reduceCtorEq, Nat.reduceEqDiff, Nat.reduceAdd, Nat.reduceSub, Nat.reduceMul, Nat.reduceLeDiff, ne_eq, not_false_eq_true, Int.reduceEq, Int.reduceLT, Int.reduceLE, Int.reduceNeg, Int.reduceToNat, Int.reduceGT, Int.reduceGE, Nat.reduceLT, Nat.lt_add_one, Nat.zero_lt_succ, Nat.succ_pos, Nat.zero_le, beq_self_eq_true]
theorem num1_ok {p : Nat} : Cf F L i_control_rules_11 [.ptr p 0] h (fun v h' => v = .ptr p 8 ∧ h' = h) := by
  refine run_control_rules_11 ?_
  simp only [p_control_rules_11]
  simp (maxSteps := 4000000) only [vm, vl, Arg.get, cells, stor, boundO, resultsV, resV, partK, loadV, Vm.part, fillC, splice, reduceIte, reduceCtorEq, Nat.reduceEqDiff, Nat.reduceAdd, Nat.reduceSub, Nat.reduceMul, Nat.reduceLeDiff, ne_eq, not_false_eq_true, Int.reduceEq, Int.reduceLT, Int.reduceLE, Int.reduceNeg, Int.reduceToNat, Int.reduceGT, Int.reduceGE, Nat.reduceLT, Nat.lt_add_one, Nat.zero_lt_succ, Nat.succ_pos, Nat.zero_le, beq_self_eq_true]
theorem num2_ok {p : Nat} : Cf F L i_control_rules_12 [.ptr p 0] h (fun v h' => v = .ptr p 9 ∧ h' = h) := by
  refine run_control_rules_12 ?_
  simp only [p_control_rules_12]
  simp (maxSteps := 4000000) only [vm, vl, Arg.get, cells, stor, boundO, resultsV, resV, partK, loadV, Vm.part, fillC, splice, reduceIte, reduceCtorEq, Nat.reduceEqDiff, Nat.reduceAdd, Nat.reduceSub, Nat.reduceMul, Nat.reduceLeDiff, ne_eq, not_false_eq_true, Int.reduceEq, Int.reduceLT, Int.reduceLE, Int.reduceNeg, Int.reduceToNat, Int.reduceGT, Int.reduceGE, Nat.reduceLT, Nat.lt_add_one, Nat.zero_lt_succ, Nat.succ_pos, Nat.zero_le, beq_self_eq_true]
theorem num3_ok {p : Nat} : Cf F L i_control_rules_13 [.ptr p 0] h (fun v h' => v = .ptr p 10 ∧ h' = h) := by
  refine run_control_rules_13 ?_
  simp only [p_control_rules_13]
  simp (maxSteps := 4000000) only [vm, vl, Arg.get, cells, stor, boundO, resultsV, resV, partK, loadV, Vm.part, fillC, splice, reduceIte, reduceCtorEq, Nat.reduceEqDiff, Nat.reduceAdd, Nat.reduceSub, Nat.reduceMul, Nat.reduceLeDiff, ne_eq, not_false_eq_true, Int.reduceEq, Int.reduceLT, Int.reduceLE, Int.reduceNeg, Int.reduceToNat, Int.reduceGT, Int.reduceGE, Nat.reduceLT, Nat.lt_add_one, Nat.zero_lt_succ, Nat.succ_pos, Nat.zero_le, beq_self_eq_true]
theorem num4_ok {p : Nat} : Cf F L i_control_rules_14 [.ptr p 0] h (fun v h' => v = .ptr p 11 ∧ h' = h) := by
  refine run_control_rules_14 ?_
  simp only [p_control_rules_14]
  simp (maxSteps := 4000000) only [vm, vl, Arg.get, cells, stor, boundO, resultsV, resV, partK, loadV, Vm.part, fillC, splice, reduceIte, reduceCtorEq, Nat.reduceEqDiff, Nat.reduceAdd, Nat.reduceSub, Nat.reduceMul, Nat.reduceLeDiff, ne_eq, not_false_eq_true, Int.reduceEq, Int.reduceLT, Int.reduceLE, Int.reduceNeg, Int.reduceToNat, Int.reduceGT, Int.reduceGE, Nat.reduceLT, Nat.lt_add_one, Nat.zero_lt_succ, Nat.succ_pos, Nat.zero_le, beq_self_eq_true]
theorem num5_ok {p : Nat} : Cf F L i_control_rules_15 [.ptr p 0] h (fun v h' => v = .ptr p 12 ∧ h' = h) := by
  refine run_control_rules_15 ?_
  simp only [p_control_rules_15]
  simp (maxSteps := 4000000) only [vm, vl, Arg.get, cells, stor, boundO, resultsV, resV, partK, loadV, Vm.part, fillC, splice, reduceIte, reduceCtorEq, Nat.reduceEqDiff, Nat.reduceAdd, Nat.reduceSub, Nat.reduceMul, Nat.reduceLeDiff, ne_eq, not_false_eq_true, Int.reduceEq, Int.reduceLT, Int.reduceLE, Int.reduceNeg, Int.reduceToNat, Int.reduceGT, Int.reduceGE, Nat.reduceLT, Nat.lt_add_one, Nat.zero_lt_succ, Nat.succ_pos, Nat.zero_le, beq_self_eq_true]
theorem flag_ok {c : Ct} {p i : Nat} {K : V → Heap → Prop} (hi : i < 7) (hb : h[p]? = some (.box (ctV c))) (hk : K (.tup []) (h.set p (.box (ctV (setF c i))))) : Cf F L (flagF.getD i 0) [.ptr p 0] h K := by
  match i, hi with
  | 0, _ => exact flag0_ok hb hk
  | 1, _ => exact flag1_ok hb hk
  | 2, _ => exact flag2_ok hb hk
  | 3, _ => exact flag3_ok hb hk
  | 4, _ => exact flag4_ok hb hk
  | 5, _ => exact flag5_ok hb hk
  | 6, _ => exact flag6_ok hb hk
theorem num_ok {p j : Nat} (hj : j < 6) : Cf F L (numF.getD j 0) [.ptr p 0] h (fun v h' => v = .ptr p (7 + j) ∧ h' = h) := by
  match j, hj with
  | 0, _ => exact num0_ok
  | 1, _ => exact num1_ok
  | 2, _ => exact num2_ok
  | 3, _ => exact num3_ok
  | 4, _ => exact num4_ok
  | 5, _ => exact num5_ok
theorem put_rule1 {es es' : List (V × V)} {name : Bs} {f : FuncId} {K : V → Heap → Prop} (he : mapsetE .s (.str name) (.agg [.fn f [], .nfn, .int .i64 0, .int .i64 0]) es = some es')
    (hk : K (.tup []) (h ++ [.map es', .box [.map h.length]])) : Cf F L i_control_rules_1 [.str name, .fn f [], .ptr (h.length + 1) 0] (h ++ [.map es, .box [.map h.length]]) K := by
  refine run_control_rules_1 ?_
  simp only [p_control_rules_1]
  simp (maxSteps := 4000000) only [vm, vl, Arg.get, cells, stor, boundO, resultsV, resV, partK, loadV, Vm.part, fillC, splice, reduceIte, reduceCtorEq, Nat.reduceEqDiff, Nat.reduceAdd, Nat.reduceSub, Nat.reduceMul, Nat.reduceLeDiff, ne_eq, not_false_eq_true, Int.reduceEq, Int.reduceLT, Int.reduceLE, Int.reduceNeg, Int.reduceToNat, Int.reduceGT, Int.reduceGE, Nat.reduceLT, Nat.lt_add_one, Nat.zero_lt_succ, Nat.succ_pos, Nat.zero_le, beq_self_eq_true, he]
  exact hk
theorem put_rule2 {es es' : List (V × V)} {name : Bs} {f : FuncId} {m b : Int} {K : V → Heap → Prop} (he : mapsetE .s (.str name) (.agg [.nfn, .fn f [], .int .i64 m, .int .i64 b]) es = some es')
    (hk : K (.tup []) (h ++ [.map es', .box [.map h.length]])) : Cf F L i_control_rules_2 [.str name, .int .i64 m, .int .i64 b, .fn f [], .ptr (h.length + 1) 0] (h ++ [.map es, .box [.map h.length]]) K := by
  refine run_control_rules_2 ?_
  simp only [p_control_rules_2]
  simp (maxSteps := 4000000) only [vm, vl, Arg.get, cells, stor, boundO, resultsV, resV, partK, loadV, Vm.part, fillC, splice, reduceIte, reduceCtorEq, Nat.reduceEqDiff, Nat.reduceAdd, Nat.reduceSub, Nat.reduceMul, Nat.reduceLeDiff, ne_eq, not_false_eq_true, Int.reduceEq, Int.reduceLT, Int.reduceLE, Int.reduceNeg, Int.reduceToNat, Int.reduceGT, Int.reduceGE, Nat.reduceLT, Nat.lt_add_one, Nat.zero_lt_succ, Nat.succ_pos, Nat.zero_le, beq_self_eq_true, he]
  exact hk
theorem rules_ok : Cf F L i_control_rules [] h (fun v h' => v = .map h.length ∧ h' = h ++ [.map ruleE, .box [.map h.length]]) := by
  refine run_control_rules ?_
  simp only [p_control_rules]
  simp (maxSteps := 4000000) only [vm, vl, Arg.get, cells, stor, boundO, resultsV, resV, partK, loadV, Vm.part, fillC, splice, reduceIte, reduceCtorEq, Nat.reduceEqDiff, Nat.reduceAdd, Nat.reduceSub, Nat.reduceMul, Nat.reduceLeDiff, ne_eq, not_false_eq_true, Int.reduceEq, Int.reduceLT, Int.reduceLE, Int.reduceNeg, Int.reduceToNat, Int.reduceGT, Int.reduceGE, Nat.reduceLT, Nat.lt_add_one, Nat.zero_lt_succ, Nat.succ_pos, Nat.zero_le, beq_self_eq_true]
  refine put_rule1 (es' := ruleE.take 1) rfl ?_
  try simp (maxSteps := 4000000) only [vm, vl, Arg.get, cells, stor, boundO, resultsV, resV, partK, loadV, Vm.part, fillC, splice, reduceIte, reduceCtorEq, Nat.reduceEqDiff, Nat.reduceAdd, Nat.reduceSub, Nat.reduceMul, Nat.reduceLeDiff, ne_eq, not_false_eq_true, Int.reduceEq, Int.reduceLT, Int.reduceLE, Int.reduceNeg, Int.reduceToNat, Int.reduceGT, Int.reduceGE, Nat.reduceLT, Nat.lt_add_one, Nat.zero_lt_succ, Nat.succ_pos, Nat.zero_le, beq_self_eq_true]
  refine put_rule1 (es' := ruleE.take 2) rfl ?_
  try simp (maxSteps := 4000000) only [vm, vl, Arg.get, cells, stor, boundO, resultsV, resV, partK, loadV, Vm.part, fillC, splice, reduceIte, reduceCtorEq, Nat.reduceEqDiff, Nat.reduceAdd, Nat.reduceSub, Nat.reduceMul, Nat.reduceLeDiff, ne_eq, not_false_eq_true, Int.reduceEq, Int.reduceLT, Int.reduceLE, Int.reduceNeg, Int.reduceToNat, Int.reduceGT, Int.reduceGE, Nat.reduceLT, Nat.lt_add_one, Nat.zero_lt_succ, Nat.succ_pos, Nat.zero_le, beq_self_eq_true]
  refine put_rule1 (es' := ruleE.take 3) rfl ?_
  try simp (maxSteps := 4000000) only [vm, vl, Arg.get, cells, stor, boundO, resultsV, resV, partK, loadV, Vm.part, fillC, splice, reduceIte, reduceCtorEq, Nat.reduceEqDiff, Nat.reduceAdd, Nat.reduceSub, Nat.reduceMul, Nat.reduceLeDiff, ne_eq, not_false_eq_true, Int.reduceEq, Int.reduceLT, Int.reduceLE, Int.reduceNeg, Int.reduceToNat, Int.reduceGT, Int.reduceGE, Nat.reduceLT, Nat.lt_add_one, Nat.zero_lt_succ, Nat.succ_pos, Nat.zero_le, beq_self_eq_true]
  refine put_rule1 (es' := ruleE.take 4) rfl ?_
  try simp (maxSteps := 4000000) only [vm, vl, Arg.get, cells, stor, boundO, resultsV, resV, partK, loadV, Vm.part, fillC, splice, reduceIte, reduceCtorEq, Nat.reduceEqDiff, Nat.reduceAdd, Nat.reduceSub, Nat.reduceMul, Nat.reduceLeDiff, ne_eq, not_false_eq_true, Int.reduceEq, Int.reduceLT, Int.reduceLE, Int.reduceNeg, Int.reduceToNat, Int.reduceGT, Int.reduceGE, Nat.reduceLT, Nat.lt_add_one, Nat.zero_lt_succ, Nat.succ_pos, Nat.zero_le, beq_self_eq_true]
  refine put_rule1 (es' := ruleE.take 5) rfl ?_
  try simp (maxSteps := 4000000) only [vm, vl, Arg.get, cells, stor, boundO, resultsV, resV, partK, loadV, Vm.part, fillC, splice, reduceIte, reduceCtorEq, Nat.reduceEqDiff, Nat.reduceAdd, Nat.reduceSub, Nat.reduceMul, Nat.reduceLeDiff, ne_eq, not_false_eq_true, Int.reduceEq, Int.reduceLT, Int.reduceLE, Int.reduceNeg, Int.reduceToNat, Int.reduceGT, Int.reduceGE, Nat.reduceLT, Nat.lt_add_one, Nat.zero_lt_succ, Nat.succ_pos, Nat.zero_le, beq_self_eq_true]
  refine put_rule1 (es' := ruleE.take 6) rfl ?_
  try simp (maxSteps := 4000000) only [vm, vl, Arg.get, cells, stor, boundO, resultsV, resV, partK, loadV, Vm.part, fillC, splice, reduceIte, reduceCtorEq, Nat.reduceEqDiff, Nat.reduceAdd, Nat.reduceSub, Nat.reduceMul, Nat.reduceLeDiff, ne_eq, not_false_eq_true, Int.reduceEq, Int.reduceLT, Int.reduceLE, Int.reduceNeg, Int.reduceToNat, Int.reduceGT, Int.reduceGE, Nat.reduceLT, Nat.lt_add_one, Nat.zero_lt_succ, Nat.succ_pos, Nat.zero_le, beq_self_eq_true]
  refine put_rule1 (es' := ruleE.take 7) rfl ?_
  try simp (maxSteps := 4000000) only [vm, vl, Arg.get, cells, stor, boundO, resultsV, resV, partK, loadV, Vm.part, fillC, splice, reduceIte, reduceCtorEq, Nat.reduceEqDiff, Nat.reduceAdd, Nat.reduceSub, Nat.reduceMul, Nat.reduceLeDiff, ne_eq, not_false_eq_true, Int.reduceEq, Int.reduceLT, Int.reduceLE, Int.reduceNeg, Int.reduceToNat, Int.reduceGT, Int.reduceGE, Nat.reduceLT, Nat.lt_add_one, Nat.zero_lt_succ, Nat.succ_pos, Nat.zero_le, beq_self_eq_true]
  refine put_rule2 (es' := ruleE.take 8) rfl ?_
  try simp (maxSteps := 4000000) only [vm, vl, Arg.get, cells, stor, boundO, resultsV, resV, partK, loadV, Vm.part, fillC, splice, reduceIte, reduceCtorEq, Nat.reduceEqDiff, Nat.reduceAdd, Nat.reduceSub, Nat.reduceMul, Nat.reduceLeDiff, ne_eq, not_false_eq_true, Int.reduceEq, Int.reduceLT, Int.reduceLE, Int.reduceNeg, Int.reduceToNat, Int.reduceGT, Int.reduceGE, Nat.reduceLT, Nat.lt_add_one, Nat.zero_lt_succ, Nat.succ_pos, Nat.zero_le, beq_self_eq_true]
  refine put_rule2 (es' := ruleE.take 9) rfl ?_
  try simp (maxSteps := 4000000) only [vm, vl, Arg.get, cells, stor, boundO, resultsV, resV, partK, loadV, Vm.part, fillC, splice, reduceIte, reduceCtorEq, Nat.reduceEqDiff, Nat.reduceAdd, Nat.reduceSub, Nat.reduceMul, Nat.reduceLeDiff, ne_eq, not_false_eq_true, Int.reduceEq, Int.reduceLT, Int.reduceLE, Int.reduceNeg, Int.reduceToNat, Int.reduceGT, Int.reduceGE, Nat.reduceLT, Nat.lt_add_one, Nat.zero_lt_succ, Nat.succ_pos, Nat.zero_le, beq_self_eq_true]
  refine put_rule2 (es' := ruleE.take 10) rfl ?_
  try simp (maxSteps := 4000000) only [vm, vl, Arg.get, cells, stor, boundO, resultsV, resV, partK, loadV, Vm.part, fillC, splice, reduceIte, reduceCtorEq, Nat.reduceEqDiff, Nat.reduceAdd, Nat.reduceSub, Nat.reduceMul, Nat.reduceLeDiff, ne_eq, not_false_eq_true, Int.reduceEq, Int.reduceLT, Int.reduceLE, Int.reduceNeg, Int.reduceToNat, Int.reduceGT, Int.reduceGE, Nat.reduceLT, Nat.lt_add_one, Nat.zero_lt_succ, Nat.succ_pos, Nat.zero_le, beq_self_eq_true]
  refine put_rule2 (es' := ruleE.take 11) rfl ?_
  try simp (maxSteps := 4000000) only [vm, vl, Arg.get, cells, stor, boundO, resultsV, resV, partK, loadV, Vm.part, fillC, splice, reduceIte, reduceCtorEq, Nat.reduceEqDiff, Nat.reduceAdd, Nat.reduceSub, Nat.reduceMul, Nat.reduceLeDiff, ne_eq, not_false_eq_true, Int.reduceEq, Int.reduceLT, Int.reduceLE, Int.reduceNeg, Int.reduceToNat, Int.reduceGT, Int.reduceGE, Nat.reduceLT, Nat.lt_add_one, Nat.zero_lt_succ, Nat.succ_pos, Nat.zero_le, beq_self_eq_true]
  refine put_rule2 (es' := ruleE.take 12) rfl ?_
  try simp (maxSteps := 4000000) only [vm, vl, Arg.get, cells, stor, boundO, resultsV, resV, partK, loadV, Vm.part, fillC, splice, reduceIte, reduceCtorEq, Nat.reduceEqDiff, Nat.reduceAdd, Nat.reduceSub, Nat.reduceMul, Nat.reduceLeDiff, ne_eq, not_false_eq_true, Int.reduceEq, Int.reduceLT, Int.reduceLE, Int.reduceNeg, Int.reduceToNat, Int.reduceGT, Int.reduceGE, Nat.reduceLT, Nat.lt_add_one, Nat.zero_lt_succ, Nat.succ_pos, Nat.zero_le, beq_self_eq_true]
  refine put_rule2 (es' := ruleE.take 13) rfl ?_
  try simp (maxSteps := 4000000) only [vm, vl, Arg.get, cells, stor, boundO, resultsV, resV, partK, loadV, Vm.part, fillC, splice, reduceIte, reduceCtorEq, Nat.reduceEqDiff, Nat.reduceAdd, Nat.reduceSub, Nat.reduceMul, Nat.reduceLeDiff, ne_eq, not_false_eq_true, Int.reduceEq, Int.reduceLT, Int.reduceLE, Int.reduceNeg, Int.reduceToNat, Int.reduceGT, Int.reduceGE, Nat.reduceLT, Nat.lt_add_one, Nat.zero_lt_succ, Nat.succ_pos, Nat.zero_le, beq_self_eq_true]
  rfl
end Go.Proofs.YtgplldjcopfjpaaDoor.Vh
end
section
set_option linter.unusedVariables false
set_option linter.unusedSimpArgs false
namespace Go.Proofs.YtgplldjcopfjpaaDoor.Vh
open Go.Vm Go.Vt
theorem trimL_len (s : Bs) : (trimL s).length ≤ s.length := (List.dropWhile_sublist _).length_le
theorem trimR_len : ∀ s : Bs, (trimR s).length ≤ s.length
  | [] => by simp [trimR]
  | c :: r => by
    have := trimR_len r
    unfold trimR
    split
    · split
      · simp
      · simp
    · rename_i h
      simp only [List.length_cons]; omega
theorem trim_len (s : Bs) : (trim s).length ≤ s.length := Nat.le_trans (trimL_len _) (trimR_len _)
theorem flush_mem {out : List Bs} {own x : Bs} (h : x ∈ flush out own) : x ∈ out ∨ x.length ≤ own.length := by
  unfold flush at h
  split at h
  · exact .inl h
  · rcases List.mem_append.1 h with h | h
    · exact .inl h
    · right; rw [List.mem_singleton.1 h]; exact trim_len _
theorem splitG_mem : ∀ {n : Nat} {s own : Bs} {q : Bool} {out l : List Bs}, s.length ≤ n → splitG s own q out = some l → ∀ x ∈ l, x ∈ out ∨ x.length ≤ own.length + s.length
  | n, [], own, q, out, l, hn, h, x, hx => by
    have e : splitG [] own q out = if q then none else some (flush out own) := rfl
    rw [e] at h
    split at h
    · cases h
    · injection h with h; subst h
      exact (flush_mem hx).imp_right fun h => by simpa using h
  | 0, c :: r, own, q, out, l, hn, h, x, hx => by simp at hn
  | n + 1, c :: r, own, q, out, l, hn, h, x, hx => by
    simp at hn
    rw [splitG_step] at h
    split at h
    · refine (splitG_mem hn h x hx).imp_right fun this => ?_; simp only [List.length_append, List.length_cons, List.length_nil] at this ⊢; omega
    split at h
    · cases r with
      | nil => cases h
      | cons d r =>
        refine (splitG_mem (n := n) (by simp at hn; omega) h x hx).imp_right fun this => ?_; simp only [List.length_append, List.length_cons, List.length_nil] at this ⊢; omega
    split at h
    · rcases splitG_mem hn h x hx with h1 | h1
      · refine (flush_mem h1).imp_right fun this => ?_; simp only [List.length_cons]; omega
      · right; simp only [List.length_cons, List.length_nil] at h1 ⊢; omega
    · refine (splitG_mem hn h x hx).imp_right fun this => ?_; simp only [List.length_append, List.length_cons, List.length_nil] at this ⊢; omega
theorem split_mem {s : Bs} {l : List Bs} (h : split s = some l) : ∀ x ∈ l, x.length ≤ s.length := by
  intro x hx
  have := splitG_mem (Nat.le_refl _) h x hx
  simpa using this
theorem list_at' {α : Type} {l : List α} {i : Nat} (d : α) (hi : i ≤ l.length) : (¬ (i : Int) < l.length ∧ i = l.length ∧ l.drop i = []) ∨ ((i : Int) < l.length ∧ i < l.length ∧ l.drop i = l.getD i d :: l.drop (i + 1) ∧ l.take (i + 1) = l.take i ++ [l.getD i d]) := by
  rcases Nat.lt_or_eq_of_le hi with h | h
  · right
    have e : l.getD i d = l[i] := by rw [List.getD_eq_getElem?_getD, List.getElem?_eq_getElem h]; rfl
    exact ⟨by omega, h, by rw [e]; exact List.drop_eq_getElem_cons h, by rw [e, List.take_add_one, List.getElem?_eq_getElem h]; rfl⟩
  · exact .inl ⟨by omega, h, by rw [h]; simp⟩
theorem splitG_len : ∀ {n : Nat} {s own : Bs} {q : Bool} {out l : List Bs}, s.length ≤ n → splitG s own q out = some l → l.length ≤ out.length + s.length + 1
  | 0, s, own, q, out, l, hn, h => by
    obtain rfl : s = [] := List.eq_nil_of_length_eq_zero (by omega)
    rw [splitG_none rfl] at h
    split at h
    · cases h
    · injection h with h; subst h
      have := flush_len out own; simp; omega
  | n + 1, [], own, q, out, l, hn, h => splitG_len (n := n) (by simp) h
  | n + 1, c :: r, own, q, out, l, hn, h => by
    simp at hn
    rw [splitG_step] at h
    split at h
    · have := splitG_len hn h; simp; omega
    split at h
    · cases r with
      | nil => cases h
      | cons d r =>
        have := splitG_len (n := n) (by simp at hn; omega) h; simp; omega
    split at h
    · have := splitG_len hn h
      have := flush_len out own; simp; omega
    · have := splitG_len hn h; simp; omega
end Go.Proofs.YtgplldjcopfjpaaDoor.Vh
end
section
set_option linter.unusedVariables false
set_option linter.unusedSimpArgs false
namespace Go.Proofs.YtgplldjcopfjpaaDoor.Vh
open Go.Vm Go.Vt
attribute [local congr] wi_congr wg_congr wgd_congr wb_congr wl_congr cf_congr
variable {L : FuncId → List V → V → Prop} {h : Heap}
theorem ruleT_spec (nm : Bs) : ruleOf nm = .no ∨ (∃ i, i < 7 ∧ ruleOf nm = .flag i) ∨ ∃ j m b, j < 6 ∧ ruleOf nm = .num j m b := by
  unfold ruleOf ruleT
  simp only [List.lookup]
  repeat' split
  all_goals simp
theorem ctV_len (c : Ct) : (ctV c).length = 13 := rfl
theorem ctV_num {c : Ct} {j : Nat} (hj : j < 6) : (ctV c).getD (7 + j) (.tup []) = .int .i64 (c.n j) := by
  match j, hj with
  | 0, _ => rfl
  | 1, _ => rfl
  | 2, _ => rfl
  | 3, _ => rfl
  | 4, _ => rfl
  | 5, _ => rfl
theorem ctV_put {c : Ct} {j : Nat} {v : Int} (hj : j < 6) : List.take (7 + j) (ctV c) ++ V.int .i64 v :: List.drop (7 + (j + 1)) (ctV c) = ctV (setN c j v) := by
  match j, hj with
  | 0, _ => rfl
  | 1, _ => rfl
  | 2, _ => rfl
  | 3, _ => rfl
  | 4, _ => rfl
  | 5, _ => rfl
/-- The least that is told. -/
theorem value_low (text : Bs) (has : Bool) {m b : Int} (hm : m = -1 ∨ 0 ≤ m) (hb : b = -1 ∨ 0 ≤ b) : valueS text has m b = -1 ∨ 0 ≤ valueS text has m b := by
  unfold valueS
  split
  · split
    · exact .inr (numS_le text (by decide)).1
    · exact hb
  · exact hm
theorem unqT_len : ∀ (n : Nat) (s bs : Bs), s.length ≤ n → (unqT s bs).1.length ≤ bs.length + s.length
  | _, [], bs, _ => by rw [unqT_end]; simp
  | 0, c :: r, bs, hn => by simp at hn
  | n + 1, c :: t, bs, hn => by
    simp at hn
    by_cases c34 : c = 34
    · subst c34
      rw [unqT_stop]; simp
    · by_cases c92 : c = 92
      · subst c92
        cases t with
        | nil => rw [unqT_esc0]; simp
        | cons d t =>
          rw [unqT_esc]
          simp at hn
          split
          · have := unqT_len n t (bs ++ [d]) (by omega)
            simp at this ⊢; omega
          · simp
      · rw [unqT_one c34 c92]
        split
        · have := unqT_len n t (bs ++ [c]) hn
          simp at this ⊢; omega
        · simp
theorem unqP_len (s : Bs) : (unqP s).1.length ≤ s.length := by
  unfold unqP
  split
  · have := unqT_len _ (s.drop 1) [] (Nat.le_refl _)
    rw [List.length_drop, List.length_nil] at this
    omega
  · simp
theorem pairS_len1 (s : Bs) : (pairS s).1.length ≤ s.length := by
  unfold pairS
  simp only
  split
  · split
    · split
      · rw [List.length_take]; omega
      · split
        · rw [List.length_take]; omega
        · simp
    · rw [List.length_take]; omega
  · simp
theorem pairS_len2 (s : Bs) : (pairS s).2.1.length ≤ s.length := by
  have h1 : (s.drop (pos 61 s + 1)).length ≤ s.length := by rw [List.length_drop]; omega
  have h2 := unqP_len (s.drop (pos 61 s + 1))
  unfold pairS
  simp only
  split
  · split
    · split
      · exact h1
      · split
        · exact Nat.le_trans h2 h1
        · simp
    · exact h1
  · simp
theorem pairS_no (s : Bs) (h : (pairS s).2.2.2 = false) : (pairS s).1 = [] := by
  unfold pairS at h ⊢
  simp only at h ⊢
  repeat' split at h
  all_goals first | (cases h; done) | simp_all
theorem find_case (nm : Bs) : ∃ r, findE .s (.str nm) ruleE 0 = some r ∧ ((r = none ∧ ruleOf nm = .no) ∨ ∃ i, r = some (i, ruleV (ruleOf nm))) := by
  obtain ⟨r, h1, h2⟩ := find_rule nm ruleT 0
  refine ⟨r, h1, ?_⟩
  unfold ruleOf
  cases hl : ruleT.lookup nm with
  | none => rw [hl] at h2; exact .inl ⟨h2, rfl⟩
  | some a => rw [hl] at h2; exact .inr h2
def ParI (h : Heap) (l : List Bs) (x : V) (n : Nat) (e : Env) (h' : Heap) : Prop :=
  ∃ (i : Nat) (c : Ct) (km : Nat) (R A : O) (t : Heap), n = l.length - i ∧ i ≤ l.length ∧ e 2 = .ptr h.length 0 ∧ e 4 = .ptr (h.length + 2) 0 ∧ e 7 = .map (h.length + (km + 3)) ∧ e 29 = x ∧ e 30 = .int .i64 l.length ∧ e 31 = .int .i64 i ∧
    (∃ cs, R = .box cs ∧ cs.length = 13) ∧ h' = h ++ (R :: A :: .box (ctV c) :: t) ∧ t[km]? = some (.map ruleE) ∧ l.foldl stepC ct0 = (l.drop i).foldl stepC c
theorem Parse_round {l : List Bs} {x : V} (HI : IndexOk L) (HU : UnqOk L) (hx : ListV 1 x (strs l)) (hl : l.length < 100000000) (hb : ∀ s ∈ l, s.length < 100000000) {n : Nat} {e : Env} {h' : Heap} (hI : ParI h l x n e h') :
    b_control_Parse_0 L (Pu h (parseCV (l.foldl stepC ct0, true))) (fun e' h' => ∃ m, m < n ∧ ParI h l x m e' h') e h' := by
  obtain ⟨i, c, km, R, A, t, rfl, hi, e2, e4, e7, e29, e30, e31, ⟨cs, rfl, hcs⟩, rfl, hk, hf⟩ := hI
  simp only [b_control_Parse_0]
  
  rcases list_at' [] hi with ⟨hn, rfl, hd⟩ | ⟨hl1, hl2, hd, _⟩
  · rw [hd] at hf
    have hcs1 : List.drop 13 cs = [] := List.drop_eq_nil_of_le (by omega)
    have hc13 := ctV_len c
    have ht13 : List.take 13 (ctV c) = ctV c := rfl
    simp (maxSteps := 4000000) only [vm, vl, Arg.get, cells, stor, boundO, resultsV, resV, partK, loadV, Vm.part, fillC, splice, reduceIte, reduceCtorEq, Nat.reduceEqDiff, Nat.reduceAdd, Nat.reduceSub, Nat.reduceMul, Nat.reduceLeDiff, ne_eq, not_false_eq_true, Int.reduceEq, Int.reduceLT, Int.reduceLE, Int.reduceNeg, Int.reduceToNat, Int.reduceGT, Int.reduceGE, Nat.reduceLT, Nat.lt_add_one, Nat.zero_lt_succ, Nat.succ_pos, Nat.zero_le, beq_self_eq_true, e2, e4, e30, e31, hn]
    unfold k_control_Parse_1
    simp (maxSteps := 4000000) only [vm, vl, Arg.get, cells, stor, boundO, resultsV, resV, partK, loadV, Vm.part, fillC, splice, reduceIte, reduceCtorEq, Nat.reduceEqDiff, Nat.reduceAdd, Nat.reduceSub, Nat.reduceMul, Nat.reduceLeDiff, ne_eq, not_false_eq_true, Int.reduceEq, Int.reduceLT, Int.reduceLE, Int.reduceNeg, Int.reduceToNat, Int.reduceGT, Int.reduceGE, Nat.reduceLT, Nat.lt_add_one, Nat.zero_lt_succ, Nat.succ_pos, Nat.zero_le, beq_self_eq_true, hcs, hc13, ht13, hcs1, List.append_nil]
    rw [hf]; rfl
  · obtain ⟨o, rfl⟩ : ∃ o, x = .sl 1 o (strs l) := by
      rcases hx with ⟨he, _⟩ | h
      · have := strs_len l
        rw [he] at this
        simp at this
        omega
      · exact h
    have hsl : i < (strs l).length := by rw [strs_len]; exact hl2
    have hi0 : (0 : Int) ≤ (i : Int) := by omega
    have g : (strs l).getD i (.tup []) = .str (l.getD i []) := by
      unfold strs
      rw [List.getD_eq_getElem?_getD, List.getD_eq_getElem?_getD, List.getElem?_map, List.getElem?_eq_getElem hl2]; rfl
    have hyb : (l.getD i []).length < 100000000 := by
      rw [List.getD_eq_getElem?_getD, List.getElem?_eq_getElem hl2]; exact hb _ (List.getElem_mem hl2)
    rw [hd, List.foldl_cons] at hf
    generalize l.getD i [] = y at *
    have w := wrap64 (x := (i : Int) + 1) (by omega) (by omega)
    have hplen : (pairS y).1.length ≤ y.length := pairS_len1 y
    have hplen2 : (pairS y).2.1.length ≤ y.length := pairS_len2 y
    simp (maxSteps := 4000000) only [vm, vl, Arg.get, cells, stor, boundO, resultsV, resV, partK, loadV, Vm.part, fillC, splice, reduceIte, reduceCtorEq, Nat.reduceEqDiff, Nat.reduceAdd, Nat.reduceSub, Nat.reduceMul, Nat.reduceLeDiff, ne_eq, not_false_eq_true, Int.reduceEq, Int.reduceLT, Int.reduceLE, Int.reduceNeg, Int.reduceToNat, Int.reduceGT, Int.reduceGE, Nat.reduceLT, Nat.lt_add_one, Nat.zero_lt_succ, Nat.succ_pos, Nat.zero_le, beq_self_eq_true, e2, e4, e7, e29, e30, e31, hl1]
    unfold k_control_Parse_2
    simp (maxSteps := 4000000) only [vm, vl, Arg.get, cells, stor, boundO, resultsV, resV, partK, loadV, Vm.part, fillC, splice, reduceIte, reduceCtorEq, Nat.reduceEqDiff, Nat.reduceAdd, Nat.reduceSub, Nat.reduceMul, Nat.reduceLeDiff, ne_eq, not_false_eq_true, Int.reduceEq, Int.reduceLT, Int.reduceLE, Int.reduceNeg, Int.reduceToNat, Int.reduceGT, Int.reduceGE, Nat.reduceLT, Nat.lt_add_one, Nat.zero_lt_succ, Nat.succ_pos, Nat.zero_le, beq_self_eq_true, hsl, hi0, g]
    refine Cf.pu (Pair_ok HI HU (by omega)) fun u1 => ?_
    unfold k_control_Parse_6
    simp (maxSteps := 4000000) only [vm, vl, Arg.get, cells, stor, boundO, resultsV, resV, partK, loadV, Vm.part, fillC, splice, reduceIte, reduceCtorEq, Nat.reduceEqDiff, Nat.reduceAdd, Nat.reduceSub, Nat.reduceMul, Nat.reduceLeDiff, ne_eq, not_false_eq_true, Int.reduceEq, Int.reduceLT, Int.reduceLE, Int.reduceNeg, Int.reduceToNat, Int.reduceGT, Int.reduceGE, Nat.reduceLT, Nat.lt_add_one, Nat.zero_lt_succ, Nat.succ_pos, Nat.zero_le, beq_self_eq_true, pairV]
    refine Cf.pu (Lower_ok (by omega)) fun u2 => ?_
    have hmap : (h ++ (O.box cs :: A :: O.box (ctV c) :: (t ++ u1)) ++ u2)[h.length + (km + 3)]? = some (.map ruleE) := by
      refine get_old ?_
      rw [get_new]; exact get_old hk
    obtain ⟨r, hr1, hr2⟩ := find_case (low (pairS y).1)
    simp only [hmap, hr1]
    have main : k_control_Parse_5 L (Pu h (parseCV (List.foldl stepC ct0 l, true)))
        (fun e' h' => ∃ m, m < l.length - i ∧ ParI h l (V.sl 1 o (strs l)) m e' h') (upd e 32 (V.bool true))
        (V.ptr (List.length h + 2) 0) (V.map (List.length h + (km + 3))) (V.int IntKind.i64 ↑i) (V.iptr [V.str y])
        (V.str y)
        (V.tup
          [V.str (pairS y).fst, V.str (pairS y).snd.fst, V.bool (pairS y).snd.snd.fst, V.bool (pairS y).snd.snd.snd])
        (V.str (pairS y).fst) (V.str (pairS y).snd.fst) (V.bool (pairS y).snd.snd.fst) (V.bool (pairS y).snd.snd.snd)
        (V.str (low (pairS y).fst)) (ruleV (ruleOf (low (pairS y).1)))
        (h ++ O.box cs :: A :: O.box (ctV c) :: (t ++ u1) ++ u2) := by
      have hfin : ∀ (c' : Ct) (e' : Env) (t' : Heap), (∃ u, t' = t ++ u) → stepC c y = c' → e' 2 = .ptr h.length 0 → e' 4 = .ptr (h.length + 2) 0 → e' 7 = .map (h.length + (km + 3)) → e' 29 = V.sl 1 o (strs l) → e' 30 = .int .i64 l.length → e' 31 = .int .i64 ((i : Int) + 1) →
          ∃ m, m < l.length - i ∧ ParI h l (V.sl 1 o (strs l)) m e' (h ++ (O.box cs :: A :: O.box (ctV c') :: t')) := by
        rintro c' e' t' ⟨u, rfl⟩ hs f2 f4 f7 f29 f30 f31
        rw [hs] at hf
        exact ⟨l.length - (i + 1), by omega, i + 1, c', km, _, A, t ++ u, rfl, hl2, f2, f4, f7, f29, f30, f31, ⟨cs, rfl, hcs⟩, rfl, get_old hk, hf⟩
      have ha : actS y = match ruleOf (low (pairS y).1) with
        | .no => .nop
        | .flag i => .flag i
        | .num j m b => if valueS (pairS y).2.1 (pairS y).2.2.1 m b = -1 then .nop else .num j (valueS (pairS y).2.1 (pairS y).2.2.1 m b) := rfl
      clear hmap hr1 hr2 hf
      generalize low (pairS y).1 = nm at *
      generalize (pairS y).1 = pn at *
      generalize (pairS y).2.1 = text at *
      generalize (pairS y).2.2.1 = has at *
      generalize (pairS y).2.2.2 = ok at *
      unfold k_control_Parse_5
      rcases ruleT_spec nm with hr | ⟨k, hk7, hr⟩ | ⟨j, m, b, hj, hr⟩
      · rw [hr] at ha ⊢
        have hs : stepC c y = c := by unfold stepC; rw [ha]; rfl
        unfold ruleV
        simp (maxSteps := 4000000) only [vm, vl, Arg.get, cells, stor, boundO, resultsV, resV, partK, loadV, Vm.part, fillC, splice, reduceIte, reduceCtorEq, Nat.reduceEqDiff, Nat.reduceAdd, Nat.reduceSub, Nat.reduceMul, Nat.reduceLeDiff, ne_eq, not_false_eq_true, Int.reduceEq, Int.reduceLT, Int.reduceLE, Int.reduceNeg, Int.reduceToNat, Int.reduceGT, Int.reduceGE, Nat.reduceLT, Nat.lt_add_one, Nat.zero_lt_succ, Nat.succ_pos, Nat.zero_le, beq_self_eq_true, k_control_Parse_3, w]
        exact hfin c _ _ ⟨_, rfl⟩ hs e2 e4 e7 e29 e30 rfl
      · rw [hr] at ha ⊢
        have hs : stepC c y = setF c k := by unfold stepC; rw [ha]; rfl
        unfold ruleV
        simp (maxSteps := 4000000) only [vm, vl, Arg.get, cells, stor, boundO, resultsV, resV, partK, loadV, Vm.part, fillC, splice, reduceIte, reduceCtorEq, Nat.reduceEqDiff, Nat.reduceAdd, Nat.reduceSub, Nat.reduceMul, Nat.reduceLeDiff, ne_eq, not_false_eq_true, Int.reduceEq, Int.reduceLT, Int.reduceLE, Int.reduceNeg, Int.reduceToNat, Int.reduceGT, Int.reduceGE, Nat.reduceLT, Nat.lt_add_one, Nat.zero_lt_succ, Nat.succ_pos, Nat.zero_le, beq_self_eq_true, k_control_Parse_3, w]
        refine flag_ok hk7 (c := c) (by rw [get_new]; rfl) ?_
        simp (maxSteps := 4000000) only [vm, vl, Arg.get, cells, stor, boundO, resultsV, resV, partK, loadV, Vm.part, fillC, splice, reduceIte, reduceCtorEq, Nat.reduceEqDiff, Nat.reduceAdd, Nat.reduceSub, Nat.reduceMul, Nat.reduceLeDiff, ne_eq, not_false_eq_true, Int.reduceEq, Int.reduceLT, Int.reduceLE, Int.reduceNeg, Int.reduceToNat, Int.reduceGT, Int.reduceGE, Nat.reduceLT, Nat.lt_add_one, Nat.zero_lt_succ, Nat.succ_pos, Nat.zero_le, beq_self_eq_true, k_control_Parse_3, w]
        exact hfin (setF c k) _ _ ⟨_, rfl⟩ hs e2 e4 e7 e29 e30 rfl
      · rw [hr] at ha ⊢
        have hc13 := ctV_len c
        have h13 : 7 + (j + 1) ≤ 13 := by omega
        have hnj := ctV_num (c := c) hj
        unfold ruleV
        simp (maxSteps := 4000000) only [vm, vl, Arg.get, cells, stor, boundO, resultsV, resV, partK, loadV, Vm.part, fillC, splice, reduceIte, reduceCtorEq, Nat.reduceEqDiff, Nat.reduceAdd, Nat.reduceSub, Nat.reduceMul, Nat.reduceLeDiff, ne_eq, not_false_eq_true, Int.reduceEq, Int.reduceLT, Int.reduceLE, Int.reduceNeg, Int.reduceToNat, Int.reduceGT, Int.reduceGE, Nat.reduceLT, Nat.lt_add_one, Nat.zero_lt_succ, Nat.succ_pos, Nat.zero_le, beq_self_eq_true, k_control_Parse_3, w]
        refine (num_ok hj).mono fun v h' hv => ?_
        obtain ⟨rfl, rfl⟩ := hv
        simp (maxSteps := 4000000) only [vm, vl, Arg.get, cells, stor, boundO, resultsV, resV, partK, loadV, Vm.part, fillC, splice, reduceIte, reduceCtorEq, Nat.reduceEqDiff, Nat.reduceAdd, Nat.reduceSub, Nat.reduceMul, Nat.reduceLeDiff, ne_eq, not_false_eq_true, Int.reduceEq, Int.reduceLT, Int.reduceLE, Int.reduceNeg, Int.reduceToNat, Int.reduceGT, Int.reduceGE, Nat.reduceLT, Nat.lt_add_one, Nat.zero_lt_succ, Nat.succ_pos, Nat.zero_le, beq_self_eq_true]
        refine Cf.pu (value_ok (by omega)) fun u3 => ?_
        unfold k_control_Parse_4
        have ha' : actS y = if valueS text has m b = -1 then .nop else .num j (valueS text has m b) := ha
        clear ha
        generalize hval : valueS text has m b = vv at *
        by_cases hv : vv = -1
        · have hs : stepC c y = c := by unfold stepC; rw [ha', if_pos hv]; rfl
          simp (maxSteps := 4000000) only [vm, vl, Arg.get, cells, stor, boundO, resultsV, resV, partK, loadV, Vm.part, fillC, splice, reduceIte, reduceCtorEq, Nat.reduceEqDiff, Nat.reduceAdd, Nat.reduceSub, Nat.reduceMul, Nat.reduceLeDiff, ne_eq, not_false_eq_true, Int.reduceEq, Int.reduceLT, Int.reduceLE, Int.reduceNeg, Int.reduceToNat, Int.reduceGT, Int.reduceGE, Nat.reduceLT, Nat.lt_add_one, Nat.zero_lt_succ, Nat.succ_pos, Nat.zero_le, beq_self_eq_true, hv, decide_true, Bool.not_true, k_control_Parse_3, w]
          exact hfin c _ _ ⟨_, rfl⟩ hs e2 e4 e7 e29 e30 rfl
        · rw [if_neg hv] at ha'
          have hs : stepC c y = setN c j (lst (c.n j) vv) := by unfold stepC; rw [ha']; rfl
          have hput := ctV_put (c := c) (j := j) (v := vv) hj
          by_cases h1 : c.n j = -1
          · have hl : lst (c.n j) vv = vv := if_pos (.inl h1)
            rw [hl] at hs
            simp (maxSteps := 4000000) only [vm, vl, Arg.get, cells, stor, boundO, resultsV, resV, partK, loadV, Vm.part, fillC, splice, reduceIte, reduceCtorEq, Nat.reduceEqDiff, Nat.reduceAdd, Nat.reduceSub, Nat.reduceMul, Nat.reduceLeDiff, ne_eq, not_false_eq_true, Int.reduceEq, Int.reduceLT, Int.reduceLE, Int.reduceNeg, Int.reduceToNat, Int.reduceGT, Int.reduceGE, Nat.reduceLT, Nat.lt_add_one, Nat.zero_lt_succ, Nat.succ_pos, Nat.zero_le, beq_self_eq_true, hv, decide_false, Bool.not_false, hc13, h13, hnj, h1, decide_true, hput, k_control_Parse_3, w]
            exact hfin (setN c j vv) _ _ ⟨_, rfl⟩ hs e2 e4 e7 e29 e30 rfl
          · by_cases h2 : vv < c.n j
            · have hl : lst (c.n j) vv = vv := if_pos (.inr h2)
              rw [hl] at hs
              simp (maxSteps := 4000000) only [vm, vl, Arg.get, cells, stor, boundO, resultsV, resV, partK, loadV, Vm.part, fillC, splice, reduceIte, reduceCtorEq, Nat.reduceEqDiff, Nat.reduceAdd, Nat.reduceSub, Nat.reduceMul, Nat.reduceLeDiff, ne_eq, not_false_eq_true, Int.reduceEq, Int.reduceLT, Int.reduceLE, Int.reduceNeg, Int.reduceToNat, Int.reduceGT, Int.reduceGE, Nat.reduceLT, Nat.lt_add_one, Nat.zero_lt_succ, Nat.succ_pos, Nat.zero_le, beq_self_eq_true, hv, decide_false, Bool.not_false, hc13, h13, hnj, h1, h2, decide_true, hput, k_control_Parse_3, w]
              exact hfin (setN c j vv) _ _ ⟨_, rfl⟩ hs e2 e4 e7 e29 e30 rfl
            · have hl : lst (c.n j) vv = c.n j := if_neg (by omega)
              have hss : setN c j (c.n j) = c := by
                unfold setN
                have : (fun k => if k = j then c.n j else c.n k) = c.n := funext fun k => by split <;> simp_all
                rw [this]
              rw [hl, hss] at hs
              simp (maxSteps := 4000000) only [vm, vl, Arg.get, cells, stor, boundO, resultsV, resV, partK, loadV, Vm.part, fillC, splice, reduceIte, reduceCtorEq, Nat.reduceEqDiff, Nat.reduceAdd, Nat.reduceSub, Nat.reduceMul, Nat.reduceLeDiff, ne_eq, not_false_eq_true, Int.reduceEq, Int.reduceLT, Int.reduceLE, Int.reduceNeg, Int.reduceToNat, Int.reduceGT, Int.reduceGE, Nat.reduceLT, Nat.lt_add_one, Nat.zero_lt_succ, Nat.succ_pos, Nat.zero_le, beq_self_eq_true, hv, decide_false, Bool.not_false, hc13, h13, hnj, h1, h2, k_control_Parse_3, w]
              exact hfin c _ _ ⟨_, rfl⟩ hs e2 e4 e7 e29 e30 rfl
    rcases hr2 with ⟨rfl, hr⟩ | ⟨k, rfl⟩
    · rw [hr] at main; exact main
    · exact main
theorem Parse_ok (HI : IndexOk L) (HU : UnqOk L) {s : Bs} (hs : s.length < 1000000) : Cf F L i_control_Parse [.str s] h (Pu h (parseCV (parseC s))) := by
  refine run_control_Parse ?_
  simp only [p_control_Parse]
  
  simp (maxSteps := 4000000) only [vm, vl, Arg.get, cells, stor, boundO, resultsV, resV, partK, loadV, Vm.part, fillC, splice, reduceIte, reduceCtorEq, Nat.reduceEqDiff, Nat.reduceAdd, Nat.reduceSub, Nat.reduceMul, Nat.reduceLeDiff, ne_eq, not_false_eq_true, Int.reduceEq, Int.reduceLT, Int.reduceLE, Int.reduceNeg, Int.reduceToNat, Int.reduceGT, Int.reduceGE, Nat.reduceLT, Nat.lt_add_one, Nat.zero_lt_succ, Nat.succ_pos, Nat.zero_le, beq_self_eq_true]
  refine (nothing_ok).mono fun v h' hv => ?_
  obtain ⟨rfl, rfl⟩ := hv
  have hc13 := ctV_len ct0
  have hd13 : List.drop 13 (ctV ct0) = [] := rfl
  simp (maxSteps := 4000000) only [vm, vl, Arg.get, cells, stor, boundO, resultsV, resV, partK, loadV, Vm.part, fillC, splice, reduceIte, reduceCtorEq, Nat.reduceEqDiff, Nat.reduceAdd, Nat.reduceSub, Nat.reduceMul, Nat.reduceLeDiff, ne_eq, not_false_eq_true, Int.reduceEq, Int.reduceLT, Int.reduceLE, Int.reduceNeg, Int.reduceToNat, Int.reduceGT, Int.reduceGE, Nat.reduceLT, Nat.lt_add_one, Nat.zero_lt_succ, Nat.succ_pos, Nat.zero_le, beq_self_eq_true, hc13]
  refine Cf.pu (Split_ok (by omega)) fun u1 => ?_
  unfold k_control_Parse_7 parseC
  cases hsp : split s with
  | none =>
    simp only [splitV]
    simp (maxSteps := 4000000) only [vm, vl, Arg.get, cells, stor, boundO, resultsV, resV, partK, loadV, Vm.part, fillC, splice, reduceIte, reduceCtorEq, Nat.reduceEqDiff, Nat.reduceAdd, Nat.reduceSub, Nat.reduceMul, Nat.reduceLeDiff, ne_eq, not_false_eq_true, Int.reduceEq, Int.reduceLT, Int.reduceLE, Int.reduceNeg, Int.reduceToNat, Int.reduceGT, Int.reduceGE, Nat.reduceLT, Nat.lt_add_one, Nat.zero_lt_succ, Nat.succ_pos, Nat.zero_le, beq_self_eq_true, ctV, Bool.not_false]
    rfl
  | some l =>
    simp only [splitV]
    simp (maxSteps := 4000000) only [vm, vl, Arg.get, cells, stor, boundO, resultsV, resV, partK, loadV, Vm.part, fillC, splice, reduceIte, reduceCtorEq, Nat.reduceEqDiff, Nat.reduceAdd, Nat.reduceSub, Nat.reduceMul, Nat.reduceLeDiff, ne_eq, not_false_eq_true, Int.reduceEq, Int.reduceLT, Int.reduceLE, Int.reduceNeg, Int.reduceToNat, Int.reduceGT, Int.reduceGE, Nat.reduceLT, Nat.lt_add_one, Nat.zero_lt_succ, Nat.succ_pos, Nat.zero_le, beq_self_eq_true, Bool.not_true]
    unfold k_control_Parse_0
    simp (maxSteps := 4000000) only [vm, vl, Arg.get, cells, stor, boundO, resultsV, resV, partK, loadV, Vm.part, fillC, splice, reduceIte, reduceCtorEq, Nat.reduceEqDiff, Nat.reduceAdd, Nat.reduceSub, Nat.reduceMul, Nat.reduceLeDiff, ne_eq, not_false_eq_true, Int.reduceEq, Int.reduceLT, Int.reduceLE, Int.reduceNeg, Int.reduceToNat, Int.reduceGT, Int.reduceGE, Nat.reduceLT, Nat.lt_add_one, Nat.zero_lt_succ, Nat.succ_pos, Nat.zero_le, beq_self_eq_true]
    refine (rules_ok).mono fun v h' hv => ?_
    obtain ⟨rfl, rfl⟩ := hv
    have hlen : l.length < 100000000 := by
      have := splitG_len (Nat.le_refl _) (show splitG s [] false [] = some l from hsp)
      simp at this; omega
    have hmem := split_mem hsp
    have hx := full_list l
    have hbs : ∀ x ∈ l, x.length < 100000000 := fun x hx => by have := hmem x hx; omega
    have fin : ∀ (e : Env), e 2 = .ptr h.length 0 → e 4 = .ptr (h.length + 2) 0 → e 7 = .map (h.length + (u1.length + 3)) → e 29 = fullV l → e 30 = .int .i64 l.length → e 31 = .int .i64 ((0 : Nat) : Int) →
        Wl F L lc_control_Parse_0 (q_control_Parse_0 L (Pu h (parseCV (List.foldl stepC ct0 l, true)))) e (h ++
        O.box
            [V.bool false, V.bool false, V.bool false, V.bool false, V.bool false, V.bool false, V.bool false,
              V.int IntKind.i64 0, V.int IntKind.i64 0, V.int IntKind.i64 0, V.int IntKind.i64 0, V.int IntKind.i64 0,
              V.int IntKind.i64 0] ::
          O.box (ctV ct0) ::
            O.box (ctV ct0 ++ []) :: (u1 ++ [O.map ruleE, O.box [V.map (List.length h + (List.length u1 + 3))]])) := by
      intro e f2 f4 f7 f29 f30 f31
      rw [List.append_nil]
      exact l_control_Parse_0 (ParI h l (fullV l)) (fun n e h' hI => Parse_round HI HU hx hlen hbs hI) (n := l.length) ⟨0, ct0, u1.length, _, _, _, by simp, by simp, f2, f4, f7, f29, f30, f31, ⟨_, rfl, rfl⟩, rfl, by rw [List.getElem?_append_right (Nat.le_refl _)]; simp, by simp⟩
    rcases hx with ⟨he, e⟩ | ⟨o, e⟩
    · have hl0 : l.length = 0 := by rw [← strs_len, he]; rfl
      rw [hl0] at fin
      rw [e] at fin ⊢
      simp (maxSteps := 4000000) only [vm, vl, Arg.get, cells, stor, boundO, resultsV, resV, partK, loadV, Vm.part, fillC, splice, reduceIte, reduceCtorEq, Nat.reduceEqDiff, Nat.reduceAdd, Nat.reduceSub, Nat.reduceMul, Nat.reduceLeDiff, ne_eq, not_false_eq_true, Int.reduceEq, Int.reduceLT, Int.reduceLE, Int.reduceNeg, Int.reduceToNat, Int.reduceGT, Int.reduceGE, Nat.reduceLT, Nat.lt_add_one, Nat.zero_lt_succ, Nat.succ_pos, Nat.zero_le, beq_self_eq_true]
      exact fin _ rfl rfl rfl rfl rfl rfl
    · rw [e] at fin ⊢
      have hsl := strs_len l
      simp (maxSteps := 4000000) only [vm, vl, Arg.get, cells, stor, boundO, resultsV, resV, partK, loadV, Vm.part, fillC, splice, reduceIte, reduceCtorEq, Nat.reduceEqDiff, Nat.reduceAdd, Nat.reduceSub, Nat.reduceMul, Nat.reduceLeDiff, ne_eq, not_false_eq_true, Int.reduceEq, Int.reduceLT, Int.reduceLE, Int.reduceNeg, Int.reduceToNat, Int.reduceGT, Int.reduceGE, Nat.reduceLT, Nat.lt_add_one, Nat.zero_lt_succ, Nat.succ_pos, Nat.zero_le, beq_self_eq_true, hsl]
      exact fin _ rfl rfl rfl rfl rfl rfl
end Go.Proofs.YtgplldjcopfjpaaDoor.Vh
end
section
set_option linter.unusedVariables false
set_option linter.unusedSimpArgs false
namespace Go.Proofs.YtgplldjcopfjpaaDoor.Vh
open Go.Vm Go.Vt
attribute [local congr] wi_congr wg_congr wgd_congr wb_congr wl_congr cf_congr
variable {L : FuncId → List V → V → Prop} {h : Heap}
theorem q61 {c : UInt8} : decide ((c.toNat : Int) = 61) = decide (c = 61) := byte_all (p := fun c => decide ((c.toNat : Int) = 61) = decide (c = 61)) (by decide +kernel) c
theorem rPair0_ok {s : Bs} {t : Heap} {k : Nat} (hs : s.length < 1000000000) (hk : k ≤ s.length) (hp : pos 61 s = k) :
    k_gatepostref01_Pair_0 L (Pu h (pairV (pairS s))) (.str s) (.int .i64 k) (h ++ t) := by
  
  unfold k_gatepostref01_Pair_0
  have b1 : (s.take k).length < 1000000000 := by rw [List.length_take]; omega
  have b2 : (s.drop (k + 1)).length < 1000000000 := by rw [List.length_drop]; omega
  unfold pairS
  simp only
  rw [hp]
  have t0 : (0 : Int) ≤ (k : Int) := by omega
  have t1 : ((k : Nat) : Int).toNat = k := by omega
  by_cases hlt : k < s.length
  · rw [if_pos hlt]
    have h1 : k + 1 ≤ s.length := hlt
    have e1 : decide ((k : Int) = (s.length : Int)) = false := by simp; omega
    have w := wrap64 (x := (k : Int) + 1) (by omega) (by omega)
    have t2 : (0 : Int) ≤ (k : Int) + 1 := by omega
    have t3 : ((k : Int) + 1).toNat = k + 1 := by omega
    
    simp (maxSteps := 4000000) only [vm, vl, Arg.get, cells, stor, boundO, resultsV, resV, partK, loadV, Vm.part, fillC, splice, reduceIte, reduceCtorEq, Nat.reduceEqDiff, Nat.reduceAdd, Nat.reduceSub, Nat.reduceMul, Nat.reduceLeDiff, ne_eq, not_false_eq_true, Int.reduceEq, Int.reduceLT, Int.reduceLE, Int.reduceNeg, Int.reduceToNat, Int.reduceGT, Int.reduceGE, Nat.reduceLT, Nat.lt_add_one, Nat.zero_lt_succ, Nat.succ_pos, Nat.zero_le, beq_self_eq_true, t0, t1, hk, Nat.zero_le, List.drop_zero]
    generalize hn : s.take k = n at *
    refine Cf.pu (rIs_ok (by omega)) fun u => ?_
    cases q1 : isTok n with
    | false => simp (maxSteps := 4000000) only [vm, vl, Arg.get, cells, stor, boundO, resultsV, resV, partK, loadV, Vm.part, fillC, splice, reduceIte, reduceCtorEq, Nat.reduceEqDiff, Nat.reduceAdd, Nat.reduceSub, Nat.reduceMul, Nat.reduceLeDiff, ne_eq, not_false_eq_true, Int.reduceEq, Int.reduceLT, Int.reduceLE, Int.reduceNeg, Int.reduceToNat, Int.reduceGT, Int.reduceGE, Nat.reduceLT, Nat.lt_add_one, Nat.zero_lt_succ, Nat.succ_pos, Nat.zero_le, beq_self_eq_true, pairV, Bool.not_false]
    | true =>
      simp (maxSteps := 4000000) only [vm, vl, Arg.get, cells, stor, boundO, resultsV, resV, partK, loadV, Vm.part, fillC, splice, reduceIte, reduceCtorEq, Nat.reduceEqDiff, Nat.reduceAdd, Nat.reduceSub, Nat.reduceMul, Nat.reduceLeDiff, ne_eq, not_false_eq_true, Int.reduceEq, Int.reduceLT, Int.reduceLE, Int.reduceNeg, Int.reduceToNat, Int.reduceGT, Int.reduceGE, Nat.reduceLT, Nat.lt_add_one, Nat.zero_lt_succ, Nat.succ_pos, Nat.zero_le, beq_self_eq_true, q1, Bool.not_true, k_gatepostref01_Pair_1, k_gatepostref01_Pair_2, e1, w, t2, t3, h1, hlt, Nat.le_refl, List.take_length]
      generalize hv : s.drop (k + 1) = v at *
      refine Cf.pu (rIs_ok (by omega)) fun u2 => ?_
      cases q2 : isTok v with
      | true => simp (maxSteps := 4000000) only [vm, vl, Arg.get, cells, stor, boundO, resultsV, resV, partK, loadV, Vm.part, fillC, splice, reduceIte, reduceCtorEq, Nat.reduceEqDiff, Nat.reduceAdd, Nat.reduceSub, Nat.reduceMul, Nat.reduceLeDiff, ne_eq, not_false_eq_true, Int.reduceEq, Int.reduceLT, Int.reduceLE, Int.reduceNeg, Int.reduceToNat, Int.reduceGT, Int.reduceGE, Nat.reduceLT, Nat.lt_add_one, Nat.zero_lt_succ, Nat.succ_pos, Nat.zero_le, beq_self_eq_true, q2, t0, t1, hk, Nat.zero_le, List.drop_zero, hn, pairV]
      | false =>
        simp (maxSteps := 4000000) only [vm, vl, Arg.get, cells, stor, boundO, resultsV, resV, partK, loadV, Vm.part, fillC, splice, reduceIte, reduceCtorEq, Nat.reduceEqDiff, Nat.reduceAdd, Nat.reduceSub, Nat.reduceMul, Nat.reduceLeDiff, ne_eq, not_false_eq_true, Int.reduceEq, Int.reduceLT, Int.reduceLE, Int.reduceNeg, Int.reduceToNat, Int.reduceGT, Int.reduceGE, Nat.reduceLT, Nat.lt_add_one, Nat.zero_lt_succ, Nat.succ_pos, Nat.zero_le, beq_self_eq_true, q2, k_gatepostref01_Pair_3]
        refine (rUnq_ok (by omega)).mono fun x h' hx => ?_
        obtain ⟨x, ⟨rfl, r, rfl⟩, hx⟩ := hx
        cases q3 : (unqP v).2 with
        | false => simp (maxSteps := 4000000) only [vm, vl, Arg.get, cells, stor, boundO, resultsV, resV, partK, loadV, Vm.part, fillC, splice, reduceIte, reduceCtorEq, Nat.reduceEqDiff, Nat.reduceAdd, Nat.reduceSub, Nat.reduceMul, Nat.reduceLeDiff, ne_eq, not_false_eq_true, Int.reduceEq, Int.reduceLT, Int.reduceLE, Int.reduceNeg, Int.reduceToNat, Int.reduceGT, Int.reduceGE, Nat.reduceLT, Nat.lt_add_one, Nat.zero_lt_succ, Nat.succ_pos, Nat.zero_le, beq_self_eq_true, q3, Bool.not_false, pairV]
        | true =>
          have := hx q3
          subst this
          simp (maxSteps := 4000000) only [vm, vl, Arg.get, cells, stor, boundO, resultsV, resV, partK, loadV, Vm.part, fillC, splice, reduceIte, reduceCtorEq, Nat.reduceEqDiff, Nat.reduceAdd, Nat.reduceSub, Nat.reduceMul, Nat.reduceLeDiff, ne_eq, not_false_eq_true, Int.reduceEq, Int.reduceLT, Int.reduceLE, Int.reduceNeg, Int.reduceToNat, Int.reduceGT, Int.reduceGE, Nat.reduceLT, Nat.lt_add_one, Nat.zero_lt_succ, Nat.succ_pos, Nat.zero_le, beq_self_eq_true, q3, Bool.not_true, k_gatepostref01_Pair_4, t0, t1, hk, Nat.zero_le, List.drop_zero, hn, pairV]
  · rw [if_neg hlt]
    have he : k = s.length := by omega
    subst he
    have e1 : decide ((s.length : Int) = (s.length : Int)) = true := by simp
    have tk : s.take s.length = s := List.take_length
    have dk : s.drop (s.length + 1) = [] := by rw [List.drop_eq_nil_iff]; omega
    rw [tk, dk]
    
    simp (maxSteps := 4000000) only [vm, vl, Arg.get, cells, stor, boundO, resultsV, resV, partK, loadV, Vm.part, fillC, splice, reduceIte, reduceCtorEq, Nat.reduceEqDiff, Nat.reduceAdd, Nat.reduceSub, Nat.reduceMul, Nat.reduceLeDiff, ne_eq, not_false_eq_true, Int.reduceEq, Int.reduceLT, Int.reduceLE, Int.reduceNeg, Int.reduceToNat, Int.reduceGT, Int.reduceGE, Nat.reduceLT, Nat.lt_add_one, Nat.zero_lt_succ, Nat.succ_pos, Nat.zero_le, beq_self_eq_true, t0, t1, hk, Nat.zero_le, List.drop_zero, tk]
    refine Cf.pu (rIs_ok (by omega)) fun u => ?_
    cases q1 : isTok s with
    | false => simp (maxSteps := 4000000) only [vm, vl, Arg.get, cells, stor, boundO, resultsV, resV, partK, loadV, Vm.part, fillC, splice, reduceIte, reduceCtorEq, Nat.reduceEqDiff, Nat.reduceAdd, Nat.reduceSub, Nat.reduceMul, Nat.reduceLeDiff, ne_eq, not_false_eq_true, Int.reduceEq, Int.reduceLT, Int.reduceLE, Int.reduceNeg, Int.reduceToNat, Int.reduceGT, Int.reduceGE, Nat.reduceLT, Nat.lt_add_one, Nat.zero_lt_succ, Nat.succ_pos, Nat.zero_le, beq_self_eq_true, q1, pairV, Bool.not_false]
    | true => simp (maxSteps := 4000000) only [vm, vl, Arg.get, cells, stor, boundO, resultsV, resV, partK, loadV, Vm.part, fillC, splice, reduceIte, reduceCtorEq, Nat.reduceEqDiff, Nat.reduceAdd, Nat.reduceSub, Nat.reduceMul, Nat.reduceLeDiff, ne_eq, not_false_eq_true, Int.reduceEq, Int.reduceLT, Int.reduceLE, Int.reduceNeg, Int.reduceToNat, Int.reduceGT, Int.reduceGE, Nat.reduceLT, Nat.lt_add_one, Nat.zero_lt_succ, Nat.succ_pos, Nat.zero_le, beq_self_eq_true, q1, Bool.not_true, k_gatepostref01_Pair_1, e1, pairV]
theorem rPair_ok {s : Bs} (hs : s.length < 1000000000) : Cf F L i_gatepostref01_Pair [.str s] h (Pu h (pairV (pairS s))) := by
  refine run_gatepostref01_Pair ?_
  simp only [p_gatepostref01_Pair]
  
  refine l_gatepostref01_Pair_0 (fun n e h' => ∃ k : Nat, n = s.length - k ∧ k ≤ s.length ∧ e 0 = .str s ∧ e 6 = .int .i64 k ∧ (∀ j, j < k → s.getD j 0 ≠ 61) ∧ ∃ t, h' = h ++ t) ?_ (n := s.length) ⟨0, by simp, by simp, rfl, rfl, by simp, [], by simp⟩
  rintro n e h' ⟨k, rfl, hk, e0, e6, hno, t, rfl⟩
  simp only [b_gatepostref01_Pair_0]
  rcases str_at hk with ⟨hn, rfl, hd⟩ | ⟨c, hl, hl', hc, hd⟩
  · simp (maxSteps := 4000000) only [vm, vl, Arg.get, cells, stor, boundO, resultsV, resV, partK, loadV, Vm.part, fillC, splice, reduceIte, reduceCtorEq, Nat.reduceEqDiff, Nat.reduceAdd, Nat.reduceSub, Nat.reduceMul, Nat.reduceLeDiff, ne_eq, not_false_eq_true, Int.reduceEq, Int.reduceLT, Int.reduceLE, Int.reduceNeg, Int.reduceToNat, Int.reduceGT, Int.reduceGE, Nat.reduceLT, Nat.lt_add_one, Nat.zero_lt_succ, Nat.succ_pos, Nat.zero_le, beq_self_eq_true, e0, e6, hn]
    exact rPair0_ok hs hk (pos_none hno)
  · have w := wrap64 (x := (k : Int) + 1) (by omega) (by omega)
    have k61 := q61 (c := c)
    by_cases c61 : c = 61
    · subst c61
      have k61' : ((UInt8.toNat 61 : Nat) : Int) = 61 := rfl
      simp (maxSteps := 4000000) only [vm, vl, Arg.get, cells, stor, boundO, resultsV, resV, partK, loadV, Vm.part, fillC, splice, reduceIte, reduceCtorEq, Nat.reduceEqDiff, Nat.reduceAdd, Nat.reduceSub, Nat.reduceMul, Nat.reduceLeDiff, ne_eq, not_false_eq_true, Int.reduceEq, Int.reduceLT, Int.reduceLE, Int.reduceNeg, Int.reduceToNat, Int.reduceGT, Int.reduceGE, Nat.reduceLT, Nat.lt_add_one, Nat.zero_lt_succ, Nat.succ_pos, Nat.zero_le, beq_self_eq_true, e0, e6, hl, hl', hc, k61', decide_true, Bool.not_true]
      exact rPair0_ok hs hk (pos_at hl' hno hc)
    · have k61' : ¬ (c.toNat : Int) = 61 := by rw [← decide_eq_false_iff_not, k61]; simpa using c61
      simp (maxSteps := 4000000) only [vm, vl, Arg.get, cells, stor, boundO, resultsV, resV, partK, loadV, Vm.part, fillC, splice, reduceIte, reduceCtorEq, Nat.reduceEqDiff, Nat.reduceAdd, Nat.reduceSub, Nat.reduceMul, Nat.reduceLeDiff, ne_eq, not_false_eq_true, Int.reduceEq, Int.reduceLT, Int.reduceLE, Int.reduceNeg, Int.reduceToNat, Int.reduceGT, Int.reduceGE, Nat.reduceLT, Nat.lt_add_one, Nat.zero_lt_succ, Nat.succ_pos, Nat.zero_le, beq_self_eq_true, e0, e6, hl, hl', hc, k61', decide_false, Bool.not_false, k_gatepostref01_Pair_5, w]
      refine ⟨s.length - (k + 1), by omega, k + 1, rfl, hl', rfl, ?_, t, rfl⟩
      intro j hj
      rcases Nat.lt_or_ge j k with h1 | h1
      · exact hno j h1
      · have : j = k := by omega
        subst this; rw [hc]; exact c61
end Go.Proofs.YtgplldjcopfjpaaDoor.Vh
end
section
set_option linter.unusedVariables false
set_option linter.unusedSimpArgs false
namespace Go.Proofs.YtgplldjcopfjpaaDoor.Vh
open Go.Vm Go.Vt
attribute [local congr] wi_congr wg_congr wgd_congr wb_congr wl_congr cf_congr
variable {L : FuncId → List V → V → Prop} {h : Heap}
def leastS (a b : Int) : Int := if a < 0 ∨ b < a then b else a
theorem least_lst {a b : Int} (h : -1 ≤ a) : leastS a b = lst a b := by
  unfold leastS lst
  by_cases h1 : a < 0 ∨ b < a
  · rw [if_pos h1, if_pos (by omega)]
  · rw [if_neg h1, if_neg (by omega)]
theorem least_ok {a b : Int} : Cf F L i_gatepostref08_least [.int .i64 a, .int .i64 b] h (Pu h (.int .i64 (leastS a b))) := by
  refine run_gatepostref08_least ?_
  simp only [p_gatepostref08_least]
  unfold leastS
  by_cases h1 : a < 0
  · rw [if_pos (.inl h1)]
    simp (maxSteps := 4000000) only [vm, vl, Arg.get, cells, stor, boundO, resultsV, resV, partK, loadV, Vm.part, fillC, splice, reduceIte, reduceCtorEq, Nat.reduceEqDiff, Nat.reduceAdd, Nat.reduceSub, Nat.reduceMul, Nat.reduceLeDiff, ne_eq, not_false_eq_true, Int.reduceEq, Int.reduceLT, Int.reduceLE, Int.reduceNeg, Int.reduceToNat, Int.reduceGT, Int.reduceGE, Nat.reduceLT, Nat.lt_add_one, Nat.zero_lt_succ, Nat.succ_pos, Nat.zero_le, beq_self_eq_true, k_gatepostref08_least_0, h1, decide_true]
  · by_cases h2 : b < a
    · rw [if_pos (.inr h2)]
      simp (maxSteps := 4000000) only [vm, vl, Arg.get, cells, stor, boundO, resultsV, resV, partK, loadV, Vm.part, fillC, splice, reduceIte, reduceCtorEq, Nat.reduceEqDiff, Nat.reduceAdd, Nat.reduceSub, Nat.reduceMul, Nat.reduceLeDiff, ne_eq, not_false_eq_true, Int.reduceEq, Int.reduceLT, Int.reduceLE, Int.reduceNeg, Int.reduceToNat, Int.reduceGT, Int.reduceGE, Nat.reduceLT, Nat.lt_add_one, Nat.zero_lt_succ, Nat.succ_pos, Nat.zero_le, beq_self_eq_true, k_gatepostref08_least_0, h1, h2, decide_true, decide_false]
    · rw [if_neg (by omega)]
      simp (maxSteps := 4000000) only [vm, vl, Arg.get, cells, stor, boundO, resultsV, resV, partK, loadV, Vm.part, fillC, splice, reduceIte, reduceCtorEq, Nat.reduceEqDiff, Nat.reduceAdd, Nat.reduceSub, Nat.reduceMul, Nat.reduceLeDiff, ne_eq, not_false_eq_true, Int.reduceEq, Int.reduceLT, Int.reduceLE, Int.reduceNeg, Int.reduceToNat, Int.reduceGT, Int.reduceGE, Nat.reduceLT, Nat.lt_add_one, Nat.zero_lt_succ, Nat.succ_pos, Nat.zero_le, beq_self_eq_true, k_gatepostref08_least_0, h1, h2, decide_true, decide_false]
theorem rNone_ok : Cf F L i_gatepostref08_None [] h (fun v h' => v = .agg (ctV ct0) ∧ h' = h ++ [.box (ctV ct0)]) := by
  refine run_gatepostref08_None ?_
  simp only [p_gatepostref08_None]
  simp (maxSteps := 4000000) only [vm, vl, Arg.get, cells, stor, boundO, resultsV, resV, partK, loadV, Vm.part, fillC, splice, reduceIte, reduceCtorEq, Nat.reduceEqDiff, Nat.reduceAdd, Nat.reduceSub, Nat.reduceMul, Nat.reduceLeDiff, ne_eq, not_false_eq_true, Int.reduceEq, Int.reduceLT, Int.reduceLE, Int.reduceNeg, Int.reduceToNat, Int.reduceGT, Int.reduceGE, Nat.reduceLT, Nat.lt_add_one, Nat.zero_lt_succ, Nat.succ_pos, Nat.zero_le, beq_self_eq_true]
  exact ⟨rfl, rfl⟩
def RParI (h : Heap) (l : List Bs) (x : V) (n : Nat) (e : Env) (h' : Heap) : Prop :=
  ∃ (i : Nat) (c : Ct) (R A : O) (t : Heap), n = l.length - i ∧ i ≤ l.length ∧ (∀ j, -1 ≤ c.n j) ∧ e 2 = .ptr h.length 0 ∧ e 4 = .ptr (h.length + 2) 0 ∧ e 5 = x ∧ e 7 = .int .i64 i ∧
    (∃ cs, R = .box cs ∧ cs.length = 13) ∧ h' = h ++ (R :: A :: .box (ctV c) :: t) ∧ l.foldl stepC ct0 = (l.drop i).foldl stepC c
theorem lst_low {a v : Int} (h1 : -1 ≤ a) (h2 : -1 ≤ v) : -1 ≤ lst a v := by unfold lst; split <;> omega
theorem act_low (c : Ct) (y : Bs) (h : ∀ j, -1 ≤ c.n j) : ∀ j, -1 ≤ (stepC c y).n j := by
  intro k
  unfold stepC
  have hv : ∀ j v, actS y = .num j v → -1 ≤ v := by
    intro j v hh
    unfold actS at hh
    split at hh
    · cases hh
    · cases hh
    · rename_i j m b hr
      have hmb : (m = -1 ∨ 0 ≤ m) ∧ (b = -1 ∨ 0 ≤ b) := by
        unfold ruleOf ruleT at hr
        simp only [List.lookup] at hr
        repeat' split at hr
        all_goals first | (cases hr; done) | (simp at hr; omega)
      have := value_low (pairS y).2.1 (pairS y).2.2.1 hmb.1 hmb.2
      split at hh
      · cases hh
      · injection hh with h1 h2; omega
  cases ha : actS y with
  | nop => exact h k
  | flag i => exact h k
  | num j v =>
    show -1 ≤ if k = j then lst (c.n j) v else c.n k
    split
    · exact lst_low (h j) (hv j v ha)
    · exact h k
set_option maxHeartbeats 2000000 in
theorem RParse_round {l : List Bs} {x : V} (hx : ListV 1 x (strs l)) (hl : l.length < 100000000) (hb : ∀ s ∈ l, s.length < 100000000) {n : Nat} {e : Env} {h' : Heap} (hI : RParI h l x n e h') :
    b_gatepostref08_Parse_0 L (Pu h (parseCV (l.foldl stepC ct0, true))) (fun e' h' => ∃ m, m < n ∧ RParI h l x m e' h') e h' := by
  obtain ⟨i, c, R, A, t, rfl, hi, hc, e2, e4, e5, e7, ⟨cs, rfl, hcs⟩, rfl, hf⟩ := hI
  simp only [b_gatepostref08_Parse_0]
  
  have l1 := fun {K : V → Heap → Prop} {h : Heap} => hx.len (F := F) (L := L) (e := E0) (K := K) (h := h)
  simp only [strs_len] at l1
  rcases list_at' [] hi with ⟨hn, rfl, hd⟩ | ⟨hl1, hl2, hd, _⟩
  · rw [hd] at hf
    have hcs1 : List.drop 13 cs = [] := List.drop_eq_nil_of_le (by omega)
    have hc13 := ctV_len c
    have ht13 : List.take 13 (ctV c) = ctV c := rfl
    simp (maxSteps := 4000000) only [vm, vl, Arg.get, cells, stor, boundO, resultsV, resV, partK, loadV, Vm.part, fillC, splice, reduceIte, reduceCtorEq, Nat.reduceEqDiff, Nat.reduceAdd, Nat.reduceSub, Nat.reduceMul, Nat.reduceLeDiff, ne_eq, not_false_eq_true, Int.reduceEq, Int.reduceLT, Int.reduceLE, Int.reduceNeg, Int.reduceToNat, Int.reduceGT, Int.reduceGE, Nat.reduceLT, Nat.lt_add_one, Nat.zero_lt_succ, Nat.succ_pos, Nat.zero_le, beq_self_eq_true, e2, e4, e5, e7, l1, hn]
    unfold k_gatepostref08_Parse_1
    simp (maxSteps := 4000000) only [vm, vl, Arg.get, cells, stor, boundO, resultsV, resV, partK, loadV, Vm.part, fillC, splice, reduceIte, reduceCtorEq, Nat.reduceEqDiff, Nat.reduceAdd, Nat.reduceSub, Nat.reduceMul, Nat.reduceLeDiff, ne_eq, not_false_eq_true, Int.reduceEq, Int.reduceLT, Int.reduceLE, Int.reduceNeg, Int.reduceToNat, Int.reduceGT, Int.reduceGE, Nat.reduceLT, Nat.lt_add_one, Nat.zero_lt_succ, Nat.succ_pos, Nat.zero_le, beq_self_eq_true, hcs, hc13, ht13, hcs1, List.append_nil]
    rw [hf]; rfl
  · obtain ⟨o, rfl⟩ : ∃ o, x = .sl 1 o (strs l) := by
      rcases hx with ⟨he, _⟩ | h
      · have := strs_len l
        rw [he] at this
        simp at this
        omega
      · exact h
    have hsl : i < (strs l).length := by rw [strs_len]; exact hl2
    have hsl0 := strs_len l
    have hi0 : (0 : Int) ≤ (i : Int) := by omega
    have g : (strs l).getD i (.tup []) = .str (l.getD i []) := by
      unfold strs
      rw [List.getD_eq_getElem?_getD, List.getD_eq_getElem?_getD, List.getElem?_map, List.getElem?_eq_getElem hl2]; rfl
    have hyb : (l.getD i []).length < 100000000 := by
      rw [List.getD_eq_getElem?_getD, List.getElem?_eq_getElem hl2]; exact hb _ (List.getElem_mem hl2)
    rw [hd, List.foldl_cons] at hf
    generalize l.getD i [] = y at *
    have w := wrap64 (x := (i : Int) + 1) (by omega) (by omega)
    have hplen : (pairS y).1.length ≤ y.length := pairS_len1 y
    have hplen2 : (pairS y).2.1.length ≤ y.length := pairS_len2 y
    have hno : (pairS y).2.2.2 = false → (pairS y).1 = [] := pairS_no y
    have hlow := act_low c y hc
    simp (maxSteps := 4000000) only [vm, vl, Arg.get, cells, stor, boundO, resultsV, resV, partK, loadV, Vm.part, fillC, splice, reduceIte, reduceCtorEq, Nat.reduceEqDiff, Nat.reduceAdd, Nat.reduceSub, Nat.reduceMul, Nat.reduceLeDiff, ne_eq, not_false_eq_true, Int.reduceEq, Int.reduceLT, Int.reduceLE, Int.reduceNeg, Int.reduceToNat, Int.reduceGT, Int.reduceGE, Nat.reduceLT, Nat.lt_add_one, Nat.zero_lt_succ, Nat.succ_pos, Nat.zero_le, beq_self_eq_true, e2, e4, e5, e7, hsl0, hl1]
    unfold k_gatepostref08_Parse_2
    simp (maxSteps := 4000000) only [vm, vl, Arg.get, cells, stor, boundO, resultsV, resV, partK, loadV, Vm.part, fillC, splice, reduceIte, reduceCtorEq, Nat.reduceEqDiff, Nat.reduceAdd, Nat.reduceSub, Nat.reduceMul, Nat.reduceLeDiff, ne_eq, not_false_eq_true, Int.reduceEq, Int.reduceLT, Int.reduceLE, Int.reduceNeg, Int.reduceToNat, Int.reduceGT, Int.reduceGE, Nat.reduceLT, Nat.lt_add_one, Nat.zero_lt_succ, Nat.succ_pos, Nat.zero_le, beq_self_eq_true, hsl, hi0, g]
    refine Cf.pu (rPair_ok (by omega)) fun u1 => ?_
    unfold k_gatepostref08_Parse_13
    have hfin : ∀ (c' : Ct) (e' : Env) (t' : Heap), stepC c y = c' → e' 2 = .ptr h.length 0 → e' 4 = .ptr (h.length + 2) 0 → e' 5 = V.sl 1 o (strs l) → e' 7 = .int .i64 ((i : Int) + 1) →
        ∃ m, m < l.length - i ∧ RParI h l (V.sl 1 o (strs l)) m e' (h ++ (O.box cs :: A :: O.box (ctV c') :: t')) := by
      rintro c' e' t' hs f2 f4 f5 f7
      rw [hs] at hf hlow
      exact ⟨l.length - (i + 1), by omega, i + 1, c', _, A, t', rfl, hl2, hlow, f2, f4, f5, f7, ⟨cs, rfl, hcs⟩, rfl, hf⟩
    have ha : actS y = match ruleOf (low (pairS y).1) with
      | .no => .nop
      | .flag i => .flag i
      | .num j m b => if valueS (pairS y).2.1 (pairS y).2.2.1 m b = -1 then .nop else .num j (valueS (pairS y).2.1 (pairS y).2.2.1 m b) := rfl
    clear hf hlow
    cases hok : (pairS y).2.2.2 with
    | false =>
      rw [hno hok] at ha
      have hs : stepC c y = c := by unfold stepC; rw [ha]; rfl
      simp (maxSteps := 4000000) only [vm, vl, Arg.get, cells, stor, boundO, resultsV, resV, partK, loadV, Vm.part, fillC, splice, reduceIte, reduceCtorEq, Nat.reduceEqDiff, Nat.reduceAdd, Nat.reduceSub, Nat.reduceMul, Nat.reduceLeDiff, ne_eq, not_false_eq_true, Int.reduceEq, Int.reduceLT, Int.reduceLE, Int.reduceNeg, Int.reduceToNat, Int.reduceGT, Int.reduceGE, Nat.reduceLT, Nat.lt_add_one, Nat.zero_lt_succ, Nat.succ_pos, Nat.zero_le, beq_self_eq_true, pairV, hok, Bool.not_false, k_gatepostref08_Parse_3, w]
      exact hfin c _ _ hs e2 e4 e5 rfl
    | true =>
    clear hno
    simp (maxSteps := 4000000) only [vm, vl, Arg.get, cells, stor, boundO, resultsV, resV, partK, loadV, Vm.part, fillC, splice, reduceIte, reduceCtorEq, Nat.reduceEqDiff, Nat.reduceAdd, Nat.reduceSub, Nat.reduceMul, Nat.reduceLeDiff, ne_eq, not_false_eq_true, Int.reduceEq, Int.reduceLT, Int.reduceLE, Int.reduceNeg, Int.reduceToNat, Int.reduceGT, Int.reduceGE, Nat.reduceLT, Nat.lt_add_one, Nat.zero_lt_succ, Nat.succ_pos, Nat.zero_le, beq_self_eq_true, pairV, hok, Bool.not_true, k_gatepostref08_Parse_4]
    refine Cf.pu (rNumber_ok (by omega) (by decide) (by decide)) fun u2 => ?_
    have hvs : ∀ m b, valueS (pairS y).2.1 (pairS y).2.2.1 m b = if (pairS y).2.2.1 then (if (numS (pairS y).2.1 2147483648).2 then (numS (pairS y).2.1 2147483648).1 else b) else m := fun _ _ => rfl
    have hn0 := (numS_le (pairS y).2.1 (most := 2147483648) (by decide)).1
    generalize (pairS y).1 = pn at *
    generalize numS (pairS y).2.1 2147483648 = nt at *
    obtain ⟨n1, t2⟩ := nt
    generalize (pairS y).2.1 = text at *
    generalize (pairS y).2.2.1 = has at *
    have hlo : ∀ hh, Cf F L i_gatepostref01_Lower [.str pn] hh (Pu hh (.str (low pn))) := fun hh => rLower_ok (by omega)
    have htold : ∀ (P : V → Prop), P (.bool (t2 && has)) → P (if t2 = true then .bool has else .bool false) := by
      intro P hp
      cases t2 <;> exact hp
    simp only at hvs hn0
    have ht3 : (t2 && has) = true → t2 = true ∧ has = true := by cases t2 <;> cases has <;> simp
    generalize low pn = nm at *
    have base : ∀ (u3 : Heap) (f : Env), f 2 = .ptr h.length 0 → f 4 = .ptr (h.length + 2) 0 → f 5 = V.sl 1 o (strs l) → ∀ a45 a47 a50 : V,
        k_gatepostref08_Parse_12 L (Pu h (parseCV (List.foldl stepC ct0 l, true))) (fun e' h' => ∃ m, m < l.length - i ∧ RParI h l (V.sl 1 o (strs l)) m e' h') f (V.ptr (List.length h + 2) 0) (V.int IntKind.i64 ↑i) (.str pn) (.str text) (.bool has) a45 (.int .i64 n1) a47 a50 (.bool (t2 && has)) (.str nm)
          (h ++ O.box cs :: A :: O.box (ctV c) :: u3) := by
      intro u3 f f2 f4 f5 a45 a47 a50
      unfold k_gatepostref08_Parse_12
      by_cases c0 : nm = [110, 111, 45, 115, 116, 111, 114, 101]
      · subst c0
        have bt : (([110, 111, 45, 115, 116, 111, 114, 101] : Bs) == [110, 111, 45, 115, 116, 111, 114, 101]) = true := rfl
        have hs : stepC c y = setF c 0 := by unfold stepC; rw [ha]; rfl
        simp (maxSteps := 4000000) only [vm, vl, Arg.get, cells, stor, boundO, resultsV, resV, partK, loadV, Vm.part, fillC, splice, reduceIte, reduceCtorEq, Nat.reduceEqDiff, Nat.reduceAdd, Nat.reduceSub, Nat.reduceMul, Nat.reduceLeDiff, ne_eq, not_false_eq_true, Int.reduceEq, Int.reduceLT, Int.reduceLE, Int.reduceNeg, Int.reduceToNat, Int.reduceGT, Int.reduceGE, Nat.reduceLT, Nat.lt_add_one, Nat.zero_lt_succ, Nat.succ_pos, Nat.zero_le, beq_self_eq_true, bt, ctV, k_gatepostref08_Parse_3, w]
        exact hfin (setF c 0) _ _ hs f2 f4 f5 rfl
      have b0 : (nm == [110, 111, 45, 115, 116, 111, 114, 101]) = false := beq_eq_false_iff_ne.2 c0
      by_cases c1 : nm = [110, 111, 45, 99, 97, 99, 104, 101]
      · subst c1
        have bt : (([110, 111, 45, 99, 97, 99, 104, 101] : Bs) == [110, 111, 45, 99, 97, 99, 104, 101]) = true := rfl
        have bf0 : (([110, 111, 45, 99, 97, 99, 104, 101] : Bs) == [110, 111, 45, 115, 116, 111, 114, 101]) = false := rfl
        have hs : stepC c y = setF c 1 := by unfold stepC; rw [ha]; rfl
        simp (maxSteps := 4000000) only [vm, vl, Arg.get, cells, stor, boundO, resultsV, resV, partK, loadV, Vm.part, fillC, splice, reduceIte, reduceCtorEq, Nat.reduceEqDiff, Nat.reduceAdd, Nat.reduceSub, Nat.reduceMul, Nat.reduceLeDiff, ne_eq, not_false_eq_true, Int.reduceEq, Int.reduceLT, Int.reduceLE, Int.reduceNeg, Int.reduceToNat, Int.reduceGT, Int.reduceGE, Nat.reduceLT, Nat.lt_add_one, Nat.zero_lt_succ, Nat.succ_pos, Nat.zero_le, beq_self_eq_true, bt, bf0, ctV, k_gatepostref08_Parse_3, w]
        exact hfin (setF c 1) _ _ hs f2 f4 f5 rfl
      have b1 : (nm == [110, 111, 45, 99, 97, 99, 104, 101]) = false := beq_eq_false_iff_ne.2 c1
      by_cases c2 : nm = [112, 114, 105, 118, 97, 116, 101]
      · subst c2
        have bt : (([112, 114, 105, 118, 97, 116, 101] : Bs) == [112, 114, 105, 118, 97, 116, 101]) = true := rfl
        have bf0 : (([112, 114, 105, 118, 97, 116, 101] : Bs) == [110, 111, 45, 115, 116, 111, 114, 101]) = false := rfl
        have bf1 : (([112, 114, 105, 118, 97, 116, 101] : Bs) == [110, 111, 45, 99, 97, 99, 104, 101]) = false := rfl
        have hs : stepC c y = setF c 2 := by unfold stepC; rw [ha]; rfl
        simp (maxSteps := 4000000) only [vm, vl, Arg.get, cells, stor, boundO, resultsV, resV, partK, loadV, Vm.part, fillC, splice, reduceIte, reduceCtorEq, Nat.reduceEqDiff, Nat.reduceAdd, Nat.reduceSub, Nat.reduceMul, Nat.reduceLeDiff, ne_eq, not_false_eq_true, Int.reduceEq, Int.reduceLT, Int.reduceLE, Int.reduceNeg, Int.reduceToNat, Int.reduceGT, Int.reduceGE, Nat.reduceLT, Nat.lt_add_one, Nat.zero_lt_succ, Nat.succ_pos, Nat.zero_le, beq_self_eq_true, bt, bf0, bf1, ctV, k_gatepostref08_Parse_3, w]
        exact hfin (setF c 2) _ _ hs f2 f4 f5 rfl
      have b2 : (nm == [112, 114, 105, 118, 97, 116, 101]) = false := beq_eq_false_iff_ne.2 c2
      by_cases c3 : nm = [112, 117, 98, 108, 105, 99]
      · subst c3
        have bt : (([112, 117, 98, 108, 105, 99] : Bs) == [112, 117, 98, 108, 105, 99]) = true := rfl
        have bf0 : (([112, 117, 98, 108, 105, 99] : Bs) == [110, 111, 45, 115, 116, 111, 114, 101]) = false := rfl
        have bf1 : (([112, 117, 98, 108, 105, 99] : Bs) == [110, 111, 45, 99, 97, 99, 104, 101]) = false := rfl
        have bf2 : (([112, 117, 98, 108, 105, 99] : Bs) == [112, 114, 105, 118, 97, 116, 101]) = false := rfl
        have hs : stepC c y = setF c 3 := by unfold stepC; rw [ha]; rfl
        simp (maxSteps := 4000000) only [vm, vl, Arg.get, cells, stor, boundO, resultsV, resV, partK, loadV, Vm.part, fillC, splice, reduceIte, reduceCtorEq, Nat.reduceEqDiff, Nat.reduceAdd, Nat.reduceSub, Nat.reduceMul, Nat.reduceLeDiff, ne_eq, not_false_eq_true, Int.reduceEq, Int.reduceLT, Int.reduceLE, Int.reduceNeg, Int.reduceToNat, Int.reduceGT, Int.reduceGE, Nat.reduceLT, Nat.lt_add_one, Nat.zero_lt_succ, Nat.succ_pos, Nat.zero_le, beq_self_eq_true, bt, bf0, bf1, bf2, ctV, k_gatepostref08_Parse_3, w]
        exact hfin (setF c 3) _ _ hs f2 f4 f5 rfl
      have b3 : (nm == [112, 117, 98, 108, 105, 99]) = false := beq_eq_false_iff_ne.2 c3
      by_cases c4 : nm = [109, 117, 115, 116, 45, 114, 101, 118, 97, 108, 105, 100, 97, 116, 101]
      · subst c4
        have bt : (([109, 117, 115, 116, 45, 114, 101, 118, 97, 108, 105, 100, 97, 116, 101] : Bs) == [109, 117, 115, 116, 45, 114, 101, 118, 97, 108, 105, 100, 97, 116, 101]) = true := rfl
        have bf0 : (([109, 117, 115, 116, 45, 114, 101, 118, 97, 108, 105, 100, 97, 116, 101] : Bs) == [110, 111, 45, 115, 116, 111, 114, 101]) = false := rfl
        have bf1 : (([109, 117, 115, 116, 45, 114, 101, 118, 97, 108, 105, 100, 97, 116, 101] : Bs) == [110, 111, 45, 99, 97, 99, 104, 101]) = false := rfl
        have bf2 : (([109, 117, 115, 116, 45, 114, 101, 118, 97, 108, 105, 100, 97, 116, 101] : Bs) == [112, 114, 105, 118, 97, 116, 101]) = false := rfl
        have bf3 : (([109, 117, 115, 116, 45, 114, 101, 118, 97, 108, 105, 100, 97, 116, 101] : Bs) == [112, 117, 98, 108, 105, 99]) = false := rfl
        have hs : stepC c y = setF c 4 := by unfold stepC; rw [ha]; rfl
        simp (maxSteps := 4000000) only [vm, vl, Arg.get, cells, stor, boundO, resultsV, resV, partK, loadV, Vm.part, fillC, splice, reduceIte, reduceCtorEq, Nat.reduceEqDiff, Nat.reduceAdd, Nat.reduceSub, Nat.reduceMul, Nat.reduceLeDiff, ne_eq, not_false_eq_true, Int.reduceEq, Int.reduceLT, Int.reduceLE, Int.reduceNeg, Int.reduceToNat, Int.reduceGT, Int.reduceGE, Nat.reduceLT, Nat.lt_add_one, Nat.zero_lt_succ, Nat.succ_pos, Nat.zero_le, beq_self_eq_true, bt, bf0, bf1, bf2, bf3, ctV, k_gatepostref08_Parse_3, w]
        exact hfin (setF c 4) _ _ hs f2 f4 f5 rfl
      have b4 : (nm == [109, 117, 115, 116, 45, 114, 101, 118, 97, 108, 105, 100, 97, 116, 101]) = false := beq_eq_false_iff_ne.2 c4
      by_cases c5 : nm = [112, 114, 111, 120, 121, 45, 114, 101, 118, 97, 108, 105, 100, 97, 116, 101]
      · subst c5
        have bt : (([112, 114, 111, 120, 121, 45, 114, 101, 118, 97, 108, 105, 100, 97, 116, 101] : Bs) == [112, 114, 111, 120, 121, 45, 114, 101, 118, 97, 108, 105, 100, 97, 116, 101]) = true := rfl
        have bf0 : (([112, 114, 111, 120, 121, 45, 114, 101, 118, 97, 108, 105, 100, 97, 116, 101] : Bs) == [110, 111, 45, 115, 116, 111, 114, 101]) = false := rfl
        have bf1 : (([112, 114, 111, 120, 121, 45, 114, 101, 118, 97, 108, 105, 100, 97, 116, 101] : Bs) == [110, 111, 45, 99, 97, 99, 104, 101]) = false := rfl
        have bf2 : (([112, 114, 111, 120, 121, 45, 114, 101, 118, 97, 108, 105, 100, 97, 116, 101] : Bs) == [112, 114, 105, 118, 97, 116, 101]) = false := rfl
        have bf3 : (([112, 114, 111, 120, 121, 45, 114, 101, 118, 97, 108, 105, 100, 97, 116, 101] : Bs) == [112, 117, 98, 108, 105, 99]) = false := rfl
        have bf4 : (([112, 114, 111, 120, 121, 45, 114, 101, 118, 97, 108, 105, 100, 97, 116, 101] : Bs) == [109, 117, 115, 116, 45, 114, 101, 118, 97, 108, 105, 100, 97, 116, 101]) = false := rfl
        have hs : stepC c y = setF c 5 := by unfold stepC; rw [ha]; rfl
        simp (maxSteps := 4000000) only [vm, vl, Arg.get, cells, stor, boundO, resultsV, resV, partK, loadV, Vm.part, fillC, splice, reduceIte, reduceCtorEq, Nat.reduceEqDiff, Nat.reduceAdd, Nat.reduceSub, Nat.reduceMul, Nat.reduceLeDiff, ne_eq, not_false_eq_true, Int.reduceEq, Int.reduceLT, Int.reduceLE, Int.reduceNeg, Int.reduceToNat, Int.reduceGT, Int.reduceGE, Nat.reduceLT, Nat.lt_add_one, Nat.zero_lt_succ, Nat.succ_pos, Nat.zero_le, beq_self_eq_true, bt, bf0, bf1, bf2, bf3, bf4, ctV, k_gatepostref08_Parse_3, w]
        exact hfin (setF c 5) _ _ hs f2 f4 f5 rfl
      have b5 : (nm == [112, 114, 111, 120, 121, 45, 114, 101, 118, 97, 108, 105, 100, 97, 116, 101]) = false := beq_eq_false_iff_ne.2 c5
      by_cases c6 : nm = [111, 110, 108, 121, 45, 105, 102, 45, 99, 97, 99, 104, 101, 100]
      · subst c6
        have bt : (([111, 110, 108, 121, 45, 105, 102, 45, 99, 97, 99, 104, 101, 100] : Bs) == [111, 110, 108, 121, 45, 105, 102, 45, 99, 97, 99, 104, 101, 100]) = true := rfl
        have bf0 : (([111, 110, 108, 121, 45, 105, 102, 45, 99, 97, 99, 104, 101, 100] : Bs) == [110, 111, 45, 115, 116, 111, 114, 101]) = false := rfl
        have bf1 : (([111, 110, 108, 121, 45, 105, 102, 45, 99, 97, 99, 104, 101, 100] : Bs) == [110, 111, 45, 99, 97, 99, 104, 101]) = false := rfl
        have bf2 : (([111, 110, 108, 121, 45, 105, 102, 45, 99, 97, 99, 104, 101, 100] : Bs) == [112, 114, 105, 118, 97, 116, 101]) = false := rfl
        have bf3 : (([111, 110, 108, 121, 45, 105, 102, 45, 99, 97, 99, 104, 101, 100] : Bs) == [112, 117, 98, 108, 105, 99]) = false := rfl
        have bf4 : (([111, 110, 108, 121, 45, 105, 102, 45, 99, 97, 99, 104, 101, 100] : Bs) == [109, 117, 115, 116, 45, 114, 101, 118, 97, 108, 105, 100, 97, 116, 101]) = false := rfl
        have bf5 : (([111, 110, 108, 121, 45, 105, 102, 45, 99, 97, 99, 104, 101, 100] : Bs) == [112, 114, 111, 120, 121, 45, 114, 101, 118, 97, 108, 105, 100, 97, 116, 101]) = false := rfl
        have hs : stepC c y = setF c 6 := by unfold stepC; rw [ha]; rfl
        simp (maxSteps := 4000000) only [vm, vl, Arg.get, cells, stor, boundO, resultsV, resV, partK, loadV, Vm.part, fillC, splice, reduceIte, reduceCtorEq, Nat.reduceEqDiff, Nat.reduceAdd, Nat.reduceSub, Nat.reduceMul, Nat.reduceLeDiff, ne_eq, not_false_eq_true, Int.reduceEq, Int.reduceLT, Int.reduceLE, Int.reduceNeg, Int.reduceToNat, Int.reduceGT, Int.reduceGE, Nat.reduceLT, Nat.lt_add_one, Nat.zero_lt_succ, Nat.succ_pos, Nat.zero_le, beq_self_eq_true, bt, bf0, bf1, bf2, bf3, bf4, bf5, ctV, k_gatepostref08_Parse_3, w]
        exact hfin (setF c 6) _ _ hs f2 f4 f5 rfl
      have b6 : (nm == [111, 110, 108, 121, 45, 105, 102, 45, 99, 97, 99, 104, 101, 100]) = false := beq_eq_false_iff_ne.2 c6
      by_cases c7 : nm = [109, 97, 120, 45, 97, 103, 101]
      · subst c7
        have bt : (([109, 97, 120, 45, 97, 103, 101] : Bs) == [109, 97, 120, 45, 97, 103, 101]) = true := rfl
        have bf0 : (([109, 97, 120, 45, 97, 103, 101] : Bs) == [110, 111, 45, 115, 116, 111, 114, 101]) = false := rfl
        have bf1 : (([109, 97, 120, 45, 97, 103, 101] : Bs) == [110, 111, 45, 99, 97, 99, 104, 101]) = false := rfl
        have bf2 : (([109, 97, 120, 45, 97, 103, 101] : Bs) == [112, 114, 105, 118, 97, 116, 101]) = false := rfl
        have bf3 : (([109, 97, 120, 45, 97, 103, 101] : Bs) == [112, 117, 98, 108, 105, 99]) = false := rfl
        have bf4 : (([109, 97, 120, 45, 97, 103, 101] : Bs) == [109, 117, 115, 116, 45, 114, 101, 118, 97, 108, 105, 100, 97, 116, 101]) = false := rfl
        have bf5 : (([109, 97, 120, 45, 97, 103, 101] : Bs) == [112, 114, 111, 120, 121, 45, 114, 101, 118, 97, 108, 105, 100, 97, 116, 101]) = false := rfl
        have bf6 : (([109, 97, 120, 45, 97, 103, 101] : Bs) == [111, 110, 108, 121, 45, 105, 102, 45, 99, 97, 99, 104, 101, 100]) = false := rfl
        have ha2 : actS y = if valueS text has 0 0 = -1 then .nop else .num 0 (valueS text has 0 0) := ha
        rw [hvs] at ha2
        by_cases ht : (t2 && has) = true
        · obtain ⟨rfl, rfl⟩ := ht3 ht
          rw [if_pos rfl, if_pos rfl, if_neg (by omega)] at ha2
          have bb : (true && true) = true := rfl
          have hs : stepC c y = setN c 0 (lst (c.n 0) n1) := by unfold stepC; rw [ha2]; rfl
          simp (maxSteps := 4000000) only [vm, vl, Arg.get, cells, stor, boundO, resultsV, resV, partK, loadV, Vm.part, fillC, splice, reduceIte, reduceCtorEq, Nat.reduceEqDiff, Nat.reduceAdd, Nat.reduceSub, Nat.reduceMul, Nat.reduceLeDiff, ne_eq, not_false_eq_true, Int.reduceEq, Int.reduceLT, Int.reduceLE, Int.reduceNeg, Int.reduceToNat, Int.reduceGT, Int.reduceGE, Nat.reduceLT, Nat.lt_add_one, Nat.zero_lt_succ, Nat.succ_pos, Nat.zero_le, beq_self_eq_true, bt, bf0, bf1, bf2, bf3, bf4, bf5, bf6, bb, ctV, Bool.not_true, Bool.not_false, k_gatepostref08_Parse_5]
          refine Cf.pu least_ok fun u4 => ?_
          rw [least_lst (hc 0)]
          simp (maxSteps := 4000000) only [vm, vl, Arg.get, cells, stor, boundO, resultsV, resV, partK, loadV, Vm.part, fillC, splice, reduceIte, reduceCtorEq, Nat.reduceEqDiff, Nat.reduceAdd, Nat.reduceSub, Nat.reduceMul, Nat.reduceLeDiff, ne_eq, not_false_eq_true, Int.reduceEq, Int.reduceLT, Int.reduceLE, Int.reduceNeg, Int.reduceToNat, Int.reduceGT, Int.reduceGE, Nat.reduceLT, Nat.lt_add_one, Nat.zero_lt_succ, Nat.succ_pos, Nat.zero_le, beq_self_eq_true, ctV, k_gatepostref08_Parse_3, w]
          exact hfin (setN c 0 (lst (c.n 0) n1)) _ _ hs f2 f4 f5 rfl
        · have ht' : (t2 && has) = false := by simpa using ht
          have hz : (if has = true then if t2 = true then n1 else (0 : Int) else 0) = 0 := by
            cases has <;> cases t2 <;> first | rfl | (exact absurd rfl ht)
          rw [hz, if_neg (by decide)] at ha2
          have hs : stepC c y = setN c 0 (lst (c.n 0) 0) := by unfold stepC; rw [ha2]; rfl
          simp (maxSteps := 4000000) only [vm, vl, Arg.get, cells, stor, boundO, resultsV, resV, partK, loadV, Vm.part, fillC, splice, reduceIte, reduceCtorEq, Nat.reduceEqDiff, Nat.reduceAdd, Nat.reduceSub, Nat.reduceMul, Nat.reduceLeDiff, ne_eq, not_false_eq_true, Int.reduceEq, Int.reduceLT, Int.reduceLE, Int.reduceNeg, Int.reduceToNat, Int.reduceGT, Int.reduceGE, Nat.reduceLT, Nat.lt_add_one, Nat.zero_lt_succ, Nat.succ_pos, Nat.zero_le, beq_self_eq_true, bt, bf0, bf1, bf2, bf3, bf4, bf5, bf6, ht', ctV, Bool.not_true, Bool.not_false, k_gatepostref08_Parse_5]
          refine Cf.pu least_ok fun u4 => ?_
          rw [least_lst (hc 0)]
          simp (maxSteps := 4000000) only [vm, vl, Arg.get, cells, stor, boundO, resultsV, resV, partK, loadV, Vm.part, fillC, splice, reduceIte, reduceCtorEq, Nat.reduceEqDiff, Nat.reduceAdd, Nat.reduceSub, Nat.reduceMul, Nat.reduceLeDiff, ne_eq, not_false_eq_true, Int.reduceEq, Int.reduceLT, Int.reduceLE, Int.reduceNeg, Int.reduceToNat, Int.reduceGT, Int.reduceGE, Nat.reduceLT, Nat.lt_add_one, Nat.zero_lt_succ, Nat.succ_pos, Nat.zero_le, beq_self_eq_true, ctV, k_gatepostref08_Parse_3, w]
          exact hfin (setN c 0 (lst (c.n 0) 0)) _ _ hs f2 f4 f5 rfl
      have b7 : (nm == [109, 97, 120, 45, 97, 103, 101]) = false := beq_eq_false_iff_ne.2 c7
      by_cases c8 : nm = [115, 45, 109, 97, 120, 97, 103, 101]
      · subst c8
        have bt : (([115, 45, 109, 97, 120, 97, 103, 101] : Bs) == [115, 45, 109, 97, 120, 97, 103, 101]) = true := rfl
        have bf0 : (([115, 45, 109, 97, 120, 97, 103, 101] : Bs) == [110, 111, 45, 115, 116, 111, 114, 101]) = false := rfl
        have bf1 : (([115, 45, 109, 97, 120, 97, 103, 101] : Bs) == [110, 111, 45, 99, 97, 99, 104, 101]) = false := rfl
        have bf2 : (([115, 45, 109, 97, 120, 97, 103, 101] : Bs) == [112, 114, 105, 118, 97, 116, 101]) = false := rfl
        have bf3 : (([115, 45, 109, 97, 120, 97, 103, 101] : Bs) == [112, 117, 98, 108, 105, 99]) = false := rfl
        have bf4 : (([115, 45, 109, 97, 120, 97, 103, 101] : Bs) == [109, 117, 115, 116, 45, 114, 101, 118, 97, 108, 105, 100, 97, 116, 101]) = false := rfl
        have bf5 : (([115, 45, 109, 97, 120, 97, 103, 101] : Bs) == [112, 114, 111, 120, 121, 45, 114, 101, 118, 97, 108, 105, 100, 97, 116, 101]) = false := rfl
        have bf6 : (([115, 45, 109, 97, 120, 97, 103, 101] : Bs) == [111, 110, 108, 121, 45, 105, 102, 45, 99, 97, 99, 104, 101, 100]) = false := rfl
        have bf7 : (([115, 45, 109, 97, 120, 97, 103, 101] : Bs) == [109, 97, 120, 45, 97, 103, 101]) = false := rfl
        have ha2 : actS y = if valueS text has 0 0 = -1 then .nop else .num 1 (valueS text has 0 0) := ha
        rw [hvs] at ha2
        by_cases ht : (t2 && has) = true
        · obtain ⟨rfl, rfl⟩ := ht3 ht
          rw [if_pos rfl, if_pos rfl, if_neg (by omega)] at ha2
          have bb : (true && true) = true := rfl
          have hs : stepC c y = setN c 1 (lst (c.n 1) n1) := by unfold stepC; rw [ha2]; rfl
          simp (maxSteps := 4000000) only [vm, vl, Arg.get, cells, stor, boundO, resultsV, resV, partK, loadV, Vm.part, fillC, splice, reduceIte, reduceCtorEq, Nat.reduceEqDiff, Nat.reduceAdd, Nat.reduceSub, Nat.reduceMul, Nat.reduceLeDiff, ne_eq, not_false_eq_true, Int.reduceEq, Int.reduceLT, Int.reduceLE, Int.reduceNeg, Int.reduceToNat, Int.reduceGT, Int.reduceGE, Nat.reduceLT, Nat.lt_add_one, Nat.zero_lt_succ, Nat.succ_pos, Nat.zero_le, beq_self_eq_true, bt, bf0, bf1, bf2, bf3, bf4, bf5, bf6, bf7, bb, ctV, Bool.not_true, Bool.not_false, k_gatepostref08_Parse_6]
          refine Cf.pu least_ok fun u4 => ?_
          rw [least_lst (hc 1)]
          simp (maxSteps := 4000000) only [vm, vl, Arg.get, cells, stor, boundO, resultsV, resV, partK, loadV, Vm.part, fillC, splice, reduceIte, reduceCtorEq, Nat.reduceEqDiff, Nat.reduceAdd, Nat.reduceSub, Nat.reduceMul, Nat.reduceLeDiff, ne_eq, not_false_eq_true, Int.reduceEq, Int.reduceLT, Int.reduceLE, Int.reduceNeg, Int.reduceToNat, Int.reduceGT, Int.reduceGE, Nat.reduceLT, Nat.lt_add_one, Nat.zero_lt_succ, Nat.succ_pos, Nat.zero_le, beq_self_eq_true, ctV, k_gatepostref08_Parse_3, w]
          exact hfin (setN c 1 (lst (c.n 1) n1)) _ _ hs f2 f4 f5 rfl
        · have ht' : (t2 && has) = false := by simpa using ht
          have hz : (if has = true then if t2 = true then n1 else (0 : Int) else 0) = 0 := by
            cases has <;> cases t2 <;> first | rfl | (exact absurd rfl ht)
          rw [hz, if_neg (by decide)] at ha2
          have hs : stepC c y = setN c 1 (lst (c.n 1) 0) := by unfold stepC; rw [ha2]; rfl
          simp (maxSteps := 4000000) only [vm, vl, Arg.get, cells, stor, boundO, resultsV, resV, partK, loadV, Vm.part, fillC, splice, reduceIte, reduceCtorEq, Nat.reduceEqDiff, Nat.reduceAdd, Nat.reduceSub, Nat.reduceMul, Nat.reduceLeDiff, ne_eq, not_false_eq_true, Int.reduceEq, Int.reduceLT, Int.reduceLE, Int.reduceNeg, Int.reduceToNat, Int.reduceGT, Int.reduceGE, Nat.reduceLT, Nat.lt_add_one, Nat.zero_lt_succ, Nat.succ_pos, Nat.zero_le, beq_self_eq_true, bt, bf0, bf1, bf2, bf3, bf4, bf5, bf6, bf7, ht', ctV, Bool.not_true, Bool.not_false, k_gatepostref08_Parse_6]
          refine Cf.pu least_ok fun u4 => ?_
          rw [least_lst (hc 1)]
          simp (maxSteps := 4000000) only [vm, vl, Arg.get, cells, stor, boundO, resultsV, resV, partK, loadV, Vm.part, fillC, splice, reduceIte, reduceCtorEq, Nat.reduceEqDiff, Nat.reduceAdd, Nat.reduceSub, Nat.reduceMul, Nat.reduceLeDiff, ne_eq, not_false_eq_true, Int.reduceEq, Int.reduceLT, Int.reduceLE, Int.reduceNeg, Int.reduceToNat, Int.reduceGT, Int.reduceGE, Nat.reduceLT, Nat.lt_add_one, Nat.zero_lt_succ, Nat.succ_pos, Nat.zero_le, beq_self_eq_true, ctV, k_gatepostref08_Parse_3, w]
          exact hfin (setN c 1 (lst (c.n 1) 0)) _ _ hs f2 f4 f5 rfl
      have b8 : (nm == [115, 45, 109, 97, 120, 97, 103, 101]) = false := beq_eq_false_iff_ne.2 c8
      by_cases c9 : nm = [115, 116, 97, 108, 101, 45, 119, 104, 105, 108, 101, 45, 114, 101, 118, 97, 108, 105, 100, 97, 116, 101]
      · subst c9
        have bt : (([115, 116, 97, 108, 101, 45, 119, 104, 105, 108, 101, 45, 114, 101, 118, 97, 108, 105, 100, 97, 116, 101] : Bs) == [115, 116, 97, 108, 101, 45, 119, 104, 105, 108, 101, 45, 114, 101, 118, 97, 108, 105, 100, 97, 116, 101]) = true := rfl
        have bf0 : (([115, 116, 97, 108, 101, 45, 119, 104, 105, 108, 101, 45, 114, 101, 118, 97, 108, 105, 100, 97, 116, 101] : Bs) == [110, 111, 45, 115, 116, 111, 114, 101]) = false := rfl
        have bf1 : (([115, 116, 97, 108, 101, 45, 119, 104, 105, 108, 101, 45, 114, 101, 118, 97, 108, 105, 100, 97, 116, 101] : Bs) == [110, 111, 45, 99, 97, 99, 104, 101]) = false := rfl
        have bf2 : (([115, 116, 97, 108, 101, 45, 119, 104, 105, 108, 101, 45, 114, 101, 118, 97, 108, 105, 100, 97, 116, 101] : Bs) == [112, 114, 105, 118, 97, 116, 101]) = false := rfl
        have bf3 : (([115, 116, 97, 108, 101, 45, 119, 104, 105, 108, 101, 45, 114, 101, 118, 97, 108, 105, 100, 97, 116, 101] : Bs) == [112, 117, 98, 108, 105, 99]) = false := rfl
        have bf4 : (([115, 116, 97, 108, 101, 45, 119, 104, 105, 108, 101, 45, 114, 101, 118, 97, 108, 105, 100, 97, 116, 101] : Bs) == [109, 117, 115, 116, 45, 114, 101, 118, 97, 108, 105, 100, 97, 116, 101]) = false := rfl
        have bf5 : (([115, 116, 97, 108, 101, 45, 119, 104, 105, 108, 101, 45, 114, 101, 118, 97, 108, 105, 100, 97, 116, 101] : Bs) == [112, 114, 111, 120, 121, 45, 114, 101, 118, 97, 108, 105, 100, 97, 116, 101]) = false := rfl
        have bf6 : (([115, 116, 97, 108, 101, 45, 119, 104, 105, 108, 101, 45, 114, 101, 118, 97, 108, 105, 100, 97, 116, 101] : Bs) == [111, 110, 108, 121, 45, 105, 102, 45, 99, 97, 99, 104, 101, 100]) = false := rfl
        have bf7 : (([115, 116, 97, 108, 101, 45, 119, 104, 105, 108, 101, 45, 114, 101, 118, 97, 108, 105, 100, 97, 116, 101] : Bs) == [109, 97, 120, 45, 97, 103, 101]) = false := rfl
        have bf8 : (([115, 116, 97, 108, 101, 45, 119, 104, 105, 108, 101, 45, 114, 101, 118, 97, 108, 105, 100, 97, 116, 101] : Bs) == [115, 45, 109, 97, 120, 97, 103, 101]) = false := rfl
        have ha2 : actS y = if valueS text has (-1) (-1) = -1 then .nop else .num 2 (valueS text has (-1) (-1)) := ha
        rw [hvs] at ha2
        by_cases ht : (t2 && has) = true
        · obtain ⟨rfl, rfl⟩ := ht3 ht
          rw [if_pos rfl, if_pos rfl, if_neg (by omega)] at ha2
          have bb : (true && true) = true := rfl
          have hs : stepC c y = setN c 2 (lst (c.n 2) n1) := by unfold stepC; rw [ha2]; rfl
          simp (maxSteps := 4000000) only [vm, vl, Arg.get, cells, stor, boundO, resultsV, resV, partK, loadV, Vm.part, fillC, splice, reduceIte, reduceCtorEq, Nat.reduceEqDiff, Nat.reduceAdd, Nat.reduceSub, Nat.reduceMul, Nat.reduceLeDiff, ne_eq, not_false_eq_true, Int.reduceEq, Int.reduceLT, Int.reduceLE, Int.reduceNeg, Int.reduceToNat, Int.reduceGT, Int.reduceGE, Nat.reduceLT, Nat.lt_add_one, Nat.zero_lt_succ, Nat.succ_pos, Nat.zero_le, beq_self_eq_true, bt, bf0, bf1, bf2, bf3, bf4, bf5, bf6, bf7, bf8, bb, ctV, Bool.not_true, Bool.not_false]
          refine Cf.pu least_ok fun u4 => ?_
          rw [least_lst (hc 2)]
          simp (maxSteps := 4000000) only [vm, vl, Arg.get, cells, stor, boundO, resultsV, resV, partK, loadV, Vm.part, fillC, splice, reduceIte, reduceCtorEq, Nat.reduceEqDiff, Nat.reduceAdd, Nat.reduceSub, Nat.reduceMul, Nat.reduceLeDiff, ne_eq, not_false_eq_true, Int.reduceEq, Int.reduceLT, Int.reduceLE, Int.reduceNeg, Int.reduceToNat, Int.reduceGT, Int.reduceGE, Nat.reduceLT, Nat.lt_add_one, Nat.zero_lt_succ, Nat.succ_pos, Nat.zero_le, beq_self_eq_true, ctV, k_gatepostref08_Parse_3, w, k_gatepostref08_Parse_7]
          exact hfin (setN c 2 (lst (c.n 2) n1)) _ _ hs f2 f4 f5 rfl
        · have ht' : (t2 && has) = false := by simpa using ht
          have hz : (if has = true then if t2 = true then n1 else (-1 : Int) else -1) = -1 := by
            cases has <;> cases t2 <;> first | rfl | (exact absurd rfl ht)
          rw [hz, if_pos rfl] at ha2
          have hs : stepC c y = c := by unfold stepC; rw [ha2]; rfl
          simp (maxSteps := 4000000) only [vm, vl, Arg.get, cells, stor, boundO, resultsV, resV, partK, loadV, Vm.part, fillC, splice, reduceIte, reduceCtorEq, Nat.reduceEqDiff, Nat.reduceAdd, Nat.reduceSub, Nat.reduceMul, Nat.reduceLeDiff, ne_eq, not_false_eq_true, Int.reduceEq, Int.reduceLT, Int.reduceLE, Int.reduceNeg, Int.reduceToNat, Int.reduceGT, Int.reduceGE, Nat.reduceLT, Nat.lt_add_one, Nat.zero_lt_succ, Nat.succ_pos, Nat.zero_le, beq_self_eq_true, bt, bf0, bf1, bf2, bf3, bf4, bf5, bf6, bf7, bf8, ht', ctV, Bool.not_true, Bool.not_false, k_gatepostref08_Parse_3, w]
          exact hfin c _ _ hs f2 f4 f5 rfl
      have b9 : (nm == [115, 116, 97, 108, 101, 45, 119, 104, 105, 108, 101, 45, 114, 101, 118, 97, 108, 105, 100, 97, 116, 101]) = false := beq_eq_false_iff_ne.2 c9
      by_cases c10 : nm = [115, 116, 97, 108, 101, 45, 105, 102, 45, 101, 114, 114, 111, 114]
      · subst c10
        have bt : (([115, 116, 97, 108, 101, 45, 105, 102, 45, 101, 114, 114, 111, 114] : Bs) == [115, 116, 97, 108, 101, 45, 105, 102, 45, 101, 114, 114, 111, 114]) = true := rfl
        have bf0 : (([115, 116, 97, 108, 101, 45, 105, 102, 45, 101, 114, 114, 111, 114] : Bs) == [110, 111, 45, 115, 116, 111, 114, 101]) = false := rfl
        have bf1 : (([115, 116, 97, 108, 101, 45, 105, 102, 45, 101, 114, 114, 111, 114] : Bs) == [110, 111, 45, 99, 97, 99, 104, 101]) = false := rfl
        have bf2 : (([115, 116, 97, 108, 101, 45, 105, 102, 45, 101, 114, 114, 111, 114] : Bs) == [112, 114, 105, 118, 97, 116, 101]) = false := rfl
        have bf3 : (([115, 116, 97, 108, 101, 45, 105, 102, 45, 101, 114, 114, 111, 114] : Bs) == [112, 117, 98, 108, 105, 99]) = false := rfl
        have bf4 : (([115, 116, 97, 108, 101, 45, 105, 102, 45, 101, 114, 114, 111, 114] : Bs) == [109, 117, 115, 116, 45, 114, 101, 118, 97, 108, 105, 100, 97, 116, 101]) = false := rfl
        have bf5 : (([115, 116, 97, 108, 101, 45, 105, 102, 45, 101, 114, 114, 111, 114] : Bs) == [112, 114, 111, 120, 121, 45, 114, 101, 118, 97, 108, 105, 100, 97, 116, 101]) = false := rfl
        have bf6 : (([115, 116, 97, 108, 101, 45, 105, 102, 45, 101, 114, 114, 111, 114] : Bs) == [111, 110, 108, 121, 45, 105, 102, 45, 99, 97, 99, 104, 101, 100]) = false := rfl
        have bf7 : (([115, 116, 97, 108, 101, 45, 105, 102, 45, 101, 114, 114, 111, 114] : Bs) == [109, 97, 120, 45, 97, 103, 101]) = false := rfl
        have bf8 : (([115, 116, 97, 108, 101, 45, 105, 102, 45, 101, 114, 114, 111, 114] : Bs) == [115, 45, 109, 97, 120, 97, 103, 101]) = false := rfl
        have bf9 : (([115, 116, 97, 108, 101, 45, 105, 102, 45, 101, 114, 114, 111, 114] : Bs) == [115, 116, 97, 108, 101, 45, 119, 104, 105, 108, 101, 45, 114, 101, 118, 97, 108, 105, 100, 97, 116, 101]) = false := rfl
        have ha2 : actS y = if valueS text has (-1) (-1) = -1 then .nop else .num 3 (valueS text has (-1) (-1)) := ha
        rw [hvs] at ha2
        by_cases ht : (t2 && has) = true
        · obtain ⟨rfl, rfl⟩ := ht3 ht
          rw [if_pos rfl, if_pos rfl, if_neg (by omega)] at ha2
          have bb : (true && true) = true := rfl
          have hs : stepC c y = setN c 3 (lst (c.n 3) n1) := by unfold stepC; rw [ha2]; rfl
          simp (maxSteps := 4000000) only [vm, vl, Arg.get, cells, stor, boundO, resultsV, resV, partK, loadV, Vm.part, fillC, splice, reduceIte, reduceCtorEq, Nat.reduceEqDiff, Nat.reduceAdd, Nat.reduceSub, Nat.reduceMul, Nat.reduceLeDiff, ne_eq, not_false_eq_true, Int.reduceEq, Int.reduceLT, Int.reduceLE, Int.reduceNeg, Int.reduceToNat, Int.reduceGT, Int.reduceGE, Nat.reduceLT, Nat.lt_add_one, Nat.zero_lt_succ, Nat.succ_pos, Nat.zero_le, beq_self_eq_true, bt, bf0, bf1, bf2, bf3, bf4, bf5, bf6, bf7, bf8, bf9, bb, ctV, Bool.not_true, Bool.not_false]
          refine Cf.pu least_ok fun u4 => ?_
          rw [least_lst (hc 3)]
          simp (maxSteps := 4000000) only [vm, vl, Arg.get, cells, stor, boundO, resultsV, resV, partK, loadV, Vm.part, fillC, splice, reduceIte, reduceCtorEq, Nat.reduceEqDiff, Nat.reduceAdd, Nat.reduceSub, Nat.reduceMul, Nat.reduceLeDiff, ne_eq, not_false_eq_true, Int.reduceEq, Int.reduceLT, Int.reduceLE, Int.reduceNeg, Int.reduceToNat, Int.reduceGT, Int.reduceGE, Nat.reduceLT, Nat.lt_add_one, Nat.zero_lt_succ, Nat.succ_pos, Nat.zero_le, beq_self_eq_true, ctV, k_gatepostref08_Parse_3, w, k_gatepostref08_Parse_8]
          exact hfin (setN c 3 (lst (c.n 3) n1)) _ _ hs f2 f4 f5 rfl
        · have ht' : (t2 && has) = false := by simpa using ht
          have hz : (if has = true then if t2 = true then n1 else (-1 : Int) else -1) = -1 := by
            cases has <;> cases t2 <;> first | rfl | (exact absurd rfl ht)
          rw [hz, if_pos rfl] at ha2
          have hs : stepC c y = c := by unfold stepC; rw [ha2]; rfl
          simp (maxSteps := 4000000) only [vm, vl, Arg.get, cells, stor, boundO, resultsV, resV, partK, loadV, Vm.part, fillC, splice, reduceIte, reduceCtorEq, Nat.reduceEqDiff, Nat.reduceAdd, Nat.reduceSub, Nat.reduceMul, Nat.reduceLeDiff, ne_eq, not_false_eq_true, Int.reduceEq, Int.reduceLT, Int.reduceLE, Int.reduceNeg, Int.reduceToNat, Int.reduceGT, Int.reduceGE, Nat.reduceLT, Nat.lt_add_one, Nat.zero_lt_succ, Nat.succ_pos, Nat.zero_le, beq_self_eq_true, bt, bf0, bf1, bf2, bf3, bf4, bf5, bf6, bf7, bf8, bf9, ht', ctV, Bool.not_true, Bool.not_false, k_gatepostref08_Parse_3, w]
          exact hfin c _ _ hs f2 f4 f5 rfl
      have b10 : (nm == [115, 116, 97, 108, 101, 45, 105, 102, 45, 101, 114, 114, 111, 114]) = false := beq_eq_false_iff_ne.2 c10
      by_cases c11 : nm = [109, 105, 110, 45, 102, 114, 101, 115, 104]
      · subst c11
        have bt : (([109, 105, 110, 45, 102, 114, 101, 115, 104] : Bs) == [109, 105, 110, 45, 102, 114, 101, 115, 104]) = true := rfl
        have bf0 : (([109, 105, 110, 45, 102, 114, 101, 115, 104] : Bs) == [110, 111, 45, 115, 116, 111, 114, 101]) = false := rfl
        have bf1 : (([109, 105, 110, 45, 102, 114, 101, 115, 104] : Bs) == [110, 111, 45, 99, 97, 99, 104, 101]) = false := rfl
        have bf2 : (([109, 105, 110, 45, 102, 114, 101, 115, 104] : Bs) == [112, 114, 105, 118, 97, 116, 101]) = false := rfl
        have bf3 : (([109, 105, 110, 45, 102, 114, 101, 115, 104] : Bs) == [112, 117, 98, 108, 105, 99]) = false := rfl
        have bf4 : (([109, 105, 110, 45, 102, 114, 101, 115, 104] : Bs) == [109, 117, 115, 116, 45, 114, 101, 118, 97, 108, 105, 100, 97, 116, 101]) = false := rfl
        have bf5 : (([109, 105, 110, 45, 102, 114, 101, 115, 104] : Bs) == [112, 114, 111, 120, 121, 45, 114, 101, 118, 97, 108, 105, 100, 97, 116, 101]) = false := rfl
        have bf6 : (([109, 105, 110, 45, 102, 114, 101, 115, 104] : Bs) == [111, 110, 108, 121, 45, 105, 102, 45, 99, 97, 99, 104, 101, 100]) = false := rfl
        have bf7 : (([109, 105, 110, 45, 102, 114, 101, 115, 104] : Bs) == [109, 97, 120, 45, 97, 103, 101]) = false := rfl
        have bf8 : (([109, 105, 110, 45, 102, 114, 101, 115, 104] : Bs) == [115, 45, 109, 97, 120, 97, 103, 101]) = false := rfl
        have bf9 : (([109, 105, 110, 45, 102, 114, 101, 115, 104] : Bs) == [115, 116, 97, 108, 101, 45, 119, 104, 105, 108, 101, 45, 114, 101, 118, 97, 108, 105, 100, 97, 116, 101]) = false := rfl
        have bf10 : (([109, 105, 110, 45, 102, 114, 101, 115, 104] : Bs) == [115, 116, 97, 108, 101, 45, 105, 102, 45, 101, 114, 114, 111, 114]) = false := rfl
        have ha2 : actS y = if valueS text has (-1) (-1) = -1 then .nop else .num 4 (valueS text has (-1) (-1)) := ha
        rw [hvs] at ha2
        by_cases ht : (t2 && has) = true
        · obtain ⟨rfl, rfl⟩ := ht3 ht
          rw [if_pos rfl, if_pos rfl, if_neg (by omega)] at ha2
          have bb : (true && true) = true := rfl
          have hs : stepC c y = setN c 4 (lst (c.n 4) n1) := by unfold stepC; rw [ha2]; rfl
          simp (maxSteps := 4000000) only [vm, vl, Arg.get, cells, stor, boundO, resultsV, resV, partK, loadV, Vm.part, fillC, splice, reduceIte, reduceCtorEq, Nat.reduceEqDiff, Nat.reduceAdd, Nat.reduceSub, Nat.reduceMul, Nat.reduceLeDiff, ne_eq, not_false_eq_true, Int.reduceEq, Int.reduceLT, Int.reduceLE, Int.reduceNeg, Int.reduceToNat, Int.reduceGT, Int.reduceGE, Nat.reduceLT, Nat.lt_add_one, Nat.zero_lt_succ, Nat.succ_pos, Nat.zero_le, beq_self_eq_true, bt, bf0, bf1, bf2, bf3, bf4, bf5, bf6, bf7, bf8, bf9, bf10, bb, ctV, Bool.not_true, Bool.not_false]
          refine Cf.pu least_ok fun u4 => ?_
          rw [least_lst (hc 4)]
          simp (maxSteps := 4000000) only [vm, vl, Arg.get, cells, stor, boundO, resultsV, resV, partK, loadV, Vm.part, fillC, splice, reduceIte, reduceCtorEq, Nat.reduceEqDiff, Nat.reduceAdd, Nat.reduceSub, Nat.reduceMul, Nat.reduceLeDiff, ne_eq, not_false_eq_true, Int.reduceEq, Int.reduceLT, Int.reduceLE, Int.reduceNeg, Int.reduceToNat, Int.reduceGT, Int.reduceGE, Nat.reduceLT, Nat.lt_add_one, Nat.zero_lt_succ, Nat.succ_pos, Nat.zero_le, beq_self_eq_true, ctV, k_gatepostref08_Parse_3, w, k_gatepostref08_Parse_9]
          exact hfin (setN c 4 (lst (c.n 4) n1)) _ _ hs f2 f4 f5 rfl
        · have ht' : (t2 && has) = false := by simpa using ht
          have hz : (if has = true then if t2 = true then n1 else (-1 : Int) else -1) = -1 := by
            cases has <;> cases t2 <;> first | rfl | (exact absurd rfl ht)
          rw [hz, if_pos rfl] at ha2
          have hs : stepC c y = c := by unfold stepC; rw [ha2]; rfl
          simp (maxSteps := 4000000) only [vm, vl, Arg.get, cells, stor, boundO, resultsV, resV, partK, loadV, Vm.part, fillC, splice, reduceIte, reduceCtorEq, Nat.reduceEqDiff, Nat.reduceAdd, Nat.reduceSub, Nat.reduceMul, Nat.reduceLeDiff, ne_eq, not_false_eq_true, Int.reduceEq, Int.reduceLT, Int.reduceLE, Int.reduceNeg, Int.reduceToNat, Int.reduceGT, Int.reduceGE, Nat.reduceLT, Nat.lt_add_one, Nat.zero_lt_succ, Nat.succ_pos, Nat.zero_le, beq_self_eq_true, bt, bf0, bf1, bf2, bf3, bf4, bf5, bf6, bf7, bf8, bf9, bf10, ht', ctV, Bool.not_true, Bool.not_false, k_gatepostref08_Parse_3, w]
          exact hfin c _ _ hs f2 f4 f5 rfl
      have b11 : (nm == [109, 105, 110, 45, 102, 114, 101, 115, 104]) = false := beq_eq_false_iff_ne.2 c11
      by_cases c12 : nm = [109, 97, 120, 45, 115, 116, 97, 108, 101]
      · subst c12
        have bt : (([109, 97, 120, 45, 115, 116, 97, 108, 101] : Bs) == [109, 97, 120, 45, 115, 116, 97, 108, 101]) = true := rfl
        have bf0 : (([109, 97, 120, 45, 115, 116, 97, 108, 101] : Bs) == [110, 111, 45, 115, 116, 111, 114, 101]) = false := rfl
        have bf1 : (([109, 97, 120, 45, 115, 116, 97, 108, 101] : Bs) == [110, 111, 45, 99, 97, 99, 104, 101]) = false := rfl
        have bf2 : (([109, 97, 120, 45, 115, 116, 97, 108, 101] : Bs) == [112, 114, 105, 118, 97, 116, 101]) = false := rfl
        have bf3 : (([109, 97, 120, 45, 115, 116, 97, 108, 101] : Bs) == [112, 117, 98, 108, 105, 99]) = false := rfl
        have bf4 : (([109, 97, 120, 45, 115, 116, 97, 108, 101] : Bs) == [109, 117, 115, 116, 45, 114, 101, 118, 97, 108, 105, 100, 97, 116, 101]) = false := rfl
        have bf5 : (([109, 97, 120, 45, 115, 116, 97, 108, 101] : Bs) == [112, 114, 111, 120, 121, 45, 114, 101, 118, 97, 108, 105, 100, 97, 116, 101]) = false := rfl
        have bf6 : (([109, 97, 120, 45, 115, 116, 97, 108, 101] : Bs) == [111, 110, 108, 121, 45, 105, 102, 45, 99, 97, 99, 104, 101, 100]) = false := rfl
        have bf7 : (([109, 97, 120, 45, 115, 116, 97, 108, 101] : Bs) == [109, 97, 120, 45, 97, 103, 101]) = false := rfl
        have bf8 : (([109, 97, 120, 45, 115, 116, 97, 108, 101] : Bs) == [115, 45, 109, 97, 120, 97, 103, 101]) = false := rfl
        have bf9 : (([109, 97, 120, 45, 115, 116, 97, 108, 101] : Bs) == [115, 116, 97, 108, 101, 45, 119, 104, 105, 108, 101, 45, 114, 101, 118, 97, 108, 105, 100, 97, 116, 101]) = false := rfl
        have bf10 : (([109, 97, 120, 45, 115, 116, 97, 108, 101] : Bs) == [115, 116, 97, 108, 101, 45, 105, 102, 45, 101, 114, 114, 111, 114]) = false := rfl
        have bf11 : (([109, 97, 120, 45, 115, 116, 97, 108, 101] : Bs) == [109, 105, 110, 45, 102, 114, 101, 115, 104]) = false := rfl
        have ha2 : actS y = if valueS text has 2147483648 (-1) = -1 then .nop else .num 5 (valueS text has 2147483648 (-1)) := ha
        rw [hvs] at ha2
        by_cases ht : (t2 && has) = true
        · obtain ⟨rfl, rfl⟩ := ht3 ht
          rw [if_pos rfl, if_pos rfl, if_neg (by omega)] at ha2
          have bb : (true && true) = true := rfl
          have hs : stepC c y = setN c 5 (lst (c.n 5) n1) := by unfold stepC; rw [ha2]; rfl
          simp (maxSteps := 4000000) only [vm, vl, Arg.get, cells, stor, boundO, resultsV, resV, partK, loadV, Vm.part, fillC, splice, reduceIte, reduceCtorEq, Nat.reduceEqDiff, Nat.reduceAdd, Nat.reduceSub, Nat.reduceMul, Nat.reduceLeDiff, ne_eq, not_false_eq_true, Int.reduceEq, Int.reduceLT, Int.reduceLE, Int.reduceNeg, Int.reduceToNat, Int.reduceGT, Int.reduceGE, Nat.reduceLT, Nat.lt_add_one, Nat.zero_lt_succ, Nat.succ_pos, Nat.zero_le, beq_self_eq_true, bt, bf0, bf1, bf2, bf3, bf4, bf5, bf6, bf7, bf8, bf9, bf10, bf11, bb, ctV, Bool.not_true, Bool.not_false]
          refine Cf.pu least_ok fun u4 => ?_
          rw [least_lst (hc 5)]
          simp (maxSteps := 4000000) only [vm, vl, Arg.get, cells, stor, boundO, resultsV, resV, partK, loadV, Vm.part, fillC, splice, reduceIte, reduceCtorEq, Nat.reduceEqDiff, Nat.reduceAdd, Nat.reduceSub, Nat.reduceMul, Nat.reduceLeDiff, ne_eq, not_false_eq_true, Int.reduceEq, Int.reduceLT, Int.reduceLE, Int.reduceNeg, Int.reduceToNat, Int.reduceGT, Int.reduceGE, Nat.reduceLT, Nat.lt_add_one, Nat.zero_lt_succ, Nat.succ_pos, Nat.zero_le, beq_self_eq_true, ctV, k_gatepostref08_Parse_3, w, k_gatepostref08_Parse_11]
          exact hfin (setN c 5 (lst (c.n 5) n1)) _ _ hs f2 f4 f5 rfl
        · have ht' : (t2 && has) = false := by simpa using ht
          cases has with
          | false =>
          have hz : (if (false : Bool) = true then (if t2 = true then n1 else (-1 : Int)) else 2147483648) = 2147483648 := rfl
          rw [hz, if_neg (by decide)] at ha2
          have hs : stepC c y = setN c 5 (lst (c.n 5) 2147483648) := by unfold stepC; rw [ha2]; rfl
          simp (maxSteps := 4000000) only [vm, vl, Arg.get, cells, stor, boundO, resultsV, resV, partK, loadV, Vm.part, fillC, splice, reduceIte, reduceCtorEq, Nat.reduceEqDiff, Nat.reduceAdd, Nat.reduceSub, Nat.reduceMul, Nat.reduceLeDiff, ne_eq, not_false_eq_true, Int.reduceEq, Int.reduceLT, Int.reduceLE, Int.reduceNeg, Int.reduceToNat, Int.reduceGT, Int.reduceGE, Nat.reduceLT, Nat.lt_add_one, Nat.zero_lt_succ, Nat.succ_pos, Nat.zero_le, beq_self_eq_true, bt, bf0, bf1, bf2, bf3, bf4, bf5, bf6, bf7, bf8, bf9, bf10, bf11, ht', ctV, Bool.not_true, Bool.not_false]
          refine Cf.pu least_ok fun u4 => ?_
          rw [least_lst (hc 5)]
          simp (maxSteps := 4000000) only [vm, vl, Arg.get, cells, stor, boundO, resultsV, resV, partK, loadV, Vm.part, fillC, splice, reduceIte, reduceCtorEq, Nat.reduceEqDiff, Nat.reduceAdd, Nat.reduceSub, Nat.reduceMul, Nat.reduceLeDiff, ne_eq, not_false_eq_true, Int.reduceEq, Int.reduceLT, Int.reduceLE, Int.reduceNeg, Int.reduceToNat, Int.reduceGT, Int.reduceGE, Nat.reduceLT, Nat.lt_add_one, Nat.zero_lt_succ, Nat.succ_pos, Nat.zero_le, beq_self_eq_true, ctV, k_gatepostref08_Parse_3, w, k_gatepostref08_Parse_10]
          exact hfin (setN c 5 (lst (c.n 5) 2147483648)) _ _ hs f2 f4 f5 rfl
          | true =>
          have ht2 : t2 = false := by cases t2 <;> first | rfl | (exact absurd rfl ht)
          subst ht2
          have hz : (if (true : Bool) = true then (if (false : Bool) = true then n1 else (-1 : Int)) else 2147483648) = -1 := rfl
          rw [hz, if_pos rfl] at ha2
          have bb : (false && true) = false := rfl
          have hs : stepC c y = c := by unfold stepC; rw [ha2]; rfl
          simp (maxSteps := 4000000) only [vm, vl, Arg.get, cells, stor, boundO, resultsV, resV, partK, loadV, Vm.part, fillC, splice, reduceIte, reduceCtorEq, Nat.reduceEqDiff, Nat.reduceAdd, Nat.reduceSub, Nat.reduceMul, Nat.reduceLeDiff, ne_eq, not_false_eq_true, Int.reduceEq, Int.reduceLT, Int.reduceLE, Int.reduceNeg, Int.reduceToNat, Int.reduceGT, Int.reduceGE, Nat.reduceLT, Nat.lt_add_one, Nat.zero_lt_succ, Nat.succ_pos, Nat.zero_le, beq_self_eq_true, bt, bf0, bf1, bf2, bf3, bf4, bf5, bf6, bf7, bf8, bf9, bf10, bf11, bb, ctV, Bool.not_true, Bool.not_false, k_gatepostref08_Parse_3, w]
          exact hfin c _ _ hs f2 f4 f5 rfl
      have b12 : (nm == [109, 97, 120, 45, 115, 116, 97, 108, 101]) = false := beq_eq_false_iff_ne.2 c12
      have hr : ruleOf nm = .no := by
        unfold ruleOf ruleT
        simp only [List.lookup, b0, b1, b2, b3, b4, b5, b6, b7, b8, b9, b10, b11, b12, Option.getD_none]
      have hs : stepC c y = c := by unfold stepC; rw [ha, hr]; rfl
      simp (maxSteps := 4000000) only [vm, vl, Arg.get, cells, stor, boundO, resultsV, resV, partK, loadV, Vm.part, fillC, splice, reduceIte, reduceCtorEq, Nat.reduceEqDiff, Nat.reduceAdd, Nat.reduceSub, Nat.reduceMul, Nat.reduceLeDiff, ne_eq, not_false_eq_true, Int.reduceEq, Int.reduceLT, Int.reduceLE, Int.reduceNeg, Int.reduceToNat, Int.reduceGT, Int.reduceGE, Nat.reduceLT, Nat.lt_add_one, Nat.zero_lt_succ, Nat.succ_pos, Nat.zero_le, beq_self_eq_true, b0, b1, b2, b3, b4, b5, b6, b7, b8, b9, b10, b11, b12, k_gatepostref08_Parse_3, w]
      exact hfin c _ _ hs f2 f4 f5 rfl
    cases t2 with
    | false =>
      simp (maxSteps := 4000000) only [vm, vl, Arg.get, cells, stor, boundO, resultsV, resV, partK, loadV, Vm.part, fillC, splice, reduceIte, reduceCtorEq, Nat.reduceEqDiff, Nat.reduceAdd, Nat.reduceSub, Nat.reduceMul, Nat.reduceLeDiff, ne_eq, not_false_eq_true, Int.reduceEq, Int.reduceLT, Int.reduceLE, Int.reduceNeg, Int.reduceToNat, Int.reduceGT, Int.reduceGE, Nat.reduceLT, Nat.lt_add_one, Nat.zero_lt_succ, Nat.succ_pos, Nat.zero_le, beq_self_eq_true]
      refine Cf.pu (hlo _) fun u3 => ?_
      have e9 : ∀ T : Heap, h ++ O.box cs :: A :: O.box (ctV c) :: T ++ u3 = h ++ (O.box cs :: A :: O.box (ctV c) :: (T ++ u3)) := fun T => by simp
      show k_gatepostref08_Parse_12 L _ _ _ _ _ _ _ _ _ _ _ _ _ _ _
      rw [e9]
      refine base _ _ ?_ ?_ ?_ _ _ _ <;> first | exact e2 | exact e4 | exact e5
    | true =>
      simp (maxSteps := 4000000) only [vm, vl, Arg.get, cells, stor, boundO, resultsV, resV, partK, loadV, Vm.part, fillC, splice, reduceIte, reduceCtorEq, Nat.reduceEqDiff, Nat.reduceAdd, Nat.reduceSub, Nat.reduceMul, Nat.reduceLeDiff, ne_eq, not_false_eq_true, Int.reduceEq, Int.reduceLT, Int.reduceLE, Int.reduceNeg, Int.reduceToNat, Int.reduceGT, Int.reduceGE, Nat.reduceLT, Nat.lt_add_one, Nat.zero_lt_succ, Nat.succ_pos, Nat.zero_le, beq_self_eq_true]
      refine Cf.pu (hlo _) fun u3 => ?_
      have e9 : ∀ T : Heap, h ++ O.box cs :: A :: O.box (ctV c) :: T ++ u3 = h ++ (O.box cs :: A :: O.box (ctV c) :: (T ++ u3)) := fun T => by simp
      show k_gatepostref08_Parse_12 L _ _ _ _ _ _ _ _ _ _ _ _ _ _ _
      rw [e9]
      refine base _ _ ?_ ?_ ?_ _ _ _ <;> first | exact e2 | exact e4 | exact e5
end Go.Proofs.YtgplldjcopfjpaaDoor.Vh
end
section
set_option linter.unusedVariables false
set_option linter.unusedSimpArgs false
namespace Go.Proofs.YtgplldjcopfjpaaDoor.Vh
open Go.Vm Go.Vt
attribute [local congr] wi_congr wg_congr wgd_congr wb_congr wl_congr cf_congr
variable {L : FuncId → List V → V → Prop} {h : Heap}
theorem ct0_low : ∀ j, -1 ≤ ct0.n j := fun j => Int.le_refl _
theorem rCParse_ok {s : Bs} (hs : s.length < 1000000) : Cf F L i_gatepostref08_Parse [.str s] h (Pu h (parseCV (parseC s))) := by
  refine run_gatepostref08_Parse ?_
  simp only [p_gatepostref08_Parse]
  
  simp (maxSteps := 4000000) only [vm, vl, Arg.get, cells, stor, boundO, resultsV, resV, partK, loadV, Vm.part, fillC, splice, reduceIte, reduceCtorEq, Nat.reduceEqDiff, Nat.reduceAdd, Nat.reduceSub, Nat.reduceMul, Nat.reduceLeDiff, ne_eq, not_false_eq_true, Int.reduceEq, Int.reduceLT, Int.reduceLE, Int.reduceNeg, Int.reduceToNat, Int.reduceGT, Int.reduceGE, Nat.reduceLT, Nat.lt_add_one, Nat.zero_lt_succ, Nat.succ_pos, Nat.zero_le, beq_self_eq_true]
  refine (rNone_ok).mono fun v h' hv => ?_
  obtain ⟨rfl, rfl⟩ := hv
  have hc13 := ctV_len ct0
  have hd13 : List.drop 13 (ctV ct0) = [] := rfl
  unfold k_gatepostref08_Parse_15
  simp (maxSteps := 4000000) only [vm, vl, Arg.get, cells, stor, boundO, resultsV, resV, partK, loadV, Vm.part, fillC, splice, reduceIte, reduceCtorEq, Nat.reduceEqDiff, Nat.reduceAdd, Nat.reduceSub, Nat.reduceMul, Nat.reduceLeDiff, ne_eq, not_false_eq_true, Int.reduceEq, Int.reduceLT, Int.reduceLE, Int.reduceNeg, Int.reduceToNat, Int.reduceGT, Int.reduceGE, Nat.reduceLT, Nat.lt_add_one, Nat.zero_lt_succ, Nat.succ_pos, Nat.zero_le, beq_self_eq_true, hc13]
  refine (rSplit_ok (s := s) (by omega)).mono fun v h' hp => ?_
  obtain ⟨⟨u1, rfl⟩, hv⟩ := hp
  unfold k_gatepostref08_Parse_14 parseC
  cases hsp : split s with
  | none =>
    rw [hsp] at hv
    rcases hv with ⟨_, rfl⟩ | ⟨out, x, hh, _⟩
    · simp (maxSteps := 4000000) only [vm, vl, Arg.get, cells, stor, boundO, resultsV, resV, partK, loadV, Vm.part, fillC, splice, reduceIte, reduceCtorEq, Nat.reduceEqDiff, Nat.reduceAdd, Nat.reduceSub, Nat.reduceMul, Nat.reduceLeDiff, ne_eq, not_false_eq_true, Int.reduceEq, Int.reduceLT, Int.reduceLE, Int.reduceNeg, Int.reduceToNat, Int.reduceGT, Int.reduceGE, Nat.reduceLT, Nat.lt_add_one, Nat.zero_lt_succ, Nat.succ_pos, Nat.zero_le, beq_self_eq_true, ctV, Bool.not_false]
      rfl
    · cases hh
  | some l =>
    rw [hsp] at hv
    rcases hv with ⟨hh, _⟩ | ⟨out, x, hh, rfl, hx⟩
    · cases hh
    · injection hh with hh; subst hh
      simp (maxSteps := 4000000) only [vm, vl, Arg.get, cells, stor, boundO, resultsV, resV, partK, loadV, Vm.part, fillC, splice, reduceIte, reduceCtorEq, Nat.reduceEqDiff, Nat.reduceAdd, Nat.reduceSub, Nat.reduceMul, Nat.reduceLeDiff, ne_eq, not_false_eq_true, Int.reduceEq, Int.reduceLT, Int.reduceLE, Int.reduceNeg, Int.reduceToNat, Int.reduceGT, Int.reduceGE, Nat.reduceLT, Nat.lt_add_one, Nat.zero_lt_succ, Nat.succ_pos, Nat.zero_le, beq_self_eq_true, Bool.not_true]
      unfold k_gatepostref08_Parse_0
      have hlen : l.length < 100000000 := by
        have := splitG_len (Nat.le_refl _) (show splitG s [] false [] = some l from hsp)
        simp at this; omega
      have hmem := split_mem hsp
      have hbs : ∀ x ∈ l, x.length < 100000000 := fun x hx => by have := hmem x hx; omega
      refine l_gatepostref08_Parse_0 (RParI h l x) (fun n e h' hI => RParse_round hx hlen hbs hI) (n := l.length) ⟨0, ct0, _, _, _, by simp, by simp, ct0_low, rfl, rfl, rfl, rfl, ⟨_, rfl, rfl⟩, rfl, by simp⟩
end Go.Proofs.YtgplldjcopfjpaaDoor.Vh
end
section
set_option linter.unusedVariables false
set_option linter.unusedSimpArgs false
namespace Go.Proofs.YtgplldjcopfjpaaDoor.Vh
open Go.Vm Go.Vt
attribute [local congr] wi_congr wg_congr wgd_congr wb_congr wl_congr cf_congr
variable {L : FuncId → List V → V → Prop} {h : Heap}
abbrev Fld := Bs × Bs
def fldV (f : Fld) : V := .agg [.str f.1, .str f.2]
def flds (l : List Fld) : List V := l.map fldV
theorem flds_len (l : List Fld) : (flds l).length = l.length := by simp [flds]
theorem flds_at {l : List Fld} {i : Nat} (hi : i < l.length) : (flds l).getD i (.tup []) = fldV (l.getD i ([], [])) := by
  unfold flds
  rw [List.getD_eq_getElem?_getD, List.getD_eq_getElem?_getD, List.getElem?_map, List.getElem?_eq_getElem hi]; rfl
theorem list_at {α : Type} {l : List α} {i : Nat} (d : α) (hi : i ≤ l.length) : (¬ (i : Int) < l.length ∧ i = l.length ∧ l.drop i = []) ∨ ((i : Int) < l.length ∧ i < l.length ∧ l.drop i = l.getD i d :: l.drop (i + 1) ∧ l.take (i + 1) = l.take i ++ [l.getD i d]) := by
  rcases Nat.lt_or_eq_of_le hi with h | h
  · have e : l.getD i d = l[i] := by rw [List.getD_eq_getElem?_getD, List.getElem?_eq_getElem h, Option.getD_some]
    exact .inr ⟨by omega, h, by rw [e]; exact List.drop_eq_getElem_cons h, by rw [e, List.take_add_one, List.getElem?_eq_getElem h]; rfl⟩
  · exact .inl ⟨by omega, h, by rw [h]; simp⟩
/-- Texts with commas between. -/
def joinS (l : List Bs) : Bs := [44, 32].intercalate l
def JoinOk (L : FuncId → List V → V → Prop) : Prop := ∀ {x : V} {l : List Bs} {h : Heap}, ListV 1 x (strs l) → l.length ≤ 1000000000 → (joinS l).length ≤ 140737488355328 → Cf F L i_strings_Join [x, .str [44, 32]] h (Pu h (.str (joinS l)))
def valsOf (l : List Fld) (name : Bs) : List Bs := (l.filter fun f => low f.1 == low name).map (·.2)
def getV (l : List Fld) (name : Bs) : V := .tup [.str (joinS (valsOf l name)), .int .i64 (valsOf l name).length]
theorem vals_len (l : List Fld) (name : Bs) : (valsOf l name).length ≤ l.length := by
  unfold valsOf; rw [List.length_map]; exact List.length_filter_le _ _
theorem Get_ok {x : V} {l : List Fld} {name : Bs} (HJ : JoinOk L) (hx : ListV 2 x (flds l)) (hl : l.length < 1000000000) (hln : ∀ f ∈ l, f.1.length ≤ 140737488355328) (hn : name.length ≤ 140737488355328) (hj : (joinS (valsOf l name)).length ≤ 140737488355328) :
    Cf F L i_field_Get [x, .str name] h (Pu h (getV l name)) := by
  refine run_field_Get ?_
  simp only [p_field_Get]
  have l1 := fun {K : V → Heap → Prop} {h : Heap} => hx.len (F := F) (L := L) (e := E0) (K := K) (h := h)
  simp only [flds_len] at l1
  simp (maxSteps := 4000000) only [vm, vl, Arg.get, cells, stor, boundO, resultsV, resV, partK, loadV, Vm.part, fillC, splice, reduceIte, reduceCtorEq, Nat.reduceEqDiff, Nat.reduceAdd, Nat.reduceSub, Nat.reduceMul, Nat.reduceLeDiff, ne_eq, not_false_eq_true, Int.reduceEq, Int.reduceLT, Int.reduceLE, Int.reduceNeg, Int.reduceToNat, Int.reduceGT, Int.reduceGE, Nat.reduceLT, Nat.lt_add_one, Nat.zero_lt_succ, Nat.succ_pos, Nat.zero_le, beq_self_eq_true, k_field_Get_0, k_field_Get_2, k_field_Get_1, l1]
  refine l_field_Get_0 (fun n e h' => ∃ i, n = l.length - i ∧ i ≤ l.length ∧ e 1 = .str name ∧ e 9 = x ∧ e 10 = .int .i64 l.length ∧ e 11 = .int .i64 i ∧ Grow 1 h h' (e 6) (strs (valsOf (l.take i) name))) ?_ (n := l.length) ⟨0, by simp, by simp, rfl, rfl, rfl, rfl, .nil0⟩
  rintro n e h' ⟨i, rfl, hi, e1, e9, e10, e11, G⟩
  simp only [b_field_Get_0]
  generalize e6 : e 6 = x6 at *
  have vln := vals_len (l.take i) name
  rw [List.length_take] at vln
  rcases list_at ([], []) hi with ⟨hn, rfl, hd⟩ | ⟨hl1, hl2, hd, htk⟩
  · rw [List.take_of_length_le (Nat.le_refl _)] at G
    have vln := vals_len l name
    have g1 := fun {K : V → Heap → Prop} {h : Heap} => G.list.len (F := F) (L := L) (e := E0) (K := K) (h := h)
    simp only [strs_len] at g1
    simp (maxSteps := 4000000) only [vm, vl, Arg.get, cells, stor, boundO, resultsV, resV, partK, loadV, Vm.part, fillC, splice, reduceIte, reduceCtorEq, Nat.reduceEqDiff, Nat.reduceAdd, Nat.reduceSub, Nat.reduceMul, Nat.reduceLeDiff, ne_eq, not_false_eq_true, Int.reduceEq, Int.reduceLT, Int.reduceLE, Int.reduceNeg, Int.reduceToNat, Int.reduceGT, Int.reduceGE, Nat.reduceLT, Nat.lt_add_one, Nat.zero_lt_succ, Nat.succ_pos, Nat.zero_le, beq_self_eq_true, k_field_Get_0, k_field_Get_2, k_field_Get_1, e1, e6, e9, e10, e11, hn]
    refine Cf.pu (HJ G.list (by omega) hj) fun t => ?_
    obtain ⟨t0, rfl⟩ := G.1
    rcases G.list with ⟨he, rfl⟩ | ⟨o, rfl⟩
    · have he' : valsOf l name = [] := by simpa [strs] using he
      simp (maxSteps := 4000000) only [vm, vl, Arg.get, cells, stor, boundO, resultsV, resV, partK, loadV, Vm.part, fillC, splice, reduceIte, reduceCtorEq, Nat.reduceEqDiff, Nat.reduceAdd, Nat.reduceSub, Nat.reduceMul, Nat.reduceLeDiff, ne_eq, not_false_eq_true, Int.reduceEq, Int.reduceLT, Int.reduceLE, Int.reduceNeg, Int.reduceToNat, Int.reduceGT, Int.reduceGE, Nat.reduceLT, Nat.lt_add_one, Nat.zero_lt_succ, Nat.succ_pos, Nat.zero_le, beq_self_eq_true, k_field_Get_0, k_field_Get_2, k_field_Get_1]
      simp [getV, he']
    · simp (maxSteps := 4000000) only [vm, vl, Arg.get, cells, stor, boundO, resultsV, resV, partK, loadV, Vm.part, fillC, splice, reduceIte, reduceCtorEq, Nat.reduceEqDiff, Nat.reduceAdd, Nat.reduceSub, Nat.reduceMul, Nat.reduceLeDiff, ne_eq, not_false_eq_true, Int.reduceEq, Int.reduceLT, Int.reduceLE, Int.reduceNeg, Int.reduceToNat, Int.reduceGT, Int.reduceGE, Nat.reduceLT, Nat.lt_add_one, Nat.zero_lt_succ, Nat.succ_pos, Nat.zero_le, beq_self_eq_true, k_field_Get_0, k_field_Get_2, k_field_Get_1, strs_len]
      simp [getV]
  · have w := wrap64 (x := (i : Int) + 1) (by omega) (by omega)
    have i1 := fun {K : V → Heap → Prop} {h : Heap} => hx.at (F := F) (L := L) (e := E0) (K := K) (h := h) (i := i) (by rw [flds_len]; exact hl2)
    have a1 := flds_at hl2
    have hmem : l.getD i ([], []) ∈ l := by
      rw [List.getD_eq_getElem?_getD, List.getElem?_eq_getElem hl2]; exact List.getElem_mem _
    generalize hf : l.getD i ([], []) = f at *
    obtain ⟨t0, rfl⟩ := G.1
    simp (maxSteps := 4000000) only [vm, vl, Arg.get, cells, stor, boundO, resultsV, resV, partK, loadV, Vm.part, fillC, splice, reduceIte, reduceCtorEq, Nat.reduceEqDiff, Nat.reduceAdd, Nat.reduceSub, Nat.reduceMul, Nat.reduceLeDiff, ne_eq, not_false_eq_true, Int.reduceEq, Int.reduceLT, Int.reduceLE, Int.reduceNeg, Int.reduceToNat, Int.reduceGT, Int.reduceGE, Nat.reduceLT, Nat.lt_add_one, Nat.zero_lt_succ, Nat.succ_pos, Nat.zero_le, beq_self_eq_true, k_field_Get_0, k_field_Get_2, k_field_Get_1, e1, e6, e9, e10, e11, hl1, i1, a1, fldV]
    refine Cf.pu (Same_ok (hln f hmem) hn) fun t1 => ?_
    have hb : (h ++ (t0 ++ O.box [.str f.1, .str f.2] :: t1))[h.length + t0.length]? = some (.box [.str f.1, .str f.2]) := by
      rw [← List.append_assoc, List.getElem?_append_right (by simp)]; simp
    have G2 := G.more (t := [O.box [.str f.1, .str f.2]] ++ t1)
    cases hp : (low f.1 == low name) with
    | false =>
      simp (maxSteps := 4000000) only [vm, vl, Arg.get, cells, stor, boundO, resultsV, resV, partK, loadV, Vm.part, fillC, splice, reduceIte, reduceCtorEq, Nat.reduceEqDiff, Nat.reduceAdd, Nat.reduceSub, Nat.reduceMul, Nat.reduceLeDiff, ne_eq, not_false_eq_true, Int.reduceEq, Int.reduceLT, Int.reduceLE, Int.reduceNeg, Int.reduceToNat, Int.reduceGT, Int.reduceGE, Nat.reduceLT, Nat.lt_add_one, Nat.zero_lt_succ, Nat.succ_pos, Nat.zero_le, beq_self_eq_true, k_field_Get_0, k_field_Get_2, k_field_Get_1, w]
      refine ⟨l.length - (i + 1), by omega, i + 1, rfl, hl2, rfl, ?_⟩
      have : valsOf (l.take (i + 1)) name = valsOf (l.take i) name := by simp [valsOf, htk, hp]
      rw [this]
      simpa using G2
    | true =>
      obtain ⟨x', h'', ha, G3⟩ := G2.app (bytes := 16) (y := .str f.2) (by rw [strs_len]; omega)
      rw [strs_app] at G3
      simp only [List.append_assoc, List.cons_append, List.nil_append] at ha
      simp (maxSteps := 4000000) only [vm, vl, Arg.get, cells, stor, boundO, resultsV, resV, partK, loadV, Vm.part, fillC, splice, reduceIte, reduceCtorEq, Nat.reduceEqDiff, Nat.reduceAdd, Nat.reduceSub, Nat.reduceMul, Nat.reduceLeDiff, ne_eq, not_false_eq_true, Int.reduceEq, Int.reduceLT, Int.reduceLE, Int.reduceNeg, Int.reduceToNat, Int.reduceGT, Int.reduceGE, Nat.reduceLT, Nat.lt_add_one, Nat.zero_lt_succ, Nat.succ_pos, Nat.zero_le, beq_self_eq_true, k_field_Get_0, k_field_Get_2, k_field_Get_1, w, hb, ha]
      refine ⟨l.length - (i + 1), by omega, i + 1, rfl, hl2, rfl, ?_⟩
      have : valsOf (l.take (i + 1)) name = valsOf (l.take i) name ++ [f.2] := by simp [valsOf, htk, hp]
      rw [this]
      exact G3
end Go.Proofs.YtgplldjcopfjpaaDoor.Vh
end
section
set_option linter.unusedVariables false
set_option linter.unusedSimpArgs false
namespace Go.Proofs.YtgplldjcopfjpaaDoor.Vh
open Go.Vm Go.Vt
attribute [local congr] wi_congr wg_congr wgd_congr wb_congr wl_congr cf_congr
variable {L : FuncId → List V → V → Prop} {h : Heap}
def sumF (l : List Fld) : Nat := (l.map fun f => f.1.length + f.2.length).sum
theorem sumF_take {l : List Fld} {i : Nat} (hi : i < l.length) : sumF (l.take (i + 1)) = sumF (l.take i) + ((l.getD i ([], [])).1.length + (l.getD i ([], [])).2.length) := by
  have e : l.getD i ([], []) = l[i] := by rw [List.getD_eq_getElem?_getD, List.getElem?_eq_getElem hi, Option.getD_some]
  unfold sumF
  rw [List.take_add_one, List.getElem?_eq_getElem hi, e]
  simp only [List.map_append, List.sum_append, Option.toList_some, List.map_cons, List.map_nil, List.sum_cons, List.sum_nil, Nat.add_zero]
theorem sumF_le (l : List Fld) (i : Nat) : sumF (l.take i) ≤ sumF l := by
  conv => rhs; rw [← List.take_append_drop i l]
  unfold sumF
  rw [List.map_append, List.sum_append]
  omega
theorem sumF_mem {l : List Fld} {f : Fld} (hf : f ∈ l) : f.1.length + f.2.length ≤ sumF l := by
  unfold sumF
  induction l with
  | nil => cases hf
  | cons a r ih =>
    rw [List.map_cons, List.sum_cons]
    rcases List.mem_cons.1 hf with rfl | hf
    · omega
    · have := ih hf; omega
/-- A list of fields as a parameter. -/
theorem fields_par {x : V} (v : VPar [.sl [.s, .s]] x) : ∃ l, ListV 2 x (flds l) ∧ l.length ≤ 140737488351232 ∧ ∀ f ∈ l, f.1.length ≤ 140737488351232 ∧ f.2.length ≤ 140737488351232 := by
  rcases v with rfl | ⟨es, rfl, hl, he⟩
  · exact ⟨[], .inl ⟨rfl, rfl⟩, by simp, by simp⟩
  · have : ∃ l, flds l = es ∧ ∀ f ∈ l, f.1.length ≤ 140737488351232 ∧ f.2.length ≤ 140737488351232 := by
      clear hl
      induction es with
      | nil => exact ⟨[], rfl, by simp⟩
      | cons e r ih =>
        obtain ⟨l, h1, h2⟩ := ih fun x hx => he x (by simp [hx])
        obtain ⟨a1, _, a3⟩ := he e (by simp)
        have a3 := a3 (by simp)
        generalize cells e = cs at a1 a3
        subst a3
        match cs, a1 with
        | [x, y], ⟨⟨s, e1, b1⟩, ⟨t, e2, b2⟩, _⟩ =>
          subst e1; subst e2
          refine ⟨(s, t) :: l, by rw [← h1]; rfl, ?_⟩
          intro f hf
          rcases List.mem_cons.1 hf with rfl | hf
          · exact ⟨b1, b2⟩
          · exact h2 f hf
    obtain ⟨l, rfl, h2⟩ := this
    exact ⟨l, .inr ⟨_, rfl⟩, by rwa [flds_len] at hl, h2⟩
theorem join_len : ∀ l : List Bs, (joinS l).length ≤ (l.map List.length).sum + 2 * l.length
  | [] => by simp [joinS]
  | [a] => by simp [joinS]
  | a :: b :: r => by
    have := join_len (b :: r)
    have e : joinS (a :: b :: r) = a ++ ([44, 32] ++ joinS (b :: r)) := by simp [joinS, List.intercalate]
    rw [e]
    simp only [List.length_append, List.length_cons, List.length_nil, List.map_cons, List.sum_cons] at this ⊢
    omega
theorem vals_sum (l : List Fld) (name : Bs) : ((valsOf l name).map List.length).sum ≤ sumF l := by
  induction l with
  | nil => simp [valsOf, sumF]
  | cons f r ih =>
    unfold valsOf sumF at *
    rw [List.filter_cons]
    split <;> simp only [List.map_cons, List.sum_cons] at * <;> omega
theorem vals_join (l : List Fld) (name : Bs) : (joinS (valsOf l name)).length ≤ sumF l + 2 * l.length := by
  have h1 := join_len (valsOf l name)
  have h2 := vals_sum l name
  have h3 := vals_len l name
  omega
theorem join_none : joinS [] = [] := rfl
end Go.Proofs.YtgplldjcopfjpaaDoor.Vh
end
section
set_option linter.unusedVariables false
set_option linter.unusedSimpArgs false
namespace Go.Proofs.YtgplldjcopfjpaaDoor.Vh
open Go.Vm Go.Vt
attribute [local congr] wi_congr wg_congr wgd_congr wb_congr wl_congr cf_congr
variable {L : FuncId → List V → V → Prop} {h : Heap}
theorem getD_mem {α : Type} {l : List α} {i : Nat} {d : α} (hi : i < l.length) : l.getD i d ∈ l := by
  rw [List.getD_eq_getElem?_getD, List.getElem?_eq_getElem hi]; exact List.getElem_mem _
/-- What Names come to. -/
theorem joinS_snoc (l : List Bs) (v : Bs) : joinS (l ++ [v]) = if l = [] then v else joinS l ++ [44, 32] ++ v := by
  induction l with
  | nil => simp [joinS]
  | cons a r ih =>
    cases r with
    | nil => simp [joinS, List.intercalate]
    | cons b r' =>
      have e : ∀ (m : List Bs), m ≠ [] → joinS (a :: m) = a ++ ([44, 32] ++ joinS m) := by
        intro m hm
        cases m with
        | nil => exact absurd rfl hm
        | cons x y => simp [joinS, List.intercalate]
      rw [List.cons_append, e _ (by simp), ih, e _ (by simp)]
      simp
theorem rGet_ok {x : V} {l : List Fld} {name : Bs} (hx : ListV 2 x (flds l)) (hl : l.length < 100000) (hln : ∀ f ∈ l, f.1.length ≤ 140737488355328) (hn : name.length ≤ 140737488355328) (hsm : sumF l < 100000) :
    Cf F L i_gatepostref04_Get [x, .str name] h (Pu h (getV l name)) := by
  refine run_gatepostref04_Get ?_
  simp only [p_gatepostref04_Get]
  have l1 := fun {K : V → Heap → Prop} {h : Heap} => hx.len (F := F) (L := L) (e := E0) (K := K) (h := h)
  simp only [flds_len] at l1
  refine l_gatepostref04_Get_0 (fun n e h' => ∃ i, n = l.length - i ∧ i ≤ l.length ∧ e 0 = x ∧ e 1 = .str name ∧ e 6 = .str (joinS (valsOf (l.take i) name)) ∧ e 7 = .int .i64 (valsOf (l.take i) name).length ∧ e 8 = .int .i64 i ∧ ∃ t, h' = h ++ t) ?_ (n := l.length) ⟨0, by simp, by simp, rfl, rfl, rfl, rfl, rfl, [], by simp⟩
  rintro n e h' ⟨i, rfl, hi, e0, e1, e6, e7, e8, t, rfl⟩
  simp only [b_gatepostref04_Get_0]
  have vj := vals_join (l.take i) name
  have vln := vals_len (l.take i) name
  have hsi := sumF_le l i
  rw [List.length_take] at vj vln
  rcases list_at ([], []) hi with ⟨hn', rfl, hd⟩ | ⟨hl1, hl2, hd, htk⟩
  · rw [List.take_of_length_le (Nat.le_refl _)] at e6 e7
    simp (maxSteps := 4000000) only [vm, vl, Arg.get, cells, stor, boundO, resultsV, resV, partK, loadV, Vm.part, fillC, splice, reduceIte, reduceCtorEq, Nat.reduceEqDiff, Nat.reduceAdd, Nat.reduceSub, Nat.reduceMul, Nat.reduceLeDiff, ne_eq, not_false_eq_true, Int.reduceEq, Int.reduceLT, Int.reduceLE, Int.reduceNeg, Int.reduceToNat, Int.reduceGT, Int.reduceGE, Nat.reduceLT, Nat.lt_add_one, Nat.zero_lt_succ, Nat.succ_pos, Nat.zero_le, beq_self_eq_true, k_gatepostref04_Get_0, k_gatepostref04_Get_2, k_gatepostref04_Get_3, k_gatepostref04_Get_1, e0, e1, e6, e7, e8, l1, hn', getV]
  · have w := wrap64 (x := (i : Int) + 1) (by omega) (by omega)
    have i1 := fun {K : V → Heap → Prop} {h : Heap} => hx.at (F := F) (L := L) (e := E0) (K := K) (h := h) (i := i) (by rw [flds_len]; exact hl2)
    have a1 := flds_at hl2
    have hmem : l.getD i ([], []) ∈ l := getD_mem hl2
    have hmz := sumF_mem hmem
    generalize hf : l.getD i ([], []) = f at *
    simp (maxSteps := 4000000) only [vm, vl, Arg.get, cells, stor, boundO, resultsV, resV, partK, loadV, Vm.part, fillC, splice, reduceIte, reduceCtorEq, Nat.reduceEqDiff, Nat.reduceAdd, Nat.reduceSub, Nat.reduceMul, Nat.reduceLeDiff, ne_eq, not_false_eq_true, Int.reduceEq, Int.reduceLT, Int.reduceLE, Int.reduceNeg, Int.reduceToNat, Int.reduceGT, Int.reduceGE, Nat.reduceLT, Nat.lt_add_one, Nat.zero_lt_succ, Nat.succ_pos, Nat.zero_le, beq_self_eq_true, k_gatepostref04_Get_0, k_gatepostref04_Get_2, k_gatepostref04_Get_3, k_gatepostref04_Get_1, e0, e1, e6, e7, e8, l1, hl1, i1, a1, fldV]
    refine Cf.pu (rSame_ok (hln f hmem) hn) fun t1 => ?_
    cases hp : (low f.1 == low name) with
    | false =>
      have hv : valsOf (l.take (i + 1)) name = valsOf (l.take i) name := by simp [valsOf, htk, hp]
      simp (maxSteps := 4000000) only [vm, vl, Arg.get, cells, stor, boundO, resultsV, resV, partK, loadV, Vm.part, fillC, splice, reduceIte, reduceCtorEq, Nat.reduceEqDiff, Nat.reduceAdd, Nat.reduceSub, Nat.reduceMul, Nat.reduceLeDiff, ne_eq, not_false_eq_true, Int.reduceEq, Int.reduceLT, Int.reduceLE, Int.reduceNeg, Int.reduceToNat, Int.reduceGT, Int.reduceGE, Nat.reduceLT, Nat.lt_add_one, Nat.zero_lt_succ, Nat.succ_pos, Nat.zero_le, beq_self_eq_true, k_gatepostref04_Get_0, k_gatepostref04_Get_2, k_gatepostref04_Get_3, k_gatepostref04_Get_1, i1, a1, w]
      exact ⟨l.length - (i + 1), by omega, i + 1, rfl, hl2, by rw [hv], by rw [hv], rfl, _, rfl⟩
    | true =>
      have hv : valsOf (l.take (i + 1)) name = valsOf (l.take i) name ++ [f.2] := by simp [valsOf, htk, hp]
      have hjs := joinS_snoc (valsOf (l.take i) name) f.2
      rw [← hv] at hjs
      have hc : (valsOf (l.take (i + 1)) name).length = (valsOf (l.take i) name).length + 1 := by rw [hv]; simp
      generalize valsOf (l.take i) name = vs at *
      have w2 := wrap64 (x := (vs.length : Int) + 1) (by omega) (by omega)
      by_cases hz : vs = []
      · subst hz
        have a2 : binV .add (.str (joinS [])) (.str f.2) = some (.str f.2) := by rw [join_none]; exact bin_sadd (by simp; omega)
        have z : ¬ (((([] : List Bs).length : Nat) : Int) > 0) := by simp
        rw [if_pos rfl] at hjs
        simp (maxSteps := 4000000) only [vm, vl, Arg.get, cells, stor, boundO, resultsV, resV, partK, loadV, Vm.part, fillC, splice, reduceIte, reduceCtorEq, Nat.reduceEqDiff, Nat.reduceAdd, Nat.reduceSub, Nat.reduceMul, Nat.reduceLeDiff, ne_eq, not_false_eq_true, Int.reduceEq, Int.reduceLT, Int.reduceLE, Int.reduceNeg, Int.reduceToNat, Int.reduceGT, Int.reduceGE, Nat.reduceLT, Nat.lt_add_one, Nat.zero_lt_succ, Nat.succ_pos, Nat.zero_le, beq_self_eq_true, k_gatepostref04_Get_0, k_gatepostref04_Get_2, k_gatepostref04_Get_3, k_gatepostref04_Get_1, i1, a1, fldV, w, z, a2, w2]
        exact ⟨l.length - (i + 1), by omega, i + 1, rfl, hl2, by rw [hjs], by rw [hc]; rfl, rfl, _, rfl⟩
      · have hpos : 0 < vs.length := List.length_pos_iff.2 hz
        have z : ((vs.length : Int) > 0) := by omega
        have a2 : binV .add (.str (joinS vs)) (.str [44, 32]) = some (.str (joinS vs ++ [44, 32])) := bin_sadd (by simp; omega)
        have a3 : binV .add (.str (joinS vs ++ [44, 32])) (.str f.2) = some (.str (joinS vs ++ [44, 32] ++ f.2)) := bin_sadd (by simp; omega)
        rw [if_neg hz] at hjs
        simp (maxSteps := 4000000) only [vm, vl, Arg.get, cells, stor, boundO, resultsV, resV, partK, loadV, Vm.part, fillC, splice, reduceIte, reduceCtorEq, Nat.reduceEqDiff, Nat.reduceAdd, Nat.reduceSub, Nat.reduceMul, Nat.reduceLeDiff, ne_eq, not_false_eq_true, Int.reduceEq, Int.reduceLT, Int.reduceLE, Int.reduceNeg, Int.reduceToNat, Int.reduceGT, Int.reduceGE, Nat.reduceLT, Nat.lt_add_one, Nat.zero_lt_succ, Nat.succ_pos, Nat.zero_le, beq_self_eq_true, k_gatepostref04_Get_0, k_gatepostref04_Get_2, k_gatepostref04_Get_3, k_gatepostref04_Get_1, i1, a1, fldV, w, z, a2, a3, w2]
        exact ⟨l.length - (i + 1), by omega, i + 1, rfl, hl2, by rw [hjs]; simp, by rw [hc]; rfl, rfl, _, rfl⟩
end Go.Proofs.YtgplldjcopfjpaaDoor.Vh
end
section
set_option linter.unusedVariables false
set_option linter.unusedSimpArgs false
namespace Go.Proofs.YtgplldjcopfjpaaDoor.Vh
open Go.Vm Go.Vt
attribute [local congr] wi_congr wg_congr wgd_congr wb_congr wl_congr cf_congr
variable {L : FuncId → List V → V → Prop} {h : Heap}
def nCC : Bs := [67, 97, 99, 104, 101, 45, 67, 111, 110, 116, 114, 111, 108]
def nPr : Bs := [80, 114, 97, 103, 109, 97]
def nNC : Bs := [110, 111, 45, 99, 97, 99, 104, 101]
def setB (c : Ct) (i : Nat) (b : Bool) : Ct := ⟨fun k => if k = i then b else c.f k, c.n⟩
def pragB (s : Bs) : Bool := match split (low s) with
  | none => false
  | some l => l.contains nNC
def ofC (l : List Fld) : Ct := if 0 < (valsOf l nCC).length then (parseC (joinS (valsOf l nCC))).1 else setB ct0 1 (pragB (joinS (valsOf l nPr)))
theorem vals_name {l : List Fld} {a b : Bs} (h : low a = low b) : valsOf l a = valsOf l b := by unfold valsOf; rw [h]
/-! A text in a list. -/
theorem sIndex_ok {x : V} {l : List Bs} {y : Bs} (hx : ListV 1 x (strs l)) (hl : l.length < 9223372036854775807) :
    Cf F L i_slices_Index___string_string_ [x, .str y] h (fun v h' => (∃ t, h' = h ++ t) ∧ ∃ n : Int, v = .int .i64 n ∧ (decide (n ≥ 0) = l.contains y)) := by
  refine run_slices_Index___string_string_ ?_
  simp only [p_slices_Index___string_string_]
  have l1 := fun {K : V → Heap → Prop} {h : Heap} => hx.len (F := F) (L := L) (e := E0) (K := K) (h := h)
  simp only [strs_len] at l1
  simp (maxSteps := 4000000) only [vm, vl, Arg.get, cells, stor, boundO, resultsV, resV, partK, loadV, Vm.part, fillC, splice, reduceIte, reduceCtorEq, Nat.reduceEqDiff, Nat.reduceAdd, Nat.reduceSub, Nat.reduceMul, Nat.reduceLeDiff, ne_eq, not_false_eq_true, Int.reduceEq, Int.reduceLT, Int.reduceLE, Int.reduceNeg, Int.reduceToNat, Int.reduceGT, Int.reduceGE, Nat.reduceLT, Nat.lt_add_one, Nat.zero_lt_succ, Nat.succ_pos, Nat.zero_le, beq_self_eq_true, k_slices_Index___string_string__0, k_slices_Index___string_string__2, k_slices_Index___string_string__1, l1]
  refine l_slices_Index___string_string__0 (fun n e h' => ∃ i : Nat, n = l.length - i ∧ i ≤ l.length ∧ e 0 = x ∧ e 1 = .str y ∧ e 7 = .int .i64 l.length ∧ e 8 = .int .i64 i ∧ h' = h ∧ l.contains y = (l.drop i).contains y) ?_ (n := l.length) ⟨0, by simp, by simp, rfl, rfl, rfl, rfl, rfl, rfl⟩
  rintro n e h' ⟨i, rfl, hi, e0, e1, e7, e8, rfl, hc⟩
  simp only [b_slices_Index___string_string__0]
  rcases list_at' [] hi with ⟨hn, rfl, hd⟩ | ⟨hl1, hl2, hd, _⟩
  · rw [hd] at hc
    simp (maxSteps := 4000000) only [vm, vl, Arg.get, cells, stor, boundO, resultsV, resV, partK, loadV, Vm.part, fillC, splice, reduceIte, reduceCtorEq, Nat.reduceEqDiff, Nat.reduceAdd, Nat.reduceSub, Nat.reduceMul, Nat.reduceLeDiff, ne_eq, not_false_eq_true, Int.reduceEq, Int.reduceLT, Int.reduceLE, Int.reduceNeg, Int.reduceToNat, Int.reduceGT, Int.reduceGE, Nat.reduceLT, Nat.lt_add_one, Nat.zero_lt_succ, Nat.succ_pos, Nat.zero_le, beq_self_eq_true, k_slices_Index___string_string__0, k_slices_Index___string_string__2, k_slices_Index___string_string__1, e7, e8, hn]
    exact ⟨⟨[], by simp⟩, -1, rfl, by rw [hc]; rfl⟩
  · obtain ⟨o, rfl⟩ : ∃ o, x = .sl 1 o (strs l) := by
      rcases hx with ⟨he, _⟩ | h
      · have := strs_len l
        rw [he] at this
        simp at this
        omega
      · exact h
    have hsl : i < (strs l).length := by rw [strs_len]; exact hl2
    have hi0 : (0 : Int) ≤ (i : Int) := by omega
    have g : (strs l).getD i (.tup []) = .str (l.getD i []) := by
      unfold strs
      rw [List.getD_eq_getElem?_getD, List.getD_eq_getElem?_getD, List.getElem?_map, List.getElem?_eq_getElem hl2]; rfl
    have w := wrap64 (x := (i : Int) + 1) (by omega) (by omega)
    rw [hd, List.contains_cons] at hc
    generalize l.getD i [] = z at *
    cases hz : (y == z) with
    | true =>
      rw [hz, Bool.true_or] at hc
      simp (maxSteps := 4000000) only [vm, vl, Arg.get, cells, stor, boundO, resultsV, resV, partK, loadV, Vm.part, fillC, splice, reduceIte, reduceCtorEq, Nat.reduceEqDiff, Nat.reduceAdd, Nat.reduceSub, Nat.reduceMul, Nat.reduceLeDiff, ne_eq, not_false_eq_true, Int.reduceEq, Int.reduceLT, Int.reduceLE, Int.reduceNeg, Int.reduceToNat, Int.reduceGT, Int.reduceGE, Nat.reduceLT, Nat.lt_add_one, Nat.zero_lt_succ, Nat.succ_pos, Nat.zero_le, beq_self_eq_true, k_slices_Index___string_string__0, k_slices_Index___string_string__2, k_slices_Index___string_string__1, e0, e1, e7, e8, hl1, hsl, hi0, g, hz]
      exact ⟨⟨[], by simp⟩, i, rfl, by rw [hc]; simp⟩
    | false =>
      rw [hz, Bool.false_or] at hc
      simp (maxSteps := 4000000) only [vm, vl, Arg.get, cells, stor, boundO, resultsV, resV, partK, loadV, Vm.part, fillC, splice, reduceIte, reduceCtorEq, Nat.reduceEqDiff, Nat.reduceAdd, Nat.reduceSub, Nat.reduceMul, Nat.reduceLeDiff, ne_eq, not_false_eq_true, Int.reduceEq, Int.reduceLT, Int.reduceLE, Int.reduceNeg, Int.reduceToNat, Int.reduceGT, Int.reduceGE, Nat.reduceLT, Nat.lt_add_one, Nat.zero_lt_succ, Nat.succ_pos, Nat.zero_le, beq_self_eq_true, k_slices_Index___string_string__0, k_slices_Index___string_string__2, k_slices_Index___string_string__1, e0, e1, e7, e8, hl1, hsl, hi0, g, hz, w]
      exact ⟨l.length - (i + 1), by omega, i + 1, rfl, hl2, rfl, hc⟩
theorem sContains_ok {x : V} {l : List Bs} {y : Bs} (hx : ListV 1 x (strs l)) (hl : l.length < 9223372036854775807) : Cf F L i_slices_Contains___string_string_ [x, .str y] h (Pu h (.bool (l.contains y))) := by
  refine run_slices_Contains___string_string_ ?_
  simp only [p_slices_Contains___string_string_]
  simp (maxSteps := 4000000) only [vm, vl, Arg.get, cells, stor, boundO, resultsV, resV, partK, loadV, Vm.part, fillC, splice, reduceIte, reduceCtorEq, Nat.reduceEqDiff, Nat.reduceAdd, Nat.reduceSub, Nat.reduceMul, Nat.reduceLeDiff, ne_eq, not_false_eq_true, Int.reduceEq, Int.reduceLT, Int.reduceLE, Int.reduceNeg, Int.reduceToNat, Int.reduceGT, Int.reduceGE, Nat.reduceLT, Nat.lt_add_one, Nat.zero_lt_succ, Nat.succ_pos, Nat.zero_le, beq_self_eq_true]
  refine (sIndex_ok hx hl).mono fun v h' hv => ?_
  obtain ⟨⟨t, rfl⟩, n, rfl, hn⟩ := hv
  simp (maxSteps := 4000000) only [vm, vl, Arg.get, cells, stor, boundO, resultsV, resV, partK, loadV, Vm.part, fillC, splice, reduceIte, reduceCtorEq, Nat.reduceEqDiff, Nat.reduceAdd, Nat.reduceSub, Nat.reduceMul, Nat.reduceLeDiff, ne_eq, not_false_eq_true, Int.reduceEq, Int.reduceLT, Int.reduceLE, Int.reduceNeg, Int.reduceToNat, Int.reduceGT, Int.reduceGE, Nat.reduceLT, Nat.lt_add_one, Nat.zero_lt_succ, Nat.succ_pos, Nat.zero_le, beq_self_eq_true]
  exact hn
theorem split_small {s : Bs} {l : List Bs} (h : split s = some l) : l.length ≤ s.length + 1 := by
  have := splitG_len (Nat.le_refl _) (show splitG s [] false [] = some l from h)
  simpa using this
theorem Of_ok (HJ : JoinOk L) (HI : IndexOk L) (HU : UnqOk L) {x : V} {l : List Fld} (hx : ListV 2 x (flds l)) (hl : l.length < 100000) (hln : ∀ f ∈ l, f.1.length ≤ 140737488355328) (hsm : sumF l < 100000) :
    Cf F L i_control_Of [x] h (Pu h (.agg (ctV (ofC l)))) := by
  refine run_control_Of ?_
  simp only [p_control_Of]
  
  simp (maxSteps := 4000000) only [vm, vl, Arg.get, cells, stor, boundO, resultsV, resV, partK, loadV, Vm.part, fillC, splice, reduceIte, reduceCtorEq, Nat.reduceEqDiff, Nat.reduceAdd, Nat.reduceSub, Nat.reduceMul, Nat.reduceLeDiff, ne_eq, not_false_eq_true, Int.reduceEq, Int.reduceLT, Int.reduceLE, Int.reduceNeg, Int.reduceToNat, Int.reduceGT, Int.reduceGE, Nat.reduceLT, Nat.lt_add_one, Nat.zero_lt_succ, Nat.succ_pos, Nat.zero_le, beq_self_eq_true]
  have j1 := vals_join l nCC
  have j2 := vals_join l nPr
  refine Cf.pu (Get_ok HJ (name := nCC) hx (by omega) hln (by decide) (by omega)) fun u1 => ?_
  have c1 := vals_len l nCC
  unfold ofC
  by_cases h0 : 0 < (valsOf l nCC).length
  · have h0' : ((valsOf l nCC).length : Int) > 0 := by omega
    rw [if_pos h0]
    simp (maxSteps := 4000000) only [vm, vl, Arg.get, cells, stor, boundO, resultsV, resV, partK, loadV, Vm.part, fillC, splice, reduceIte, reduceCtorEq, Nat.reduceEqDiff, Nat.reduceAdd, Nat.reduceSub, Nat.reduceMul, Nat.reduceLeDiff, ne_eq, not_false_eq_true, Int.reduceEq, Int.reduceLT, Int.reduceLE, Int.reduceNeg, Int.reduceToNat, Int.reduceGT, Int.reduceGE, Nat.reduceLT, Nat.lt_add_one, Nat.zero_lt_succ, Nat.succ_pos, Nat.zero_le, beq_self_eq_true, getV, h0', decide_true]
    refine Cf.pu (Parse_ok HI HU (by omega)) fun u2 => ?_
    have hc13 := ctV_len (parseC (joinS (valsOf l nCC))).1
    have ht13 : List.take 13 (ctV (parseC (joinS (valsOf l nCC))).1) = ctV (parseC (joinS (valsOf l nCC))).1 := rfl
    unfold k_control_Of_3
    simp (maxSteps := 4000000) only [vm, vl, Arg.get, cells, stor, boundO, resultsV, resV, partK, loadV, Vm.part, fillC, splice, reduceIte, reduceCtorEq, Nat.reduceEqDiff, Nat.reduceAdd, Nat.reduceSub, Nat.reduceMul, Nat.reduceLeDiff, ne_eq, not_false_eq_true, Int.reduceEq, Int.reduceLT, Int.reduceLE, Int.reduceNeg, Int.reduceToNat, Int.reduceGT, Int.reduceGE, Nat.reduceLT, Nat.lt_add_one, Nat.zero_lt_succ, Nat.succ_pos, Nat.zero_le, beq_self_eq_true, parseCV, hc13, ht13, List.append_nil]
  · have h0' : ¬ ((valsOf l nCC).length : Int) > 0 := by omega
    rw [if_neg h0]
    simp (maxSteps := 4000000) only [vm, vl, Arg.get, cells, stor, boundO, resultsV, resV, partK, loadV, Vm.part, fillC, splice, reduceIte, reduceCtorEq, Nat.reduceEqDiff, Nat.reduceAdd, Nat.reduceSub, Nat.reduceMul, Nat.reduceLeDiff, ne_eq, not_false_eq_true, Int.reduceEq, Int.reduceLT, Int.reduceLE, Int.reduceNeg, Int.reduceToNat, Int.reduceGT, Int.reduceGE, Nat.reduceLT, Nat.lt_add_one, Nat.zero_lt_succ, Nat.succ_pos, Nat.zero_le, beq_self_eq_true, getV, h0', decide_false]
    unfold k_control_Of_0
    simp (maxSteps := 4000000) only [vm, vl, Arg.get, cells, stor, boundO, resultsV, resV, partK, loadV, Vm.part, fillC, splice, reduceIte, reduceCtorEq, Nat.reduceEqDiff, Nat.reduceAdd, Nat.reduceSub, Nat.reduceMul, Nat.reduceLeDiff, ne_eq, not_false_eq_true, Int.reduceEq, Int.reduceLT, Int.reduceLE, Int.reduceNeg, Int.reduceToNat, Int.reduceGT, Int.reduceGE, Nat.reduceLT, Nat.lt_add_one, Nat.zero_lt_succ, Nat.succ_pos, Nat.zero_le, beq_self_eq_true]
    refine (nothing_ok).mono fun v h' hv => ?_
    obtain ⟨rfl, rfl⟩ := hv
    unfold k_control_Of_2
    have hc13 := ctV_len ct0
    have hd13 : List.drop 13 (ctV ct0) = [] := rfl
    simp (maxSteps := 4000000) only [vm, vl, Arg.get, cells, stor, boundO, resultsV, resV, partK, loadV, Vm.part, fillC, splice, reduceIte, reduceCtorEq, Nat.reduceEqDiff, Nat.reduceAdd, Nat.reduceSub, Nat.reduceMul, Nat.reduceLeDiff, ne_eq, not_false_eq_true, Int.reduceEq, Int.reduceLT, Int.reduceLE, Int.reduceNeg, Int.reduceToNat, Int.reduceGT, Int.reduceGE, Nat.reduceLT, Nat.lt_add_one, Nat.zero_lt_succ, Nat.succ_pos, Nat.zero_le, beq_self_eq_true, hc13]
    refine Cf.pu (Get_ok HJ (name := nPr) hx (by omega) hln (by decide) (by omega)) fun u3 => ?_
    simp (maxSteps := 4000000) only [vm, vl, Arg.get, cells, stor, boundO, resultsV, resV, partK, loadV, Vm.part, fillC, splice, reduceIte, reduceCtorEq, Nat.reduceEqDiff, Nat.reduceAdd, Nat.reduceSub, Nat.reduceMul, Nat.reduceLeDiff, ne_eq, not_false_eq_true, Int.reduceEq, Int.reduceLT, Int.reduceLE, Int.reduceNeg, Int.reduceToNat, Int.reduceGT, Int.reduceGE, Nat.reduceLT, Nat.lt_add_one, Nat.zero_lt_succ, Nat.succ_pos, Nat.zero_le, beq_self_eq_true, getV]
    refine Cf.pu (Lower_ok (by omega)) fun u4 => ?_
    have hll : (low (joinS (valsOf l nPr))).length < 8000000000 := by rw [low_length]; omega
    have hpr : pragB (joinS (valsOf l nPr)) = match split (low (joinS (valsOf l nPr))) with
      | none => false
      | some l => l.contains nNC := rfl
    rw [hpr]
    simp (maxSteps := 4000000) only [vm, vl, Arg.get, cells, stor, boundO, resultsV, resV, partK, loadV, Vm.part, fillC, splice, reduceIte, reduceCtorEq, Nat.reduceEqDiff, Nat.reduceAdd, Nat.reduceSub, Nat.reduceMul, Nat.reduceLeDiff, ne_eq, not_false_eq_true, Int.reduceEq, Int.reduceLT, Int.reduceLE, Int.reduceNeg, Int.reduceToNat, Int.reduceGT, Int.reduceGE, Nat.reduceLT, Nat.lt_add_one, Nat.zero_lt_succ, Nat.succ_pos, Nat.zero_le, beq_self_eq_true]
    refine Cf.pu (Split_ok hll) fun u5 => ?_
    unfold k_control_Of_1
    cases hsp : split (low (joinS (valsOf l nPr))) with
    | none =>
      simp only [splitV]
      simp (maxSteps := 4000000) only [vm, vl, Arg.get, cells, stor, boundO, resultsV, resV, partK, loadV, Vm.part, fillC, splice, reduceIte, reduceCtorEq, Nat.reduceEqDiff, Nat.reduceAdd, Nat.reduceSub, Nat.reduceMul, Nat.reduceLeDiff, ne_eq, not_false_eq_true, Int.reduceEq, Int.reduceLT, Int.reduceLE, Int.reduceNeg, Int.reduceToNat, Int.reduceGT, Int.reduceGE, Nat.reduceLT, Nat.lt_add_one, Nat.zero_lt_succ, Nat.succ_pos, Nat.zero_le, beq_self_eq_true, ctV]
      rfl
    | some ws =>
      simp only [splitV]
      have := split_small hsp
      simp (maxSteps := 4000000) only [vm, vl, Arg.get, cells, stor, boundO, resultsV, resV, partK, loadV, Vm.part, fillC, splice, reduceIte, reduceCtorEq, Nat.reduceEqDiff, Nat.reduceAdd, Nat.reduceSub, Nat.reduceMul, Nat.reduceLeDiff, ne_eq, not_false_eq_true, Int.reduceEq, Int.reduceLT, Int.reduceLE, Int.reduceNeg, Int.reduceToNat, Int.reduceGT, Int.reduceGE, Nat.reduceLT, Nat.lt_add_one, Nat.zero_lt_succ, Nat.succ_pos, Nat.zero_le, beq_self_eq_true]
      refine Cf.pu (sContains_ok (full_list ws) (by omega)) fun u6 => ?_
      rw [show nNC = ([110, 111, 45, 99, 97, 99, 104, 101] : Bs) from rfl]
      generalize ws.contains [110, 111, 45, 99, 97, 99, 104, 101] = bb
      simp (maxSteps := 4000000) only [vm, vl, Arg.get, cells, stor, boundO, resultsV, resV, partK, loadV, Vm.part, fillC, splice, reduceIte, reduceCtorEq, Nat.reduceEqDiff, Nat.reduceAdd, Nat.reduceSub, Nat.reduceMul, Nat.reduceLeDiff, ne_eq, not_false_eq_true, Int.reduceEq, Int.reduceLT, Int.reduceLE, Int.reduceNeg, Int.reduceToNat, Int.reduceGT, Int.reduceGE, Nat.reduceLT, Nat.lt_add_one, Nat.zero_lt_succ, Nat.succ_pos, Nat.zero_le, beq_self_eq_true, ctV]
      rfl
theorem rOf_loop {x : V} {ws : List Bs} {F1 : Bool} {R A : O} {cs : List V} {u t : Heap} {e : Env} {ok : Bool} (hx : ListV 1 x (strs ws)) (hl : ws.length < 2000000000) (hok : ok = true ∨ ws = []) (hF : F1 = ws.contains nNC) (hR : R = .box cs) (hcs : cs.length = 13)
    (e2 : e 2 = .ptr h.length 0) (e7 : e 7 = .ptr (h.length + (u.length + 2)) 0) (e8 : e 8 = x) (e9 : e 9 = .bool ok) (e10 : e 10 = .int .i64 0) :
    Wl F L lc_gatepostref08_Of_0 (q_gatepostref08_Of_0 L (Pu h (V.agg (ctV (setB ct0 1 F1))))) e (h ++ (R :: (u ++ A :: O.box (ctV ct0) :: t))) := by
  subst hR
  refine l_gatepostref08_Of_0 (fun n e h' => ∃ (i : Nat) (b : Bool), n = ws.length - i ∧ i ≤ ws.length ∧ e 2 = .ptr h.length 0 ∧ e 7 = .ptr (h.length + (u.length + 2)) 0 ∧ e 8 = x ∧ e 9 = .bool ok ∧ e 10 = .int .i64 i ∧
      h' = h ++ (.box cs :: (u ++ A :: O.box (ctV (setB ct0 1 b)) :: t)) ∧ F1 = (b || (ws.drop i).contains nNC)) ?_ (n := ws.length) ⟨0, false, by simp, by simp, e2, e7, e8, e9, e10, rfl, by rw [hF]; simp⟩
  clear e2 e7 e8 e9 e10 hF
  rintro n e h' ⟨i, b, rfl, hi, e2, e7, e8, e9, e10, rfl, hF⟩
  simp only [b_gatepostref08_Of_0]
  
  have l1 := fun {K : V → Heap → Prop} {h : Heap} => hx.len (F := F) (L := L) (e := E0) (K := K) (h := h)
  simp only [strs_len] at l1
  have hg : (h ++ (O.box cs :: (u ++ A :: O.box (ctV (setB ct0 1 b)) :: t)))[h.length + (u.length + 2)]? = some (.box (ctV (setB ct0 1 b))) := by
    rw [get_new, show u.length + 2 = (u.length + 1) + 1 from rfl, List.getElem?_cons_succ, List.getElem?_append_right (by omega)]
    rw [show u.length + 1 - u.length = 1 by omega]; rfl
  have hg2 : (h ++ (O.box cs :: (u ++ A :: O.box (ctV (setB ct0 1 b)) :: t)))[h.length]? = some (.box cs) := by
    rw [List.getElem?_append_right (Nat.le_refl _), Nat.sub_self]; rfl
  rcases list_at' [] hi with ⟨hn, rfl, hd⟩ | ⟨hl1, hl2, hd, _⟩
  · rw [hd] at hF
    have hF' : F1 = b := by rw [hF]; simp
    subst hF'
    have hcs1 : List.drop 13 cs = [] := List.drop_eq_nil_of_le (by omega)
    have hc13 := ctV_len (setB ct0 1 F1)
    have ht13 : List.take 13 (ctV (setB ct0 1 F1)) = ctV (setB ct0 1 F1) := rfl
    simp (maxSteps := 4000000) only [vm, vl, Arg.get, cells, stor, boundO, resultsV, resV, partK, loadV, Vm.part, fillC, splice, reduceIte, reduceCtorEq, Nat.reduceEqDiff, Nat.reduceAdd, Nat.reduceSub, Nat.reduceMul, Nat.reduceLeDiff, ne_eq, not_false_eq_true, Int.reduceEq, Int.reduceLT, Int.reduceLE, Int.reduceNeg, Int.reduceToNat, Int.reduceGT, Int.reduceGE, Nat.reduceLT, Nat.lt_add_one, Nat.zero_lt_succ, Nat.succ_pos, Nat.zero_le, beq_self_eq_true, e2, e7, e8, e10, l1, hn]
    unfold k_gatepostref08_Of_1
    simp (maxSteps := 4000000) only [vm, vl, Arg.get, cells, stor, boundO, resultsV, resV, partK, loadV, Vm.part, fillC, splice, reduceIte, reduceCtorEq, Nat.reduceEqDiff, Nat.reduceAdd, Nat.reduceSub, Nat.reduceMul, Nat.reduceLeDiff, ne_eq, not_false_eq_true, Int.reduceEq, Int.reduceLT, Int.reduceLE, Int.reduceNeg, Int.reduceToNat, Int.reduceGT, Int.reduceGE, Nat.reduceLT, Nat.lt_add_one, Nat.zero_lt_succ, Nat.succ_pos, Nat.zero_le, beq_self_eq_true, hg, hcs, hc13, ht13, hcs1, List.append_nil]
  · have hok : ok = true := hok.resolve_right (by rintro rfl; simp at hl2)
    subst hok
    obtain ⟨o, rfl⟩ : ∃ o, x = .sl 1 o (strs ws) := by
      rcases hx with ⟨he, _⟩ | h
      · have := strs_len ws
        rw [he] at this
        simp at this
        omega
      · exact h
    have hsl : i < (strs ws).length := by rw [strs_len]; exact hl2
    have hsl0 := strs_len ws
    have hi0 : (0 : Int) ≤ (i : Int) := by omega
    have g : (strs ws).getD i (.tup []) = .str (ws.getD i []) := by
      unfold strs
      rw [List.getD_eq_getElem?_getD, List.getD_eq_getElem?_getD, List.getElem?_map, List.getElem?_eq_getElem hl2]; rfl
    have w := wrap64 (x := (i : Int) + 1) (by omega) (by omega)
    rw [hd, List.contains_cons] at hF
    generalize ws.getD i [] = z at *
    have hz0 : (z == [110, 111, 45, 99, 97, 99, 104, 101]) = (nNC == z) := by
      rw [Bool.eq_iff_iff, beq_iff_eq, beq_iff_eq]; exact eq_comm
    simp (maxSteps := 4000000) only [vm, vl, Arg.get, cells, stor, boundO, resultsV, resV, partK, loadV, Vm.part, fillC, splice, reduceIte, reduceCtorEq, Nat.reduceEqDiff, Nat.reduceAdd, Nat.reduceSub, Nat.reduceMul, Nat.reduceLeDiff, ne_eq, not_false_eq_true, Int.reduceEq, Int.reduceLT, Int.reduceLE, Int.reduceNeg, Int.reduceToNat, Int.reduceGT, Int.reduceGE, Nat.reduceLT, Nat.lt_add_one, Nat.zero_lt_succ, Nat.succ_pos, Nat.zero_le, beq_self_eq_true, e2, e7, e8, e10, hsl0, hl1]
    unfold k_gatepostref08_Of_2
    cases hz : (nNC == z) with
    | true =>
      rw [hz] at hz0 hF
      have hF' : F1 = true := by rw [hF]; simp
      have hset : (h ++ (O.box cs :: (u ++ A :: O.box (ctV (setB ct0 1 b)) :: t))).set (h.length + (u.length + 2)) (.box (ctV (setB ct0 1 true))) = h ++ (O.box cs :: (u ++ A :: O.box (ctV (setB ct0 1 true)) :: t)) := by
        rw [set_new, show u.length + 2 = (u.length + 1) + 1 from rfl, List.set_cons_succ, List.set_append_right _ _ (by omega)]
        rw [show u.length + 1 - u.length = 1 by omega]; rfl
      have hc13 := ctV_len (setB ct0 1 b)
      have hput : List.take 1 (ctV (setB ct0 1 b)) ++ V.bool true :: List.drop 2 (ctV (setB ct0 1 b)) = ctV (setB ct0 1 true) := rfl
      simp (maxSteps := 4000000) only [vm, vl, Arg.get, cells, stor, boundO, resultsV, resV, partK, loadV, Vm.part, fillC, splice, reduceIte, reduceCtorEq, Nat.reduceEqDiff, Nat.reduceAdd, Nat.reduceSub, Nat.reduceMul, Nat.reduceLeDiff, ne_eq, not_false_eq_true, Int.reduceEq, Int.reduceLT, Int.reduceLE, Int.reduceNeg, Int.reduceToNat, Int.reduceGT, Int.reduceGE, Nat.reduceLT, Nat.lt_add_one, Nat.zero_lt_succ, Nat.succ_pos, Nat.zero_le, beq_self_eq_true, e9, hsl, hi0, g, hz0, hg, hc13, hput, hset, k_gatepostref08_Of_3, w]
      exact ⟨ws.length - (i + 1), by omega, i + 1, true, rfl, hl2, e2, e7, e8, rfl, rfl, by rw [hF']; rfl⟩
    | false =>
      rw [hz] at hz0 hF
      simp (maxSteps := 4000000) only [vm, vl, Arg.get, cells, stor, boundO, resultsV, resV, partK, loadV, Vm.part, fillC, splice, reduceIte, reduceCtorEq, Nat.reduceEqDiff, Nat.reduceAdd, Nat.reduceSub, Nat.reduceMul, Nat.reduceLeDiff, ne_eq, not_false_eq_true, Int.reduceEq, Int.reduceLT, Int.reduceLE, Int.reduceNeg, Int.reduceToNat, Int.reduceGT, Int.reduceGE, Nat.reduceLT, Nat.lt_add_one, Nat.zero_lt_succ, Nat.succ_pos, Nat.zero_le, beq_self_eq_true, e9, hsl, hi0, g, hz0, k_gatepostref08_Of_3, w]
      exact ⟨ws.length - (i + 1), by omega, i + 1, b, rfl, hl2, e2, e7, e8, rfl, rfl, by rw [hF, Bool.false_or]⟩
theorem rCOf_ok {x : V} {l : List Fld} (hx : ListV 2 x (flds l)) (hl : l.length < 100000) (hln : ∀ f ∈ l, f.1.length ≤ 140737488355328) (hsm : sumF l < 100000) :
    Cf F L i_gatepostref08_Of [x] h (Pu h (.agg (ctV (ofC l)))) := by
  refine run_gatepostref08_Of ?_
  simp only [p_gatepostref08_Of]
  
  simp (maxSteps := 4000000) only [vm, vl, Arg.get, cells, stor, boundO, resultsV, resV, partK, loadV, Vm.part, fillC, splice, reduceIte, reduceCtorEq, Nat.reduceEqDiff, Nat.reduceAdd, Nat.reduceSub, Nat.reduceMul, Nat.reduceLeDiff, ne_eq, not_false_eq_true, Int.reduceEq, Int.reduceLT, Int.reduceLE, Int.reduceNeg, Int.reduceToNat, Int.reduceGT, Int.reduceGE, Nat.reduceLT, Nat.lt_add_one, Nat.zero_lt_succ, Nat.succ_pos, Nat.zero_le, beq_self_eq_true]
  have n1 : low nCC = low [99, 97, 99, 104, 101, 45, 99, 111, 110, 116, 114, 111, 108] := by decide +kernel
  have n2 : low nPr = low [112, 114, 97, 103, 109, 97] := by decide +kernel
  have j1 := vals_join l nCC
  have j2 := vals_join l nPr
  have c1 := vals_len l nCC
  unfold ofC
  rw [vals_name n1] at j1 c1 ⊢
  rw [vals_name n2] at j2 ⊢
  refine Cf.pu (rGet_ok hx hl hln (by simp) hsm) fun u1 => ?_
  unfold k_gatepostref08_Of_7
  generalize hv1 : valsOf l [99, 97, 99, 104, 101, 45, 99, 111, 110, 116, 114, 111, 108] = W at *
  by_cases h0 : 0 < W.length
  · have h0' : (W.length : Int) > 0 := by omega
    rw [if_pos h0]
    simp (maxSteps := 4000000) only [vm, vl, Arg.get, cells, stor, boundO, resultsV, resV, partK, loadV, Vm.part, fillC, splice, reduceIte, reduceCtorEq, Nat.reduceEqDiff, Nat.reduceAdd, Nat.reduceSub, Nat.reduceMul, Nat.reduceLeDiff, ne_eq, not_false_eq_true, Int.reduceEq, Int.reduceLT, Int.reduceLE, Int.reduceNeg, Int.reduceToNat, Int.reduceGT, Int.reduceGE, Nat.reduceLT, Nat.lt_add_one, Nat.zero_lt_succ, Nat.succ_pos, Nat.zero_le, beq_self_eq_true, getV, hv1, h0', decide_true]
    refine Cf.pu (rCParse_ok (by omega)) fun u2 => ?_
    have hc13 := ctV_len (parseC (joinS W)).1
    have ht13 : List.take 13 (ctV (parseC (joinS W)).1) = ctV (parseC (joinS W)).1 := rfl
    unfold k_gatepostref08_Of_6
    simp (maxSteps := 4000000) only [vm, vl, Arg.get, cells, stor, boundO, resultsV, resV, partK, loadV, Vm.part, fillC, splice, reduceIte, reduceCtorEq, Nat.reduceEqDiff, Nat.reduceAdd, Nat.reduceSub, Nat.reduceMul, Nat.reduceLeDiff, ne_eq, not_false_eq_true, Int.reduceEq, Int.reduceLT, Int.reduceLE, Int.reduceNeg, Int.reduceToNat, Int.reduceGT, Int.reduceGE, Nat.reduceLT, Nat.lt_add_one, Nat.zero_lt_succ, Nat.succ_pos, Nat.zero_le, beq_self_eq_true, parseCV, hc13, ht13, List.append_nil]
  · have h0' : ¬ (W.length : Int) > 0 := by omega
    rw [if_neg h0]
    simp (maxSteps := 4000000) only [vm, vl, Arg.get, cells, stor, boundO, resultsV, resV, partK, loadV, Vm.part, fillC, splice, reduceIte, reduceCtorEq, Nat.reduceEqDiff, Nat.reduceAdd, Nat.reduceSub, Nat.reduceMul, Nat.reduceLeDiff, ne_eq, not_false_eq_true, Int.reduceEq, Int.reduceLT, Int.reduceLE, Int.reduceNeg, Int.reduceToNat, Int.reduceGT, Int.reduceGE, Nat.reduceLT, Nat.lt_add_one, Nat.zero_lt_succ, Nat.succ_pos, Nat.zero_le, beq_self_eq_true, getV, hv1, h0', decide_false]
    unfold k_gatepostref08_Of_0
    simp (maxSteps := 4000000) only [vm, vl, Arg.get, cells, stor, boundO, resultsV, resV, partK, loadV, Vm.part, fillC, splice, reduceIte, reduceCtorEq, Nat.reduceEqDiff, Nat.reduceAdd, Nat.reduceSub, Nat.reduceMul, Nat.reduceLeDiff, ne_eq, not_false_eq_true, Int.reduceEq, Int.reduceLT, Int.reduceLE, Int.reduceNeg, Int.reduceToNat, Int.reduceGT, Int.reduceGE, Nat.reduceLT, Nat.lt_add_one, Nat.zero_lt_succ, Nat.succ_pos, Nat.zero_le, beq_self_eq_true]
    refine (rNone_ok).mono fun v h' hv => ?_
    obtain ⟨rfl, rfl⟩ := hv
    unfold k_gatepostref08_Of_5
    have hc13 := ctV_len ct0
    have hd13 : List.drop 13 (ctV ct0) = [] := rfl
    simp (maxSteps := 4000000) only [vm, vl, Arg.get, cells, stor, boundO, resultsV, resV, partK, loadV, Vm.part, fillC, splice, reduceIte, reduceCtorEq, Nat.reduceEqDiff, Nat.reduceAdd, Nat.reduceSub, Nat.reduceMul, Nat.reduceLeDiff, ne_eq, not_false_eq_true, Int.reduceEq, Int.reduceLT, Int.reduceLE, Int.reduceNeg, Int.reduceToNat, Int.reduceGT, Int.reduceGE, Nat.reduceLT, Nat.lt_add_one, Nat.zero_lt_succ, Nat.succ_pos, Nat.zero_le, beq_self_eq_true, hc13]
    refine Cf.pu (rGet_ok hx hl hln (by simp) hsm) fun u3 => ?_
    simp (maxSteps := 4000000) only [vm, vl, Arg.get, cells, stor, boundO, resultsV, resV, partK, loadV, Vm.part, fillC, splice, reduceIte, reduceCtorEq, Nat.reduceEqDiff, Nat.reduceAdd, Nat.reduceSub, Nat.reduceMul, Nat.reduceLeDiff, ne_eq, not_false_eq_true, Int.reduceEq, Int.reduceLT, Int.reduceLE, Int.reduceNeg, Int.reduceToNat, Int.reduceGT, Int.reduceGE, Nat.reduceLT, Nat.lt_add_one, Nat.zero_lt_succ, Nat.succ_pos, Nat.zero_le, beq_self_eq_true, getV]
    refine Cf.pu (rLower_ok (by omega)) fun u4 => ?_
    generalize hv2 : joinS (valsOf l [112, 114, 97, 103, 109, 97]) = P at *
    have hll : (low P).length < 1000000000 := by rw [low_length]; omega
    unfold k_gatepostref08_Of_4
    simp (maxSteps := 4000000) only [vm, vl, Arg.get, cells, stor, boundO, resultsV, resV, partK, loadV, Vm.part, fillC, splice, reduceIte, reduceCtorEq, Nat.reduceEqDiff, Nat.reduceAdd, Nat.reduceSub, Nat.reduceMul, Nat.reduceLeDiff, ne_eq, not_false_eq_true, Int.reduceEq, Int.reduceLT, Int.reduceLE, Int.reduceNeg, Int.reduceToNat, Int.reduceGT, Int.reduceGE, Nat.reduceLT, Nat.lt_add_one, Nat.zero_lt_succ, Nat.succ_pos, Nat.zero_le, beq_self_eq_true]
    refine (rSplit_ok hll).mono fun v h' hp => ?_
    obtain ⟨⟨u5, rfl⟩, hv⟩ := hp
    have hpr : pragB P = match split (low P) with
      | none => false
      | some l => l.contains nNC := rfl
    rw [hpr]
    rcases hv with ⟨hs, rfl⟩ | ⟨ws, x, hs, rfl, hw⟩
    · rw [hs]
      simp (maxSteps := 4000000) only [vm, vl, Arg.get, cells, stor, boundO, resultsV, resV, partK, loadV, Vm.part, fillC, splice, reduceIte, reduceCtorEq, Nat.reduceEqDiff, Nat.reduceAdd, Nat.reduceSub, Nat.reduceMul, Nat.reduceLeDiff, ne_eq, not_false_eq_true, Int.reduceEq, Int.reduceLT, Int.reduceLE, Int.reduceNeg, Int.reduceToNat, Int.reduceGT, Int.reduceGE, Nat.reduceLT, Nat.lt_add_one, Nat.zero_lt_succ, Nat.succ_pos, Nat.zero_le, beq_self_eq_true]
      exact rOf_loop (ws := []) (.inl ⟨rfl, rfl⟩) (by simp) (.inr rfl) rfl rfl rfl rfl rfl rfl rfl rfl
    · rw [hs]
      have := split_small hs
      simp (maxSteps := 4000000) only [vm, vl, Arg.get, cells, stor, boundO, resultsV, resV, partK, loadV, Vm.part, fillC, splice, reduceIte, reduceCtorEq, Nat.reduceEqDiff, Nat.reduceAdd, Nat.reduceSub, Nat.reduceMul, Nat.reduceLeDiff, ne_eq, not_false_eq_true, Int.reduceEq, Int.reduceLT, Int.reduceLE, Int.reduceNeg, Int.reduceToNat, Int.reduceGT, Int.reduceGE, Nat.reduceLT, Nat.lt_add_one, Nat.zero_lt_succ, Nat.succ_pos, Nat.zero_le, beq_self_eq_true]
      exact rOf_loop (ws := ws) hw (by omega) (.inl rfl) rfl rfl rfl rfl rfl rfl rfl rfl
end Go.Proofs.YtgplldjcopfjpaaDoor.Vh
end
section
set_option linter.unusedVariables false
set_option linter.unusedSimpArgs false
namespace Go.Proofs.YtgplldjcopfjpaaDoor.Vh
open Go.Vm Go.Vt
theorem rv_texts {B : Nat} {G : Gh} {w : World} {x : V} {l : List Bs} {v : Value} (hx : ListV 1 x (strs l)) (h : Rv B G w x v) : (l = [] ∧ ∃ a cap, v = .slice a 0 cap) ∨ (l ≠ [] ∧ ∃ b o cap, v = .slice (some ⟨b, o, none⟩) l.length cap ∧ l.length ≤ cap ∧ ∀ (j : Nat) s, l[j]? = some s → w.cell? ⟨b, o + j, none⟩ = some (.string ⟨s.toArray⟩)) := by
  rcases hx with ⟨he, rfl⟩ | ⟨own, rfl⟩
  · have : l = [] := by simpa [strs] using he
    subst this
    cases h
    exact .inl ⟨rfl, _, _, rfl⟩
  · generalize he : strs l = es at h
    cases h with
    | sl vs hsz hsp hcap hc h1 hr hfull htip =>
      rename_i a cap
      subst he
      rcases List.eq_nil_or_concat l with rfl | hcc
      · exact .inl ⟨rfl, _, _, rfl⟩
      · have hne : l ≠ [] := by rintro rfl; obtain ⟨l', b, h⟩ := hcc; simp at h
        have ha := hsp (by simpa [strs] using hne)
        have hf : flat (strs l) = strs l := flat_ones (by intro e he; obtain ⟨s, _, rfl⟩ := List.mem_map.1 he; rfl)
        obtain ⟨ab, ao, asp⟩ := a
        simp only at ha; subst ha
        refine .inr ⟨hne, ab, ao, cap, by rw [strs_len], by rwa [strs_len] at hcap, fun j s hj => ?_⟩
        have hjl := (List.getElem?_eq_some_iff.1 hj).1
        have h2 := (hc j (by rw [hf, strs_len]; exact hjl)).2
        have h3 := hr j (.str s) (by rw [hf]; simp [strs, hj])
        simp only at h2
        generalize hv : vs j = vj at h2 h3
        cases h3
        exact h2
def LJoin : FuncId → List V → V → Prop := fun f args v => f = i_strings_Join ∧ ∃ (x : V) (l : List Bs), ListV 1 x (strs l) ∧ l.length ≤ 140737488355328 ∧ (joinS l).length ≤ 140737488355328 ∧ args = [x, .str [44, 32]] ∧ v = .str (joinS l)
theorem join_at (w0 : World) : LibAt Tryd.prog w0 LJoin := by
  rintro f args v ⟨rfl, x, l, hx, hl, hj, rfl, rfl⟩
  refine ⟨by kernel_rfl, good_below fun B G h w vs hr hb hv => ?_⟩
  obtain ⟨a, b, rfl, ha, hs⟩ := rvs_two hv
  cases hs
  rcases rv_texts hx ha with ⟨rfl, a', cap, rfl⟩ | ⟨hne, bk, o, cap, rfl, hcap, hc⟩
  · refine (Tryd.strings_Join_none a' cap _ w).mono fun e w' ⟨h1, h2⟩ => ?_
    subst h2
    exact ⟨_, h1, .str [], Go.RowKit.Below.refl ..⟩
  · have hlt : bk < w.heap.size := by
      obtain ⟨s, hs⟩ : ∃ s, l[0]? = some s := by
        cases l with
        | nil => exact absurd rfl hne
        | cons s _ => exact ⟨s, rfl⟩
      exact World.block_lt_of_cell? w _ (hc 0 s hs)
    have hm : (l.map fun s : Bs => (⟨s.toArray⟩ : ByteArray)).map (fun x => x.data.toList) = l := by rw [List.map_map]; exact List.map_id' l
    have := Tryd.strings_Join bk o cap (l.map fun s => ⟨s.toArray⟩) ⟨[44, 32].toArray⟩ w (by
        intro j x hx
        rw [List.getElem?_map] at hx
        obtain ⟨s, h1, rfl⟩ := Option.map_eq_some_iff.1 hx
        exact hc j s h1) hlt (by simpa using hl) (by simpa using hcap) (by rw [hm]; exact hj)
    rw [hm, List.length_map] at this
    exact this.mono fun e w' ⟨h1, h2⟩ => ⟨_, h1, .str _, h2⟩
theorem joinOk {L : FuncId → List V → V → Prop} (hL : ∀ f a v, LJoin f a v → L f a v) : JoinOk L := by
  intro x l h hx hl hj
  exact wlib (hL _ _ _ ⟨rfl, x, l, hx, by omega, hj, rfl, rfl⟩) ⟨rfl, [], by simp⟩
end Go.Proofs.YtgplldjcopfjpaaDoor.Vh
end
section
set_option linter.unusedVariables false
set_option linter.unusedSimpArgs false
namespace Go.Proofs.YtgplldjcopfjpaaDoor.Vh
open Go.Vm Go.Vt
attribute [local congr] wi_congr wg_congr wgd_congr wb_congr wl_congr cf_congr
variable {L : FuncId → List V → V → Prop} {h : Heap}
theorem eq_ct (c : Ct) : eqV (.agg [.b, .b, .b, .b, .b, .b, .b, .i, .i, .i, .i, .i, .i]) (.agg (ctV c)) (.agg (ctV c)) = some true := by
  simp [eqV, eqLeaves, eqLeaf, ctV]
def mA7 : Bs := [109, 97, 120, 45, 97, 103, 101, 61, 55]
theorem mA7_n0 : (parseC mA7).1.n 0 = 7 := by decide +kernel
theorem mA7_n1 : (parseC mA7).1.n 1 = -1 := by decide +kernel
theorem CTells1_ok (HJ : JoinOk L) (HI : IndexOk L) (HU : UnqOk L) {s : Bs} {x : V} {l : List Fld} (hs : s.length ≤ 2000) (hx : ListV 2 x (flds l)) (hl : l.length < 100000) (hln : ∀ f ∈ l, f.1.length ≤ 140737488355328) (hsm : sumF l < 100000) :
    k_gatepostlaw08_ControlTells_1 L (fun v _ => v = .bool true) (.str s) x h := by
  
  unfold k_gatepostlaw08_ControlTells_1
  simp (maxSteps := 4000000) only [vm, vl, Arg.get, cells, stor, boundO, resultsV, resV, partK, loadV, Vm.part, fillC, splice, reduceIte, reduceCtorEq, Nat.reduceEqDiff, Nat.reduceAdd, Nat.reduceSub, Nat.reduceMul, Nat.reduceLeDiff, ne_eq, not_false_eq_true, Int.reduceEq, Int.reduceLT, Int.reduceLE, Int.reduceNeg, Int.reduceToNat, Int.reduceGT, Int.reduceGE, Nat.reduceLT, Nat.lt_add_one, Nat.zero_lt_succ, Nat.succ_pos, Nat.zero_le, beq_self_eq_true]
  refine Cf.pu (Parse_ok HI HU (by omega)) fun u1 => ?_
  unfold k_gatepostlaw08_ControlTells_5
  have hc13 := fun c => ctV_len c
  have ht13 : ∀ c, List.take 13 (ctV c) = ctV c := fun _ => rfl
  have hd13 : ∀ c, List.drop 13 (ctV c) = [] := fun _ => rfl
  simp (maxSteps := 4000000) only [vm, vl, Arg.get, cells, stor, boundO, resultsV, resV, partK, loadV, Vm.part, fillC, splice, reduceIte, reduceCtorEq, Nat.reduceEqDiff, Nat.reduceAdd, Nat.reduceSub, Nat.reduceMul, Nat.reduceLeDiff, ne_eq, not_false_eq_true, Int.reduceEq, Int.reduceLT, Int.reduceLE, Int.reduceNeg, Int.reduceToNat, Int.reduceGT, Int.reduceGE, Nat.reduceLT, Nat.lt_add_one, Nat.zero_lt_succ, Nat.succ_pos, Nat.zero_le, beq_self_eq_true, parseCV, hc13]
  refine Cf.pu (rCParse_ok (by omega)) fun u2 => ?_
  unfold k_gatepostlaw08_ControlTells_4
  simp (maxSteps := 4000000) only [vm, vl, Arg.get, cells, stor, boundO, resultsV, resV, partK, loadV, Vm.part, fillC, splice, reduceIte, reduceCtorEq, Nat.reduceEqDiff, Nat.reduceAdd, Nat.reduceSub, Nat.reduceMul, Nat.reduceLeDiff, ne_eq, not_false_eq_true, Int.reduceEq, Int.reduceLT, Int.reduceLE, Int.reduceNeg, Int.reduceToNat, Int.reduceGT, Int.reduceGE, Nat.reduceLT, Nat.lt_add_one, Nat.zero_lt_succ, Nat.succ_pos, Nat.zero_le, beq_self_eq_true, parseCV, hc13]
  refine Cf.pu (Parse_ok HI HU (s := mA7) (by decide)) fun u3 => ?_
  unfold k_gatepostlaw08_ControlTells_3
  generalize hp : parseC s = p
  simp (maxSteps := 4000000) only [vm, vl, Arg.get, cells, stor, boundO, resultsV, resV, partK, loadV, Vm.part, fillC, splice, reduceIte, reduceCtorEq, Nat.reduceEqDiff, Nat.reduceAdd, Nat.reduceSub, Nat.reduceMul, Nat.reduceLeDiff, ne_eq, not_false_eq_true, Int.reduceEq, Int.reduceLT, Int.reduceLE, Int.reduceNeg, Int.reduceToNat, Int.reduceGT, Int.reduceGE, Nat.reduceLT, Nat.lt_add_one, Nat.zero_lt_succ, Nat.succ_pos, Nat.zero_le, beq_self_eq_true, parseCV, hc13, ht13, List.append_nil, eq_ct]
  refine Cf.pu (Of_ok HJ HI HU hx hl hln hsm) fun u4 => ?_
  simp (maxSteps := 4000000) only [vm, vl, Arg.get, cells, stor, boundO, resultsV, resV, partK, loadV, Vm.part, fillC, splice, reduceIte, reduceCtorEq, Nat.reduceEqDiff, Nat.reduceAdd, Nat.reduceSub, Nat.reduceMul, Nat.reduceLeDiff, ne_eq, not_false_eq_true, Int.reduceEq, Int.reduceLT, Int.reduceLE, Int.reduceNeg, Int.reduceToNat, Int.reduceGT, Int.reduceGE, Nat.reduceLT, Nat.lt_add_one, Nat.zero_lt_succ, Nat.succ_pos, Nat.zero_le, beq_self_eq_true]
  refine Cf.pu (rCOf_ok hx hl hln hsm) fun u5 => ?_
  unfold k_gatepostlaw08_ControlTells_2
  have h0 := mA7_n0
  have h1 := mA7_n1
  generalize (parseC mA7).1 = c at *
  have g7 : (ctV c).getD 7 (.tup []) = .int .i64 7 := by show V.int .i64 (c.n 0) = _; rw [h0]
  have g8 : (ctV c).getD 8 (.tup []) = .int .i64 (-1) := by show V.int .i64 (c.n 1) = _; rw [h1]
  simp (maxSteps := 4000000) only [vm, vl, Arg.get, cells, stor, boundO, resultsV, resV, partK, loadV, Vm.part, fillC, splice, reduceIte, reduceCtorEq, Nat.reduceEqDiff, Nat.reduceAdd, Nat.reduceSub, Nat.reduceMul, Nat.reduceLeDiff, ne_eq, not_false_eq_true, Int.reduceEq, Int.reduceLT, Int.reduceLE, Int.reduceNeg, Int.reduceToNat, Int.reduceGT, Int.reduceGE, Nat.reduceLT, Nat.lt_add_one, Nat.zero_lt_succ, Nat.succ_pos, Nat.zero_le, beq_self_eq_true, eq_ct, hc13, g7, g8, decide_true]
theorem ControlTells_ok (HJ : JoinOk L) (HI : IndexOk L) (HU : UnqOk L) {s : Bs} {x : V} {l : List Fld} (hs : s.length ≤ 140737488351232) (hx : ListV 2 x (flds l)) (hl : l.length ≤ 140737488351232) (hz : ∀ f ∈ l, f.1.length ≤ 140737488351232 ∧ f.2.length ≤ 140737488351232) :
    Cf F L i_gatepostlaw08_ControlTells [.str s, x] h (fun v _ => v = .bool true) := by
  refine run_gatepostlaw08_ControlTells ?_
  simp only [p_gatepostlaw08_ControlTells]
  
  have l1 := fun {K : V → Heap → Prop} {h : Heap} => hx.len (F := F) (L := L) (e := E0) (K := K) (h := h)
  simp only [flds_len] at l1
  by_cases c1 : (s.length : Int) > 2000
  · simp (maxSteps := 4000000) only [vm, vl, Arg.get, cells, stor, boundO, resultsV, resV, partK, loadV, Vm.part, fillC, splice, reduceIte, reduceCtorEq, Nat.reduceEqDiff, Nat.reduceAdd, Nat.reduceSub, Nat.reduceMul, Nat.reduceLeDiff, ne_eq, not_false_eq_true, Int.reduceEq, Int.reduceLT, Int.reduceLE, Int.reduceNeg, Int.reduceToNat, Int.reduceGT, Int.reduceGE, Nat.reduceLT, Nat.lt_add_one, Nat.zero_lt_succ, Nat.succ_pos, Nat.zero_le, beq_self_eq_true, c1, decide_true]
  by_cases c2 : l.length > 50
  · have c2' : (l.length : Int) > 50 := by omega
    rcases hx with ⟨he, rfl⟩ | ⟨o, rfl⟩
    · have := flds_len l; rw [he] at this; simp at this; omega
    · have hsl := flds_len l
      simp (maxSteps := 4000000) only [vm, vl, Arg.get, cells, stor, boundO, resultsV, resV, partK, loadV, Vm.part, fillC, splice, reduceIte, reduceCtorEq, Nat.reduceEqDiff, Nat.reduceAdd, Nat.reduceSub, Nat.reduceMul, Nat.reduceLeDiff, ne_eq, not_false_eq_true, Int.reduceEq, Int.reduceLT, Int.reduceLE, Int.reduceNeg, Int.reduceToNat, Int.reduceGT, Int.reduceGE, Nat.reduceLT, Nat.lt_add_one, Nat.zero_lt_succ, Nat.succ_pos, Nat.zero_le, beq_self_eq_true, c1, c2', hsl, decide_true, decide_false]
  have c2' : ¬ (l.length : Int) > 50 := by omega
  have c3 : ¬ (0 : Int) > 50 := by decide
  have main : ∀ (e : Env), e 0 = .str s → e 1 = x → e 5 = .int .i64 0 → Wl F L lc_gatepostlaw08_ControlTells_0 (q_gatepostlaw08_ControlTells_0 L (fun v _ => v = .bool true)) e h := by
    intro e f0 f1 f5
    refine l_gatepostlaw08_ControlTells_0 (fun n e h' => ∃ i : Nat, n = l.length - i ∧ i ≤ l.length ∧ e 0 = .str s ∧ e 1 = x ∧ e 5 = .int .i64 i ∧ sumF (l.take i) ≤ 200 * i) ?_ (n := l.length) ⟨0, by simp, by simp, f0, f1, f5, by simp [sumF]⟩
    clear f0 f1 f5
    rintro n e h' ⟨i, rfl, hi, e0, e1, e5, hsum⟩
    simp only [b_gatepostlaw08_ControlTells_0]
    rcases list_at ([], []) hi with ⟨hn, rfl, hd⟩ | ⟨hl1, hl2, hd, htk⟩
    · rw [List.take_of_length_le (Nat.le_refl _)] at hsum
      simp (maxSteps := 4000000) only [vm, vl, Arg.get, cells, stor, boundO, resultsV, resV, partK, loadV, Vm.part, fillC, splice, reduceIte, reduceCtorEq, Nat.reduceEqDiff, Nat.reduceAdd, Nat.reduceSub, Nat.reduceMul, Nat.reduceLeDiff, ne_eq, not_false_eq_true, Int.reduceEq, Int.reduceLT, Int.reduceLE, Int.reduceNeg, Int.reduceToNat, Int.reduceGT, Int.reduceGE, Nat.reduceLT, Nat.lt_add_one, Nat.zero_lt_succ, Nat.succ_pos, Nat.zero_le, beq_self_eq_true, e0, e1, e5, l1, hn]
      exact CTells1_ok HJ HI HU (by omega) hx (by omega) (fun f hf => by have := hz f hf; omega) (by omega)
    · obtain ⟨o, rfl⟩ : ∃ o, x = .sl 2 o (flds l) := by
        rcases hx with ⟨he, _⟩ | h
        · have := flds_len l; rw [he] at this; simp at this; omega
        · exact h
      have hsl : i < (flds l).length := by rw [flds_len]; exact hl2
      have hsl0 := flds_len l
      have hi0 : (0 : Int) ≤ (i : Int) := by omega
      have a1 := flds_at hl2
      have hst := sumF_take hl2
      have hmem : l.getD i ([], []) ∈ l := by
        rw [List.getD_eq_getElem?_getD, List.getElem?_eq_getElem hl2]; exact List.getElem_mem _
      have hzf := hz _ hmem
      generalize hf : l.getD i ([], []) = f at *
      have w := wrap64 (x := (i : Int) + 1) (by omega) (by omega)
      have w1 := wrap64 (x := (f.1.length : Int) + f.2.length) (by omega) (by omega)
      simp (maxSteps := 4000000) only [vm, vl, Arg.get, cells, stor, boundO, resultsV, resV, partK, loadV, Vm.part, fillC, splice, reduceIte, reduceCtorEq, Nat.reduceEqDiff, Nat.reduceAdd, Nat.reduceSub, Nat.reduceMul, Nat.reduceLeDiff, ne_eq, not_false_eq_true, Int.reduceEq, Int.reduceLT, Int.reduceLE, Int.reduceNeg, Int.reduceToNat, Int.reduceGT, Int.reduceGE, Nat.reduceLT, Nat.lt_add_one, Nat.zero_lt_succ, Nat.succ_pos, Nat.zero_le, beq_self_eq_true, e0, e1, e5, hsl0, hl1]
      unfold k_gatepostlaw08_ControlTells_6
      by_cases c4 : (f.1.length : Int) + f.2.length > 200
      · simp (maxSteps := 4000000) only [vm, vl, Arg.get, cells, stor, boundO, resultsV, resV, partK, loadV, Vm.part, fillC, splice, reduceIte, reduceCtorEq, Nat.reduceEqDiff, Nat.reduceAdd, Nat.reduceSub, Nat.reduceMul, Nat.reduceLeDiff, ne_eq, not_false_eq_true, Int.reduceEq, Int.reduceLT, Int.reduceLE, Int.reduceNeg, Int.reduceToNat, Int.reduceGT, Int.reduceGE, Nat.reduceLT, Nat.lt_add_one, Nat.zero_lt_succ, Nat.succ_pos, Nat.zero_le, beq_self_eq_true, hsl, hi0, a1, fldV, w1, c4, decide_true]
      · simp (maxSteps := 4000000) only [vm, vl, Arg.get, cells, stor, boundO, resultsV, resV, partK, loadV, Vm.part, fillC, splice, reduceIte, reduceCtorEq, Nat.reduceEqDiff, Nat.reduceAdd, Nat.reduceSub, Nat.reduceMul, Nat.reduceLeDiff, ne_eq, not_false_eq_true, Int.reduceEq, Int.reduceLT, Int.reduceLE, Int.reduceNeg, Int.reduceToNat, Int.reduceGT, Int.reduceGE, Nat.reduceLT, Nat.lt_add_one, Nat.zero_lt_succ, Nat.succ_pos, Nat.zero_le, beq_self_eq_true, hsl, hi0, a1, fldV, w1, c4, decide_false, k_gatepostlaw08_ControlTells_7, w]
        exact ⟨l.length - (i + 1), by omega, i + 1, rfl, hl2, e0, e1, rfl, by rw [hst]; omega⟩
  rcases hx with ⟨he, rfl⟩ | ⟨o, rfl⟩
  · have hl0 : l.length = 0 := by rw [← flds_len, he]; rfl
    simp (maxSteps := 4000000) only [vm, vl, Arg.get, cells, stor, boundO, resultsV, resV, partK, loadV, Vm.part, fillC, splice, reduceIte, reduceCtorEq, Nat.reduceEqDiff, Nat.reduceAdd, Nat.reduceSub, Nat.reduceMul, Nat.reduceLeDiff, ne_eq, not_false_eq_true, Int.reduceEq, Int.reduceLT, Int.reduceLE, Int.reduceNeg, Int.reduceToNat, Int.reduceGT, Int.reduceGE, Nat.reduceLT, Nat.lt_add_one, Nat.zero_lt_succ, Nat.succ_pos, Nat.zero_le, beq_self_eq_true, c1, c3, decide_false, k_gatepostlaw08_ControlTells_0]
    exact main _ rfl rfl rfl
  · have hsl := flds_len l
    simp (maxSteps := 4000000) only [vm, vl, Arg.get, cells, stor, boundO, resultsV, resV, partK, loadV, Vm.part, fillC, splice, reduceIte, reduceCtorEq, Nat.reduceEqDiff, Nat.reduceAdd, Nat.reduceSub, Nat.reduceMul, Nat.reduceLeDiff, ne_eq, not_false_eq_true, Int.reduceEq, Int.reduceLT, Int.reduceLE, Int.reduceNeg, Int.reduceToNat, Int.reduceGT, Int.reduceGE, Nat.reduceLT, Nat.lt_add_one, Nat.zero_lt_succ, Nat.succ_pos, Nat.zero_le, beq_self_eq_true, c1, c2', hsl, decide_false, k_gatepostlaw08_ControlTells_0]
    exact main _ rfl rfl rfl
def LC : FuncId → List V → V → Prop := fun f a v => LJoin f a v ∨ LIndex f a v ∨ LUnq f a v
theorem lc_at (w0 : World) : LibAt Tryd.prog w0 LC := fun f a v h => h.elim (join_at w0 f a v) fun h => h.elim (index_at w0 f a v) (unq_at w0 f a v)
theorem ControlTells_row {x0 x1 : V} (v0 : VPar [.l .s] x0) (v1 : VPar [.sl [.s, .s]] x1) (w : World) (vs : List Value) (hv : Rvs w.heap.size G0 w [x0, x1] vs) :
    Calls Tryd.prog i_gatepostlaw08_ControlTells vs.toArray w fun e w' => e = .returned (.bool true) ∧ RowKit.Below w.heap.size w w' := by
  obtain ⟨s, rfl, hs⟩ := v0
  obtain ⟨l, h1, h2, h3⟩ := fields_par v1
  exact calls_at hm hF (lc_at w) (ControlTells_ok (joinOk fun _ _ _ h => .inl h) (indexOk fun _ _ _ h => .inr (.inl h)) (unqOk fun _ _ _ h => .inr (.inr h)) hs h1 h2 h3) hv
end Go.Proofs.YtgplldjcopfjpaaDoor.Vh
end
