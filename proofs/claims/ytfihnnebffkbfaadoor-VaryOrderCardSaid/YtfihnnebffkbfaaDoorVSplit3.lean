/- The document's Split, and TokenSplits, on the small machine. -/
import Derived.Test.YtfihnnebffkbfaaDoorVSplit
import Derived.Test.YtfihnnebffkbfaaDoorVmGrow
import Derived.Test.YtfihnnebffkbfaaDoorVmOpen
set_option linter.unusedVariables false
set_option linter.unusedSimpArgs false
namespace Go.Proofs.YtfihnnebffkbfaaDoor.Vh
open Go.Vm Go.Vt
attribute [local congr] wi_congr wg_congr wgd_congr wb_congr wl_congr cf_congr
variable {L : FuncId → List V → V → Prop} {h : Heap}
theorem full_list (out : List Bs) : ListV 1 (fullV out) (strs out) := by
  unfold fullV ListV
  by_cases h : out = []
  · simp [h, strs]
  · simp [h, strs]
theorem splitG_none {s own : Bs} {q : Bool} {out : List Bs} (h : s = []) : splitG s own q out = if q then none else some (flush out own) := by subst h; rfl
def RSplitI (h : Heap) (s : Bs) (n : Nat) (e : Env) (h' : Heap) : Prop :=
  ∃ (i : Nat) (own : Bs) (q : Bool) (out : List Bs), n = s.length - i ∧ i ≤ s.length ∧ own.length ≤ i ∧ out.length ≤ i ∧ Grow 1 h h' (e 4) (strs out) ∧
    e 0 = .str s ∧ e 5 = .str own ∧ e 6 = .bool q ∧ e 7 = .int .i64 i ∧ split s = splitG (s.drop i) own q out
/-- What Split comes to: a list, or none. -/
def SplitP (h : Heap) (o : Option (List Bs)) (v : V) (h' : Heap) : Prop := (∃ t, h' = h ++ t) ∧ ((o = none ∧ v = .tup [.nsl, .bool false]) ∨ ∃ out x, o = some out ∧ v = .tup [x, .bool true] ∧ ListV 1 x (strs out))
theorem SplitP.no {h h' : Heap} (hh : ∃ t, h' = h ++ t) : SplitP h none (.tup [.nsl, .bool false]) h' := ⟨hh, .inl ⟨rfl, rfl⟩⟩
theorem SplitP.yes {h h' : Heap} {x : V} {out : List Bs} (hh : ∃ t, h' = h ++ t) (hl : ListV 1 x (strs out)) : SplitP h (some out) (.tup [x, .bool true]) h' := ⟨hh, .inr ⟨out, x, rfl, rfl, hl⟩⟩
theorem rSplit_ok {s : Bs} (hs : s.length < 1000000000) : Cf F L i_gatepostref01_Split [.str s] h (SplitP h (split s)) := by
  refine run_gatepostref01_Split ?_
  simp only [p_gatepostref01_Split]
  refine l_gatepostref01_Split_0 (RSplitI h s) ?_ (n := s.length) ⟨0, [], false, [], by simp, by simp, by simp, by simp, .nil0, rfl, rfl, rfl, rfl, by simp [split]⟩
  rintro n e h' ⟨i, own, q, out, rfl, hi, how, hol, G, e0, e5, e6, e7, hst⟩
  simp only [b_gatepostref01_Split_0]
  generalize e4 : e 4 = x4 at *
  have hown : own.length < 9223372036854775807 := by omega
  have hfl := flush_len out own
  rcases str_at hi with ⟨hn, rfl, hd⟩ | ⟨c, hl, hl', hc, hd⟩
  · rw [hd] at hst
    simp (maxSteps := 4000000) only [vm, vl, Arg.get, cells, stor, boundO, resultsV, resV, partK, loadV, Vm.part, fillC, splice, reduceIte, reduceCtorEq, Nat.reduceEqDiff, Nat.reduceAdd, Nat.reduceSub, Nat.reduceMul, Nat.reduceLeDiff, ne_eq, not_false_eq_true, Int.reduceEq, Int.reduceLT, Int.reduceLE, Int.reduceNeg, Int.reduceToNat, Int.reduceGT, Int.reduceGE, Nat.reduceLT, Nat.lt_add_one, Nat.zero_lt_succ, Nat.succ_pos, Nat.zero_le, beq_self_eq_true, k_gatepostref01_Split_2, k_gatepostref01_Split_1, k_gatepostref01_Split_0, k_gatepostref01_Split_4, k_gatepostref01_Split_6, k_gatepostref01_Split_5, k_gatepostref01_Split_7, k_gatepostref01_Split_3, e0, e4, e5, e6, e7, hn]
    refine Cf.pu (rTrim_ok hown) fun t => ?_
    have G' := G.more (t := t)
    rw [hst]
    cases q with
    | true =>
      simp (maxSteps := 4000000) only [vm, vl, Arg.get, cells, stor, boundO, resultsV, resV, partK, loadV, Vm.part, fillC, splice, reduceIte, reduceCtorEq, Nat.reduceEqDiff, Nat.reduceAdd, Nat.reduceSub, Nat.reduceMul, Nat.reduceLeDiff, ne_eq, not_false_eq_true, Int.reduceEq, Int.reduceLT, Int.reduceLE, Int.reduceNeg, Int.reduceToNat, Int.reduceGT, Int.reduceGE, Nat.reduceLT, Nat.lt_add_one, Nat.zero_lt_succ, Nat.succ_pos, Nat.zero_le, beq_self_eq_true, k_gatepostref01_Split_2, k_gatepostref01_Split_1, k_gatepostref01_Split_0, k_gatepostref01_Split_4, k_gatepostref01_Split_6, k_gatepostref01_Split_5, k_gatepostref01_Split_7, k_gatepostref01_Split_3]
      exact .no G'.1
    | false =>
      show _
      have ef2 : splitG [] own false out = some (flush out own) := rfl
      rw [ef2]
      by_cases he : trim own = []
      · have q : (trim own == []) = true := by rw [he]; rfl
        have ef : flush out own = out := by simp [flush, he]
        rw [ef]
        simp (maxSteps := 4000000) only [vm, vl, Arg.get, cells, stor, boundO, resultsV, resV, partK, loadV, Vm.part, fillC, splice, reduceIte, reduceCtorEq, Nat.reduceEqDiff, Nat.reduceAdd, Nat.reduceSub, Nat.reduceMul, Nat.reduceLeDiff, ne_eq, not_false_eq_true, Int.reduceEq, Int.reduceLT, Int.reduceLE, Int.reduceNeg, Int.reduceToNat, Int.reduceGT, Int.reduceGE, Nat.reduceLT, Nat.lt_add_one, Nat.zero_lt_succ, Nat.succ_pos, Nat.zero_le, beq_self_eq_true, k_gatepostref01_Split_2, k_gatepostref01_Split_1, k_gatepostref01_Split_0, k_gatepostref01_Split_4, k_gatepostref01_Split_6, k_gatepostref01_Split_5, k_gatepostref01_Split_7, k_gatepostref01_Split_3, q]
        exact .yes G'.1 G'.list
      · have q : (trim own == []) = false := by simpa using he
        have ef : flush out own = out ++ [trim own] := by simp [flush, he]
        rw [ef]
        obtain ⟨x', h'', ha, G''⟩ := G'.app (bytes := 16) (y := .str (trim own)) (by rw [strs_len]; omega)
        rw [strs_app] at G''
        simp (maxSteps := 4000000) only [vm, vl, Arg.get, cells, stor, boundO, resultsV, resV, partK, loadV, Vm.part, fillC, splice, reduceIte, reduceCtorEq, Nat.reduceEqDiff, Nat.reduceAdd, Nat.reduceSub, Nat.reduceMul, Nat.reduceLeDiff, ne_eq, not_false_eq_true, Int.reduceEq, Int.reduceLT, Int.reduceLE, Int.reduceNeg, Int.reduceToNat, Int.reduceGT, Int.reduceGE, Nat.reduceLT, Nat.lt_add_one, Nat.zero_lt_succ, Nat.succ_pos, Nat.zero_le, beq_self_eq_true, k_gatepostref01_Split_2, k_gatepostref01_Split_1, k_gatepostref01_Split_0, k_gatepostref01_Split_4, k_gatepostref01_Split_6, k_gatepostref01_Split_5, k_gatepostref01_Split_7, k_gatepostref01_Split_3, q, ha]
        exact .yes G''.1 G''.list
  · have w := wrap64 (x := (i : Int) + 1) (by omega) (by omega)
    rw [hd, splitG_step] at hst
    have k0 : i ≤ i + 1 := by omega
    have ec : List.drop i (List.take (i + 1) s) = [c] := by
      rw [take_succ hl' hd, List.drop_append]
      simp [Nat.min_eq_left (Nat.le_of_lt hl'), List.drop_eq_nil_of_le]
    have hadd : binV .add (.str own) (.str [c]) = some (.str (own ++ [c])) := bin_sadd (by simp; omega)
    by_cases c44 : q = false ∧ c = 44
    · obtain ⟨rfl, rfl⟩ := c44
      have k1 : ¬ (44 : UInt8) = 34 := by decide
      rw [if_neg k1, if_neg (by simp), if_pos (by simp)] at hst
      simp (maxSteps := 4000000) only [vm, vl, Arg.get, cells, stor, boundO, resultsV, resV, partK, loadV, Vm.part, fillC, splice, reduceIte, reduceCtorEq, Nat.reduceEqDiff, Nat.reduceAdd, Nat.reduceSub, Nat.reduceMul, Nat.reduceLeDiff, ne_eq, not_false_eq_true, Int.reduceEq, Int.reduceLT, Int.reduceLE, Int.reduceNeg, Int.reduceToNat, Int.reduceGT, Int.reduceGE, Nat.reduceLT, Nat.lt_add_one, Nat.zero_lt_succ, Nat.succ_pos, Nat.zero_le, beq_self_eq_true, k_gatepostref01_Split_2, k_gatepostref01_Split_1, k_gatepostref01_Split_0, k_gatepostref01_Split_4, k_gatepostref01_Split_6, k_gatepostref01_Split_5, k_gatepostref01_Split_7, k_gatepostref01_Split_3, e0, e4, e5, e6, e7, hl, hl', hc, u44]
      refine Cf.pu (rTrim_ok hown) fun t => ?_
      have G' := G.more (t := t)
      by_cases he : trim own = []
      · have q : (trim own == []) = true := by rw [he]; rfl
        have ef : flush out own = out := by simp [flush, he]
        rw [ef] at hst
        simp (maxSteps := 4000000) only [vm, vl, Arg.get, cells, stor, boundO, resultsV, resV, partK, loadV, Vm.part, fillC, splice, reduceIte, reduceCtorEq, Nat.reduceEqDiff, Nat.reduceAdd, Nat.reduceSub, Nat.reduceMul, Nat.reduceLeDiff, ne_eq, not_false_eq_true, Int.reduceEq, Int.reduceLT, Int.reduceLE, Int.reduceNeg, Int.reduceToNat, Int.reduceGT, Int.reduceGE, Nat.reduceLT, Nat.lt_add_one, Nat.zero_lt_succ, Nat.succ_pos, Nat.zero_le, beq_self_eq_true, k_gatepostref01_Split_2, k_gatepostref01_Split_1, k_gatepostref01_Split_0, k_gatepostref01_Split_4, k_gatepostref01_Split_6, k_gatepostref01_Split_5, k_gatepostref01_Split_7, k_gatepostref01_Split_3, q, w]
        exact ⟨s.length - (i + 1), by omega, i + 1, [], false, out, rfl, hl', by simp, by omega, by simpa [upd, e4] using G', by simp [upd, e0], by simp [upd], by simp [upd, e6], by simp [upd], hst⟩
      · have q : (trim own == []) = false := by simpa using he
        have ef : flush out own = out ++ [trim own] := by simp [flush, he]
        rw [ef] at hst
        obtain ⟨x', h'', ha, G''⟩ := G'.app (bytes := 16) (y := .str (trim own)) (by rw [strs_len]; omega)
        rw [strs_app] at G''
        simp (maxSteps := 4000000) only [vm, vl, Arg.get, cells, stor, boundO, resultsV, resV, partK, loadV, Vm.part, fillC, splice, reduceIte, reduceCtorEq, Nat.reduceEqDiff, Nat.reduceAdd, Nat.reduceSub, Nat.reduceMul, Nat.reduceLeDiff, ne_eq, not_false_eq_true, Int.reduceEq, Int.reduceLT, Int.reduceLE, Int.reduceNeg, Int.reduceToNat, Int.reduceGT, Int.reduceGE, Nat.reduceLT, Nat.lt_add_one, Nat.zero_lt_succ, Nat.succ_pos, Nat.zero_le, beq_self_eq_true, k_gatepostref01_Split_2, k_gatepostref01_Split_1, k_gatepostref01_Split_0, k_gatepostref01_Split_4, k_gatepostref01_Split_6, k_gatepostref01_Split_5, k_gatepostref01_Split_7, k_gatepostref01_Split_3, q, ha, w]
        exact ⟨s.length - (i + 1), by omega, i + 1, [], false, out ++ [trim own], rfl, hl', by simp, by simp; omega, by simpa [upd] using G'', by simp [upd, e0], by simp [upd], by simp [upd, e6], by simp [upd], hst⟩
    · by_cases c34 : c = 34
      · subst c34
        have k1 : ¬ (34 : UInt8) = 44 := by decide
        have k2 : ¬ (34 : UInt8) = 92 := by decide
        rw [if_pos rfl] at hst
        have g := take_succ hl' hd
        cases q <;> simp (maxSteps := 4000000) only [vm, vl, Arg.get, cells, stor, boundO, resultsV, resV, partK, loadV, Vm.part, fillC, splice, reduceIte, reduceCtorEq, Nat.reduceEqDiff, Nat.reduceAdd, Nat.reduceSub, Nat.reduceMul, Nat.reduceLeDiff, ne_eq, not_false_eq_true, Int.reduceEq, Int.reduceLT, Int.reduceLE, Int.reduceNeg, Int.reduceToNat, Int.reduceGT, Int.reduceGE, Nat.reduceLT, Nat.lt_add_one, Nat.zero_lt_succ, Nat.succ_pos, Nat.zero_le, beq_self_eq_true, k_gatepostref01_Split_2, k_gatepostref01_Split_1, k_gatepostref01_Split_0, k_gatepostref01_Split_4, k_gatepostref01_Split_6, k_gatepostref01_Split_5, k_gatepostref01_Split_7, k_gatepostref01_Split_3, e0, e4, e5, e6, e7, hl, hl', hc, u44, u34, u92, k0, k1, k2, w, ec, hadd]
        · exact ⟨hl', s.length - (i + 1), by omega, i + 1, own ++ [34], true, out, rfl, hl', by simp; omega, by omega, by simpa [upd, e4] using G, by simp [upd, e0], by simp [upd], by simp [upd], by simp [upd], hst⟩
        · exact ⟨hl', s.length - (i + 1), by omega, i + 1, own ++ [34], false, out, rfl, hl', by simp; omega, by omega, by simpa [upd, e4] using G, by simp [upd, e0], by simp [upd], by simp [upd], by simp [upd], hst⟩
      · rw [if_neg c34] at hst
        cases q with
        | false =>
          have k1 : ¬ c = 44 := fun h => c44 ⟨rfl, h⟩
          rw [if_neg (by simp), if_neg (by simp [k1])] at hst
          simp (maxSteps := 4000000) only [vm, vl, Arg.get, cells, stor, boundO, resultsV, resV, partK, loadV, Vm.part, fillC, splice, reduceIte, reduceCtorEq, Nat.reduceEqDiff, Nat.reduceAdd, Nat.reduceSub, Nat.reduceMul, Nat.reduceLeDiff, ne_eq, not_false_eq_true, Int.reduceEq, Int.reduceLT, Int.reduceLE, Int.reduceNeg, Int.reduceToNat, Int.reduceGT, Int.reduceGE, Nat.reduceLT, Nat.lt_add_one, Nat.zero_lt_succ, Nat.succ_pos, Nat.zero_le, beq_self_eq_true, k_gatepostref01_Split_2, k_gatepostref01_Split_1, k_gatepostref01_Split_0, k_gatepostref01_Split_4, k_gatepostref01_Split_6, k_gatepostref01_Split_5, k_gatepostref01_Split_7, k_gatepostref01_Split_3, e0, e4, e5, e6, e7, hl, hl', hc, u44, u34, u92, k0, k1, c34, w, ec, hadd]
          exact ⟨hl', s.length - (i + 1), by omega, i + 1, own ++ [c], false, out, rfl, hl', by simp; omega, by omega, by simpa [upd, e4] using G, by simp [upd, e0], by simp [upd], by simp [upd, e6], by simp [upd], hst⟩
        | true =>
          by_cases c92 : c = 92
          · subst c92
            have k1 : ¬ (92 : UInt8) = 34 := by decide
            rw [if_pos (by simp)] at hst
            rcases str_at (s := s) (i := i + 1) (by omega) with ⟨hn1, hn2, hd1⟩ | ⟨d, hl2, hl1, _, hd1⟩
            · rw [hd1] at hst
              have hn3 : ¬ (i : Int) + 1 < s.length := by omega
              simp (maxSteps := 4000000) only [vm, vl, Arg.get, cells, stor, boundO, resultsV, resV, partK, loadV, Vm.part, fillC, splice, reduceIte, reduceCtorEq, Nat.reduceEqDiff, Nat.reduceAdd, Nat.reduceSub, Nat.reduceMul, Nat.reduceLeDiff, ne_eq, not_false_eq_true, Int.reduceEq, Int.reduceLT, Int.reduceLE, Int.reduceNeg, Int.reduceToNat, Int.reduceGT, Int.reduceGE, Nat.reduceLT, Nat.lt_add_one, Nat.zero_lt_succ, Nat.succ_pos, Nat.zero_le, beq_self_eq_true, k_gatepostref01_Split_2, k_gatepostref01_Split_1, k_gatepostref01_Split_0, k_gatepostref01_Split_4, k_gatepostref01_Split_6, k_gatepostref01_Split_5, k_gatepostref01_Split_7, k_gatepostref01_Split_3, e0, e4, e5, e6, e7, hl, hl', hc, u44, u34, u92, k0, k1, w, ec, hadd, hn3]
              have hd0 : splitG (s.drop (i + 1)) (own ++ [92]) true out = none := by rw [hd1]; rfl
              exact ⟨hl', s.length - (i + 1), by omega, i + 1, own ++ [92], true, out, rfl, hl', by simp; omega, by omega, by simpa [upd, e4] using G, by simp [upd, e0], by simp [upd], by simp [upd, e6], by simp [upd], by rw [hst, hd0]⟩
            · rw [hd1] at hst
              have hl3 : (i : Int) + 1 < s.length := by omega
              have w2 := wrap64 (x := (i : Int) + 1 + 1) (by omega) (by omega)
              have t1 : ((i : Int) + 1 + 1).toNat = i + 2 := by omega
              have t2 : 0 ≤ (i : Int) + 1 + 1 := by omega
              have k3 : i + 1 ≤ i + 2 := by omega
              have k4 : i + 2 ≤ s.length := by omega
              have ec2 : List.drop (i + 1) (List.take (i + 2) s) = [d] := by
                rw [show i + 2 = (i + 1) + 1 by rfl, take_succ hl1 hd1, List.drop_append]
                simp [Nat.min_eq_left (Nat.le_of_lt hl1), List.drop_eq_nil_of_le]
              have hadd2 : binV .add (.str (own ++ [92])) (.str [d]) = some (.str (own ++ [92, d])) := by
                rw [bin_sadd (by simp; omega)]; simp
              simp (maxSteps := 4000000) only [vm, vl, Arg.get, cells, stor, boundO, resultsV, resV, partK, loadV, Vm.part, fillC, splice, reduceIte, reduceCtorEq, Nat.reduceEqDiff, Nat.reduceAdd, Nat.reduceSub, Nat.reduceMul, Nat.reduceLeDiff, ne_eq, not_false_eq_true, Int.reduceEq, Int.reduceLT, Int.reduceLE, Int.reduceNeg, Int.reduceToNat, Int.reduceGT, Int.reduceGE, Nat.reduceLT, Nat.lt_add_one, Nat.zero_lt_succ, Nat.succ_pos, Nat.zero_le, beq_self_eq_true, k_gatepostref01_Split_2, k_gatepostref01_Split_1, k_gatepostref01_Split_0, k_gatepostref01_Split_4, k_gatepostref01_Split_6, k_gatepostref01_Split_5, k_gatepostref01_Split_7, k_gatepostref01_Split_3, e0, e4, e5, e6, e7, hl, hl', hc, u44, u34, u92, k0, k1, w, ec, hadd, hl3, w2, t1, t2, k3, k4, ec2, hadd2]
              exact ⟨hl', s.length - (i + 2), by omega, i + 2, own ++ [92, d], true, out, rfl, by omega, by simp; omega, by omega, by simpa [upd, e4] using G, by simp [upd, e0], by simp [upd], by simp [upd, e6], by simp [upd]; omega, hst⟩
          · rw [if_neg (by simp [c92]), if_neg (by simp)] at hst
            simp (maxSteps := 4000000) only [vm, vl, Arg.get, cells, stor, boundO, resultsV, resV, partK, loadV, Vm.part, fillC, splice, reduceIte, reduceCtorEq, Nat.reduceEqDiff, Nat.reduceAdd, Nat.reduceSub, Nat.reduceMul, Nat.reduceLeDiff, ne_eq, not_false_eq_true, Int.reduceEq, Int.reduceLT, Int.reduceLE, Int.reduceNeg, Int.reduceToNat, Int.reduceGT, Int.reduceGE, Nat.reduceLT, Nat.lt_add_one, Nat.zero_lt_succ, Nat.succ_pos, Nat.zero_le, beq_self_eq_true, k_gatepostref01_Split_2, k_gatepostref01_Split_1, k_gatepostref01_Split_0, k_gatepostref01_Split_4, k_gatepostref01_Split_6, k_gatepostref01_Split_5, k_gatepostref01_Split_7, k_gatepostref01_Split_3, e0, e4, e5, e6, e7, hl, hl', hc, u44, u34, u92, k0, c34, c92, w, ec, hadd]
            exact ⟨hl', s.length - (i + 1), by omega, i + 1, own ++ [c], true, out, rfl, hl', by simp; omega, by omega, by simpa [upd, e4] using G, by simp [upd, e0], by simp [upd], by simp [upd, e6], by simp [upd], hst⟩
end Go.Proofs.YtfihnnebffkbfaaDoor.Vh
