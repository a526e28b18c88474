/- The reference's Parse; FieldParses on the small machine. -/
import Derived.Test.YtfnepflonoadkaaDoorVParse
import Derived.Test.YtfnepflonoadkaaDoorVJoin
set_option linter.unusedVariables false
set_option linter.unusedSimpArgs false
namespace Go.Proofs.YtfnepflonoadkaaDoor.Vh
open Go.Vm Go.Vt
attribute [local congr] wi_congr wg_congr wgd_congr wb_congr wl_congr cf_congr
variable {L : FuncId → List V → V → Prop} {h : Heap}
theorem u58 {c : UInt8} : ((c.toNat : Int) = 58) = (c = 58) := propext ⟨fun h => by
  have h2 : c.toNat = (58 : UInt8).toNat := by rw [show (58 : UInt8).toNat = 58 from rfl]; omega
  exact UInt8.toNat_inj.1 h2, fun h => by rw [h]; rfl⟩
theorem rParse0_ok {s : Bs} {h0 : Heap} {i : Nat} (hs : s.length < 100000) (hi : i ≤ s.length) (hj : ∀ j, j < i → s.getD j 0 ≠ 58) (hc : i = s.length ∨ (i < s.length ∧ s.getD i 0 = 58)) (hh : ∃ t, h0 = h ++ [O.box [.str [], .str []]] ++ t) :
    k_gatepostref04_Parse_0 L (Pu h (parseV (parseF s))) (.str s) (.ptr h.length 0) (.int .i64 i) h0 := by
  obtain ⟨t, rfl⟩ := hh
  
  have hk : (s.take i).length ≤ s.length := by rw [List.length_take]; omega
  have hd : (s.drop (i + 1)).length ≤ s.length := by rw [List.length_drop]; omega
  have ht := trim_length (s.drop (i + 1))
  rcases hc with rfl | ⟨hlt, hc⟩
  · have e : pos 58 s = s.length := pos_none hj
    have e2 : parseF s = none := by unfold parseF; rw [if_neg (by rintro ⟨h, _⟩; omega)]
    rw [e2]
    have d : decide ((s.length : Int) = s.length) = true := by simp
    simp (maxSteps := 4000000) only [vm, vl, Arg.get, cells, stor, boundO, resultsV, resV, partK, loadV, Vm.part, fillC, splice, reduceIte, reduceCtorEq, Nat.reduceEqDiff, Nat.reduceAdd, Nat.reduceSub, Nat.reduceMul, Nat.reduceLeDiff, ne_eq, not_false_eq_true, Int.reduceEq, Int.reduceLT, Int.reduceLE, Int.reduceNeg, Int.reduceToNat, Int.reduceGT, Int.reduceGE, Nat.reduceLT, Nat.lt_add_one, Nat.zero_lt_succ, Nat.succ_pos, Nat.zero_le, beq_self_eq_true, k_gatepostref04_Parse_2, k_gatepostref04_Parse_1, k_gatepostref04_Parse_0, k_gatepostref04_Parse_3, d, parseV, fldV]
  · have e : pos 58 s = i := pos_at hlt hj hc
    have d : ¬ ((i : Int) = s.length) := by omega
    have g0 : (0 : Int) ≤ i := by omega
    have g1 : i ≤ s.length := hi
    simp (maxSteps := 4000000) only [vm, vl, Arg.get, cells, stor, boundO, resultsV, resV, partK, loadV, Vm.part, fillC, splice, reduceIte, reduceCtorEq, Nat.reduceEqDiff, Nat.reduceAdd, Nat.reduceSub, Nat.reduceMul, Nat.reduceLeDiff, ne_eq, not_false_eq_true, Int.reduceEq, Int.reduceLT, Int.reduceLE, Int.reduceNeg, Int.reduceToNat, Int.reduceGT, Int.reduceGE, Nat.reduceLT, Nat.lt_add_one, Nat.zero_lt_succ, Nat.succ_pos, Nat.zero_le, beq_self_eq_true, k_gatepostref04_Parse_2, k_gatepostref04_Parse_1, k_gatepostref04_Parse_0, k_gatepostref04_Parse_3, d, g0, g1, Int.toNat_natCast, List.drop_zero]
    refine Cf.pu (rIs_ok (by omega)) fun t1 => ?_
    cases q : isTok (s.take i) with
    | false =>
      have e2 : parseF s = none := by unfold parseF; rw [if_neg (by rintro ⟨_, h⟩; rw [e, valF] at h; rw [show isTok (List.take i s) = false from q] at h; cases h)]
      rw [e2]
      simp (maxSteps := 4000000) only [vm, vl, Arg.get, cells, stor, boundO, resultsV, resV, partK, loadV, Vm.part, fillC, splice, reduceIte, reduceCtorEq, Nat.reduceEqDiff, Nat.reduceAdd, Nat.reduceSub, Nat.reduceMul, Nat.reduceLeDiff, ne_eq, not_false_eq_true, Int.reduceEq, Int.reduceLT, Int.reduceLE, Int.reduceNeg, Int.reduceToNat, Int.reduceGT, Int.reduceGE, Nat.reduceLT, Nat.lt_add_one, Nat.zero_lt_succ, Nat.succ_pos, Nat.zero_le, beq_self_eq_true, k_gatepostref04_Parse_2, k_gatepostref04_Parse_1, k_gatepostref04_Parse_0, k_gatepostref04_Parse_3, Bool.not_false, parseV, fldV]
    | true =>
      have w : IntKind.i64.wrap ((i : Int) + 1) = ((i + 1 : Nat) : Int) := by rw [wrap64 (by omega) (by omega)]; omega
      have g2 : i + 1 ≤ s.length := hlt
      have g3 : (0 : Int) ≤ ((i + 1 : Nat) : Int) := by omega
      have g4 : List.take s.length s = s := List.take_of_length_le (Nat.le_refl _)
      simp (maxSteps := 4000000) only [vm, vl, Arg.get, cells, stor, boundO, resultsV, resV, partK, loadV, Vm.part, fillC, splice, reduceIte, reduceCtorEq, Nat.reduceEqDiff, Nat.reduceAdd, Nat.reduceSub, Nat.reduceMul, Nat.reduceLeDiff, ne_eq, not_false_eq_true, Int.reduceEq, Int.reduceLT, Int.reduceLE, Int.reduceNeg, Int.reduceToNat, Int.reduceGT, Int.reduceGE, Nat.reduceLT, Nat.lt_add_one, Nat.zero_lt_succ, Nat.succ_pos, Nat.zero_le, beq_self_eq_true, k_gatepostref04_Parse_2, k_gatepostref04_Parse_1, k_gatepostref04_Parse_0, k_gatepostref04_Parse_3, Bool.not_true, w, g2, g3, g4, Int.toNat_natCast]
      refine Cf.pu (rTrim_ok (by omega)) fun t2 => ?_
      refine Cf.pu (rValue_ok (by omega)) fun t3 => ?_
      cases q2 : isVal (trim (s.drop (i + 1))) with
      | true =>
        have e2 : parseF s = some (s.take i, trim (s.drop (i + 1))) := by unfold parseF; rw [e, if_pos ⟨hlt, by simp only [valF, q, q2, Bool.and_self]⟩]
        rw [e2]
        simp (maxSteps := 4000000) only [vm, vl, Arg.get, cells, stor, boundO, resultsV, resV, partK, loadV, Vm.part, fillC, splice, reduceIte, reduceCtorEq, Nat.reduceEqDiff, Nat.reduceAdd, Nat.reduceSub, Nat.reduceMul, Nat.reduceLeDiff, ne_eq, not_false_eq_true, Int.reduceEq, Int.reduceLT, Int.reduceLE, Int.reduceNeg, Int.reduceToNat, Int.reduceGT, Int.reduceGE, Nat.reduceLT, Nat.lt_add_one, Nat.zero_lt_succ, Nat.succ_pos, Nat.zero_le, beq_self_eq_true, k_gatepostref04_Parse_2, k_gatepostref04_Parse_1, k_gatepostref04_Parse_0, k_gatepostref04_Parse_3, Bool.not_true, g0, g1, Int.toNat_natCast, List.drop_zero, parseV, fldV]
      | false =>
        have e2 : parseF s = none := by unfold parseF; rw [e, if_neg (by rintro ⟨_, h⟩; simp only [valF, q2, Bool.and_false] at h; cases h)]
        rw [e2]
        simp (maxSteps := 4000000) only [vm, vl, Arg.get, cells, stor, boundO, resultsV, resV, partK, loadV, Vm.part, fillC, splice, reduceIte, reduceCtorEq, Nat.reduceEqDiff, Nat.reduceAdd, Nat.reduceSub, Nat.reduceMul, Nat.reduceLeDiff, ne_eq, not_false_eq_true, Int.reduceEq, Int.reduceLT, Int.reduceLE, Int.reduceNeg, Int.reduceToNat, Int.reduceGT, Int.reduceGE, Nat.reduceLT, Nat.lt_add_one, Nat.zero_lt_succ, Nat.succ_pos, Nat.zero_le, beq_self_eq_true, k_gatepostref04_Parse_2, k_gatepostref04_Parse_1, k_gatepostref04_Parse_0, k_gatepostref04_Parse_3, Bool.not_false, parseV, fldV]
theorem rParse_ok {s : Bs} (hs : s.length < 100000) : Cf F L i_gatepostref04_Parse [.str s] h (Pu h (parseV (parseF s))) := by
  refine run_gatepostref04_Parse ?_
  simp only [p_gatepostref04_Parse]
  
  simp (maxSteps := 4000000) only [vm, vl, Arg.get, cells, stor, boundO, resultsV, resV, partK, loadV, Vm.part, fillC, splice, reduceIte, reduceCtorEq, Nat.reduceEqDiff, Nat.reduceAdd, Nat.reduceSub, Nat.reduceMul, Nat.reduceLeDiff, ne_eq, not_false_eq_true, Int.reduceEq, Int.reduceLT, Int.reduceLE, Int.reduceNeg, Int.reduceToNat, Int.reduceGT, Int.reduceGE, Nat.reduceLT, Nat.lt_add_one, Nat.zero_lt_succ, Nat.succ_pos, Nat.zero_le, beq_self_eq_true]
  refine l_gatepostref04_Parse_0 (fun n e h' => ∃ i, n = s.length - i ∧ i ≤ s.length ∧ e 0 = .str s ∧ e 2 = .ptr h.length 0 ∧ e 4 = .int .i64 i ∧ (∃ t, h' = h ++ [O.box [.str [], .str []]] ++ t) ∧ ∀ j, j < i → s.getD j 0 ≠ 58) ?_ (n := s.length) ⟨0, by simp, by simp, rfl, rfl, rfl, ⟨[], by simp⟩, by simp⟩
  rintro n e h' ⟨i, rfl, hi, e0, e2, e4, hh, hj⟩
  simp only [b_gatepostref04_Parse_0]
  rcases Nat.lt_or_eq_of_le hi with hlt | rfl
  · have hl : (i : Int) < s.length := by omega
    have g0 : (0 : Int) ≤ i := by omega
    have w := wrap64 (x := (i : Int) + 1) (by omega) (by omega)
    by_cases hc : s.getD i 0 = 58
    · have d : (((s.getD i 0).toNat : Int) = 58) = True := by rw [u58]; exact eq_true hc
      simp (maxSteps := 4000000) only [vm, vl, Arg.get, cells, stor, boundO, resultsV, resV, partK, loadV, Vm.part, fillC, splice, reduceIte, reduceCtorEq, Nat.reduceEqDiff, Nat.reduceAdd, Nat.reduceSub, Nat.reduceMul, Nat.reduceLeDiff, ne_eq, not_false_eq_true, Int.reduceEq, Int.reduceLT, Int.reduceLE, Int.reduceNeg, Int.reduceToNat, Int.reduceGT, Int.reduceGE, Nat.reduceLT, Nat.lt_add_one, Nat.zero_lt_succ, Nat.succ_pos, Nat.zero_le, beq_self_eq_true, e0, e2, e4, hl, g0, hlt, Int.toNat_natCast, d, not_true_eq_false, decide_false]
      exact rParse0_ok hs hi hj (.inr ⟨hlt, hc⟩) hh
    · have d : (((s.getD i 0).toNat : Int) = 58) = False := by rw [u58]; exact eq_false hc
      
      simp (maxSteps := 4000000) only [vm, vl, Arg.get, cells, stor, boundO, resultsV, resV, partK, loadV, Vm.part, fillC, splice, reduceIte, reduceCtorEq, Nat.reduceEqDiff, Nat.reduceAdd, Nat.reduceSub, Nat.reduceMul, Nat.reduceLeDiff, ne_eq, not_false_eq_true, Int.reduceEq, Int.reduceLT, Int.reduceLE, Int.reduceNeg, Int.reduceToNat, Int.reduceGT, Int.reduceGE, Nat.reduceLT, Nat.lt_add_one, Nat.zero_lt_succ, Nat.succ_pos, Nat.zero_le, beq_self_eq_true, k_gatepostref04_Parse_2, k_gatepostref04_Parse_1, k_gatepostref04_Parse_0, k_gatepostref04_Parse_3, e0, e2, e4, hl, g0, hlt, Int.toNat_natCast, d, w, not_false_eq_true, decide_true]
      refine ⟨s.length - (i + 1), by omega, i + 1, rfl, hlt, rfl, by simpa using hh, ?_⟩
      intro j hj'
      rcases Nat.lt_or_ge j i with h1 | h1
      · exact hj j h1
      · have : j = i := by omega
        subst this; exact hc
  · have hn : ¬ (s.length : Int) < s.length := by omega
    
    simp (maxSteps := 4000000) only [vm, vl, Arg.get, cells, stor, boundO, resultsV, resV, partK, loadV, Vm.part, fillC, splice, reduceIte, reduceCtorEq, Nat.reduceEqDiff, Nat.reduceAdd, Nat.reduceSub, Nat.reduceMul, Nat.reduceLeDiff, ne_eq, not_false_eq_true, Int.reduceEq, Int.reduceLT, Int.reduceLE, Int.reduceNeg, Int.reduceToNat, Int.reduceGT, Int.reduceGE, Nat.reduceLT, Nat.lt_add_one, Nat.zero_lt_succ, Nat.succ_pos, Nat.zero_le, beq_self_eq_true, e0, e2, e4, hn]
    exact rParse0_ok hs hi hj (.inl rfl) hh
/-- A field as a parameter. -/
theorem field_par {x : V} (v : VPar [.l .s, .l .s] x) : ∃ f : Fld, x = fldV f ∧ f.1.length ≤ 140737488351232 ∧ f.2.length ≤ 140737488351232 := by
  obtain ⟨xs, rfl, hx⟩ := v
  match xs, hx with
  | [a, b], ⟨⟨s, e1, h1⟩, ⟨t, e2, h2⟩, _⟩ =>
    subst e1; subst e2
    exact ⟨(s, t), rfl, h1, h2⟩
def LIndex : FuncId → List V → V → Prop := fun f args v => f = i_internal_stringslite_Index ∧ ∃ (s : Bs) (c : UInt8), args = [.str s, .str [c]] ∧ v = .int .i64 (Go.Lib.indexByte s c)
theorem index_at (w0 : World) : LibAt Tryd.prog w0 LIndex := by
  rintro f args v ⟨rfl, s, c, rfl, rfl⟩
  refine ⟨by kernel_rfl, good_below fun B G h w vs hr hb hv => ?_⟩
  obtain ⟨a, b, rfl, ha, hs⟩ := rvs_two hv
  cases hs; cases ha
  refine (Tryd.stringslite_Index_one ⟨s.toArray⟩ c w).mono fun e w' ⟨h1, h2⟩ => ?_
  subst h2
  exact ⟨_, h1, .int .i64 _, Go.RowKit.Below.refl ..⟩
theorem indexOk {L : FuncId → List V → V → Prop} (hL : ∀ f a v, LIndex f a v → L f a v) : IndexOk L :=
  wlib (hL _ _ _ ⟨rfl, _, _, rfl, rfl⟩) ⟨rfl, [], by simp⟩
/-- Join and Index. -/
def L4 : FuncId → List V → V → Prop := fun f a v => LJoin f a v ∨ LIndex f a v
theorem l4_at (w0 : World) : LibAt Tryd.prog w0 L4 := fun f a v h => h.elim (join_at w0 f a v) (index_at w0 f a v)
theorem few_one {f : Fld} (h1 : f.1.length ≤ 140737488351232) (h2 : f.2.length ≤ 140737488351232) {h : Heap} : Cf F L i_gatepostlaw04_few [.sl 2 .full [fldV f]] h (Pu h (.bool (decide (1 + (f.1.length + f.2.length) < 4000)))) := by
  have := few_ok (L := L) (h := h) (x := .sl 2 .full [fldV f]) (l := [f]) (.inr ⟨_, rfl⟩) (by simp) (by simpa using ⟨h1, h2⟩)
  simpa [sumF] using this
theorem FieldParses_ok (HI : IndexOk L) {s : Bs} {f : Fld} (h1 : f.1.length ≤ 140737488351232) (h2 : f.2.length ≤ 140737488351232) : Cf F L i_gatepostlaw04_FieldParses [.str s, fldV f] h (fun v _ => v = .bool true) := by
  refine run_gatepostlaw04_FieldParses ?_
  simp only [p_gatepostlaw04_FieldParses]
  by_cases hs : (s.length : Int) > 2000
  · simp (maxSteps := 4000000) only [vm, vl, Arg.get, cells, stor, boundO, resultsV, resV, partK, loadV, Vm.part, fillC, splice, reduceIte, reduceCtorEq, Nat.reduceEqDiff, Nat.reduceAdd, Nat.reduceSub, Nat.reduceMul, Nat.reduceLeDiff, ne_eq, not_false_eq_true, Int.reduceEq, Int.reduceLT, Int.reduceLE, Int.reduceNeg, Int.reduceToNat, Int.reduceGT, Int.reduceGE, Nat.reduceLT, Nat.lt_add_one, Nat.zero_lt_succ, Nat.succ_pos, Nat.zero_le, beq_self_eq_true, k_gatepostlaw04_FieldParses_0, hs, fldV, decide_true]
  · have hw := fun {h : Heap} => few_one (L := L) (h := h) h1 h2
    simp only [fldV] at hw
    simp (maxSteps := 4000000) only [vm, vl, Arg.get, cells, stor, boundO, resultsV, resV, partK, loadV, Vm.part, fillC, splice, reduceIte, reduceCtorEq, Nat.reduceEqDiff, Nat.reduceAdd, Nat.reduceSub, Nat.reduceMul, Nat.reduceLeDiff, ne_eq, not_false_eq_true, Int.reduceEq, Int.reduceLT, Int.reduceLE, Int.reduceNeg, Int.reduceToNat, Int.reduceGT, Int.reduceGE, Nat.reduceLT, Nat.lt_add_one, Nat.zero_lt_succ, Nat.succ_pos, Nat.zero_le, beq_self_eq_true, k_gatepostlaw04_FieldParses_0, hs, fldV, decide_false]
    refine Cf.pu hw fun t => ?_
    by_cases hf : 1 + (f.1.length + f.2.length) < 4000
    · have hl := fun {h : Heap} => Line_ok (L := L) (h := h) (f := f) (by omega)
      have hr := fun {h : Heap} => rLine_ok (L := L) (h := h) (f := f) (by omega)
      simp only [fldV] at hl hr
      simp (maxSteps := 4000000) only [vm, vl, Arg.get, cells, stor, boundO, resultsV, resV, partK, loadV, Vm.part, fillC, splice, reduceIte, reduceCtorEq, Nat.reduceEqDiff, Nat.reduceAdd, Nat.reduceSub, Nat.reduceMul, Nat.reduceLeDiff, ne_eq, not_false_eq_true, Int.reduceEq, Int.reduceLT, Int.reduceLE, Int.reduceNeg, Int.reduceToNat, Int.reduceGT, Int.reduceGE, Nat.reduceLT, Nat.lt_add_one, Nat.zero_lt_succ, Nat.succ_pos, Nat.zero_le, beq_self_eq_true, k_gatepostlaw04_FieldParses_0, hf, decide_true, Bool.not_true]
      refine Cf.pu (Parse_ok HI (by omega)) fun t1 => ?_
      cases q : parseF s with
      | none =>
        simp only [parseV, fldV]
        simp (maxSteps := 4000000) only [vm, vl, Arg.get, cells, stor, boundO, resultsV, resV, partK, loadV, Vm.part, fillC, splice, reduceIte, reduceCtorEq, Nat.reduceEqDiff, Nat.reduceAdd, Nat.reduceSub, Nat.reduceMul, Nat.reduceLeDiff, ne_eq, not_false_eq_true, Int.reduceEq, Int.reduceLT, Int.reduceLE, Int.reduceNeg, Int.reduceToNat, Int.reduceGT, Int.reduceGE, Nat.reduceLT, Nat.lt_add_one, Nat.zero_lt_succ, Nat.succ_pos, Nat.zero_le, beq_self_eq_true, k_gatepostlaw04_FieldParses_0]
        refine Cf.pu (rParse_ok (by omega)) fun t2 => ?_
        simp only [q, parseV, fldV]
        simp (maxSteps := 4000000) only [vm, vl, Arg.get, cells, stor, boundO, resultsV, resV, partK, loadV, Vm.part, fillC, splice, reduceIte, reduceCtorEq, Nat.reduceEqDiff, Nat.reduceAdd, Nat.reduceSub, Nat.reduceMul, Nat.reduceLeDiff, ne_eq, not_false_eq_true, Int.reduceEq, Int.reduceLT, Int.reduceLE, Int.reduceNeg, Int.reduceToNat, Int.reduceGT, Int.reduceGE, Nat.reduceLT, Nat.lt_add_one, Nat.zero_lt_succ, Nat.succ_pos, Nat.zero_le, beq_self_eq_true, k_gatepostlaw04_FieldParses_0]
        refine Cf.pu hl fun t3 => ?_
        cases q2 : lineF f <;> simp only [lineV]
        · simp (maxSteps := 4000000) only [vm, vl, Arg.get, cells, stor, boundO, resultsV, resV, partK, loadV, Vm.part, fillC, splice, reduceIte, reduceCtorEq, Nat.reduceEqDiff, Nat.reduceAdd, Nat.reduceSub, Nat.reduceMul, Nat.reduceLeDiff, ne_eq, not_false_eq_true, Int.reduceEq, Int.reduceLT, Int.reduceLE, Int.reduceNeg, Int.reduceToNat, Int.reduceGT, Int.reduceGE, Nat.reduceLT, Nat.lt_add_one, Nat.zero_lt_succ, Nat.succ_pos, Nat.zero_le, beq_self_eq_true, k_gatepostlaw04_FieldParses_0]
          refine Cf.pu hr fun t4 => ?_
          simp only [q2, lineV]
          simp (maxSteps := 4000000) only [vm, vl, Arg.get, cells, stor, boundO, resultsV, resV, partK, loadV, Vm.part, fillC, splice, reduceIte, reduceCtorEq, Nat.reduceEqDiff, Nat.reduceAdd, Nat.reduceSub, Nat.reduceMul, Nat.reduceLeDiff, ne_eq, not_false_eq_true, Int.reduceEq, Int.reduceLT, Int.reduceLE, Int.reduceNeg, Int.reduceToNat, Int.reduceGT, Int.reduceGE, Nat.reduceLT, Nat.lt_add_one, Nat.zero_lt_succ, Nat.succ_pos, Nat.zero_le, beq_self_eq_true, k_gatepostlaw04_FieldParses_0, decide_true]
        · simp (maxSteps := 4000000) only [vm, vl, Arg.get, cells, stor, boundO, resultsV, resV, partK, loadV, Vm.part, fillC, splice, reduceIte, reduceCtorEq, Nat.reduceEqDiff, Nat.reduceAdd, Nat.reduceSub, Nat.reduceMul, Nat.reduceLeDiff, ne_eq, not_false_eq_true, Int.reduceEq, Int.reduceLT, Int.reduceLE, Int.reduceNeg, Int.reduceToNat, Int.reduceGT, Int.reduceGE, Nat.reduceLT, Nat.lt_add_one, Nat.zero_lt_succ, Nat.succ_pos, Nat.zero_le, beq_self_eq_true, k_gatepostlaw04_FieldParses_0]
          refine Cf.pu hr fun t4 => ?_
          simp only [q2, lineV]
          simp (maxSteps := 4000000) only [vm, vl, Arg.get, cells, stor, boundO, resultsV, resV, partK, loadV, Vm.part, fillC, splice, reduceIte, reduceCtorEq, Nat.reduceEqDiff, Nat.reduceAdd, Nat.reduceSub, Nat.reduceMul, Nat.reduceLeDiff, ne_eq, not_false_eq_true, Int.reduceEq, Int.reduceLT, Int.reduceLE, Int.reduceNeg, Int.reduceToNat, Int.reduceGT, Int.reduceGE, Nat.reduceLT, Nat.lt_add_one, Nat.zero_lt_succ, Nat.succ_pos, Nat.zero_le, beq_self_eq_true, k_gatepostlaw04_FieldParses_0, decide_true]
      | some g =>
        simp only [parseV, fldV]
        simp (maxSteps := 4000000) only [vm, vl, Arg.get, cells, stor, boundO, resultsV, resV, partK, loadV, Vm.part, fillC, splice, reduceIte, reduceCtorEq, Nat.reduceEqDiff, Nat.reduceAdd, Nat.reduceSub, Nat.reduceMul, Nat.reduceLeDiff, ne_eq, not_false_eq_true, Int.reduceEq, Int.reduceLT, Int.reduceLE, Int.reduceNeg, Int.reduceToNat, Int.reduceGT, Int.reduceGE, Nat.reduceLT, Nat.lt_add_one, Nat.zero_lt_succ, Nat.succ_pos, Nat.zero_le, beq_self_eq_true, k_gatepostlaw04_FieldParses_0]
        refine Cf.pu (rParse_ok (by omega)) fun t2 => ?_
        simp only [q, parseV, fldV]
        simp (maxSteps := 4000000) only [vm, vl, Arg.get, cells, stor, boundO, resultsV, resV, partK, loadV, Vm.part, fillC, splice, reduceIte, reduceCtorEq, Nat.reduceEqDiff, Nat.reduceAdd, Nat.reduceSub, Nat.reduceMul, Nat.reduceLeDiff, ne_eq, not_false_eq_true, Int.reduceEq, Int.reduceLT, Int.reduceLE, Int.reduceNeg, Int.reduceToNat, Int.reduceGT, Int.reduceGE, Nat.reduceLT, Nat.lt_add_one, Nat.zero_lt_succ, Nat.succ_pos, Nat.zero_le, beq_self_eq_true, k_gatepostlaw04_FieldParses_0]
        refine Cf.pu hl fun t3 => ?_
        cases q2 : lineF f <;> simp only [lineV]
        · simp (maxSteps := 4000000) only [vm, vl, Arg.get, cells, stor, boundO, resultsV, resV, partK, loadV, Vm.part, fillC, splice, reduceIte, reduceCtorEq, Nat.reduceEqDiff, Nat.reduceAdd, Nat.reduceSub, Nat.reduceMul, Nat.reduceLeDiff, ne_eq, not_false_eq_true, Int.reduceEq, Int.reduceLT, Int.reduceLE, Int.reduceNeg, Int.reduceToNat, Int.reduceGT, Int.reduceGE, Nat.reduceLT, Nat.lt_add_one, Nat.zero_lt_succ, Nat.succ_pos, Nat.zero_le, beq_self_eq_true, k_gatepostlaw04_FieldParses_0]
          refine Cf.pu hr fun t4 => ?_
          simp only [q2, lineV]
          simp (maxSteps := 4000000) only [vm, vl, Arg.get, cells, stor, boundO, resultsV, resV, partK, loadV, Vm.part, fillC, splice, reduceIte, reduceCtorEq, Nat.reduceEqDiff, Nat.reduceAdd, Nat.reduceSub, Nat.reduceMul, Nat.reduceLeDiff, ne_eq, not_false_eq_true, Int.reduceEq, Int.reduceLT, Int.reduceLE, Int.reduceNeg, Int.reduceToNat, Int.reduceGT, Int.reduceGE, Nat.reduceLT, Nat.lt_add_one, Nat.zero_lt_succ, Nat.succ_pos, Nat.zero_le, beq_self_eq_true, k_gatepostlaw04_FieldParses_0, decide_true]
        · simp (maxSteps := 4000000) only [vm, vl, Arg.get, cells, stor, boundO, resultsV, resV, partK, loadV, Vm.part, fillC, splice, reduceIte, reduceCtorEq, Nat.reduceEqDiff, Nat.reduceAdd, Nat.reduceSub, Nat.reduceMul, Nat.reduceLeDiff, ne_eq, not_false_eq_true, Int.reduceEq, Int.reduceLT, Int.reduceLE, Int.reduceNeg, Int.reduceToNat, Int.reduceGT, Int.reduceGE, Nat.reduceLT, Nat.lt_add_one, Nat.zero_lt_succ, Nat.succ_pos, Nat.zero_le, beq_self_eq_true, k_gatepostlaw04_FieldParses_0]
          refine Cf.pu hr fun t4 => ?_
          simp only [q2, lineV]
          simp (maxSteps := 4000000) only [vm, vl, Arg.get, cells, stor, boundO, resultsV, resV, partK, loadV, Vm.part, fillC, splice, reduceIte, reduceCtorEq, Nat.reduceEqDiff, Nat.reduceAdd, Nat.reduceSub, Nat.reduceMul, Nat.reduceLeDiff, ne_eq, not_false_eq_true, Int.reduceEq, Int.reduceLT, Int.reduceLE, Int.reduceNeg, Int.reduceToNat, Int.reduceGT, Int.reduceGE, Nat.reduceLT, Nat.lt_add_one, Nat.zero_lt_succ, Nat.succ_pos, Nat.zero_le, beq_self_eq_true, k_gatepostlaw04_FieldParses_0, decide_true]
    · simp (maxSteps := 4000000) only [vm, vl, Arg.get, cells, stor, boundO, resultsV, resV, partK, loadV, Vm.part, fillC, splice, reduceIte, reduceCtorEq, Nat.reduceEqDiff, Nat.reduceAdd, Nat.reduceSub, Nat.reduceMul, Nat.reduceLeDiff, ne_eq, not_false_eq_true, Int.reduceEq, Int.reduceLT, Int.reduceLE, Int.reduceNeg, Int.reduceToNat, Int.reduceGT, Int.reduceGE, Nat.reduceLT, Nat.lt_add_one, Nat.zero_lt_succ, Nat.succ_pos, Nat.zero_le, beq_self_eq_true, k_gatepostlaw04_FieldParses_0, hf, decide_false, Bool.not_false]
theorem FieldParses_row {x0 x1 : V} (v0 : VPar [.l .s] x0) (v1 : VPar [.l .s, .l .s] x1) (w : World) (vs : List Value) (hv : Rvs w.heap.size G0 w [x0, x1] vs) :
    Calls Tryd.prog i_gatepostlaw04_FieldParses vs.toArray w fun e w' => e = .returned (.bool true) ∧ RowKit.Below w.heap.size w w' := by
  obtain ⟨s, rfl, hs⟩ := v0
  obtain ⟨f, rfl, h1, h2⟩ := field_par v1
  exact calls_at hm hF (l4_at w) (FieldParses_ok (indexOk fun _ _ _ h => .inr h) h1 h2) hv
end Go.Proofs.YtfnepflonoadkaaDoor.Vh
