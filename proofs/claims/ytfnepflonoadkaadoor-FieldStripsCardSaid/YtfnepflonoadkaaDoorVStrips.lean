/- FieldStrips on the small machine. -/
import Derived.Test.YtfnepflonoadkaaDoorVNamesB
import Derived.Test.YtfnepflonoadkaaDoorVParses
set_option linter.unusedVariables false
set_option linter.unusedSimpArgs false
namespace Go.Proofs.YtfnepflonoadkaaDoor.Vh
open Go.Vm Go.Vt
attribute [local congr] wi_congr wg_congr wgd_congr wb_congr wl_congr cf_congr
variable {L : FuncId → List V → V → Prop} {h : Heap}
theorem stays_seven {f : Fld} {ns : List Bs} (h : stays (ns ++ seven) f = true) {one : Bs} (ho : low one ∈ seven.map low) : (low f.1 == low one) = false := by
  rw [stays_app, Bool.and_eq_true] at h
  have h2 := h.2
  obtain ⟨n, hn, e⟩ := List.mem_map.1 ho
  rw [← e]
  simp only [stays, Bool.not_eq_true', List.any_eq_false] at h2
  have := h2 n hn
  simp only [beq_iff_eq] at this
  rw [beq_eq_false_iff_ne]
  exact fun e => this e.symm
theorem vals_strip {l : List Fld} {one : Bs} (ho : low one ∈ seven.map low) : valsOf (stripL l) one = [] := by
  unfold valsOf
  rw [List.filter_eq_nil_iff.2 ?_]; rfl
  intro f hf
  rw [stays_seven (List.mem_filter.1 hf).2 ho]; simp
theorem strip_twice (l : List Fld) : stripL (stripL l) = stripL l := by
  have hc : low connS ∈ seven.map low := by decide +kernel
  have e : namesL (stripL l) connS = [] := by
    unfold namesL
    rw [vals_strip hc]
    have : namesO (joinS []) = some [] := by decide +kernel
    rw [this]; rfl
  show (stripL l).filter (stays (namesL (stripL l) connS ++ seven)) = stripL l
  rw [e]
  apply List.filter_eq_self.2
  intro f hf
  have := (List.mem_filter.1 hf).2
  rw [stays_app, Bool.and_eq_true] at this
  exact this.2
def onesL : List Bs := [[67, 111, 110, 110, 101, 99, 116, 105, 111, 110], [75, 69, 69, 80, 45, 65, 76, 73, 86, 69], [116, 101], [84, 114, 97, 105, 108, 101, 114], [116, 114, 97, 110, 115, 102, 101, 114, 45, 69, 110, 99, 111, 100, 105, 110, 103], [117, 112, 103, 114, 97, 100, 101], [80, 114, 111, 120, 121, 45, 67, 111, 110, 110, 101, 99, 116, 105, 111, 110]]
theorem ones_mem : ∀ o ∈ onesL, low o ∈ seven.map low ∧ o.length ≤ 100 := by decide +kernel
theorem rem_range (k : Int) (hk : (Lit.int .i64 k).wf = true) : ∃ i : Nat, i < 7 ∧ binV .rem (.int .i64 k) (.int .i64 7) = some (.int .i64 (k.tmod 7)) ∧ IntKind.i64.wrap (k.tmod 7 + 7) = k.tmod 7 + 7 ∧ binV .rem (.int .i64 (k.tmod 7 + 7)) (.int .i64 7) = some (.int .i64 (i : Int)) := by
  have h1 : -7 < k.tmod 7 := Int.lt_tmod_of_pos k (by omega)
  have h2 : k.tmod 7 < 7 := Int.tmod_lt_of_pos k (by omega)
  generalize e : k.tmod 7 = m at *
  refine ⟨((m + 7).tmod 7).toNat, ?_, ?_, wrap64 (by omega) (by omega), ?_⟩
  · have := Int.tmod_lt_of_pos (m + 7) (show (0 : Int) < 7 by omega)
    omega
  · rw [← e]; rfl
  · have h0 : 0 ≤ (m + 7).tmod 7 := Int.tmod_nonneg 7 (by omega)
    rw [Int.toNat_of_nonneg h0]; rfl
theorem FieldStrips_ok (HJ : JoinOk L) {x : V} {l : List Fld} {k : Int} (hx : ListV 2 x (flds l)) (hl : l.length ≤ 140737488351232) (hz : ∀ f ∈ l, f.1.length ≤ 140737488351232 ∧ f.2.length ≤ 140737488351232) (hk : (Lit.int .i64 k).wf = true) :
    Cf F L i_gatepostlaw04_FieldStrips [x, .int .i64 k] h (fun v _ => v = .bool true) := by
  refine run_gatepostlaw04_FieldStrips ?_
  simp only [p_gatepostlaw04_FieldStrips]
  refine Cf.pu (few_ok hx hl hz) fun t => ?_
  by_cases hf : l.length + sumF l < 4000
  · obtain ⟨i, hi, r1, r2, r3⟩ := rem_range k hk
    have hm : ∀ f ∈ l, f.1.length ≤ 140737488355328 := fun f hh => by have := (hz f hh).1; omega
    have hol : onesL.length = 7 := rfl
    have ho : onesL.getD i [] ∈ onesL := getD_mem (by rw [hol]; exact hi)
    have oa := strs_at (l := onesL) (i := i) (by rw [hol]; exact hi)
    obtain ⟨o1, o2⟩ := ones_mem _ ho
    have lit : V.sl 1 .full (strs onesL) = .sl 1 .full [.str [67, 111, 110, 110, 101, 99, 116, 105, 111, 110], .str [75, 69, 69, 80, 45, 65, 76, 73, 86, 69], .str [116, 101], .str [84, 114, 97, 105, 108, 101, 114], .str [116, 114, 97, 110, 115, 102, 101, 114, 45, 69, 110, 99, 111, 100, 105, 110, 103], .str [117, 112, 103, 114, 97, 100, 101], .str [80, 114, 111, 120, 121, 45, 67, 111, 110, 110, 101, 99, 116, 105, 111, 110]] := rfl
    have litl : ([.str [67, 111, 110, 110, 101, 99, 116, 105, 111, 110], .str [75, 69, 69, 80, 45, 65, 76, 73, 86, 69], .str [116, 101], .str [84, 114, 97, 105, 108, 101, 114], .str [116, 114, 97, 110, 115, 102, 101, 114, 45, 69, 110, 99, 111, 100, 105, 110, 103], .str [117, 112, 103, 114, 97, 100, 101], .str [80, 114, 111, 120, 121, 45, 67, 111, 110, 110, 101, 99, 116, 105, 111, 110]] : List V).length = 7 := rfl
    have lite : strs onesL = ([.str [67, 111, 110, 110, 101, 99, 116, 105, 111, 110], .str [75, 69, 69, 80, 45, 65, 76, 73, 86, 69], .str [116, 101], .str [84, 114, 97, 105, 108, 101, 114], .str [116, 114, 97, 110, 115, 102, 101, 114, 45, 69, 110, 99, 111, 100, 105, 110, 103], .str [117, 112, 103, 114, 97, 100, 101], .str [80, 114, 111, 120, 121, 45, 67, 111, 110, 110, 101, 99, 116, 105, 111, 110]] : List V) := rfl
    rw [lite] at oa
    generalize onesL.getD i [] = one at *
    have i0 : (0 : Int) ≤ i := by omega
    have O0 : Ow 2 h (h ++ t) (.sl 2 .full []) [] := Ow.full
    obtain ⟨x1, h1, a1, O1⟩ := O0.app (bytes := 32) hx (by rw [flds_len]; simp; omega)
    obtain ⟨x2, h2, a2, O2⟩ := O1.app (bytes := 32) (y := .sl 2 .full [.agg [.str one, .str [122, 122]]]) (ys := [.agg [.str one, .str [122, 122]]]) (.inr ⟨_, rfl⟩) (by rw [List.nil_append, flds_len]; simp; omega)
    have hl2 := O2.list
    have e2 : [] ++ flds l ++ [.agg [.str one, .str [122, 122]]] = flds (l ++ [(one, [122, 122])]) := by simp [flds, fldV]
    rw [e2] at hl2
    obtain ⟨⟨t2, rfl⟩, _⟩ := O2
    have g1 : (l ++ [(one, ([122, 122] : Bs))]).length = l.length + 1 := by simp
    have g2 : sumF (l ++ [(one, ([122, 122] : Bs))]) = sumF l + (one.length + 2) := by simp [sumF]
    have hm2 : ∀ f ∈ l ++ [(one, ([122, 122] : Bs))], f.1.length ≤ 140737488355328 := by
      intro f hh
      rcases List.mem_append.1 hh with hh | hh
      · exact hm f hh
      · simp only [List.mem_singleton] at hh; subst hh; exact (show one.length ≤ _ by omega)
    generalize l ++ [(one, ([122, 122] : Bs))] = m at *
    have jn : ∀ nm : Bs, (joinS (valsOf m nm)).length ≤ 100000 := by
      intro nm; have := vals_join m nm; omega
    have q3 : (stripL m).length ≤ m.length := List.length_filter_le _ _
    have hm3 : ∀ f ∈ stripL m, f.1.length ≤ 140737488355328 := fun f hh => hm2 f (List.mem_filter.1 hh).1
    have hc : low connS ∈ seven.map low := by decide +kernel
    have con : ∀ {h : Heap} {K : V → Heap → Prop}, (∀ k h', K (.sl 2 (.tip k) [.agg [.str [67], .str [51]]]) h') → Cf F L i_field_Strip [.sl 2 .full [.agg [.str [65], .str [49]], .agg [.str [99, 111, 110, 110, 101, 99, 116, 105, 111, 110], .str [98, 44, 32, 97]], .agg [.str [66], .str [50]], .agg [.str [67], .str [51]]]] h K := by
      intro h K hk
      have e : stripL [([65], [49]), ([99, 111, 110, 110, 101, 99, 116, 105, 111, 110], [98, 44, 32, 97]), ([66], [50]), ([67], [51])] = [([67], [51])] := by decide +kernel
      have := Strip_ok (L := L) (h := h) (x := .sl 2 .full (flds [([65], [49]), ([99, 111, 110, 110, 101, 99, 116, 105, 111, 110], [98, 44, 32, 97]), ([66], [50]), ([67], [51])])) (l := [([65], [49]), ([99, 111, 110, 110, 101, 99, 116, 105, 111, 110], [98, 44, 32, 97]), ([66], [50]), ([67], [51])]) HJ (.inr ⟨_, rfl⟩) (by simp) (by simp) (by decide +kernel)
      rw [e] at this
      refine this.mono fun v h' G => ?_
      obtain ⟨_, ⟨he, _⟩ | ⟨_, k, rfl, _⟩⟩ := G
      · cases he
      · exact hk k h'
    
    simp (maxSteps := 4000000) only [vm, vl, Arg.get, cells, stor, boundO, resultsV, resV, partK, loadV, Vm.part, fillC, splice, reduceIte, reduceCtorEq, Nat.reduceEqDiff, Nat.reduceAdd, Nat.reduceSub, Nat.reduceMul, Nat.reduceLeDiff, ne_eq, not_false_eq_true, Int.reduceEq, Int.reduceLT, Int.reduceLE, Int.reduceNeg, Int.reduceToNat, Int.reduceGT, Int.reduceGE, Nat.reduceLT, Nat.lt_add_one, Nat.zero_lt_succ, Nat.succ_pos, Nat.zero_le, beq_self_eq_true, hf, decide_true, Bool.not_true, k_gatepostlaw04_FieldStrips_0, r1, r2, r3, i0, hi, litl, oa, Int.toNat_natCast, a1, a2]
    refine (Strip_ok HJ hl2 (by omega) hm2 (jn connS)).mono fun v h3 G => ?_
    try simp (maxSteps := 4000000) only [vm, vl, Arg.get, cells, stor, boundO, resultsV, resV, partK, loadV, Vm.part, fillC, splice, reduceIte, reduceCtorEq, Nat.reduceEqDiff, Nat.reduceAdd, Nat.reduceSub, Nat.reduceMul, Nat.reduceLeDiff, ne_eq, not_false_eq_true, Int.reduceEq, Int.reduceLT, Int.reduceLE, Int.reduceNeg, Int.reduceToNat, Int.reduceGT, Int.reduceGE, Nat.reduceLT, Nat.lt_add_one, Nat.zero_lt_succ, Nat.succ_pos, Nat.zero_le, beq_self_eq_true]
    have G1 := G.list
    refine Cf.pu (Get_ok HJ G1 (by omega) hm3 (by omega) (by rw [vals_strip o1]; simp [joinS])) fun t3 => ?_
    simp only [getV, vals_strip o1]
    simp (maxSteps := 4000000) only [vm, vl, Arg.get, cells, stor, boundO, resultsV, resV, partK, loadV, Vm.part, fillC, splice, reduceIte, reduceCtorEq, Nat.reduceEqDiff, Nat.reduceAdd, Nat.reduceSub, Nat.reduceMul, Nat.reduceLeDiff, ne_eq, not_false_eq_true, Int.reduceEq, Int.reduceLT, Int.reduceLE, Int.reduceNeg, Int.reduceToNat, Int.reduceGT, Int.reduceGE, Nat.reduceLT, Nat.lt_add_one, Nat.zero_lt_succ, Nat.succ_pos, Nat.zero_le, beq_self_eq_true, decide_false, List.length_nil]
    refine (Strip_ok HJ G1 (by omega) hm3 (by rw [vals_strip hc]; simp [joinS])).mono fun v4 h4 G4 => ?_
    try simp (maxSteps := 4000000) only [vm, vl, Arg.get, cells, stor, boundO, resultsV, resV, partK, loadV, Vm.part, fillC, splice, reduceIte, reduceCtorEq, Nat.reduceEqDiff, Nat.reduceAdd, Nat.reduceSub, Nat.reduceMul, Nat.reduceLeDiff, ne_eq, not_false_eq_true, Int.reduceEq, Int.reduceLT, Int.reduceLE, Int.reduceNeg, Int.reduceToNat, Int.reduceGT, Int.reduceGE, Nat.reduceLT, Nat.lt_add_one, Nat.zero_lt_succ, Nat.succ_pos, Nat.zero_le, beq_self_eq_true]
    refine Cf.pu (fSame_ok G4.list G1 (by rw [strip_twice]; omega) (by omega)) fun t5 => ?_
    have e5 : decide (stripL (stripL m) = stripL m) = true := by simp [strip_twice]
    simp (maxSteps := 4000000) only [vm, vl, Arg.get, cells, stor, boundO, resultsV, resV, partK, loadV, Vm.part, fillC, splice, reduceIte, reduceCtorEq, Nat.reduceEqDiff, Nat.reduceAdd, Nat.reduceSub, Nat.reduceMul, Nat.reduceLeDiff, ne_eq, not_false_eq_true, Int.reduceEq, Int.reduceLT, Int.reduceLE, Int.reduceNeg, Int.reduceToNat, Int.reduceGT, Int.reduceGE, Nat.reduceLT, Nat.lt_add_one, Nat.zero_lt_succ, Nat.succ_pos, Nat.zero_le, beq_self_eq_true, e5, Bool.not_true, k_gatepostlaw04_FieldStrips_1]
    refine con fun k' h6 => ?_
    simp (maxSteps := 4000000) only [vm, vl, Arg.get, cells, stor, boundO, resultsV, resV, partK, loadV, Vm.part, fillC, splice, reduceIte, reduceCtorEq, Nat.reduceEqDiff, Nat.reduceAdd, Nat.reduceSub, Nat.reduceMul, Nat.reduceLeDiff, ne_eq, not_false_eq_true, Int.reduceEq, Int.reduceLT, Int.reduceLE, Int.reduceNeg, Int.reduceToNat, Int.reduceGT, Int.reduceGE, Nat.reduceLT, Nat.lt_add_one, Nat.zero_lt_succ, Nat.succ_pos, Nat.zero_le, beq_self_eq_true, decide_true, List.getD_cons_zero, List.length_cons, List.length_nil]
  · simp (maxSteps := 4000000) only [vm, vl, Arg.get, cells, stor, boundO, resultsV, resV, partK, loadV, Vm.part, fillC, splice, reduceIte, reduceCtorEq, Nat.reduceEqDiff, Nat.reduceAdd, Nat.reduceSub, Nat.reduceMul, Nat.reduceLeDiff, ne_eq, not_false_eq_true, Int.reduceEq, Int.reduceLT, Int.reduceLE, Int.reduceNeg, Int.reduceToNat, Int.reduceGT, Int.reduceGE, Nat.reduceLT, Nat.lt_add_one, Nat.zero_lt_succ, Nat.succ_pos, Nat.zero_le, beq_self_eq_true, hf, decide_true, decide_false, Bool.not_false]
theorem FieldStrips_row {x0 x1 : V} (v0 : VPar [.sl [.s, .s]] x0) (v1 : VPar [.l (.i .i64)] x1) (w : World) (vs : List Value) (hv : Rvs w.heap.size G0 w [x0, x1] vs) :
    Calls Tryd.prog i_gatepostlaw04_FieldStrips vs.toArray w fun e w' => e = .returned (.bool true) ∧ RowKit.Below w.heap.size w w' := by
  obtain ⟨l, h1, h2, h3⟩ := fields_par v0
  obtain ⟨k, rfl, hk⟩ := v1
  exact calls_at hm hF (l4_at w) (FieldStrips_ok (joinOk fun _ _ _ h => .inl h) h1 h2 h3 hk) hv
end Go.Proofs.YtfnepflonoadkaaDoor.Vh
