/- TokenQuotes on the small machine. -/
import Derived.Test.YtmfpmnfbcgchjaaDoorVGood
import Derived.Test.YtmfpmnfbcgchjaaDoorVQuote
import Derived.Test.YtmfpmnfbcgchjaaDoorVmOpen
set_option linter.unusedVariables false
set_option linter.unusedSimpArgs false
namespace Go.Proofs.YtmfpmnfbcgchjaaDoor.Vh
open Go.Vm Go.Vt
attribute [local congr] wi_congr wg_congr wgd_congr wb_congr wl_congr cf_congr
variable {L : FuncId → List V → V → Prop} {h : Heap}
theorem unqT_quote : ∀ (s bs : Bs), s.all txtB = true → unqT (escS s ++ [34]) bs = (bs ++ s, true)
  | [], bs, _ => by rw [show escS [] ++ [34] = (34 :: [] : Bs) from rfl, unqT_stop]; simp
  | x :: r, bs, h => by
    rw [List.all_cons, Bool.and_eq_true] at h
    obtain ⟨h1, h2⟩ := h
    have ih := unqT_quote r (bs ++ [x]) h2
    rw [escS]
    by_cases hx : x = 34 ∨ x = 92
    · rw [if_pos hx]
      show unqT (92 :: x :: (escS r ++ [34])) bs = _
      rw [unqT_esc, h1, if_pos rfl, ih, List.append_assoc]; rfl
    · rw [if_neg hx]
      show unqT (x :: (escS r ++ [34])) bs = _
      rw [unqT_one (fun h => hx (.inl h)) (fun h => hx (.inr h)), h1, if_pos rfl, ih, List.append_assoc]; rfl
theorem pair_quote {s : Bs} (h : s.all txtB = true) : pairS ([120, 61] ++ (34 :: escS s ++ [34])) = ([120], s, true, true) := by
  have hp : pos 61 ([120, 61] ++ (34 :: escS s ++ [34])) = 1 := by
    show pos 61 (120 :: 61 :: (34 :: escS s ++ [34])) = 1
    rw [pos_cons, if_neg (by decide), pos_cons, if_pos rfl]
  unfold pairS
  simp only
  rw [hp]
  have e1 : List.take 1 ([120, 61] ++ (34 :: escS s ++ [34])) = [120] := rfl
  have e2 : List.drop (1 + 1) ([120, 61] ++ (34 :: escS s ++ [34])) = 34 :: (escS s ++ [34]) := rfl
  have e3 : unqP (34 :: (escS s ++ [34])) = (s, true) := by
    have e0 : (34 :: (escS s ++ [34]) : Bs).head? = some 34 := rfl
    unfold unqP
    rw [if_pos e0, List.drop_succ_cons, List.drop_zero, unqT_quote s [] h]; rfl
  have e4 : isTok (34 :: (escS s ++ [34])) = false := rfl
  have e5 : isTok [120] = true := rfl
  rw [e1, e2, e3, e4, e5, if_pos rfl, if_pos (by simp), if_neg (by simp), if_pos rfl]
theorem split_quote {X : Bs} (h : Runs X ∧ Firm X) : split ([121, 44, 32] ++ X ++ [44, 32, 122]) = some [[121], X, [122]] := by
  unfold split
  show splitG (121 :: 44 :: 32 :: (X ++ [44, 32, 122])) [] false [] = _
  rw [splitG_byte (by decide) (by decide), splitG_comma, splitG_byte (by decide) (by decide), h.1, splitG_comma, splitG_byte (by decide) (by decide), splitG_byte (by decide) (by decide)]
  have h1 : flush [] ([] ++ [121]) = [[121]] := by decide
  have h2 := flush_firm (out := [[121]]) h.2 (p := [32]) (q := []) (.inr (.inr rfl)) (.inl rfl)
  rw [List.append_nil] at h2
  rw [h1, List.nil_append, h2]
  have f : Firm [122] := ⟨⟨122, [], rfl, rfl⟩, [], 122, rfl, rfl⟩
  have h3 := flush_firm (out := [[121], X]) f (p := [32]) (q := []) (.inr (.inr rfl)) (.inl rfl)
  show some (flush ([[121]] ++ [X]) ([32] ++ [122])) = _
  rw [List.append_nil] at h3
  exact congrArg some h3
theorem Quotes0_ok (HI : IndexOk L) (HU : UnqOk L) (HR : ReplOk L) {s : Bs} (hs : s.length ≤ 100000) : k_gatepostlaw01_TokenQuotes_0 L (fun v _ => v = .bool true) (.str s) h := by
  
  unfold k_gatepostlaw01_TokenQuotes_0
  
  simp (maxSteps := 4000000) only [vm, vl, Arg.get, cells, stor, boundO, resultsV, resV, partK, loadV, Vm.part, fillC, splice, reduceIte, reduceCtorEq, Nat.reduceEqDiff, Nat.reduceAdd, Nat.reduceSub, Nat.reduceMul, Nat.reduceLeDiff, ne_eq, not_false_eq_true, Int.reduceEq, Int.reduceLT, Int.reduceLE, Int.reduceNeg, Int.reduceToNat, Int.reduceGT, Int.reduceGE, Nat.reduceLT, Nat.lt_add_one, Nat.zero_lt_succ, Nat.succ_pos, Nat.zero_le, beq_self_eq_true]
  refine Cf.pu (Quote_ok HR hs) fun u1 => ?_
  have l2 := escS_len s
  cases ht : s.all txtB with
  | false =>
    have e1 : quoteS s = ([], false) := by unfold quoteS; rw [ht]; rfl
    rw [e1]
    simp (maxSteps := 4000000) only [vm, vl, Arg.get, cells, stor, boundO, resultsV, resV, partK, loadV, Vm.part, fillC, splice, reduceIte, reduceCtorEq, Nat.reduceEqDiff, Nat.reduceAdd, Nat.reduceSub, Nat.reduceMul, Nat.reduceLeDiff, ne_eq, not_false_eq_true, Int.reduceEq, Int.reduceLT, Int.reduceLE, Int.reduceNeg, Int.reduceToNat, Int.reduceGT, Int.reduceGE, Nat.reduceLT, Nat.lt_add_one, Nat.zero_lt_succ, Nat.succ_pos, Nat.zero_le, beq_self_eq_true, unqV, Bool.not_false]
    refine Cf.pu (Quote_ok HR (by simp)) fun u2 => ?_
    have e2 : quoteS [97, 44, 98] = ([34, 97, 44, 98, 34], true) := by decide
    rw [e2]
    simp (maxSteps := 4000000) only [vm, vl, Arg.get, cells, stor, boundO, resultsV, resV, partK, loadV, Vm.part, fillC, splice, reduceIte, reduceCtorEq, Nat.reduceEqDiff, Nat.reduceAdd, Nat.reduceSub, Nat.reduceMul, Nat.reduceLeDiff, ne_eq, not_false_eq_true, Int.reduceEq, Int.reduceLT, Int.reduceLE, Int.reduceNeg, Int.reduceToNat, Int.reduceGT, Int.reduceGE, Nat.reduceLT, Nat.lt_add_one, Nat.zero_lt_succ, Nat.succ_pos, Nat.zero_le, beq_self_eq_true, unqV, beq_self_eq_true]
  | true =>
    have e1 : quoteS s = (34 :: escS s ++ [34], true) := by unfold quoteS; rw [ht]; rfl
    rw [e1]
    have hp := pair_quote ht
    have hg := pair_good (s := [120, 61] ++ (34 :: escS s ++ [34])) (by rw [hp])
    have hq := split_quote hg
    have hl : (34 :: escS s ++ [34]).length ≤ 300000 := by simp; omega
    generalize (34 :: escS s ++ [34]) = q at *
    have b1 : binV .add (.str [120, 61]) (.str q) = some (.str ([120, 61] ++ q)) := bin_sadd (by simp; omega)
    have b2 : binV .add (.str [121, 44, 32, 120, 61]) (.str q) = some (.str (121 :: 44 :: 32 :: 120 :: 61 :: q)) := bin_sadd (by simp; omega)
    have b3 : binV .add (.str (121 :: 44 :: 32 :: 120 :: 61 :: q)) (.str [44, 32, 122]) = some (.str ([121, 44, 32] ++ ([120, 61] ++ q) ++ [44, 32, 122])) := by
      rw [bin_sadd (by simp; omega)]; rfl
    have hX : ([120, 61] ++ q).length ≤ 300002 := by simp; omega
    generalize [120, 61] ++ q = X at *
    have hY : ([121, 44, 32] ++ X ++ [44, 32, 122]).length < 8000000000 := by rw [List.length_append, List.length_append]; show 3 + X.length + 3 < _; omega
    generalize [121, 44, 32] ++ X ++ [44, 32, 122] = Y at *
    simp (maxSteps := 4000000) only [vm, vl, Arg.get, cells, stor, boundO, resultsV, resV, partK, loadV, Vm.part, fillC, splice, reduceIte, reduceCtorEq, Nat.reduceEqDiff, Nat.reduceAdd, Nat.reduceSub, Nat.reduceMul, Nat.reduceLeDiff, ne_eq, not_false_eq_true, Int.reduceEq, Int.reduceLT, Int.reduceLE, Int.reduceNeg, Int.reduceToNat, Int.reduceGT, Int.reduceGE, Nat.reduceLT, Nat.lt_add_one, Nat.zero_lt_succ, Nat.succ_pos, Nat.zero_le, beq_self_eq_true, unqV, Bool.not_true, k_gatepostlaw01_TokenQuotes_1, b1]
    refine Cf.pu (Pair_ok HI HU (by omega)) fun u2 => ?_
    rw [hp]
    simp (maxSteps := 4000000) only [vm, vl, Arg.get, cells, stor, boundO, resultsV, resV, partK, loadV, Vm.part, fillC, splice, reduceIte, reduceCtorEq, Nat.reduceEqDiff, Nat.reduceAdd, Nat.reduceSub, Nat.reduceMul, Nat.reduceLeDiff, ne_eq, not_false_eq_true, Int.reduceEq, Int.reduceLT, Int.reduceLE, Int.reduceNeg, Int.reduceToNat, Int.reduceGT, Int.reduceGE, Nat.reduceLT, Nat.lt_add_one, Nat.zero_lt_succ, Nat.succ_pos, Nat.zero_le, beq_self_eq_true, pairV, b2, b3]
    refine Cf.pu (Split_ok hY) fun u3 => ?_
    rw [hq]
    simp only [splitV, fullV]
    simp (maxSteps := 4000000) only [vm, vl, Arg.get, cells, stor, boundO, resultsV, resV, partK, loadV, Vm.part, fillC, splice, reduceIte, reduceCtorEq, Nat.reduceEqDiff, Nat.reduceAdd, Nat.reduceSub, Nat.reduceMul, Nat.reduceLeDiff, ne_eq, not_false_eq_true, Int.reduceEq, Int.reduceLT, Int.reduceLE, Int.reduceNeg, Int.reduceToNat, Int.reduceGT, Int.reduceGE, Nat.reduceLT, Nat.lt_add_one, Nat.zero_lt_succ, Nat.succ_pos, Nat.zero_le, beq_self_eq_true, List.cons_ne_nil, beq_self_eq_true, b1, decide_true]
theorem Quotes_ok (HI : IndexOk L) (HU : UnqOk L) (HR : ReplOk L) {s : Bs} (hs : s.length ≤ 140737488351232) : Cf F L i_gatepostlaw01_TokenQuotes [.str s] h (fun v _ => v = .bool true) := by
  refine run_gatepostlaw01_TokenQuotes ?_
  simp only [p_gatepostlaw01_TokenQuotes]
  
  by_cases hl : (s.length : Int) > 3000
  · have g1 : (0 : Int) ≤ 3000 := by decide
    have g2 : (3000 : Int).toNat = 3000 := rfl
    have g3 : 3000 ≤ s.length := by omega
    simp (maxSteps := 4000000) only [vm, vl, Arg.get, cells, stor, boundO, resultsV, resV, partK, loadV, Vm.part, fillC, splice, reduceIte, reduceCtorEq, Nat.reduceEqDiff, Nat.reduceAdd, Nat.reduceSub, Nat.reduceMul, Nat.reduceLeDiff, ne_eq, not_false_eq_true, Int.reduceEq, Int.reduceLT, Int.reduceLE, Int.reduceNeg, Int.reduceToNat, Int.reduceGT, Int.reduceGE, Nat.reduceLT, Nat.lt_add_one, Nat.zero_lt_succ, Nat.succ_pos, Nat.zero_le, beq_self_eq_true, hl, decide_true, g3, List.drop_zero]
    exact Quotes0_ok HI HU HR (by rw [List.length_take]; omega)
  · simp (maxSteps := 4000000) only [vm, vl, Arg.get, cells, stor, boundO, resultsV, resV, partK, loadV, Vm.part, fillC, splice, reduceIte, reduceCtorEq, Nat.reduceEqDiff, Nat.reduceAdd, Nat.reduceSub, Nat.reduceMul, Nat.reduceLeDiff, ne_eq, not_false_eq_true, Int.reduceEq, Int.reduceLT, Int.reduceLE, Int.reduceNeg, Int.reduceToNat, Int.reduceGT, Int.reduceGE, Nat.reduceLT, Nat.lt_add_one, Nat.zero_lt_succ, Nat.succ_pos, Nat.zero_le, beq_self_eq_true, hl, decide_false]
    exact Quotes0_ok HI HU HR (by omega)
def LQ : FuncId → List V → V → Prop := fun f a v => LIndex f a v ∨ LUnq f a v ∨ LRepl f a v
theorem lq_at {w0 : World} (hm : MaxAt w0) : LibAt Tryd.prog w0 LQ := fun f a v h => h.elim (index_at w0 f a v) fun h => h.elim (unq_at w0 f a v) (repl_at hm f a v)
theorem TokenQuotes_row {x0 : V} (v0 : VPar [.l .s] x0) (w : World) (hx : MaxAt w) (vs : List Value) (hv : Rvs w.heap.size G0 w [x0] vs) :
    Calls Tryd.prog i_gatepostlaw01_TokenQuotes vs.toArray w fun e w' => e = .returned (.bool true) ∧ RowKit.Below w.heap.size w w' := by
  obtain ⟨s, rfl, hs⟩ := v0
  exact calls_at hm hF (lq_at hx) (Quotes_ok (indexOk fun _ _ _ h => .inl h) (unqOk fun _ _ _ h => .inr (.inl h)) (replOk fun _ _ _ h => .inr (.inr h)) hs) hv
end Go.Proofs.YtmfpmnfbcgchjaaDoor.Vh
