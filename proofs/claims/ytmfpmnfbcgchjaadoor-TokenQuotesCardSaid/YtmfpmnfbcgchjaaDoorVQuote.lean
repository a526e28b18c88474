/- Quote, of the program (strings.ReplaceAll by the shelf's contract) and of the document. -/
import Derived.Test.YtmfpmnfbcgchjaaDoorVUnqL
import Derived.Lib.Replace
import Derived.Lib.CountLaws
import Derived.Lib.IndexBytes
import Derived.Shelf.Vars
set_option linter.unusedVariables false
set_option linter.unusedSimpArgs false
namespace Go.Proofs.YtmfpmnfbcgchjaaDoor.Vh
open Go.Vm Go.Vt
attribute [local congr] wi_congr wg_congr wgd_congr wb_congr wl_congr cf_congr
variable {L : FuncId → List V → V → Prop} {h : Heap}
/-- A byte, replaced by a text. -/
def repB (c : UInt8) (n : Bs) : Bs → Bs
  | [] => []
  | x :: r => (if x = c then n else [x]) ++ repB c n r
theorem repB_len (c : UInt8) (n : Bs) : ∀ s : Bs, (repB c n s).length ≤ s.length * (n.length + 1)
  | [] => by simp [repB]
  | x :: r => by
    have ih := repB_len c n r
    unfold repB
    rw [List.length_append, List.length_cons, Nat.succ_mul]
    split <;> simp <;> omega
theorem repB_none {c : UInt8} {n : Bs} : ∀ {s : Bs}, ¬ pos c s < s.length → repB c n s = s
  | [], _ => rfl
  | x :: r, h => by
    rw [pos_cons] at h
    by_cases hc : x = c
    · rw [if_pos hc] at h; simp at h
    · rw [if_neg hc] at h
      rw [repB, if_neg hc, repB_none (s := r) (by simpa using h)]; rfl
theorem repB_step {c : UInt8} {n : Bs} : ∀ {s : Bs}, pos c s < s.length → repB c n s = s.take (pos c s) ++ n ++ repB c n (s.drop (pos c s + 1))
  | [], h => by simp at h
  | x :: r, h => by
    rw [pos_cons] at h ⊢
    by_cases hc : x = c
    · rw [if_pos hc, repB, if_pos hc]; simp
    · rw [if_neg hc] at h ⊢
      rw [repB, if_neg hc, repB_step (s := r) (by simpa using h)]; simp
theorem index_pos (c : UInt8) (s : Bs) : Lib.index s [c] = if pos c s < s.length then (pos c s : Int) else -1 := by rw [Lib.index_one, indexByte_pos]
theorem replaceK_rep (c : UInt8) (n : Bs) : ∀ (m : Nat) (s : Bs), s.length ≤ m → Lib.replaceK [c] n (Lib.count s [c]) s = repB c n s
  | m, s, hm => by
    have hi := index_pos c s
    by_cases hp : pos c s < s.length
    · rw [if_pos hp] at hi
      rw [Lib.count_hit (by simp) hi, Nat.add_comm, Lib.replaceK_hit _ _ _ _ _ hi, repB_step hp]
      match m, hm with
      | 0, hm => omega
      | m + 1, hm => rw [show [c].length = 1 from rfl, replaceK_rep c n m (s.drop (pos c s + 1)) (by rw [List.length_drop]; omega)]
    · rw [if_neg hp] at hi
      rw [Lib.count_miss hi, repB_none hp]; rfl
  termination_by m => m
theorem replaceAll_rep {c : UInt8} {n s : Bs} (h : ([c] : Bs) ≠ n) : Lib.replaceAll s [c] n = repB c n s := by
  unfold Lib.replaceAll Lib.replace Lib.replaceNum
  rw [if_neg (by simpa using h), if_pos (.inl (by decide))]
  exact replaceK_rep c n _ s (Nat.le_refl _)
/-! strings.ReplaceAll, as a function of the machine's library. -/
abbrev MaxAt (w : World) : Prop := ∃ m, w.cell? ⟨0, 0, none⟩ = some (.int .i64 m)
def LRepl : FuncId → List V → V → Prop := fun f args v => f = i_strings_ReplaceAll ∧ ∃ (s : Bs) (c : UInt8) (n : Bs), s.length ≤ 1000000 ∧ n.length ≤ 100 ∧ ([c] : Bs) ≠ n ∧ args = [.str s, .str [c], .str n] ∧ v = .str (repB c n s)
theorem rvs_three {B : Nat} {G : Gh} {w : World} {x y z : V} {vs : List Value} (h : Rvs B G w [x, y, z] vs) : ∃ a b c, vs = [a, b, c] ∧ Rv B G w x a ∧ Rv B G w y b ∧ Rv B G w z c := by
  obtain ⟨h1, h2⟩ := h
  match vs, h1 with
  | [a, b, c], _ => exact ⟨a, b, c, rfl, h2 0 _ _ rfl rfl, h2 1 _ _ rfl rfl, h2 2 _ _ rfl rfl⟩
theorem repl_at {w0 : World} (hm : MaxAt w0) : LibAt Tryd.prog w0 LRepl := by
  rintro f args v ⟨rfl, s, c, n, hs, hn, hne, rfl, rfl⟩
  refine ⟨by kernel_rfl, good_below fun B G h w vs hr hb hv => ?_⟩
  obtain ⟨a, b, d, rfl, ha, hb', hd⟩ := rvs_three hv
  cases ha; cases hb'; cases hd
  obtain ⟨m, hm⟩ := hm
  have hlt := World.block_lt_of_cell? _ _ hm
  have hm' : w.cell? ⟨0, 0, none⟩ = some (.int .i64 m) := by
    have := at?_of_block (o := 0) ((hb.2.mono hb.1).block _ hlt)
    exact this.trans hm
  have h1 : (⟨s.toArray⟩ : ByteArray).size = s.length := by show s.toArray.size = _; simp
  have h2 : (⟨n.toArray⟩ : ByteArray).size = n.length := by show n.toArray.size = _; simp
  have hc : Lib.countB ⟨s.toArray⟩ ⟨#[c]⟩ ≤ s.length + 1 := by
    have := Lib.count_le s [c]
    exact this
  have hcn : Lib.countB ⟨s.toArray⟩ ⟨#[c]⟩ * n.length ≤ 1000001 * 100 := Nat.mul_le_mul (by omega) hn
  refine (Tryd.strings_ReplaceAll ⟨s.toArray⟩ ⟨#[c]⟩ ⟨n.toArray⟩ m w (by rw [h1]; omega) hm' (by show 1 ≤ (#[c] : Array UInt8).size; simp) (by rw [h1, h2]; omega)).mono fun e w' ⟨e1, e2⟩ => ?_
  refine ⟨_, e1, ?_, e2⟩
  show Rv B G w' (.str (repB c n s)) (.string ⟨(Lib.replaceAll s [c] n).toArray⟩)
  rw [replaceAll_rep hne]
  exact .str _
def ReplOk (L : FuncId → List V → V → Prop) : Prop := ∀ {s : Bs} {c : UInt8} {n : Bs} {h : Heap}, s.length ≤ 1000000 → n.length ≤ 100 → ([c] : Bs) ≠ n → Cf F L i_strings_ReplaceAll [.str s, .str [c], .str n] h (Pu h (.str (repB c n s)))
theorem replOk {L : FuncId → List V → V → Prop} (hL : ∀ f a v, LRepl f a v → L f a v) : ReplOk L :=
  fun h1 h2 h3 => wlib (hL _ _ _ ⟨rfl, _, _, _, h1, h2, h3, rfl, rfl⟩) ⟨rfl, [], by simp⟩
/-! Quote. -/
def escS : Bs → Bs
  | [] => []
  | x :: r => (if x = 34 ∨ x = 92 then [92, x] else [x]) ++ escS r
theorem escS_app : ∀ a b : Bs, escS (a ++ b) = escS a ++ escS b
  | [], b => rfl
  | x :: r, b => by rw [List.cons_append, escS, escS, escS_app r b, List.append_assoc]
theorem repB_app (c : UInt8) (n : Bs) : ∀ a b : Bs, repB c n (a ++ b) = repB c n a ++ repB c n b
  | [], b => rfl
  | x :: r, b => by rw [List.cons_append, repB, repB, repB_app c n r b, List.append_assoc]
theorem esc_rep : ∀ s : Bs, repB 34 [92, 34] (repB 92 [92, 92] s) = escS s
  | [] => rfl
  | x :: r => by
    rw [repB, repB_app, esc_rep r, escS]
    by_cases h1 : x = 92
    · subst h1; rfl
    · by_cases h2 : x = 34
      · subst h2; rfl
      · rw [if_neg h1, if_neg (fun h => h.elim h2 h1)]
        simp [repB, h2]
theorem escS_len : ∀ s : Bs, (escS s).length ≤ 2 * s.length
  | [] => by simp [escS]
  | x :: r => by
    have ih := escS_len r
    unfold escS
    rw [List.length_append, List.length_cons]
    split <;> simp <;> omega
def quoteS (s : Bs) : Bs × Bool := if s.all txtB then (34 :: escS s ++ [34], true) else ([], false)
theorem Quote_ok (HR : ReplOk L) {s : Bs} (hs : s.length ≤ 100000) : Cf F L i_token_Quote [.str s] h (Pu h (unqV (quoteS s))) := by
  refine run_token_Quote ?_
  simp only [p_token_Quote]
  simp (maxSteps := 4000000) only [vm, vl, Arg.get, cells, stor, boundO, resultsV, resV, partK, loadV, Vm.part, fillC, splice, reduceIte, reduceCtorEq, Nat.reduceEqDiff, Nat.reduceAdd, Nat.reduceSub, Nat.reduceMul, Nat.reduceLeDiff, ne_eq, not_false_eq_true, Int.reduceEq, Int.reduceLT, Int.reduceLE, Int.reduceNeg, Int.reduceToNat, Int.reduceGT, Int.reduceGE, Nat.reduceLT, Nat.lt_add_one, Nat.zero_lt_succ, Nat.succ_pos, Nat.zero_le, beq_self_eq_true, k_token_Quote_0]
  refine Cf.pu (all_ok (caps := []) (p := txtB) (by omega) (fun c h => inQuotes_ok)) fun u => ?_
  unfold quoteS
  cases ht : s.all txtB with
  | false => simp (maxSteps := 4000000) only [vm, vl, Arg.get, cells, stor, boundO, resultsV, resV, partK, loadV, Vm.part, fillC, splice, reduceIte, reduceCtorEq, Nat.reduceEqDiff, Nat.reduceAdd, Nat.reduceSub, Nat.reduceMul, Nat.reduceLeDiff, ne_eq, not_false_eq_true, Int.reduceEq, Int.reduceLT, Int.reduceLE, Int.reduceNeg, Int.reduceToNat, Int.reduceGT, Int.reduceGE, Nat.reduceLT, Nat.lt_add_one, Nat.zero_lt_succ, Nat.succ_pos, Nat.zero_le, beq_self_eq_true, k_token_Quote_0, Bool.not_false, unqV]
  | true =>
    have l1 := repB_len 92 [92, 92] s
    have l2 := escS_len s
    simp at l1
    have g1 : binV .add (.str [34]) (.str (escS s)) = some (.str (34 :: escS s)) := by rw [bin_sadd (by simp; omega)]; rfl
    have g2 : binV .add (.str (34 :: escS s)) (.str [34]) = some (.str (34 :: escS s ++ [34])) := bin_sadd (by simp; omega)
    simp (maxSteps := 4000000) only [vm, vl, Arg.get, cells, stor, boundO, resultsV, resV, partK, loadV, Vm.part, fillC, splice, reduceIte, reduceCtorEq, Nat.reduceEqDiff, Nat.reduceAdd, Nat.reduceSub, Nat.reduceMul, Nat.reduceLeDiff, ne_eq, not_false_eq_true, Int.reduceEq, Int.reduceLT, Int.reduceLE, Int.reduceNeg, Int.reduceToNat, Int.reduceGT, Int.reduceGE, Nat.reduceLT, Nat.lt_add_one, Nat.zero_lt_succ, Nat.succ_pos, Nat.zero_le, beq_self_eq_true, k_token_Quote_0, Bool.not_true]
    refine Cf.pu (HR (by omega) (by simp) (by decide)) fun u1 => ?_
    simp (maxSteps := 4000000) only [vm, vl, Arg.get, cells, stor, boundO, resultsV, resV, partK, loadV, Vm.part, fillC, splice, reduceIte, reduceCtorEq, Nat.reduceEqDiff, Nat.reduceAdd, Nat.reduceSub, Nat.reduceMul, Nat.reduceLeDiff, ne_eq, not_false_eq_true, Int.reduceEq, Int.reduceLT, Int.reduceLE, Int.reduceNeg, Int.reduceToNat, Int.reduceGT, Int.reduceGE, Nat.reduceLT, Nat.lt_add_one, Nat.zero_lt_succ, Nat.succ_pos, Nat.zero_le, beq_self_eq_true, k_token_Quote_0]
    refine Cf.pu (HR (by omega) (by simp) (by decide)) fun u2 => ?_
    rw [esc_rep]
    simp (maxSteps := 4000000) only [vm, vl, Arg.get, cells, stor, boundO, resultsV, resV, partK, loadV, Vm.part, fillC, splice, reduceIte, reduceCtorEq, Nat.reduceEqDiff, Nat.reduceAdd, Nat.reduceSub, Nat.reduceMul, Nat.reduceLeDiff, ne_eq, not_false_eq_true, Int.reduceEq, Int.reduceLT, Int.reduceLE, Int.reduceNeg, Int.reduceToNat, Int.reduceGT, Int.reduceGE, Nat.reduceLT, Nat.lt_add_one, Nat.zero_lt_succ, Nat.succ_pos, Nat.zero_le, beq_self_eq_true, k_token_Quote_0, g1, g2, unqV]
theorem rQuote_ok {s : Bs} (hs : s.length ≤ 100000) : Cf F L i_gatepostref01_Quote [.str s] h (Pu h (unqV (quoteS s))) := by
  refine run_gatepostref01_Quote ?_
  simp only [p_gatepostref01_Quote]
  refine l_gatepostref01_Quote_0 (fun n e h' => ∃ i : Nat, n = s.length - i ∧ i ≤ s.length ∧ e 0 = .str s ∧ e 4 = .str (escS (s.take i)) ∧ e 5 = .int .i64 i ∧ (∃ t, h' = h ++ t) ∧ s.all txtB = (s.drop i).all txtB) ?_ (n := s.length) ⟨0, by simp, by simp, rfl, rfl, rfl, ⟨[], by simp⟩, rfl⟩
  rintro n e h' ⟨i, rfl, hi, e0, e4, e5, ⟨t, rfl⟩, hall⟩
  simp only [b_gatepostref01_Quote_0]
  have l2 := escS_len s
  rcases str_at hi with ⟨hn, rfl, hd⟩ | ⟨c, hl, hl', hc, hd⟩
  · have g1 : binV .add (.str [34]) (.str (escS s)) = some (.str (34 :: escS s)) := by rw [bin_sadd (by simp; omega)]; rfl
    have g2 : binV .add (.str (34 :: escS s)) (.str [34]) = some (.str (34 :: escS s ++ [34])) := bin_sadd (by simp; omega)
    rw [hd] at hall
    have hq : quoteS s = (34 :: escS s ++ [34], true) := by unfold quoteS; rw [hall]; rfl
    rw [hq]
    simp (maxSteps := 4000000) only [vm, vl, Arg.get, cells, stor, boundO, resultsV, resV, partK, loadV, Vm.part, fillC, splice, reduceIte, reduceCtorEq, Nat.reduceEqDiff, Nat.reduceAdd, Nat.reduceSub, Nat.reduceMul, Nat.reduceLeDiff, ne_eq, not_false_eq_true, Int.reduceEq, Int.reduceLT, Int.reduceLE, Int.reduceNeg, Int.reduceToNat, Int.reduceGT, Int.reduceGE, Nat.reduceLT, Nat.lt_add_one, Nat.zero_lt_succ, Nat.succ_pos, Nat.zero_le, beq_self_eq_true, k_gatepostref01_Quote_0, k_gatepostref01_Quote_2, k_gatepostref01_Quote_4, k_gatepostref01_Quote_3, k_gatepostref01_Quote_1, e0, e4, e5, hn, List.take_length, g1, g2, unqV]
  · have w := wrap64 (x := (i : Int) + 1) (by omega) (by omega)
    rw [hd, List.all_cons] at hall
    simp (maxSteps := 4000000) only [vm, vl, Arg.get, cells, stor, boundO, resultsV, resV, partK, loadV, Vm.part, fillC, splice, reduceIte, reduceCtorEq, Nat.reduceEqDiff, Nat.reduceAdd, Nat.reduceSub, Nat.reduceMul, Nat.reduceLeDiff, ne_eq, not_false_eq_true, Int.reduceEq, Int.reduceLT, Int.reduceLE, Int.reduceNeg, Int.reduceToNat, Int.reduceGT, Int.reduceGE, Nat.reduceLT, Nat.lt_add_one, Nat.zero_lt_succ, Nat.succ_pos, Nat.zero_le, beq_self_eq_true, k_gatepostref01_Quote_0, k_gatepostref01_Quote_2, k_gatepostref01_Quote_4, k_gatepostref01_Quote_3, k_gatepostref01_Quote_1, e0, e4, e5, hl, hl', hc]
    refine Cf.pu rtext_ok fun u => ?_
    cases ht : txtB c with
    | false =>
      rw [ht, Bool.false_and] at hall
      have hq : quoteS s = ([], false) := by unfold quoteS; rw [hall]; rfl
      rw [hq]
      simp (maxSteps := 4000000) only [vm, vl, Arg.get, cells, stor, boundO, resultsV, resV, partK, loadV, Vm.part, fillC, splice, reduceIte, reduceCtorEq, Nat.reduceEqDiff, Nat.reduceAdd, Nat.reduceSub, Nat.reduceMul, Nat.reduceLeDiff, ne_eq, not_false_eq_true, Int.reduceEq, Int.reduceLT, Int.reduceLE, Int.reduceNeg, Int.reduceToNat, Int.reduceGT, Int.reduceGE, Nat.reduceLT, Nat.lt_add_one, Nat.zero_lt_succ, Nat.succ_pos, Nat.zero_le, beq_self_eq_true, k_gatepostref01_Quote_0, k_gatepostref01_Quote_2, k_gatepostref01_Quote_4, k_gatepostref01_Quote_3, k_gatepostref01_Quote_1, Bool.not_false, unqV]
    | true =>
      rw [ht, Bool.true_and] at hall
      have l3 := escS_len (s.take i)
      have l4 : (s.take i).length ≤ s.length := by rw [List.length_take]; omega
      have hs1 : escS (s.take (i + 1)) = escS (s.take i) ++ escS [c] := by rw [take_succ hl' hd, escS_app]
      have k34 := q34 (c := c)
      have k92 := q92 (c := c)
      have t1 : ((i : Int) + 1).toNat = i + 1 := by omega
      have t2 : (0 : Int) ≤ (i : Int) + 1 := by omega
      have k3 : i ≤ i + 1 := by omega
      have ec : List.drop i (List.take (i + 1) s) = [c] := by
        rw [take_succ hl' hd, List.drop_append]
        simp [Nat.min_eq_left (Nat.le_of_lt hl'), List.drop_eq_nil_of_le]
      by_cases c34 : c = 34
      · subst c34
        have k34' : ((UInt8.toNat 34 : Nat) : Int) = 34 := rfl
        have g1 : binV .add (.str (escS (s.take i))) (.str [92]) = some (.str (escS (s.take i) ++ [92])) := bin_sadd (by simp; omega)
        have g2 : binV .add (.str (escS (s.take i) ++ [92])) (.str [34]) = some (.str (escS (s.take (i + 1)))) := by
          rw [bin_sadd (by simp; omega), hs1, List.append_assoc]; rfl
        simp (maxSteps := 4000000) only [vm, vl, Arg.get, cells, stor, boundO, resultsV, resV, partK, loadV, Vm.part, fillC, splice, reduceIte, reduceCtorEq, Nat.reduceEqDiff, Nat.reduceAdd, Nat.reduceSub, Nat.reduceMul, Nat.reduceLeDiff, ne_eq, not_false_eq_true, Int.reduceEq, Int.reduceLT, Int.reduceLE, Int.reduceNeg, Int.reduceToNat, Int.reduceGT, Int.reduceGE, Nat.reduceLT, Nat.lt_add_one, Nat.zero_lt_succ, Nat.succ_pos, Nat.zero_le, beq_self_eq_true, k_gatepostref01_Quote_0, k_gatepostref01_Quote_2, k_gatepostref01_Quote_4, k_gatepostref01_Quote_3, k_gatepostref01_Quote_1, e0, e4, e5, hl, hl', hc, Bool.not_true, k34', decide_true, w, t1, t2, k3, ec, g1, g2]
        exact ⟨hl', s.length - (i + 1), by omega, i + 1, rfl, hl', rfl, rfl, ⟨_, rfl⟩, hall⟩
      · have k34' : ¬ (c.toNat : Int) = 34 := by rw [← decide_eq_false_iff_not, k34]; simpa using c34
        by_cases c92 : c = 92
        · subst c92
          have k92' : ((UInt8.toNat 92 : Nat) : Int) = 92 := rfl
          have g1 : binV .add (.str (escS (s.take i))) (.str [92]) = some (.str (escS (s.take i) ++ [92])) := bin_sadd (by simp; omega)
          have g2 : binV .add (.str (escS (s.take i) ++ [92])) (.str [92]) = some (.str (escS (s.take (i + 1)))) := by
            rw [bin_sadd (by simp; omega), hs1, List.append_assoc]; rfl
          simp (maxSteps := 4000000) only [vm, vl, Arg.get, cells, stor, boundO, resultsV, resV, partK, loadV, Vm.part, fillC, splice, reduceIte, reduceCtorEq, Nat.reduceEqDiff, Nat.reduceAdd, Nat.reduceSub, Nat.reduceMul, Nat.reduceLeDiff, ne_eq, not_false_eq_true, Int.reduceEq, Int.reduceLT, Int.reduceLE, Int.reduceNeg, Int.reduceToNat, Int.reduceGT, Int.reduceGE, Nat.reduceLT, Nat.lt_add_one, Nat.zero_lt_succ, Nat.succ_pos, Nat.zero_le, beq_self_eq_true, k_gatepostref01_Quote_0, k_gatepostref01_Quote_2, k_gatepostref01_Quote_4, k_gatepostref01_Quote_3, k_gatepostref01_Quote_1, e0, e4, e5, hl, hl', hc, Bool.not_true, k34', k92', decide_true, decide_false, w, t1, t2, k3, ec, g1, g2]
          exact ⟨hl', s.length - (i + 1), by omega, i + 1, rfl, hl', rfl, rfl, ⟨_, rfl⟩, hall⟩
        · have k92' : ¬ (c.toNat : Int) = 92 := by rw [← decide_eq_false_iff_not, k92]; simpa using c92
          have g2 : binV .add (.str (escS (s.take i))) (.str [c]) = some (.str (escS (s.take (i + 1)))) := by
            rw [bin_sadd (by simp; omega), hs1]
            simp [escS, c34, c92]
          simp (maxSteps := 4000000) only [vm, vl, Arg.get, cells, stor, boundO, resultsV, resV, partK, loadV, Vm.part, fillC, splice, reduceIte, reduceCtorEq, Nat.reduceEqDiff, Nat.reduceAdd, Nat.reduceSub, Nat.reduceMul, Nat.reduceLeDiff, ne_eq, not_false_eq_true, Int.reduceEq, Int.reduceLT, Int.reduceLE, Int.reduceNeg, Int.reduceToNat, Int.reduceGT, Int.reduceGE, Nat.reduceLT, Nat.lt_add_one, Nat.zero_lt_succ, Nat.succ_pos, Nat.zero_le, beq_self_eq_true, k_gatepostref01_Quote_0, k_gatepostref01_Quote_2, k_gatepostref01_Quote_4, k_gatepostref01_Quote_3, k_gatepostref01_Quote_1, e0, e4, e5, hl, hl', hc, Bool.not_true, k34', k92', decide_false, w, t1, t2, k3, ec, g2]
          exact ⟨hl', s.length - (i + 1), by omega, i + 1, rfl, hl', rfl, rfl, ⟨_, rfl⟩, hall⟩
end Go.Proofs.YtmfpmnfbcgchjaaDoor.Vh
