/- Several texts in one: VTag2, VRef1, VSplit. -/
import Derived.Test.YtfkebmdfcpnaeaaGreatDoorPk4
import Derived.Test.YtfkebmdfcpnaeaaGreatDoorPk5
section
set_option linter.unusedVariables false
set_option linter.unusedSimpArgs false
namespace Go.Proofs.YtfkebmdfcpnaeaaGreatDoor.Vh
open Go.Vm Go.Vt
attribute [local congr] wi_congr wg_congr wgd_congr wb_congr wl_congr cf_congr
variable {L : FuncId → List V → V → Prop} {h : Heap}
def tagB (c : UInt8) : Bool := !(decide (c.toNat ≤ 32) || c == 34 || c == 92 || c == 127)
/-- A tag behind its W/: its text. -/
def tagT (s : Bs) : Option Bs :=
  if (cutPre [34] s).2 && (cutSuf [34] (cutPre [34] s).1).2 && (cutSuf [34] (cutPre [34] s).1).1.all tagB then some (cutSuf [34] (cutPre [34] s).1).1 else none
def tagS (s : Bs) : Option (Bool × Bs) := (tagT (cutPre [87, 47] s).1).map fun t => ((cutPre [87, 47] s).2, t)
def tagV : Option (Bool × Bs) → V
  | none => .tup [.agg [.bool false, .str []], .bool false]
  | some (w, t) => .tup [.agg [.bool w, .str t], .bool true]
theorem tagB_eq (c : UInt8) : tagB c = !(decide ((c.toNat : Int) ≤ 32) || (decide ((c.toNat : Int) = 34) || (decide ((c.toNat : Int) = 92) || decide ((c.toNat : Int) = 127)))) :=
  byte_all (p := fun c => tagB c = !(decide ((c.toNat : Int) ≤ 32) || (decide ((c.toNat : Int) = 34) || (decide ((c.toNat : Int) = 92) || decide ((c.toNat : Int) = 127))))) (by decide +kernel) c
theorem cutPre_len (p s : Bs) : (cutPre p s).1.length ≤ s.length := by
  unfold cutPre; split <;> simp
theorem cutSuf_len (p s : Bs) : (cutSuf p s).1.length ≤ s.length := by
  unfold cutSuf; split <;> simp
theorem tag_parse_loop {w : Bool} {m : Bs} {e : Env} {t : Heap} (hm : m.length ≤ 9223372036854775807) (e2 : e 2 = .ptr h.length 0) (e4 : e 4 = .bool w) (e5 : e 5 = .str m) (e33 : e 33 = .int .i64 m.length) (e34 : e 34 = .int .i64 0) :
    Wl F L lc_validator_Parse_0 (q_validator_Parse_0 L (Pu h (tagV (if m.all tagB then some (w, m) else none)))) e (h ++ (O.box [.bool false, .str []] :: t)) := by
  refine l_validator_Parse_0 (fun n e h' => ∃ i, n = m.length - i ∧ i ≤ m.length ∧ e 2 = .ptr h.length 0 ∧ e 4 = .bool w ∧ e 5 = .str m ∧ e 33 = .int .i64 m.length ∧ e 34 = .int .i64 i ∧ h' = h ++ (O.box [.bool false, .str []] :: t) ∧ m.all tagB = (m.drop i).all tagB) ?_ (n := m.length) ⟨0, by simp, by simp, e2, e4, e5, e33, e34, rfl, rfl⟩
  rintro n e h' ⟨i, rfl, hi, e2, e4, e5, e33, e34, rfl, hall⟩
  simp only [b_validator_Parse_0]
  rw [hall]
  
  rcases str_at hi with ⟨hn, rfl, hd⟩ | ⟨c, hl, hl', hc, hd⟩
  · rw [hd]
    simp (maxSteps := 4000000) only [vm, vl, Arg.get, cells, stor, boundO, resultsV, resV, partK, loadV, Vm.part, fillC, splice, reduceIte, reduceCtorEq, Nat.reduceEqDiff, Nat.reduceAdd, Nat.reduceSub, Nat.reduceMul, Nat.reduceLeDiff, ne_eq, not_false_eq_true, Int.reduceEq, Int.reduceLT, Int.reduceLE, Int.reduceNeg, Int.reduceToNat, Int.reduceGT, Int.reduceGE, Nat.reduceLT, Nat.lt_add_one, Nat.zero_lt_succ, Nat.succ_pos, Nat.zero_le, beq_self_eq_true, k_validator_Parse_1, k_validator_Parse_3, k_validator_Parse_2, k_validator_Parse_0, e2, e4, e5, e33, e34, hn]
    simp [tagV]
  · have wr := wrap64 (x := (i : Int) + 1) (by omega) (by omega)
    rw [hd] at hall ⊢
    have hb := tagB_eq c
    simp (maxSteps := 4000000) only [vm, vl, Arg.get, cells, stor, boundO, resultsV, resV, partK, loadV, Vm.part, fillC, splice, reduceIte, reduceCtorEq, Nat.reduceEqDiff, Nat.reduceAdd, Nat.reduceSub, Nat.reduceMul, Nat.reduceLeDiff, ne_eq, not_false_eq_true, Int.reduceEq, Int.reduceLT, Int.reduceLE, Int.reduceNeg, Int.reduceToNat, Int.reduceGT, Int.reduceGE, Nat.reduceLT, Nat.lt_add_one, Nat.zero_lt_succ, Nat.succ_pos, Nat.zero_le, beq_self_eq_true, k_validator_Parse_1, k_validator_Parse_3, k_validator_Parse_2, k_validator_Parse_0, e2, e4, e5, e33, e34, hl, hl', hc, wr]
    cases ht : tagB c with
    | true =>
      rw [ht] at hb
      simp at hb
      obtain ⟨b1, b2, b3, b4⟩ := hb
      have b1' : ¬ (c.toNat : Int) ≤ 32 := by omega
      simp (maxSteps := 4000000) only [vm, vl, Arg.get, cells, stor, boundO, resultsV, resV, partK, loadV, Vm.part, fillC, splice, reduceIte, reduceCtorEq, Nat.reduceEqDiff, Nat.reduceAdd, Nat.reduceSub, Nat.reduceMul, Nat.reduceLeDiff, ne_eq, not_false_eq_true, Int.reduceEq, Int.reduceLT, Int.reduceLE, Int.reduceNeg, Int.reduceToNat, Int.reduceGT, Int.reduceGE, Nat.reduceLT, Nat.lt_add_one, Nat.zero_lt_succ, Nat.succ_pos, Nat.zero_le, beq_self_eq_true, k_validator_Parse_1, k_validator_Parse_3, k_validator_Parse_2, k_validator_Parse_0, b1', b2, b3, b4]
      exact ⟨m.length - (i + 1), by omega, i + 1, rfl, hl', rfl, rfl⟩
    | false =>
      have hb' : (c.toNat : Int) ≤ 32 ∨ (c.toNat : Int) = 34 ∨ (c.toNat : Int) = 92 ∨ (c.toNat : Int) = 127 := by
        rw [ht] at hb
        have h5 : (c.toNat : Int) ≤ 32 → (c.toNat : Int) ≤ 32 := id
        rcases Classical.em ((c.toNat : Int) ≤ 32 ∨ (c.toNat : Int) = 34 ∨ (c.toNat : Int) = 92 ∨ (c.toNat : Int) = 127) with h6 | h6
        · exact h6
        · exfalso
          simp only [not_or] at h6
          simp [h6.1, h6.2.1, h6.2.2.1, h6.2.2.2] at hb
      clear hb
      (repeat' ((first | refine wg_casep (fun _ => ?_) (fun _ => ?_) | refine wg_casen (fun _ => ?_) (fun _ => ?_) | refine wg_case (fun _ => ?_) (fun _ => ?_) | refine wgd_casep (fun _ => ?_) (fun _ => ?_) | refine wgd_casen (fun _ => ?_) (fun _ => ?_) | refine wgd_case (fun _ => ?_) (fun _ => ?_) | refine wb_casep (fun _ => ?_) (fun _ => ?_) | refine wb_casen (fun _ => ?_) (fun _ => ?_) | refine wb_case (fun _ => ?_) (fun _ => ?_)) <;> try simp (maxSteps := 4000000) only [vm, vl, Arg.get, cells, stor, boundO, resultsV, resV, partK, loadV, Vm.part, fillC, splice, reduceIte, reduceCtorEq, Nat.reduceEqDiff, Nat.reduceAdd, Nat.reduceSub, Nat.reduceMul, Nat.reduceLeDiff, ne_eq, not_false_eq_true, Int.reduceEq, Int.reduceLT, Int.reduceLE, Int.reduceNeg, Int.reduceToNat, Int.reduceGT, Int.reduceGE, Nat.reduceLT, Nat.lt_add_one, Nat.zero_lt_succ, Nat.succ_pos, Nat.zero_le, beq_self_eq_true, k_validator_Parse_1, k_validator_Parse_3, k_validator_Parse_2, k_validator_Parse_0, *]))
      all_goals first
        | (exfalso; omega)
        | (simp [tagV, ht]; done)
theorem TParse_ok {s : Bs} (hs : s.length ≤ 9223372036854775807) : Cf F L i_validator_Parse [.str s] h (Pu h (tagV (tagS s))) := by
  refine run_validator_Parse ?_
  simp only [p_validator_Parse]
  simp (maxSteps := 4000000) only [vm, vl, Arg.get, cells, stor, boundO, resultsV, resV, partK, loadV, Vm.part, fillC, splice, reduceIte, reduceCtorEq, Nat.reduceEqDiff, Nat.reduceAdd, Nat.reduceSub, Nat.reduceMul, Nat.reduceLeDiff, ne_eq, not_false_eq_true, Int.reduceEq, Int.reduceLT, Int.reduceLE, Int.reduceNeg, Int.reduceToNat, Int.reduceGT, Int.reduceGE, Nat.reduceLT, Nat.lt_add_one, Nat.zero_lt_succ, Nat.succ_pos, Nat.zero_le, beq_self_eq_true, k_validator_Parse_1, k_validator_Parse_3, k_validator_Parse_2, k_validator_Parse_0]
  refine Cf.pu CutPrefix_ok fun t1 => ?_
  simp (maxSteps := 4000000) only [vm, vl, Arg.get, cells, stor, boundO, resultsV, resV, partK, loadV, Vm.part, fillC, splice, reduceIte, reduceCtorEq, Nat.reduceEqDiff, Nat.reduceAdd, Nat.reduceSub, Nat.reduceMul, Nat.reduceLeDiff, ne_eq, not_false_eq_true, Int.reduceEq, Int.reduceLT, Int.reduceLE, Int.reduceNeg, Int.reduceToNat, Int.reduceGT, Int.reduceGE, Nat.reduceLT, Nat.lt_add_one, Nat.zero_lt_succ, Nat.succ_pos, Nat.zero_le, beq_self_eq_true, k_validator_Parse_1, k_validator_Parse_3, k_validator_Parse_2, k_validator_Parse_0]
  refine Cf.pu CutPrefix_ok fun t2 => ?_
  have l1 := cutPre_len [87, 47] s
  have l2 := cutPre_len [34] (cutPre [87, 47] s).1
  have l3 := cutSuf_len [34] (cutPre [34] (cutPre [87, 47] s).1).1
  simp (maxSteps := 4000000) only [vm, vl, Arg.get, cells, stor, boundO, resultsV, resV, partK, loadV, Vm.part, fillC, splice, reduceIte, reduceCtorEq, Nat.reduceEqDiff, Nat.reduceAdd, Nat.reduceSub, Nat.reduceMul, Nat.reduceLeDiff, ne_eq, not_false_eq_true, Int.reduceEq, Int.reduceLT, Int.reduceLE, Int.reduceNeg, Int.reduceToNat, Int.reduceGT, Int.reduceGE, Nat.reduceLT, Nat.lt_add_one, Nat.zero_lt_succ, Nat.succ_pos, Nat.zero_le, beq_self_eq_true, k_validator_Parse_1, k_validator_Parse_3, k_validator_Parse_2, k_validator_Parse_0]
  refine Cf.pu (CutSuffix_ok (by omega)) fun t3 => ?_
  unfold tagS tagT
  generalize hw : (cutPre [87, 47] s).2 = w
  generalize hb : (cutPre [34] (cutPre [87, 47] s).1).2 = b
  generalize he : (cutSuf [34] (cutPre [34] (cutPre [87, 47] s).1).1).2 = c
  generalize hm : (cutSuf [34] (cutPre [34] (cutPre [87, 47] s).1).1).1 = m at *
  cases b with
  | false => simp (maxSteps := 4000000) only [vm, vl, Arg.get, cells, stor, boundO, resultsV, resV, partK, loadV, Vm.part, fillC, splice, reduceIte, reduceCtorEq, Nat.reduceEqDiff, Nat.reduceAdd, Nat.reduceSub, Nat.reduceMul, Nat.reduceLeDiff, ne_eq, not_false_eq_true, Int.reduceEq, Int.reduceLT, Int.reduceLE, Int.reduceNeg, Int.reduceToNat, Int.reduceGT, Int.reduceGE, Nat.reduceLT, Nat.lt_add_one, Nat.zero_lt_succ, Nat.succ_pos, Nat.zero_le, beq_self_eq_true, k_validator_Parse_1, k_validator_Parse_3, k_validator_Parse_2, k_validator_Parse_0]; rfl
  | true =>
    cases c with
    | false => simp (maxSteps := 4000000) only [vm, vl, Arg.get, cells, stor, boundO, resultsV, resV, partK, loadV, Vm.part, fillC, splice, reduceIte, reduceCtorEq, Nat.reduceEqDiff, Nat.reduceAdd, Nat.reduceSub, Nat.reduceMul, Nat.reduceLeDiff, ne_eq, not_false_eq_true, Int.reduceEq, Int.reduceLT, Int.reduceLE, Int.reduceNeg, Int.reduceToNat, Int.reduceGT, Int.reduceGE, Nat.reduceLT, Nat.lt_add_one, Nat.zero_lt_succ, Nat.succ_pos, Nat.zero_le, beq_self_eq_true, k_validator_Parse_1, k_validator_Parse_3, k_validator_Parse_2, k_validator_Parse_0]; rfl
    | true =>
      simp (maxSteps := 4000000) only [vm, vl, Arg.get, cells, stor, boundO, resultsV, resV, partK, loadV, Vm.part, fillC, splice, reduceIte, reduceCtorEq, Nat.reduceEqDiff, Nat.reduceAdd, Nat.reduceSub, Nat.reduceMul, Nat.reduceLeDiff, ne_eq, not_false_eq_true, Int.reduceEq, Int.reduceLT, Int.reduceLE, Int.reduceNeg, Int.reduceToNat, Int.reduceGT, Int.reduceGE, Nat.reduceLT, Nat.lt_add_one, Nat.zero_lt_succ, Nat.succ_pos, Nat.zero_le, beq_self_eq_true, k_validator_Parse_1, k_validator_Parse_3, k_validator_Parse_2, k_validator_Parse_0]
      have key := fun (e : Env) => tag_parse_loop (L := L) (h := h) (w := w) (m := m) (e := e) (t := t1 ++ (t2 ++ t3)) (by omega)
      have e1 : (Option.map (fun t => (w, t)) (if m.all tagB = true then some m else none)) = (if m.all tagB then some (w, m) else none) := by
        cases m.all tagB <;> rfl
      rw [e1]
      exact key _ (by simp [upd]) (by simp [upd]) (by simp [upd]) (by simp [upd]) (by simp [upd])
theorem tagT_short {s : Bs} (h : s.length < 2) : tagT s = none := by
  match s, h with
  | [], _ => rfl
  | [c], _ =>
    unfold tagT cutPre
    by_cases hc : c = 34
    · subst hc; rfl
    · simp [hc]
theorem tagT_mid {a z : UInt8} {m : Bs} : tagT (a :: (m ++ [z])) = if a = 34 ∧ z = 34 ∧ m.all tagB = true then some m else none := by
  unfold tagT cutPre
  by_cases ha : a = 34
  · subst ha
    simp only [List.length_cons, List.length_nil, List.take_succ_cons, List.take_zero, if_true, List.drop_succ_cons, List.drop_zero]
    unfold cutSuf
    by_cases hz : z = 34
    · subst hz
      simp
    · simp [hz]
  · simp [ha]
theorem mid_at {m : Bs} {a z : UInt8} {i : Nat} (hi : i < m.length) : (a :: (m ++ [z])).getD (i + 1) 0 = m.getD i 0 := by
  rw [List.getD_cons_succ, List.getD_eq_getElem?_getD, List.getD_eq_getElem?_getD, List.getElem?_append_left hi]
theorem tag_bad {c : UInt8} (h : tagB c = false) : (c.toNat : Int) < 33 ∨ (c.toNat : Int) = 34 ∨ (c.toNat : Int) = 92 ∨ (c.toNat : Int) = 127 := by
  have := byte_all (p := fun c => tagB c = false → (c.toNat : Int) < 33 ∨ (c.toNat : Int) = 34 ∨ (c.toNat : Int) = 92 ∨ (c.toNat : Int) = 127) (by decide +kernel) c
  exact this h
theorem tag_good {c : UInt8} (h : tagB c = true) : ¬ (c.toNat : Int) < 33 ∧ ¬ (c.toNat : Int) = 34 ∧ ¬ (c.toNat : Int) = 92 ∧ ¬ (c.toNat : Int) = 127 := by
  have := byte_all (p := fun c => tagB c = true → ¬ (c.toNat : Int) < 33 ∧ ¬ (c.toNat : Int) = 34 ∧ ¬ (c.toNat : Int) = 92 ∧ ¬ (c.toNat : Int) = 127) (by decide +kernel) c
  exact this h
theorem rparse_loop {w : Bool} {m : Bs} {e : Env} (hs : m.length + 2 ≤ 9223372036854775807) (e0 : e 0 = .str (34 :: (m ++ [34]))) (e2 : e 2 = .ptr h.length 0) (e4 : e 4 = .ptr (h.length + 1) 0) (e5 : e 5 = .int .i64 1) :
    Wl F L lc_gatepostref12_Parse_0 (q_gatepostref12_Parse_0 L (Pu h (tagV (if m.all tagB = true then some (w, m) else none)))) e (h ++ [.box [.bool false, .str []], .box [.bool w, .str []]]) := by
  refine l_gatepostref12_Parse_0 (fun n e h' => ∃ i, n = m.length - i ∧ i ≤ m.length ∧ e 0 = .str (34 :: (m ++ [34])) ∧ e 2 = .ptr h.length 0 ∧ e 4 = .ptr (h.length + 1) 0 ∧ e 5 = .int .i64 ((i : Int) + 1) ∧ h' = h ++ [.box [.bool false, .str []], .box [.bool w, .str []]] ∧ m.all tagB = (m.drop i).all tagB) ?_ (n := m.length) ⟨0, by simp, by simp, e0, e2, e4, e5, rfl, rfl⟩
  rintro n e h' ⟨i, rfl, hi, e0, e2, e4, e5, rfl, hall⟩
  simp only [b_gatepostref12_Parse_0]
  rw [hall]
  
  have n1 : (34 :: (m ++ [34]) : Bs).length = m.length + 2 := by simp
  have n2 : IntKind.i64.wrap (((m.length + 2 : Nat) : Int) - 1) = ((m.length + 1 : Nat) : Int) := by rw [wrap64 (by omega) (by omega)]; omega
  rcases str_at hi with ⟨hn, rfl, hd⟩ | ⟨c, hl, hl', hc, hd⟩
  · rw [hd]
    have hn' : ¬ ((m.length : Int) + 1) < ((m.length + 1 : Nat) : Int) := by omega
    have k1 : 1 ≤ m.length + 1 := by omega
    have k2 : m.length + 1 ≤ m.length + 2 := by omega
    have k3 : (34 :: (m ++ [34]) : Bs).take (m.length + 1) = 34 :: m := by simp
    simp (maxSteps := 4000000) only [vm, vl, Arg.get, cells, stor, boundO, resultsV, resV, partK, loadV, Vm.part, fillC, splice, reduceIte, reduceCtorEq, Nat.reduceEqDiff, Nat.reduceAdd, Nat.reduceSub, Nat.reduceMul, Nat.reduceLeDiff, ne_eq, not_false_eq_true, Int.reduceEq, Int.reduceLT, Int.reduceLE, Int.reduceNeg, Int.reduceToNat, Int.reduceGT, Int.reduceGE, Nat.reduceLT, Nat.lt_add_one, Nat.zero_lt_succ, Nat.succ_pos, Nat.zero_le, beq_self_eq_true, k_gatepostref12_Parse_2, k_gatepostref12_Parse_4, k_gatepostref12_Parse_3, k_gatepostref12_Parse_1, k_gatepostref12_Parse_0, e0, e2, e4, e5, n1, n2, hn', k1, k2, k3]
    simp [tagV]
  · have hl2 : ((i : Int) + 1) < ((m.length + 1 : Nat) : Int) := by omega
    have wr := wrap64 (x := (i : Int) + 1 + 1) (by omega) (by omega)
    have k1 : i + 1 < m.length + 2 := by omega
    have k2 := mid_at (a := 34) (z := 34) hl'
    rw [hc] at k2
    rw [hd] at hall ⊢
    simp (maxSteps := 4000000) only [vm, vl, Arg.get, cells, stor, boundO, resultsV, resV, partK, loadV, Vm.part, fillC, splice, reduceIte, reduceCtorEq, Nat.reduceEqDiff, Nat.reduceAdd, Nat.reduceSub, Nat.reduceMul, Nat.reduceLeDiff, ne_eq, not_false_eq_true, Int.reduceEq, Int.reduceLT, Int.reduceLE, Int.reduceNeg, Int.reduceToNat, Int.reduceGT, Int.reduceGE, Nat.reduceLT, Nat.lt_add_one, Nat.zero_lt_succ, Nat.succ_pos, Nat.zero_le, beq_self_eq_true, k_gatepostref12_Parse_2, k_gatepostref12_Parse_4, k_gatepostref12_Parse_3, k_gatepostref12_Parse_1, k_gatepostref12_Parse_0, e0, e2, e4, e5, n1, n2, hl2, wr, k1, k2]
    cases ht : tagB c with
    | true =>
      obtain ⟨b1, b2, b3, b4⟩ := tag_good ht
      simp (maxSteps := 4000000) only [vm, vl, Arg.get, cells, stor, boundO, resultsV, resV, partK, loadV, Vm.part, fillC, splice, reduceIte, reduceCtorEq, Nat.reduceEqDiff, Nat.reduceAdd, Nat.reduceSub, Nat.reduceMul, Nat.reduceLeDiff, ne_eq, not_false_eq_true, Int.reduceEq, Int.reduceLT, Int.reduceLE, Int.reduceNeg, Int.reduceToNat, Int.reduceGT, Int.reduceGE, Nat.reduceLT, Nat.lt_add_one, Nat.zero_lt_succ, Nat.succ_pos, Nat.zero_le, beq_self_eq_true, k_gatepostref12_Parse_2, k_gatepostref12_Parse_4, k_gatepostref12_Parse_3, k_gatepostref12_Parse_1, k_gatepostref12_Parse_0, e0, e2, e4, e5, n1, n2, hl2, wr, k1, k2, b1, b2, b3, b4]
      exact ⟨m.length - (i + 1), by omega, i + 1, rfl, hl', by simp, rfl⟩
    | false =>
      have hb' := tag_bad ht
      (repeat' ((first | refine wg_casep (fun _ => ?_) (fun _ => ?_) | refine wg_casen (fun _ => ?_) (fun _ => ?_) | refine wg_case (fun _ => ?_) (fun _ => ?_) | refine wgd_casep (fun _ => ?_) (fun _ => ?_) | refine wgd_casen (fun _ => ?_) (fun _ => ?_) | refine wgd_case (fun _ => ?_) (fun _ => ?_) | refine wb_casep (fun _ => ?_) (fun _ => ?_) | refine wb_casen (fun _ => ?_) (fun _ => ?_) | refine wb_case (fun _ => ?_) (fun _ => ?_)) <;> try simp (maxSteps := 4000000) only [vm, vl, Arg.get, cells, stor, boundO, resultsV, resV, partK, loadV, Vm.part, fillC, splice, reduceIte, reduceCtorEq, Nat.reduceEqDiff, Nat.reduceAdd, Nat.reduceSub, Nat.reduceMul, Nat.reduceLeDiff, ne_eq, not_false_eq_true, Int.reduceEq, Int.reduceLT, Int.reduceLE, Int.reduceNeg, Int.reduceToNat, Int.reduceGT, Int.reduceGE, Nat.reduceLT, Nat.lt_add_one, Nat.zero_lt_succ, Nat.succ_pos, Nat.zero_le, beq_self_eq_true, k_gatepostref12_Parse_2, k_gatepostref12_Parse_4, k_gatepostref12_Parse_3, k_gatepostref12_Parse_1, k_gatepostref12_Parse_0, *]))
      all_goals first
        | (exfalso; omega)
        | (simp [tagV, ht]; done)
        | trace_state
theorem rparse_core {w : Bool} {s : Bs} {e : Env} (hs : s.length ≤ 9223372036854775807) (e0 : e 0 = .str s) (e2 : e 2 = .ptr h.length 0) (e4 : e 4 = .ptr (h.length + 1) 0) :
    k_gatepostref12_Parse_0 L (Pu h (tagV ((tagT s).map fun t => (w, t)))) e (.str s) (.ptr h.length 0) (h ++ [.box [.bool false, .str []], .box [.bool w, .str []]]) := by
  
  by_cases hl : (s.length : Int) < 2
  · rw [tagT_short (by omega)]
    simp (maxSteps := 4000000) only [vm, vl, Arg.get, cells, stor, boundO, resultsV, resV, partK, loadV, Vm.part, fillC, splice, reduceIte, reduceCtorEq, Nat.reduceEqDiff, Nat.reduceAdd, Nat.reduceSub, Nat.reduceMul, Nat.reduceLeDiff, ne_eq, not_false_eq_true, Int.reduceEq, Int.reduceLT, Int.reduceLE, Int.reduceNeg, Int.reduceToNat, Int.reduceGT, Int.reduceGE, Nat.reduceLT, Nat.lt_add_one, Nat.zero_lt_succ, Nat.succ_pos, Nat.zero_le, beq_self_eq_true, k_gatepostref12_Parse_2, k_gatepostref12_Parse_4, k_gatepostref12_Parse_3, k_gatepostref12_Parse_1, k_gatepostref12_Parse_0, hl]
    rfl
  obtain ⟨a, m, z, rfl⟩ : ∃ a m z, s = a :: (m ++ [z]) := by
    match s, hl with
    | [], hl => simp at hl
    | [c], hl => simp at hl
    | a :: b :: r, _ =>
      obtain ⟨q, c, hq, _⟩ := last_at (s := b :: r) (n := r.length) rfl
      exact ⟨a, q, c, by rw [hq]⟩
  rw [tagT_mid]
  have n1 : (a :: (m ++ [z])).length = m.length + 2 := by simp
  have n2 : IntKind.i64.wrap (((m.length + 2 : Nat) : Int) - 1) = ((m.length + 1 : Nat) : Int) := by rw [n1] at hs; rw [wrap64 (by omega) (by omega)]; omega
  have n3 : (a :: (m ++ [z])).getD (m.length + 1) 0 = z := by simp [List.getD_eq_getElem?_getD]
  have n4 : (a :: (m ++ [z])).getD 0 0 = a := rfl
  have n5 : m.length + 1 < m.length + 2 := by omega
  have n6 : 0 < m.length + 2 := by omega
  rw [n1] at hl
  by_cases ha : a = 34
  · by_cases hz : z = 34
    · subst ha; subst hz
      have u : ((UInt8.toNat 34 : Nat) : Int) = 34 := rfl
      simp (maxSteps := 4000000) only [vm, vl, Arg.get, cells, stor, boundO, resultsV, resV, partK, loadV, Vm.part, fillC, splice, reduceIte, reduceCtorEq, Nat.reduceEqDiff, Nat.reduceAdd, Nat.reduceSub, Nat.reduceMul, Nat.reduceLeDiff, ne_eq, not_false_eq_true, Int.reduceEq, Int.reduceLT, Int.reduceLE, Int.reduceNeg, Int.reduceToNat, Int.reduceGT, Int.reduceGE, Nat.reduceLT, Nat.lt_add_one, Nat.zero_lt_succ, Nat.succ_pos, Nat.zero_le, beq_self_eq_true, k_gatepostref12_Parse_2, k_gatepostref12_Parse_4, k_gatepostref12_Parse_3, k_gatepostref12_Parse_1, k_gatepostref12_Parse_0, hl, n1, n2, n3, n4, n5, n6, u, Int.natCast_nonneg]
      have e1 : (Option.map (fun t => (w, t)) (if m.all tagB = true then some m else none)) = (if m.all tagB then some (w, m) else none) := by
        cases m.all tagB <;> rfl
      rw [e1]
      rw [n1] at hs
      exact rparse_loop (by omega) (by simp [upd, e0]) (by simp [upd, e2]) (by simp [upd, e4]) (by simp [upd])
    · have hz' : ¬ (z.toNat : Int) = 34 := fun hh => hz (UInt8.toNat_inj.1 (by have : (34 : UInt8).toNat = 34 := rfl; omega))
      subst ha
      have u : ((UInt8.toNat 34 : Nat) : Int) = 34 := rfl
      rw [if_neg (by simp [hz])]
      simp (maxSteps := 4000000) only [vm, vl, Arg.get, cells, stor, boundO, resultsV, resV, partK, loadV, Vm.part, fillC, splice, reduceIte, reduceCtorEq, Nat.reduceEqDiff, Nat.reduceAdd, Nat.reduceSub, Nat.reduceMul, Nat.reduceLeDiff, ne_eq, not_false_eq_true, Int.reduceEq, Int.reduceLT, Int.reduceLE, Int.reduceNeg, Int.reduceToNat, Int.reduceGT, Int.reduceGE, Nat.reduceLT, Nat.lt_add_one, Nat.zero_lt_succ, Nat.succ_pos, Nat.zero_le, beq_self_eq_true, k_gatepostref12_Parse_2, k_gatepostref12_Parse_4, k_gatepostref12_Parse_3, k_gatepostref12_Parse_1, k_gatepostref12_Parse_0, hl, n1, n2, n3, n4, n5, n6, u, hz', Int.natCast_nonneg]
      rfl
  · have ha' : ¬ (a.toNat : Int) = 34 := fun hh => ha (UInt8.toNat_inj.1 (by have : (34 : UInt8).toNat = 34 := rfl; omega))
    rw [if_neg (by simp [ha])]
    simp (maxSteps := 4000000) only [vm, vl, Arg.get, cells, stor, boundO, resultsV, resV, partK, loadV, Vm.part, fillC, splice, reduceIte, reduceCtorEq, Nat.reduceEqDiff, Nat.reduceAdd, Nat.reduceSub, Nat.reduceMul, Nat.reduceLeDiff, ne_eq, not_false_eq_true, Int.reduceEq, Int.reduceLT, Int.reduceLE, Int.reduceNeg, Int.reduceToNat, Int.reduceGT, Int.reduceGE, Nat.reduceLT, Nat.lt_add_one, Nat.zero_lt_succ, Nat.succ_pos, Nat.zero_le, beq_self_eq_true, k_gatepostref12_Parse_2, k_gatepostref12_Parse_4, k_gatepostref12_Parse_3, k_gatepostref12_Parse_1, k_gatepostref12_Parse_0, hl, n1, n2, n3, n4, n5, n6, ha', Int.natCast_nonneg]
    rfl
theorem tagS_ref (s : Bs) : tagS s = if s.length > 2 ∧ s.getD 0 0 = 87 ∧ s.getD 1 0 = 47 then (tagT (s.drop 2)).map fun t => (true, t) else (tagT s).map fun t => (false, t) := by
  unfold tagS
  match s with
  | [] => rfl
  | [a] => 
    rw [if_neg (by simp)]
    have : cutPre [87, 47] [a] = ([a], false) := by unfold cutPre; rw [if_neg (by simp)]
    rw [this]
  | [a, b] =>
    rw [if_neg (by simp)]
    by_cases h : a = 87 ∧ b = 47
    · obtain ⟨rfl, rfl⟩ := h; rfl
    · have : cutPre [87, 47] [a, b] = ([a, b], false) := by unfold cutPre; rw [if_neg (by simpa using h)]
      rw [this]
  | a :: b :: c :: r =>
    by_cases h : a = 87 ∧ b = 47
    · obtain ⟨rfl, rfl⟩ := h
      rw [if_pos (by simp)]
      rfl
    · have : cutPre [87, 47] (a :: b :: c :: r) = (a :: b :: c :: r, false) := by unfold cutPre; rw [if_neg (by simpa using h)]
      rw [this, if_neg (by simpa using h)]
theorem rTParse_ok {s : Bs} (hs : s.length ≤ 9223372036854775807) : Cf F L i_gatepostref12_Parse [.str s] h (Pu h (tagV (tagS s))) := by
  refine run_gatepostref12_Parse ?_
  simp only [p_gatepostref12_Parse]
  
  rw [tagS_ref]
  have u1 : ∀ c : UInt8, ((c.toNat : Int) = 87) = (c = 87) := fun c => byte_all (p := fun c => ((c.toNat : Int) = 87) = (c = 87)) (by decide +kernel) c
  have u2 : ∀ c : UInt8, ((c.toNat : Int) = 47) = (c = 47) := fun c => byte_all (p := fun c => ((c.toNat : Int) = 47) = (c = 47)) (by decide +kernel) c
  by_cases h0 : (s.length : Int) > 2
  · have g0 : 0 < s.length := by omega
    have g1 : 1 < s.length := by omega
    have g2 : 2 ≤ s.length := by omega
    have g3 : List.take s.length s = s := List.take_of_length_le (Nat.le_refl _)
    by_cases h1 : s.getD 0 0 = 87
    · by_cases h2 : s.getD 1 0 = 47
      · rw [if_pos ⟨by omega, h1, h2⟩]
        simp (maxSteps := 4000000) only [vm, vl, Arg.get, cells, stor, boundO, resultsV, resV, partK, loadV, Vm.part, fillC, splice, reduceIte, reduceCtorEq, Nat.reduceEqDiff, Nat.reduceAdd, Nat.reduceSub, Nat.reduceMul, Nat.reduceLeDiff, ne_eq, not_false_eq_true, Int.reduceEq, Int.reduceLT, Int.reduceLE, Int.reduceNeg, Int.reduceToNat, Int.reduceGT, Int.reduceGE, Nat.reduceLT, Nat.lt_add_one, Nat.zero_lt_succ, Nat.succ_pos, Nat.zero_le, beq_self_eq_true, h0, g0, g1, g2, g3, u1, u2, h1, h2]
        exact rparse_core (by rw [List.length_drop]; omega) (by simp [upd]) (by simp [upd]) (by simp [upd])
      · rw [if_neg (fun hh => h2 hh.2.2)]
        simp (maxSteps := 4000000) only [vm, vl, Arg.get, cells, stor, boundO, resultsV, resV, partK, loadV, Vm.part, fillC, splice, reduceIte, reduceCtorEq, Nat.reduceEqDiff, Nat.reduceAdd, Nat.reduceSub, Nat.reduceMul, Nat.reduceLeDiff, ne_eq, not_false_eq_true, Int.reduceEq, Int.reduceLT, Int.reduceLE, Int.reduceNeg, Int.reduceToNat, Int.reduceGT, Int.reduceGE, Nat.reduceLT, Nat.lt_add_one, Nat.zero_lt_succ, Nat.succ_pos, Nat.zero_le, beq_self_eq_true, h0, g0, g1, u1, u2, h1, h2]
        exact rparse_core hs (by simp [upd, enterE]) (by simp [upd]) (by simp [upd])
    · rw [if_neg (fun hh => h1 hh.2.1)]
      simp (maxSteps := 4000000) only [vm, vl, Arg.get, cells, stor, boundO, resultsV, resV, partK, loadV, Vm.part, fillC, splice, reduceIte, reduceCtorEq, Nat.reduceEqDiff, Nat.reduceAdd, Nat.reduceSub, Nat.reduceMul, Nat.reduceLeDiff, ne_eq, not_false_eq_true, Int.reduceEq, Int.reduceLT, Int.reduceLE, Int.reduceNeg, Int.reduceToNat, Int.reduceGT, Int.reduceGE, Nat.reduceLT, Nat.lt_add_one, Nat.zero_lt_succ, Nat.succ_pos, Nat.zero_le, beq_self_eq_true, h0, g0, g1, u1, u2, h1]
      exact rparse_core hs (by simp [upd, enterE]) (by simp [upd]) (by simp [upd])
  · rw [if_neg (fun hh => h0 (by omega))]
    simp (maxSteps := 4000000) only [vm, vl, Arg.get, cells, stor, boundO, resultsV, resV, partK, loadV, Vm.part, fillC, splice, reduceIte, reduceCtorEq, Nat.reduceEqDiff, Nat.reduceAdd, Nat.reduceSub, Nat.reduceMul, Nat.reduceLeDiff, ne_eq, not_false_eq_true, Int.reduceEq, Int.reduceLT, Int.reduceLE, Int.reduceNeg, Int.reduceToNat, Int.reduceGT, Int.reduceGE, Nat.reduceLT, Nat.lt_add_one, Nat.zero_lt_succ, Nat.succ_pos, Nat.zero_le, beq_self_eq_true, h0]
    exact rparse_core hs (by simp [upd, enterE]) (by simp [upd]) (by simp [upd])
theorem Weak_ok {a b : Bool} {s t : Bs} : Cf F L i_validator_Weak [.agg [.bool a, .str s], .agg [.bool b, .str t]] h (Pu h (.bool (s == t))) := by
  refine run_validator_Weak ?_
  simp only [p_validator_Weak]
  simp (maxSteps := 4000000) only [vm, vl, Arg.get, cells, stor, boundO, resultsV, resV, partK, loadV, Vm.part, fillC, splice, reduceIte, reduceCtorEq, Nat.reduceEqDiff, Nat.reduceAdd, Nat.reduceSub, Nat.reduceMul, Nat.reduceLeDiff, ne_eq, not_false_eq_true, Int.reduceEq, Int.reduceLT, Int.reduceLE, Int.reduceNeg, Int.reduceToNat, Int.reduceGT, Int.reduceGE, Nat.reduceLT, Nat.lt_add_one, Nat.zero_lt_succ, Nat.succ_pos, Nat.zero_le, beq_self_eq_true]
theorem Strong_ok {a b : Bool} {s t : Bs} : Cf F L i_validator_Strong [.agg [.bool a, .str s], .agg [.bool b, .str t]] h (Pu h (.bool ((a == b && s == t) && !a))) := by
  refine run_validator_Strong ?_
  simp only [p_validator_Strong]
  have e : eqV (.agg [.b, .s]) (.agg [.bool a, .str s]) (.agg [.bool b, .str t]) = some (a == b && s == t) := by simp [eqV, eqLeaves, eqLeaf]
  cases hx : (a == b && s == t) <;> rw [hx] at e <;> simp (maxSteps := 4000000) only [vm, vl, Arg.get, cells, stor, boundO, resultsV, resV, partK, loadV, Vm.part, fillC, splice, reduceIte, reduceCtorEq, Nat.reduceEqDiff, Nat.reduceAdd, Nat.reduceSub, Nat.reduceMul, Nat.reduceLeDiff, ne_eq, not_false_eq_true, Int.reduceEq, Int.reduceLT, Int.reduceLE, Int.reduceNeg, Int.reduceToNat, Int.reduceGT, Int.reduceGE, Nat.reduceLT, Nat.lt_add_one, Nat.zero_lt_succ, Nat.succ_pos, Nat.zero_le, beq_self_eq_true, e]
  rfl
theorem tagV_eq (o : Option (Bool × Bs)) : ∃ w t k, tagV o = .tup [.agg [.bool w, .str t], .bool k] := by
  cases o with
  | none => exact ⟨_, _, _, rfl⟩
  | some p => exact ⟨_, _, _, rfl⟩
end Go.Proofs.YtfkebmdfcpnaeaaGreatDoor.Vh
end
section
set_option linter.unusedVariables false
set_option linter.unusedSimpArgs false
namespace Go.Proofs.YtfkebmdfcpnaeaaGreatDoor.Vh
open Go.Vm Go.Vt
attribute [local congr] wi_congr wg_congr wgd_congr wb_congr wl_congr cf_congr
variable {L : FuncId → List V → V → Prop} {h : Heap}
theorem rblank_ok {c : UInt8} : Cf F L i_gatepostref01_blank [byV c] h (Pu h (.bool (blankB c))) := by
  refine run_gatepostref01_blank ?_
  simp only [p_gatepostref01_blank]
  simp (maxSteps := 4000000) only [vm, vl, Arg.get, cells, stor, boundO, resultsV, resV, partK, loadV, Vm.part, fillC, splice, reduceIte, reduceCtorEq, Nat.reduceEqDiff, Nat.reduceAdd, Nat.reduceSub, Nat.reduceMul, Nat.reduceLeDiff, ne_eq, not_false_eq_true, Int.reduceEq, Int.reduceLT, Int.reduceLE, Int.reduceNeg, Int.reduceToNat, Int.reduceGT, Int.reduceGE, Nat.reduceLT, Nat.lt_add_one, Nat.zero_lt_succ, Nat.succ_pos, Nat.zero_le, beq_self_eq_true]
  (repeat' ((first | refine wg_casep (fun _ => ?_) (fun _ => ?_) | refine wg_casen (fun _ => ?_) (fun _ => ?_) | refine wg_case (fun _ => ?_) (fun _ => ?_) | refine wgd_casep (fun _ => ?_) (fun _ => ?_) | refine wgd_casen (fun _ => ?_) (fun _ => ?_) | refine wgd_case (fun _ => ?_) (fun _ => ?_) | refine wb_casep (fun _ => ?_) (fun _ => ?_) | refine wb_casen (fun _ => ?_) (fun _ => ?_) | refine wb_case (fun _ => ?_) (fun _ => ?_)) <;> try simp (maxSteps := 4000000) only [vm, vl, Arg.get, cells, stor, boundO, resultsV, resV, partK, loadV, Vm.part, fillC, splice, reduceIte, reduceCtorEq, Nat.reduceEqDiff, Nat.reduceAdd, Nat.reduceSub, Nat.reduceMul, Nat.reduceLeDiff, ne_eq, not_false_eq_true, Int.reduceEq, Int.reduceLT, Int.reduceLE, Int.reduceNeg, Int.reduceToNat, Int.reduceGT, Int.reduceGE, Nat.reduceLT, Nat.lt_add_one, Nat.zero_lt_succ, Nat.succ_pos, Nat.zero_le, beq_self_eq_true, *]))
  all_goals simp [blank_eq, *]
theorem low_up (c : UInt8) : (c.toNat : Int) ≥ 65 → (c.toNat : Int) ≤ 90 → IntKind.u8.wrap ((c.toNat : Int) + 32) = ((lowB c).toNat : Int) :=
  byte_all (p := fun c => (c.toNat : Int) ≥ 65 → (c.toNat : Int) ≤ 90 → IntKind.u8.wrap ((c.toNat : Int) + 32) = ((lowB c).toNat : Int)) (by decide +kernel) c
theorem toStr_one {c : UInt8} {h : Heap} : stepI (.toStr (.c (.sl 1 .full [byV c]))) E0 h = some (.str [c], h) := by
  simp [stepI, Arg.get, srcElems, toBytesL, toByte]
theorem rLower_ok {s : Bs} (hs : s.length ≤ 140737488355328) : Cf F L i_gatepostref01_Lower [.str s] h (Pu h (.str (low s))) := by
  refine run_gatepostref01_Lower ?_
  simp only [p_gatepostref01_Lower]
  refine l_gatepostref01_Lower_0 (fun n e h' => ∃ i, n = s.length - i ∧ i ≤ s.length ∧ e 0 = .str s ∧ e 3 = .str (low (s.take i)) ∧ e 4 = .int .i64 i ∧ (∃ t, h' = h ++ t)) ?_ (n := s.length) ⟨0, by simp, by simp, rfl, rfl, rfl, ⟨[], by simp⟩⟩
  rintro n e h' ⟨i, rfl, hi, e0, e3, e4, ⟨t, rfl⟩⟩
  simp only [b_gatepostref01_Lower_0]
  rcases str_at hi with ⟨hn, rfl, hd⟩ | ⟨c, hl, hl', hc, hd⟩
  · simp (maxSteps := 4000000) only [vm, vl, Arg.get, cells, stor, boundO, resultsV, resV, partK, loadV, Vm.part, fillC, splice, reduceIte, reduceCtorEq, Nat.reduceEqDiff, Nat.reduceAdd, Nat.reduceSub, Nat.reduceMul, Nat.reduceLeDiff, ne_eq, not_false_eq_true, Int.reduceEq, Int.reduceLT, Int.reduceLE, Int.reduceNeg, Int.reduceToNat, Int.reduceGT, Int.reduceGE, Nat.reduceLT, Nat.lt_add_one, Nat.zero_lt_succ, Nat.succ_pos, Nat.zero_le, beq_self_eq_true, k_gatepostref01_Lower_0, k_gatepostref01_Lower_2, k_gatepostref01_Lower_3, k_gatepostref01_Lower_1, e0, e3, e4, hn]
    simp
  · have w := wrap64 (x := (i : Int) + 1) (by omega) (by omega)
    have g : (low (s.take i)).length + [lowB c].length ≤ 9223372036854775807 := by rw [low_length, List.length_take]; simp; omega
    have g1 : binV .add (.str (low (s.take i))) (.str [lowB c]) = some (.str (low (s.take (i + 1)))) := by
      rw [bin_sadd g, take_succ hl' hd, low_append]; rfl
    by_cases hu : (c.toNat : Int) ≥ 65 ∧ (c.toNat : Int) ≤ 90
    · have h1 := hu.1
      have h2 := hu.2
      have h3 := low_up c h1 h2
      simp (maxSteps := 4000000) only [vm, vl, Arg.get, cells, stor, boundO, resultsV, resV, partK, loadV, Vm.part, fillC, splice, reduceIte, reduceCtorEq, Nat.reduceEqDiff, Nat.reduceAdd, Nat.reduceSub, Nat.reduceMul, Nat.reduceLeDiff, ne_eq, not_false_eq_true, Int.reduceEq, Int.reduceLT, Int.reduceLE, Int.reduceNeg, Int.reduceToNat, Int.reduceGT, Int.reduceGE, Nat.reduceLT, Nat.lt_add_one, Nat.zero_lt_succ, Nat.succ_pos, Nat.zero_le, beq_self_eq_true, k_gatepostref01_Lower_0, k_gatepostref01_Lower_2, k_gatepostref01_Lower_3, k_gatepostref01_Lower_1, e0, e3, e4, hl, hc, hl', w, h1, h2, h3, toStr_one, g1]
      exact ⟨s.length - (i + 1), by omega, i + 1, rfl, hl', rfl, rfl, _, rfl⟩
    · have h3 := low_no c hu
      rw [h3] at g1
      have ts : ∀ h, stepI (.toStr (.c (.sl 1 .full [byV c]))) E0 h = some (.str [c], h) := fun h => toStr_one
      simp (maxSteps := 4000000) only [vm, vl, Arg.get, cells, stor, boundO, resultsV, resV, partK, loadV, Vm.part, fillC, splice, reduceIte, reduceCtorEq, Nat.reduceEqDiff, Nat.reduceAdd, Nat.reduceSub, Nat.reduceMul, Nat.reduceLeDiff, ne_eq, not_false_eq_true, Int.reduceEq, Int.reduceLT, Int.reduceLE, Int.reduceNeg, Int.reduceToNat, Int.reduceGT, Int.reduceGE, Nat.reduceLT, Nat.lt_add_one, Nat.zero_lt_succ, Nat.succ_pos, Nat.zero_le, beq_self_eq_true, k_gatepostref01_Lower_0, k_gatepostref01_Lower_2, k_gatepostref01_Lower_3, k_gatepostref01_Lower_1, e0, e3, e4, hl, hc, hl', w]
      (repeat' ((first | refine wg_casep (fun _ => ?_) (fun _ => ?_) | refine wg_casen (fun _ => ?_) (fun _ => ?_) | refine wg_case (fun _ => ?_) (fun _ => ?_) | refine wgd_casep (fun _ => ?_) (fun _ => ?_) | refine wgd_casen (fun _ => ?_) (fun _ => ?_) | refine wgd_case (fun _ => ?_) (fun _ => ?_) | refine wb_casep (fun _ => ?_) (fun _ => ?_) | refine wb_casen (fun _ => ?_) (fun _ => ?_) | refine wb_case (fun _ => ?_) (fun _ => ?_)) <;> try simp (maxSteps := 4000000) only [vm, vl, Arg.get, cells, stor, boundO, resultsV, resV, partK, loadV, Vm.part, fillC, splice, reduceIte, reduceCtorEq, Nat.reduceEqDiff, Nat.reduceAdd, Nat.reduceSub, Nat.reduceMul, Nat.reduceLeDiff, ne_eq, not_false_eq_true, Int.reduceEq, Int.reduceLT, Int.reduceLE, Int.reduceNeg, Int.reduceToNat, Int.reduceGT, Int.reduceGE, Nat.reduceLT, Nat.lt_add_one, Nat.zero_lt_succ, Nat.succ_pos, Nat.zero_le, beq_self_eq_true, k_gatepostref01_Lower_0, k_gatepostref01_Lower_2, k_gatepostref01_Lower_3, k_gatepostref01_Lower_1, *]))
      all_goals first
        | (exfalso; omega)
        | exact ⟨s.length - (i + 1), by omega, i + 1, rfl, hl', rfl, rfl, _, rfl⟩
theorem rSame_ok {s t : Bs} (hs : s.length ≤ 140737488355328) (ht : t.length ≤ 140737488355328) : Cf F L i_gatepostref01_Same [.str s, .str t] h (Pu h (.bool (low s == low t))) := by
  refine run_gatepostref01_Same ?_
  simp only [p_gatepostref01_Same]
  simp (maxSteps := 4000000) only [vm, vl, Arg.get, cells, stor, boundO, resultsV, resV, partK, loadV, Vm.part, fillC, splice, reduceIte, reduceCtorEq, Nat.reduceEqDiff, Nat.reduceAdd, Nat.reduceSub, Nat.reduceMul, Nat.reduceLeDiff, ne_eq, not_false_eq_true, Int.reduceEq, Int.reduceLT, Int.reduceLE, Int.reduceNeg, Int.reduceToNat, Int.reduceGT, Int.reduceGE, Nat.reduceLT, Nat.lt_add_one, Nat.zero_lt_succ, Nat.succ_pos, Nat.zero_le, beq_self_eq_true]
  (repeat' ((first | refine wg_casep (fun _ => ?_) (fun _ => ?_) | refine wg_casen (fun _ => ?_) (fun _ => ?_) | refine wg_case (fun _ => ?_) (fun _ => ?_) | refine wgd_casep (fun _ => ?_) (fun _ => ?_) | refine wgd_casen (fun _ => ?_) (fun _ => ?_) | refine wgd_case (fun _ => ?_) (fun _ => ?_) | refine wb_casep (fun _ => ?_) (fun _ => ?_) | refine wb_casen (fun _ => ?_) (fun _ => ?_) | refine wb_case (fun _ => ?_) (fun _ => ?_) | refine Cf.pu (rLower_ok hs) (fun _ => ?_) | refine Cf.pu (rLower_ok ht) (fun _ => ?_)) <;> try simp (maxSteps := 4000000) only [vm, vl, Arg.get, cells, stor, boundO, resultsV, resV, partK, loadV, Vm.part, fillC, splice, reduceIte, reduceCtorEq, Nat.reduceEqDiff, Nat.reduceAdd, Nat.reduceSub, Nat.reduceMul, Nat.reduceLeDiff, ne_eq, not_false_eq_true, Int.reduceEq, Int.reduceLT, Int.reduceLE, Int.reduceNeg, Int.reduceToNat, Int.reduceGT, Int.reduceGE, Nat.reduceLT, Nat.lt_add_one, Nat.zero_lt_succ, Nat.succ_pos, Nat.zero_le, beq_self_eq_true, *]))
theorem rTrim_ok {s : Bs} (hs : s.length < 9223372036854775807) : Cf F L i_gatepostref01_Trim [.str s] h (Pu h (.str (trim s))) := by
  refine run_gatepostref01_Trim ?_
  simp only [p_gatepostref01_Trim]
  rw [← trim_comm]
  refine l_gatepostref01_Trim_1 (fun n e h' => ∃ r : Bs, n = r.length ∧ e 0 = .str r ∧ (∃ t, h' = h ++ t) ∧ r.length ≤ s.length ∧ trimL r = trimL s) ?_ (n := s.length) ⟨s, rfl, rfl, ⟨[], by simp⟩, by omega, rfl⟩
  rintro n e h' ⟨r, rfl, e0, ⟨t, rfl⟩, hl, hr⟩
  have right : ∀ {e : Env} {h' : Heap} {r : Bs}, e 0 = .str r → (∃ t, h' = h ++ t) → r.length ≤ s.length → trimR r = trimR (trimL s) → Wl F L lc_gatepostref01_Trim_0 (q_gatepostref01_Trim_0 L (Pu h (.str (trimR (trimL s))))) e h' := by
    intro e h' r e0 ht hl hr
    refine l_gatepostref01_Trim_0 (fun n e h' => ∃ r : Bs, n = r.length ∧ e 0 = .str r ∧ (∃ t, h' = h ++ t) ∧ r.length ≤ s.length ∧ trimR r = trimR (trimL s)) ?_ (n := r.length) ⟨r, rfl, e0, ht, hl, hr⟩
    rintro n e h' ⟨r, rfl, e0, ⟨t, rfl⟩, hl, hr⟩
    simp only [b_gatepostref01_Trim_0]
    rw [← hr]
    cases hn : r.length with
    | zero =>
      obtain rfl : r = [] := List.eq_nil_of_length_eq_zero hn
      simp (maxSteps := 4000000) only [vm, vl, Arg.get, cells, stor, boundO, resultsV, resV, partK, loadV, Vm.part, fillC, splice, reduceIte, reduceCtorEq, Nat.reduceEqDiff, Nat.reduceAdd, Nat.reduceSub, Nat.reduceMul, Nat.reduceLeDiff, ne_eq, not_false_eq_true, Int.reduceEq, Int.reduceLT, Int.reduceLE, Int.reduceNeg, Int.reduceToNat, Int.reduceGT, Int.reduceGE, Nat.reduceLT, Nat.lt_add_one, Nat.zero_lt_succ, Nat.succ_pos, Nat.zero_le, beq_self_eq_true, k_gatepostref01_Trim_1, k_gatepostref01_Trim_2, k_gatepostref01_Trim_0, k_gatepostref01_Trim_3, e0]
      rfl
    | succ n =>
      obtain ⟨q, c, rfl, hq, hc, ht⟩ := last_at hn
      have w : IntKind.i64.wrap (((n + 1 : Nat) : Int) - 1) = n := by rw [wrap64 (by omega) (by omega)]; omega
      have g0 : ((n + 1 : Nat) : Int) > 0 := by omega
      simp (maxSteps := 4000000) only [vm, vl, Arg.get, cells, stor, boundO, resultsV, resV, partK, loadV, Vm.part, fillC, splice, reduceIte, reduceCtorEq, Nat.reduceEqDiff, Nat.reduceAdd, Nat.reduceSub, Nat.reduceMul, Nat.reduceLeDiff, ne_eq, not_false_eq_true, Int.reduceEq, Int.reduceLT, Int.reduceLE, Int.reduceNeg, Int.reduceToNat, Int.reduceGT, Int.reduceGE, Nat.reduceLT, Nat.lt_add_one, Nat.zero_lt_succ, Nat.succ_pos, Nat.zero_le, beq_self_eq_true, k_gatepostref01_Trim_1, k_gatepostref01_Trim_2, k_gatepostref01_Trim_0, k_gatepostref01_Trim_3, e0, hn, w, g0, hc, ht]
      (repeat' ((first | refine wg_casep (fun _ => ?_) (fun _ => ?_) | refine wg_casen (fun _ => ?_) (fun _ => ?_) | refine wg_case (fun _ => ?_) (fun _ => ?_) | refine wgd_casep (fun _ => ?_) (fun _ => ?_) | refine wgd_casen (fun _ => ?_) (fun _ => ?_) | refine wgd_case (fun _ => ?_) (fun _ => ?_) | refine wb_casep (fun _ => ?_) (fun _ => ?_) | refine wb_casen (fun _ => ?_) (fun _ => ?_) | refine wb_case (fun _ => ?_) (fun _ => ?_) | refine Cf.pu rblank_ok (fun _ => ?_)) <;> try simp (maxSteps := 4000000) only [vm, vl, Arg.get, cells, stor, boundO, resultsV, resV, partK, loadV, Vm.part, fillC, splice, reduceIte, reduceCtorEq, Nat.reduceEqDiff, Nat.reduceAdd, Nat.reduceSub, Nat.reduceMul, Nat.reduceLeDiff, ne_eq, not_false_eq_true, Int.reduceEq, Int.reduceLT, Int.reduceLE, Int.reduceNeg, Int.reduceToNat, Int.reduceGT, Int.reduceGE, Nat.reduceLT, Nat.lt_add_one, Nat.zero_lt_succ, Nat.succ_pos, Nat.zero_le, beq_self_eq_true, k_gatepostref01_Trim_1, k_gatepostref01_Trim_2, k_gatepostref01_Trim_0, k_gatepostref01_Trim_3, *]))
      · rename_i hp
        exact ⟨by omega, q.length, by omega, q, rfl, rfl, ⟨_, rfl⟩, by rw [hn] at hl; omega, by rw [← hr, trimR_blank hp]⟩
      · rename_i hp
        rw [← hr, trimR_full hp]
  simp only [b_gatepostref01_Trim_1]
  cases r with
  | nil =>
    simp (maxSteps := 4000000) only [vm, vl, Arg.get, cells, stor, boundO, resultsV, resV, partK, loadV, Vm.part, fillC, splice, reduceIte, reduceCtorEq, Nat.reduceEqDiff, Nat.reduceAdd, Nat.reduceSub, Nat.reduceMul, Nat.reduceLeDiff, ne_eq, not_false_eq_true, Int.reduceEq, Int.reduceLT, Int.reduceLE, Int.reduceNeg, Int.reduceToNat, Int.reduceGT, Int.reduceGE, Nat.reduceLT, Nat.lt_add_one, Nat.zero_lt_succ, Nat.succ_pos, Nat.zero_le, beq_self_eq_true, k_gatepostref01_Trim_1, k_gatepostref01_Trim_2, k_gatepostref01_Trim_0, k_gatepostref01_Trim_3, e0]
    exact right (r := []) (by simp [upd, e0]) ⟨_, rfl⟩ (by simp) (by rw [← hr]; rfl)
  | cons c q =>
    have g0 : (((c :: q).length : Nat) : Int) > 0 := by simp
    have g1 : 1 ≤ (c :: q).length := by simp
    have g2 : List.take (c :: q).length (c :: q) = c :: q := List.take_of_length_le (Nat.le_refl _)
    have g3 : 0 < (c :: q).length := by simp
    simp only [List.length_cons] at g0 g1 g2 g3
    simp (maxSteps := 4000000) only [vm, vl, Arg.get, cells, stor, boundO, resultsV, resV, partK, loadV, Vm.part, fillC, splice, reduceIte, reduceCtorEq, Nat.reduceEqDiff, Nat.reduceAdd, Nat.reduceSub, Nat.reduceMul, Nat.reduceLeDiff, ne_eq, not_false_eq_true, Int.reduceEq, Int.reduceLT, Int.reduceLE, Int.reduceNeg, Int.reduceToNat, Int.reduceGT, Int.reduceGE, Nat.reduceLT, Nat.lt_add_one, Nat.zero_lt_succ, Nat.succ_pos, Nat.zero_le, beq_self_eq_true, k_gatepostref01_Trim_1, k_gatepostref01_Trim_2, k_gatepostref01_Trim_0, k_gatepostref01_Trim_3, e0, g0, g1, g2, g3]
    (repeat' ((first | refine wg_casep (fun _ => ?_) (fun _ => ?_) | refine wg_casen (fun _ => ?_) (fun _ => ?_) | refine wg_case (fun _ => ?_) (fun _ => ?_) | refine wgd_casep (fun _ => ?_) (fun _ => ?_) | refine wgd_casen (fun _ => ?_) (fun _ => ?_) | refine wgd_case (fun _ => ?_) (fun _ => ?_) | refine wb_casep (fun _ => ?_) (fun _ => ?_) | refine wb_casen (fun _ => ?_) (fun _ => ?_) | refine wb_case (fun _ => ?_) (fun _ => ?_) | refine Cf.pu rblank_ok (fun _ => ?_)) <;> try simp (maxSteps := 4000000) only [vm, vl, Arg.get, cells, stor, boundO, resultsV, resV, partK, loadV, Vm.part, fillC, splice, reduceIte, reduceCtorEq, Nat.reduceEqDiff, Nat.reduceAdd, Nat.reduceSub, Nat.reduceMul, Nat.reduceLeDiff, ne_eq, not_false_eq_true, Int.reduceEq, Int.reduceLT, Int.reduceLE, Int.reduceNeg, Int.reduceToNat, Int.reduceGT, Int.reduceGE, Nat.reduceLT, Nat.lt_add_one, Nat.zero_lt_succ, Nat.succ_pos, Nat.zero_le, beq_self_eq_true, k_gatepostref01_Trim_1, k_gatepostref01_Trim_2, k_gatepostref01_Trim_0, k_gatepostref01_Trim_3, *]))
    · rename_i hp
      exact ⟨q.length, by omega, q, rfl, rfl, ⟨_, rfl⟩, by simp at hl; omega, by rw [← hr, trimL_blank hp]⟩
    · rename_i hp
      exact right (by simp [upd, e0]) ⟨_, rfl⟩ hl (by rw [← hr, trimL_full hp])
end Go.Proofs.YtfkebmdfcpnaeaaGreatDoor.Vh
end
section
set_option linter.unusedVariables false
set_option linter.unusedSimpArgs false
namespace Go.Proofs.YtfkebmdfcpnaeaaGreatDoor.Vh
open Go.Vm Go.Vt
attribute [local congr] wi_congr wg_congr wgd_congr wb_congr wl_congr cf_congr
variable {L : FuncId → List V → V → Prop} {h : Heap}
theorem flat_strs (out : List Bs) : flat (out.map V.str) = out.map V.str := by
  induction out with
  | nil => rfl
  | cons a r ih => simp only [List.map_cons, flat, List.flatMap_cons, cells]; exact congrArg _ ih
theorem app_new {h : Heap} {x : Bs} : appV h 1 16 false .nsl (.sl 1 .full [.str x]) = some (.sl 1 (.tip h.length) [.str x], h ++ [.tip 1]) := rfl
theorem app_tip {h : Heap} {k : Nat} {out : List Bs} {x : Bs} (hb : h[k]? = some (.tip out.length)) (hr : out.length < 8000000000) :
    appV h 1 16 false (.sl 1 (.tip k) (out.map .str)) (.sl 1 .full [.str x]) = some (.sl 1 (.tip k) ((out ++ [x]).map .str), h.set k (.tip (out.length + 1))) := by
  have e1 : (out.map V.str ++ [V.str x]) = (out ++ [x]).map V.str := by simp
  have r : room ((out.map V.str).length + [V.str x].length) 16 = true := by simp [room]; omega
  have i : isTip h k (flat (out.map V.str)).length = true := by rw [flat_strs]; simp [isTip, hb]
  rw [flat_strs] at i
  simp only [appV, srcElems, if_true, Option.bind_some, r, i, Bool.and_self, e1, flat_strs]
  simp
/-- What stands on the heap while Split runs: the text, the list, the place; rows behind. -/
def SplitH (h h' : Heap) (s : Bs) (out : List Bs) (at_ : Int) : Prop :=
  ∃ lv t, h' = h ++ (O.box [.str s] :: .box [lv] :: .box [.int .i64 at_] :: t) ∧ ((out = [] ∧ lv = .nsl) ∨ (out ≠ [] ∧ ∃ j, lv = .sl 1 (.tip (h.length + (j + 3))) (out.map .str) ∧ t[j]? = some (.tip out.length)))
theorem end_ok {s own : Bs} {out : List Bs} {from_ to : Int} {h h' : Heap} (hs : s.length ≤ 8000000000) (h0 : 0 ≤ from_) (h1 : from_ ≤ to) (h2 : to ≤ s.length) (ho : out.length ≤ from_) (ho2 : out.length < 8000000000) (hown : (s.take to.toNat).drop from_.toNat = own)
    (H : SplitH h h' s out from_) {K : V → Heap → Prop} (hK : ∀ h'', SplitH h h'' s (flush out own) (to + 1) → K (.tup []) h'') :
    Cf F L i_token_Split_1 [.int .i64 to, .ptr h.length 0, .ptr (h.length + 2) 0, .ptr (h.length + 1) 0] h' K := by
  obtain ⟨lv, t, rfl, hl⟩ := H
  refine run_token_Split_1 ?_
  simp only [p_token_Split_1]
  have w := wrap64 (x := to + 1) (by omega) (by omega)
  have g1 : 0 ≤ from_ := h0
  have g2 : 0 ≤ to := by omega
  have g3 : from_.toNat ≤ to.toNat := by omega
  have g4 : to.toNat ≤ s.length := by omega
  have g5 : own.length < 9223372036854775807 := by rw [← hown]; simp; omega
  simp (maxSteps := 4000000) only [vm, vl, Arg.get, cells, stor, boundO, resultsV, resV, partK, loadV, Vm.part, fillC, splice, reduceIte, reduceCtorEq, Nat.reduceEqDiff, Nat.reduceAdd, Nat.reduceSub, Nat.reduceMul, Nat.reduceLeDiff, ne_eq, not_false_eq_true, Int.reduceEq, Int.reduceLT, Int.reduceLE, Int.reduceNeg, Int.reduceToNat, Int.reduceGT, Int.reduceGE, Nat.reduceLT, Nat.lt_add_one, Nat.zero_lt_succ, Nat.succ_pos, Nat.zero_le, beq_self_eq_true, k_token_Split_1_0, g1, g2, g3, g4, hown, w]
  refine Cf.pu (Trim_ok g5) fun t' => ?_
  by_cases he : trim own = []
  · have q : (trim own == []) = true := by rw [he]; rfl
    have ef : flush out own = out := by simp [flush, he]
    rw [ef] at hK
    simp (maxSteps := 4000000) only [vm, vl, Arg.get, cells, stor, boundO, resultsV, resV, partK, loadV, Vm.part, fillC, splice, reduceIte, reduceCtorEq, Nat.reduceEqDiff, Nat.reduceAdd, Nat.reduceSub, Nat.reduceMul, Nat.reduceLeDiff, ne_eq, not_false_eq_true, Int.reduceEq, Int.reduceLT, Int.reduceLE, Int.reduceNeg, Int.reduceToNat, Int.reduceGT, Int.reduceGE, Nat.reduceLT, Nat.lt_add_one, Nat.zero_lt_succ, Nat.succ_pos, Nat.zero_le, beq_self_eq_true, k_token_Split_1_0, q, w]
    refine hK _ ⟨lv, t ++ t', by simp, hl.imp_right fun ⟨hne, j, e1, e2⟩ => ⟨hne, j, e1, get_old e2⟩⟩
  · have q : (trim own == []) = false := by simpa using he
    have ef : flush out own = out ++ [trim own] := by simp [flush, he]
    rw [ef] at hK
    rcases hl with ⟨rfl, rfl⟩ | ⟨hne, j, rfl, hj⟩
    · simp (maxSteps := 4000000) only [vm, vl, Arg.get, cells, stor, boundO, resultsV, resV, partK, loadV, Vm.part, fillC, splice, reduceIte, reduceCtorEq, Nat.reduceEqDiff, Nat.reduceAdd, Nat.reduceSub, Nat.reduceMul, Nat.reduceLeDiff, ne_eq, not_false_eq_true, Int.reduceEq, Int.reduceLT, Int.reduceLE, Int.reduceNeg, Int.reduceToNat, Int.reduceGT, Int.reduceGE, Nat.reduceLT, Nat.lt_add_one, Nat.zero_lt_succ, Nat.succ_pos, Nat.zero_le, beq_self_eq_true, k_token_Split_1_0, q, w, app_new]
      refine hK _ ⟨_, t ++ (t' ++ [.tip 1]), rfl, .inr ⟨by simp, t.length + t'.length, ?_, ?_⟩⟩
      · simp [Nat.add_assoc]
      · rw [← List.append_assoc, List.getElem?_append_right (by simp)]
        simp
    · have hj' : (h ++ (O.box [.str s] :: .box [V.sl 1 (.tip (h.length + (j + 3))) (out.map V.str)] :: .box [.int .i64 from_] :: (t ++ t')))[h.length + (j + 3)]? = some (.tip out.length) := by
        rw [get_new]
        simp only [List.getElem?_cons_succ]
        exact get_old hj
      have ha := app_tip (x := trim own) hj' ho2
      simp (maxSteps := 4000000) only [vm, vl, Arg.get, cells, stor, boundO, resultsV, resV, partK, loadV, Vm.part, fillC, splice, reduceIte, reduceCtorEq, Nat.reduceEqDiff, Nat.reduceAdd, Nat.reduceSub, Nat.reduceMul, Nat.reduceLeDiff, ne_eq, not_false_eq_true, Int.reduceEq, Int.reduceLT, Int.reduceLE, Int.reduceNeg, Int.reduceToNat, Int.reduceGT, Int.reduceGE, Nat.reduceLT, Nat.lt_add_one, Nat.zero_lt_succ, Nat.succ_pos, Nat.zero_le, beq_self_eq_true, k_token_Split_1_0, q, w, ha]
      refine hK _ ⟨_, _, rfl, .inr ⟨by simp, j, rfl, ?_⟩⟩
      have hjl : j < (t ++ t').length := by
        have := (List.getElem?_eq_some_iff.1 hj).1
        simp; omega
      rw [List.getElem?_set_self hjl]
      simp
theorem flush_nil (out : List Bs) : flush out [] = out := by simp [flush, trim, trimR, trimL]
theorem splitG_step (c : UInt8) (r own : Bs) (q : Bool) (out : List Bs) : splitG (c :: r) own q out =
    if c = 34 then splitG r (own ++ [c]) (!q) out
    else if (q && c == 92) = true then (match r with | [] => none | d :: r' => splitG r' (own ++ [c, d]) q out)
    else if (!q && c == 44) = true then splitG r [] q (flush out own)
    else splitG r (own ++ [c]) q out := by
  cases r with
  | cons d r => rw [splitG]
  | nil =>
    by_cases h1 : c = 34
    · subst h1; cases q <;> simp [splitG]
    · cases q
      · by_cases h2 : c = 44 <;> simp [splitG, h1, h2, flush_nil]
      · by_cases h2 : c = 92 <;> simp [splitG, h1, h2]
theorem flush_len (out : List Bs) (own : Bs) : (flush out own).length ≤ out.length + 1 := by
  unfold flush; split <;> simp
theorem own_next {s : Bs} {i f : Nat} {c : UInt8} (hf : f ≤ i) (hl : i < s.length) (hd : s.drop i = c :: s.drop (i + 1)) : (s.take (i + 1)).drop f = (s.take i).drop f ++ [c] := by
  rw [take_succ hl hd, List.drop_append_of_le_length (by simp; omega)]
theorem own_none (s : Bs) (i : Nat) : (s.take i).drop i = [] := List.drop_eq_nil_of_le (by simp [List.length_take]; omega)
def fullV (out : List Bs) : V := if out = [] then .nsl else .sl 1 .full (out.map .str)
def splitV : Option (List Bs) → V
  | none => .tup [.nsl, .bool false]
  | some out => .tup [fullV out, .bool true]
theorem slsl_full {out : List Bs} (hne : out ≠ []) {o : Own} : slslV 1 (.sl 1 o (out.map V.str)) 0 (some out.length) (some out.length) = some (.sl 1 .full (out.map V.str)) := by
  have : List.take out.length (out.map V.str) = out.map V.str := List.take_of_length_le (by simp)
  simp [slslV, this]
theorem u34 {c : UInt8} : ((c.toNat : Int) = 34) = (c = 34) := propext ⟨fun h => by
  have : c.toNat = 34 := by omega
  exact UInt8.toNat_inj.1 (by simpa using this), fun h => by subst h; rfl⟩
theorem u92 {c : UInt8} : ((c.toNat : Int) = 92) = (c = 92) := propext ⟨fun h => by
  have : c.toNat = 92 := by omega
  exact UInt8.toNat_inj.1 (by simpa using this), fun h => by subst h; rfl⟩
theorem u44 {c : UInt8} : ((c.toNat : Int) = 44) = (c = 44) := propext ⟨fun h => by
  have : c.toNat = 44 := by omega
  exact UInt8.toNat_inj.1 (by simpa using this), fun h => by subst h; rfl⟩
def SplitI (h : Heap) (s : Bs) (n : Nat) (e : Env) (h' : Heap) : Prop :=
  ∃ (i f : Nat) (q : Bool) (out : List Bs), n = s.length + 1 - i ∧ f ≤ i ∧ f ≤ s.length ∧ out.length ≤ f ∧ SplitH h h' s out f ∧
    e 1 = .ptr h.length 0 ∧ e 4 = .ptr (h.length + 1) 0 ∧ e 6 = .fn i_token_Split_1 [.ptr h.length 0, .ptr (h.length + 2) 0, .ptr (h.length + 1) 0] ∧ e 7 = .bool q ∧ e 8 = .int .i64 i ∧
    ((i ≤ s.length ∧ split s = splitG (s.drop i) ((s.take i).drop f) q out) ∨ (i = s.length + 1 ∧ q = true ∧ split s = none))
theorem Split_ok {s : Bs} (hs : s.length < 8000000000) : Cf F L i_token_Split [.str s] h (Pu h (splitV (split s))) := by
  refine run_token_Split ?_
  simp only [p_token_Split]
  simp (maxSteps := 4000000) only [vm, vl, Arg.get, cells, stor, boundO, resultsV, resV, partK, loadV, Vm.part, fillC, splice, reduceIte, reduceCtorEq, Nat.reduceEqDiff, Nat.reduceAdd, Nat.reduceSub, Nat.reduceMul, Nat.reduceLeDiff, ne_eq, not_false_eq_true, Int.reduceEq, Int.reduceLT, Int.reduceLE, Int.reduceNeg, Int.reduceToNat, Int.reduceGT, Int.reduceGE, Nat.reduceLT, Nat.lt_add_one, Nat.zero_lt_succ, Nat.succ_pos, Nat.zero_le, beq_self_eq_true, k_token_Split_1, k_token_Split_0, k_token_Split_3, k_token_Split_2]
  refine l_token_Split_0 (SplitI h s) ?_ (n := s.length + 1) ⟨0, 0, false, [], by simp, by simp, by simp, by simp, ⟨_, _, rfl, .inl ⟨rfl, rfl⟩⟩, rfl, rfl, rfl, rfl, rfl, .inl ⟨by simp, by simp [split]⟩⟩
  rintro n e h' ⟨i, f, q, out, rfl, hf, hfs, hol, H, e1, e4, e6, e7, e8, hst⟩
  simp only [b_token_Split_0]
  have hb1 : h'[h.length]? = some (.box [.str s]) := by
    obtain ⟨lv, t, rfl, _⟩ := H
    rw [get_new0]; rfl
  rcases hst with ⟨hi, hsp⟩ | ⟨rfl, rfl, hsp⟩
  · rcases str_at hi with ⟨hn, rfl, hd⟩ | ⟨c, hl, hl', hc, hd⟩
    · cases q with
      | true =>
        have : split s = none := by rw [hsp, hd]; rfl
        simp (maxSteps := 4000000) only [vm, vl, Arg.get, cells, stor, boundO, resultsV, resV, partK, loadV, Vm.part, fillC, splice, reduceIte, reduceCtorEq, Nat.reduceEqDiff, Nat.reduceAdd, Nat.reduceSub, Nat.reduceMul, Nat.reduceLeDiff, ne_eq, not_false_eq_true, Int.reduceEq, Int.reduceLT, Int.reduceLE, Int.reduceNeg, Int.reduceToNat, Int.reduceGT, Int.reduceGE, Nat.reduceLT, Nat.lt_add_one, Nat.zero_lt_succ, Nat.succ_pos, Nat.zero_le, beq_self_eq_true, k_token_Split_1, k_token_Split_0, k_token_Split_3, k_token_Split_2, e1, e4, e6, e7, e8, hb1, hn]
        rw [this]; exact ⟨rfl, by obtain ⟨lv, t, rfl, _⟩ := H; exact ⟨_, rfl⟩⟩
      | false =>
        have hres : split s = some (flush out ((s.take s.length).drop f)) := by rw [hsp, hd]; rfl
        simp (maxSteps := 4000000) only [vm, vl, Arg.get, cells, stor, boundO, resultsV, resV, partK, loadV, Vm.part, fillC, splice, reduceIte, reduceCtorEq, Nat.reduceEqDiff, Nat.reduceAdd, Nat.reduceSub, Nat.reduceMul, Nat.reduceLeDiff, ne_eq, not_false_eq_true, Int.reduceEq, Int.reduceLT, Int.reduceLE, Int.reduceNeg, Int.reduceToNat, Int.reduceGT, Int.reduceGE, Nat.reduceLT, Nat.lt_add_one, Nat.zero_lt_succ, Nat.succ_pos, Nat.zero_le, beq_self_eq_true, k_token_Split_1, k_token_Split_0, k_token_Split_3, k_token_Split_2, e1, e4, e6, e7, e8, hb1, hn]
        refine end_ok (own := (s.take s.length).drop f) (from_ := f) (by omega) (by omega) (by omega) (by omega) (by omega) (by omega) (by simp) H fun h'' H'' => ?_
        rw [hres]
        generalize flush out ((s.take s.length).drop f) = fo at *
        obtain ⟨lv, t, rfl, hlv⟩ := H''
        rcases hlv with ⟨rfl, rfl⟩ | ⟨hne, j, rfl, hj⟩
        · have e0 : slslV 1 V.nsl 0 (some 0) (some 0) = some .nsl := rfl
          simp (maxSteps := 4000000) only [vm, vl, Arg.get, cells, stor, boundO, resultsV, resV, partK, loadV, Vm.part, fillC, splice, reduceIte, reduceCtorEq, Nat.reduceEqDiff, Nat.reduceAdd, Nat.reduceSub, Nat.reduceMul, Nat.reduceLeDiff, ne_eq, not_false_eq_true, Int.reduceEq, Int.reduceLT, Int.reduceLE, Int.reduceNeg, Int.reduceToNat, Int.reduceGT, Int.reduceGE, Nat.reduceLT, Nat.lt_add_one, Nat.zero_lt_succ, Nat.succ_pos, Nat.zero_le, beq_self_eq_true, k_token_Split_1, k_token_Split_0, k_token_Split_3, k_token_Split_2, e0]
          rfl
        · have e0 := slsl_full hne (o := .tip (h.length + (j + 3)))
          simp (maxSteps := 4000000) only [vm, vl, Arg.get, cells, stor, boundO, resultsV, resV, partK, loadV, Vm.part, fillC, splice, reduceIte, reduceCtorEq, Nat.reduceEqDiff, Nat.reduceAdd, Nat.reduceSub, Nat.reduceMul, Nat.reduceLeDiff, ne_eq, not_false_eq_true, Int.reduceEq, Int.reduceLT, Int.reduceLE, Int.reduceNeg, Int.reduceToNat, Int.reduceGT, Int.reduceGE, Nat.reduceLT, Nat.lt_add_one, Nat.zero_lt_succ, Nat.succ_pos, Nat.zero_le, beq_self_eq_true, k_token_Split_1, k_token_Split_0, k_token_Split_3, k_token_Split_2, e0]
          simp [splitV, fullV, hne]
    · have w := wrap64 (x := (i : Int) + 1) (by omega) (by omega)
      rw [hd, splitG_step] at hsp
      have own1 := own_next hf hl' hd
      have k1 : ¬ (92 : UInt8) = 34 := by decide
      have k2 : ¬ (44 : UInt8) = 34 := by decide
      by_cases c1 : c = 34
      · simp (maxSteps := 4000000) only [vm, vl, Arg.get, cells, stor, boundO, resultsV, resV, partK, loadV, Vm.part, fillC, splice, reduceIte, reduceCtorEq, Nat.reduceEqDiff, Nat.reduceAdd, Nat.reduceSub, Nat.reduceMul, Nat.reduceLeDiff, ne_eq, not_false_eq_true, Int.reduceEq, Int.reduceLT, Int.reduceLE, Int.reduceNeg, Int.reduceToNat, Int.reduceGT, Int.reduceGE, Nat.reduceLT, Nat.lt_add_one, Nat.zero_lt_succ, Nat.succ_pos, Nat.zero_le, beq_self_eq_true, k_token_Split_1, k_token_Split_0, k_token_Split_3, k_token_Split_2, e1, e4, e6, e7, e8, hb1, hl, hl', hc, u34, u92, u44, w, c1]
        refine ⟨s.length + 1 - (i + 1), by omega, i + 1, f, !q, out, rfl, by omega, hfs, hol, H, by simp [upd, e1], by simp [upd, e4], by simp [upd, e6], by simp [upd], by simp [upd], .inl ⟨hl', ?_⟩⟩
        rw [hsp, if_pos c1, own1]
      rw [if_neg c1] at hsp
      cases q with
      | true =>
        by_cases c2 : c = 92
        · have w2 := wrap64 (x := (i : Int) + 1 + 1) (by omega) (by omega)
          simp (maxSteps := 4000000) only [vm, vl, Arg.get, cells, stor, boundO, resultsV, resV, partK, loadV, Vm.part, fillC, splice, reduceIte, reduceCtorEq, Nat.reduceEqDiff, Nat.reduceAdd, Nat.reduceSub, Nat.reduceMul, Nat.reduceLeDiff, ne_eq, not_false_eq_true, Int.reduceEq, Int.reduceLT, Int.reduceLE, Int.reduceNeg, Int.reduceToNat, Int.reduceGT, Int.reduceGE, Nat.reduceLT, Nat.lt_add_one, Nat.zero_lt_succ, Nat.succ_pos, Nat.zero_le, beq_self_eq_true, k_token_Split_1, k_token_Split_0, k_token_Split_3, k_token_Split_2, e1, e4, e6, e7, e8, hb1, hl, hl', hc, u34, u92, u44, w, c1, c2, w2, k1]
          rw [if_pos (by simp [c2])] at hsp
          refine ⟨s.length + 1 - (i + 2), by omega, i + 2, f, true, out, rfl, by omega, hfs, hol, H, by simp [upd, e1], by simp [upd, e4], by simp [upd, e6], by simp [upd, e7], by simp [upd]; omega, ?_⟩
          rcases str_at (s := s) (i := i + 1) (by omega) with ⟨_, hn, hd1⟩ | ⟨d, _, hl1, _, hd1⟩
          · rw [hd1] at hsp
            exact .inr ⟨by omega, rfl, hsp⟩
          · rw [hd1] at hsp
            refine .inl ⟨by omega, ?_⟩
            rw [hsp, own_next (by omega) hl1 hd1, own1]
            simp
        · simp (maxSteps := 4000000) only [vm, vl, Arg.get, cells, stor, boundO, resultsV, resV, partK, loadV, Vm.part, fillC, splice, reduceIte, reduceCtorEq, Nat.reduceEqDiff, Nat.reduceAdd, Nat.reduceSub, Nat.reduceMul, Nat.reduceLeDiff, ne_eq, not_false_eq_true, Int.reduceEq, Int.reduceLT, Int.reduceLE, Int.reduceNeg, Int.reduceToNat, Int.reduceGT, Int.reduceGE, Nat.reduceLT, Nat.lt_add_one, Nat.zero_lt_succ, Nat.succ_pos, Nat.zero_le, beq_self_eq_true, k_token_Split_1, k_token_Split_0, k_token_Split_3, k_token_Split_2, e1, e4, e6, e7, e8, hb1, hl, hl', hc, u34, u92, u44, w, c1, c2]
          rw [if_neg (by simp [c2]), if_neg (by simp)] at hsp
          refine ⟨s.length + 1 - (i + 1), by omega, i + 1, f, true, out, rfl, by omega, hfs, hol, H, by simp [upd, e1], by simp [upd, e4], by simp [upd, e6], by simp [upd, e7], by simp [upd], .inl ⟨hl', ?_⟩⟩
          rw [hsp, own1]
      | false =>
        rw [if_neg (by simp)] at hsp
        by_cases c2 : c = 44
        · rw [if_pos (by simp [c2])] at hsp
          simp (maxSteps := 4000000) only [vm, vl, Arg.get, cells, stor, boundO, resultsV, resV, partK, loadV, Vm.part, fillC, splice, reduceIte, reduceCtorEq, Nat.reduceEqDiff, Nat.reduceAdd, Nat.reduceSub, Nat.reduceMul, Nat.reduceLeDiff, ne_eq, not_false_eq_true, Int.reduceEq, Int.reduceLT, Int.reduceLE, Int.reduceNeg, Int.reduceToNat, Int.reduceGT, Int.reduceGE, Nat.reduceLT, Nat.lt_add_one, Nat.zero_lt_succ, Nat.succ_pos, Nat.zero_le, beq_self_eq_true, k_token_Split_1, k_token_Split_0, k_token_Split_3, k_token_Split_2, e1, e4, e6, e7, e8, hb1, hl, hl', hc, u34, u92, u44, w, c1, c2, k2]
          refine end_ok (own := (s.take i).drop f) (from_ := f) (to := (i : Int)) (by omega) (by omega) (by omega) (by omega) (by omega) (by omega) (by simp) H fun h'' H'' => ?_
          refine ⟨s.length + 1 - (i + 1), by omega, i + 1, i + 1, false, flush out ((s.take i).drop f), rfl, by omega, hl', ?_, by simpa using H'', by simp [upd, e1], by simp [upd, e4], by simp [upd, e6], by simp [upd, e7], by simp [upd], .inl ⟨hl', ?_⟩⟩
          · have := flush_len out ((s.take i).drop f); omega
          · rw [hsp, own_none]
        · rw [if_neg (by simp [c2])] at hsp
          simp (maxSteps := 4000000) only [vm, vl, Arg.get, cells, stor, boundO, resultsV, resV, partK, loadV, Vm.part, fillC, splice, reduceIte, reduceCtorEq, Nat.reduceEqDiff, Nat.reduceAdd, Nat.reduceSub, Nat.reduceMul, Nat.reduceLeDiff, ne_eq, not_false_eq_true, Int.reduceEq, Int.reduceLT, Int.reduceLE, Int.reduceNeg, Int.reduceToNat, Int.reduceGT, Int.reduceGE, Nat.reduceLT, Nat.lt_add_one, Nat.zero_lt_succ, Nat.succ_pos, Nat.zero_le, beq_self_eq_true, k_token_Split_1, k_token_Split_0, k_token_Split_3, k_token_Split_2, e1, e4, e6, e7, e8, hb1, hl, hl', hc, u34, u92, u44, w, c1, c2]
          refine ⟨s.length + 1 - (i + 1), by omega, i + 1, f, false, out, rfl, by omega, hfs, hol, H, by simp [upd, e1], by simp [upd, e4], by simp [upd, e6], by simp [upd, e7], by simp [upd], .inl ⟨hl', ?_⟩⟩
          rw [hsp, own1]
  · have hn : ¬ ((s.length + 1 : Nat) : Int) < s.length := by omega
    simp (maxSteps := 4000000) only [vm, vl, Arg.get, cells, stor, boundO, resultsV, resV, partK, loadV, Vm.part, fillC, splice, reduceIte, reduceCtorEq, Nat.reduceEqDiff, Nat.reduceAdd, Nat.reduceSub, Nat.reduceMul, Nat.reduceLeDiff, ne_eq, not_false_eq_true, Int.reduceEq, Int.reduceLT, Int.reduceLE, Int.reduceNeg, Int.reduceToNat, Int.reduceGT, Int.reduceGE, Nat.reduceLT, Nat.lt_add_one, Nat.zero_lt_succ, Nat.succ_pos, Nat.zero_le, beq_self_eq_true, k_token_Split_1, k_token_Split_0, k_token_Split_3, k_token_Split_2, e1, e4, e6, e7, e8, hb1, hn, hsp]
    exact ⟨rfl, by obtain ⟨lv, t, rfl, _⟩ := H; exact ⟨_, rfl⟩⟩
end Go.Proofs.YtfkebmdfcpnaeaaGreatDoor.Vh
end
