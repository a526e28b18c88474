/- validator.Parse and the document's on the small machine. -/
import Derived.Test.YtfkebmdfcpnaeaaDoorVCut
import Derived.Test.YtfkebmdfcpnaeaaDoorVTrim
import Derived.Test.YtfkebmdfcpnaeaaDoorVmOpen
set_option linter.unusedVariables false
set_option linter.unusedSimpArgs false
namespace Go.Proofs.YtfkebmdfcpnaeaaDoor.Vh
open Go.Vm Go.Vt
attribute [local congr] wi_congr wg_congr wgd_congr wb_congr wl_congr cf_congr
variable {L : FuncId → List V → V → Prop} {h : Heap}
def tagB (c : UInt8) : Bool := !(decide (c.toNat ≤ 32) || c == 34 || c == 92 || c == 127)
/-- A tag behind its W/: its text. -/
def tagT (s : Bs) : Option Bs :=
  if (cutPre [34] s).2 && (cutSuf [34] (cutPre [34] s).1).2 && (cutSuf [34] (cutPre [34] s).1).1.all tagB then some (cutSuf [34] (cutPre [34] s).1).1 else none
def tagS (s : Bs) : Option (Bool × Bs) := (tagT (cutPre [87, 47] s).1).map fun t => ((cutPre [87, 47] s).2, t)
def tagV : Option (Bool × Bs) → V
  | none => .tup [.agg [.bool false, .str []], .bool false]
  | some (w, t) => .tup [.agg [.bool w, .str t], .bool true]
theorem tagB_eq (c : UInt8) : tagB c = !(decide ((c.toNat : Int) ≤ 32) || (decide ((c.toNat : Int) = 34) || (decide ((c.toNat : Int) = 92) || decide ((c.toNat : Int) = 127)))) :=
  byte_all (p := fun c => tagB c = !(decide ((c.toNat : Int) ≤ 32) || (decide ((c.toNat : Int) = 34) || (decide ((c.toNat : Int) = 92) || decide ((c.toNat : Int) = 127))))) (by decide +kernel) c
theorem tagB_eq2 (c : UInt8) : tagB c = !(decide ((c.toNat : Int) < 33) || (decide ((c.toNat : Int) = 34) || (decide ((c.toNat : Int) = 92) || decide ((c.toNat : Int) = 127)))) :=
  byte_all (p := fun c => tagB c = !(decide ((c.toNat : Int) < 33) || (decide ((c.toNat : Int) = 34) || (decide ((c.toNat : Int) = 92) || decide ((c.toNat : Int) = 127))))) (by decide +kernel) c
theorem cutPre_len (p s : Bs) : (cutPre p s).1.length ≤ s.length := by
  unfold cutPre; split <;> simp
theorem cutSuf_len (p s : Bs) : (cutSuf p s).1.length ≤ s.length := by
  unfold cutSuf; split <;> simp
theorem tag_parse_loop {w : Bool} {m : Bs} {e : Env} {t : Heap} (hm : m.length ≤ 9223372036854775807) (e2 : e 2 = .ptr h.length 0) (e4 : e 4 = .bool w) (e5 : e 5 = .str m) (e33 : e 33 = .int .i64 m.length) (e34 : e 34 = .int .i64 0) :
    Wl F L lc_validator_Parse_0 (q_validator_Parse_0 L (Pu h (tagV (if m.all tagB then some (w, m) else none)))) e (h ++ (O.box [.bool false, .str []] :: t)) := by
  refine l_validator_Parse_0 (fun n e h' => ∃ i, n = m.length - i ∧ i ≤ m.length ∧ e 2 = .ptr h.length 0 ∧ e 4 = .bool w ∧ e 5 = .str m ∧ e 33 = .int .i64 m.length ∧ e 34 = .int .i64 i ∧ h' = h ++ (O.box [.bool false, .str []] :: t) ∧ m.all tagB = (m.drop i).all tagB) ?_ (n := m.length) ⟨0, by simp, by simp, e2, e4, e5, e33, e34, rfl, rfl⟩
  rintro n e h' ⟨i, rfl, hi, e2, e4, e5, e33, e34, rfl, hall⟩
  simp only [b_validator_Parse_0]
  rw [hall]
  
  rcases str_at hi with ⟨hn, rfl, hd⟩ | ⟨c, hl, hl', hc, hd⟩
  · rw [hd]
    simp (maxSteps := 4000000) only [vm, vl, Arg.get, cells, stor, boundO, resultsV, resV, partK, loadV, Vm.part, fillC, splice, reduceIte, reduceCtorEq, Nat.reduceEqDiff, Nat.reduceAdd, Nat.reduceSub, Nat.reduceMul, Nat.reduceLeDiff, ne_eq, not_false_eq_true, Int.reduceEq, Int.reduceLT, Int.reduceLE, Int.reduceNeg, Int.reduceToNat, Int.reduceGT, Int.reduceGE, Nat.reduceLT, Nat.lt_add_one, Nat.zero_lt_succ, Nat.succ_pos, Nat.zero_le, beq_self_eq_true, k_validator_Parse_1, k_validator_Parse_3, k_validator_Parse_2, k_validator_Parse_0, e2, e4, e5, e33, e34, hn]
    simp [tagV]
  · have wr := wrap64 (x := (i : Int) + 1) (by omega) (by omega)
    rw [hd] at hall ⊢
    have hb := tagB_eq c
    simp (maxSteps := 4000000) only [vm, vl, Arg.get, cells, stor, boundO, resultsV, resV, partK, loadV, Vm.part, fillC, splice, reduceIte, reduceCtorEq, Nat.reduceEqDiff, Nat.reduceAdd, Nat.reduceSub, Nat.reduceMul, Nat.reduceLeDiff, ne_eq, not_false_eq_true, Int.reduceEq, Int.reduceLT, Int.reduceLE, Int.reduceNeg, Int.reduceToNat, Int.reduceGT, Int.reduceGE, Nat.reduceLT, Nat.lt_add_one, Nat.zero_lt_succ, Nat.succ_pos, Nat.zero_le, beq_self_eq_true, k_validator_Parse_1, k_validator_Parse_3, k_validator_Parse_2, k_validator_Parse_0, e2, e4, e5, e33, e34, hl, hl', hc, wr]
    cases ht : tagB c with
    | true =>
      rw [ht] at hb
      simp at hb
      obtain ⟨b1, b2, b3, b4⟩ := hb
      have b1' : ¬ (c.toNat : Int) ≤ 32 := by omega
      simp (maxSteps := 4000000) only [vm, vl, Arg.get, cells, stor, boundO, resultsV, resV, partK, loadV, Vm.part, fillC, splice, reduceIte, reduceCtorEq, Nat.reduceEqDiff, Nat.reduceAdd, Nat.reduceSub, Nat.reduceMul, Nat.reduceLeDiff, ne_eq, not_false_eq_true, Int.reduceEq, Int.reduceLT, Int.reduceLE, Int.reduceNeg, Int.reduceToNat, Int.reduceGT, Int.reduceGE, Nat.reduceLT, Nat.lt_add_one, Nat.zero_lt_succ, Nat.succ_pos, Nat.zero_le, beq_self_eq_true, k_validator_Parse_1, k_validator_Parse_3, k_validator_Parse_2, k_validator_Parse_0, b1', b2, b3, b4]
      exact ⟨m.length - (i + 1), by omega, i + 1, rfl, hl', rfl, rfl⟩
    | false =>
      have hb' : (c.toNat : Int) ≤ 32 ∨ (c.toNat : Int) = 34 ∨ (c.toNat : Int) = 92 ∨ (c.toNat : Int) = 127 := by
        rw [ht] at hb
        have h5 : (c.toNat : Int) ≤ 32 → (c.toNat : Int) ≤ 32 := id
        rcases Classical.em ((c.toNat : Int) ≤ 32 ∨ (c.toNat : Int) = 34 ∨ (c.toNat : Int) = 92 ∨ (c.toNat : Int) = 127) with h6 | h6
        · exact h6
        · exfalso
          simp only [not_or] at h6
          simp [h6.1, h6.2.1, h6.2.2.1, h6.2.2.2] at hb
      clear hb
      (repeat' ((first | refine wg_casep (fun _ => ?_) (fun _ => ?_) | refine wg_casen (fun _ => ?_) (fun _ => ?_) | refine wg_case (fun _ => ?_) (fun _ => ?_) | refine wgd_casep (fun _ => ?_) (fun _ => ?_) | refine wgd_casen (fun _ => ?_) (fun _ => ?_) | refine wgd_case (fun _ => ?_) (fun _ => ?_) | refine wb_casep (fun _ => ?_) (fun _ => ?_) | refine wb_casen (fun _ => ?_) (fun _ => ?_) | refine wb_case (fun _ => ?_) (fun _ => ?_)) <;> try simp (maxSteps := 4000000) only [vm, vl, Arg.get, cells, stor, boundO, resultsV, resV, partK, loadV, Vm.part, fillC, splice, reduceIte, reduceCtorEq, Nat.reduceEqDiff, Nat.reduceAdd, Nat.reduceSub, Nat.reduceMul, Nat.reduceLeDiff, ne_eq, not_false_eq_true, Int.reduceEq, Int.reduceLT, Int.reduceLE, Int.reduceNeg, Int.reduceToNat, Int.reduceGT, Int.reduceGE, Nat.reduceLT, Nat.lt_add_one, Nat.zero_lt_succ, Nat.succ_pos, Nat.zero_le, beq_self_eq_true, k_validator_Parse_1, k_validator_Parse_3, k_validator_Parse_2, k_validator_Parse_0, *]))
      all_goals first
        | (exfalso; omega)
        | (simp [tagV, ht]; done)
theorem TParse_ok {s : Bs} (hs : s.length ≤ 9223372036854775807) : Cf F L i_validator_Parse [.str s] h (Pu h (tagV (tagS s))) := by
  refine run_validator_Parse ?_
  simp only [p_validator_Parse]
  simp (maxSteps := 4000000) only [vm, vl, Arg.get, cells, stor, boundO, resultsV, resV, partK, loadV, Vm.part, fillC, splice, reduceIte, reduceCtorEq, Nat.reduceEqDiff, Nat.reduceAdd, Nat.reduceSub, Nat.reduceMul, Nat.reduceLeDiff, ne_eq, not_false_eq_true, Int.reduceEq, Int.reduceLT, Int.reduceLE, Int.reduceNeg, Int.reduceToNat, Int.reduceGT, Int.reduceGE, Nat.reduceLT, Nat.lt_add_one, Nat.zero_lt_succ, Nat.succ_pos, Nat.zero_le, beq_self_eq_true, k_validator_Parse_1, k_validator_Parse_3, k_validator_Parse_2, k_validator_Parse_0]
  refine Cf.pu CutPrefix_ok fun t1 => ?_
  simp (maxSteps := 4000000) only [vm, vl, Arg.get, cells, stor, boundO, resultsV, resV, partK, loadV, Vm.part, fillC, splice, reduceIte, reduceCtorEq, Nat.reduceEqDiff, Nat.reduceAdd, Nat.reduceSub, Nat.reduceMul, Nat.reduceLeDiff, ne_eq, not_false_eq_true, Int.reduceEq, Int.reduceLT, Int.reduceLE, Int.reduceNeg, Int.reduceToNat, Int.reduceGT, Int.reduceGE, Nat.reduceLT, Nat.lt_add_one, Nat.zero_lt_succ, Nat.succ_pos, Nat.zero_le, beq_self_eq_true, k_validator_Parse_1, k_validator_Parse_3, k_validator_Parse_2, k_validator_Parse_0]
  refine Cf.pu CutPrefix_ok fun t2 => ?_
  have l1 := cutPre_len [87, 47] s
  have l2 := cutPre_len [34] (cutPre [87, 47] s).1
  have l3 := cutSuf_len [34] (cutPre [34] (cutPre [87, 47] s).1).1
  simp (maxSteps := 4000000) only [vm, vl, Arg.get, cells, stor, boundO, resultsV, resV, partK, loadV, Vm.part, fillC, splice, reduceIte, reduceCtorEq, Nat.reduceEqDiff, Nat.reduceAdd, Nat.reduceSub, Nat.reduceMul, Nat.reduceLeDiff, ne_eq, not_false_eq_true, Int.reduceEq, Int.reduceLT, Int.reduceLE, Int.reduceNeg, Int.reduceToNat, Int.reduceGT, Int.reduceGE, Nat.reduceLT, Nat.lt_add_one, Nat.zero_lt_succ, Nat.succ_pos, Nat.zero_le, beq_self_eq_true, k_validator_Parse_1, k_validator_Parse_3, k_validator_Parse_2, k_validator_Parse_0]
  refine Cf.pu (CutSuffix_ok (by omega)) fun t3 => ?_
  unfold tagS tagT
  generalize hw : (cutPre [87, 47] s).2 = w
  generalize hb : (cutPre [34] (cutPre [87, 47] s).1).2 = b
  generalize he : (cutSuf [34] (cutPre [34] (cutPre [87, 47] s).1).1).2 = c
  generalize hm : (cutSuf [34] (cutPre [34] (cutPre [87, 47] s).1).1).1 = m at *
  cases b with
  | false => simp (maxSteps := 4000000) only [vm, vl, Arg.get, cells, stor, boundO, resultsV, resV, partK, loadV, Vm.part, fillC, splice, reduceIte, reduceCtorEq, Nat.reduceEqDiff, Nat.reduceAdd, Nat.reduceSub, Nat.reduceMul, Nat.reduceLeDiff, ne_eq, not_false_eq_true, Int.reduceEq, Int.reduceLT, Int.reduceLE, Int.reduceNeg, Int.reduceToNat, Int.reduceGT, Int.reduceGE, Nat.reduceLT, Nat.lt_add_one, Nat.zero_lt_succ, Nat.succ_pos, Nat.zero_le, beq_self_eq_true, k_validator_Parse_1, k_validator_Parse_3, k_validator_Parse_2, k_validator_Parse_0]; rfl
  | true =>
    cases c with
    | false => simp (maxSteps := 4000000) only [vm, vl, Arg.get, cells, stor, boundO, resultsV, resV, partK, loadV, Vm.part, fillC, splice, reduceIte, reduceCtorEq, Nat.reduceEqDiff, Nat.reduceAdd, Nat.reduceSub, Nat.reduceMul, Nat.reduceLeDiff, ne_eq, not_false_eq_true, Int.reduceEq, Int.reduceLT, Int.reduceLE, Int.reduceNeg, Int.reduceToNat, Int.reduceGT, Int.reduceGE, Nat.reduceLT, Nat.lt_add_one, Nat.zero_lt_succ, Nat.succ_pos, Nat.zero_le, beq_self_eq_true, k_validator_Parse_1, k_validator_Parse_3, k_validator_Parse_2, k_validator_Parse_0]; rfl
    | true =>
      simp (maxSteps := 4000000) only [vm, vl, Arg.get, cells, stor, boundO, resultsV, resV, partK, loadV, Vm.part, fillC, splice, reduceIte, reduceCtorEq, Nat.reduceEqDiff, Nat.reduceAdd, Nat.reduceSub, Nat.reduceMul, Nat.reduceLeDiff, ne_eq, not_false_eq_true, Int.reduceEq, Int.reduceLT, Int.reduceLE, Int.reduceNeg, Int.reduceToNat, Int.reduceGT, Int.reduceGE, Nat.reduceLT, Nat.lt_add_one, Nat.zero_lt_succ, Nat.succ_pos, Nat.zero_le, beq_self_eq_true, k_validator_Parse_1, k_validator_Parse_3, k_validator_Parse_2, k_validator_Parse_0]
      have key := fun (e : Env) => tag_parse_loop (L := L) (h := h) (w := w) (m := m) (e := e) (t := t1 ++ (t2 ++ t3)) (by omega)
      have e1 : (Option.map (fun t => (w, t)) (if m.all tagB = true then some m else none)) = (if m.all tagB then some (w, m) else none) := by
        cases m.all tagB <;> rfl
      rw [e1]
      exact key _ (by simp [upd]) (by simp [upd]) (by simp [upd]) (by simp [upd]) (by simp [upd])
theorem tagT_short {s : Bs} (h : s.length < 2) : tagT s = none := by
  match s, h with
  | [], _ => rfl
  | [c], _ =>
    unfold tagT cutPre
    by_cases hc : c = 34
    · subst hc; rfl
    · simp [hc]
theorem tagT_mid {a z : UInt8} {m : Bs} : tagT (a :: (m ++ [z])) = if a = 34 ∧ z = 34 ∧ m.all tagB = true then some m else none := by
  unfold tagT cutPre
  by_cases ha : a = 34
  · subst ha
    simp only [List.length_cons, List.length_nil, List.take_succ_cons, List.take_zero, if_true, List.drop_succ_cons, List.drop_zero]
    unfold cutSuf
    by_cases hz : z = 34
    · subst hz
      simp
    · simp [hz]
  · simp [ha]
theorem mid_at {m : Bs} {a z : UInt8} {i : Nat} (hi : i < m.length) : (a :: (m ++ [z])).getD (i + 1) 0 = m.getD i 0 := by
  rw [List.getD_cons_succ, List.getD_eq_getElem?_getD, List.getD_eq_getElem?_getD, List.getElem?_append_left hi]
theorem tag_bad {c : UInt8} (h : tagB c = false) : (c.toNat : Int) < 33 ∨ (c.toNat : Int) = 34 ∨ (c.toNat : Int) = 92 ∨ (c.toNat : Int) = 127 := by
  have := byte_all (p := fun c => tagB c = false → (c.toNat : Int) < 33 ∨ (c.toNat : Int) = 34 ∨ (c.toNat : Int) = 92 ∨ (c.toNat : Int) = 127) (by decide +kernel) c
  exact this h
theorem tag_good {c : UInt8} (h : tagB c = true) : ¬ (c.toNat : Int) < 33 ∧ ¬ (c.toNat : Int) = 34 ∧ ¬ (c.toNat : Int) = 92 ∧ ¬ (c.toNat : Int) = 127 := by
  have := byte_all (p := fun c => tagB c = true → ¬ (c.toNat : Int) < 33 ∧ ¬ (c.toNat : Int) = 34 ∧ ¬ (c.toNat : Int) = 92 ∧ ¬ (c.toNat : Int) = 127) (by decide +kernel) c
  exact this h
theorem tagS_ref (s : Bs) : tagS s = if s.length > 2 ∧ s.getD 0 0 = 87 ∧ s.getD 1 0 = 47 then (tagT (s.drop 2)).map fun t => (true, t) else (tagT s).map fun t => (false, t) := by
  unfold tagS
  match s with
  | [] => rfl
  | [a] => 
    rw [if_neg (by simp)]
    have : cutPre [87, 47] [a] = ([a], false) := by unfold cutPre; rw [if_neg (by simp)]
    rw [this]
  | [a, b] =>
    rw [if_neg (by simp)]
    by_cases h : a = 87 ∧ b = 47
    · obtain ⟨rfl, rfl⟩ := h; rfl
    · have : cutPre [87, 47] [a, b] = ([a, b], false) := by unfold cutPre; rw [if_neg (by simpa using h)]
      rw [this]
  | a :: b :: c :: r =>
    by_cases h : a = 87 ∧ b = 47
    · obtain ⟨rfl, rfl⟩ := h
      rw [if_pos (by simp)]
      rfl
    · have : cutPre [87, 47] (a :: b :: c :: r) = (a :: b :: c :: r, false) := by unfold cutPre; rw [if_neg (by simpa using h)]
      rw [this, if_neg (by simpa using h)]
theorem Weak_ok {a b : Bool} {s t : Bs} : Cf F L i_validator_Weak [.agg [.bool a, .str s], .agg [.bool b, .str t]] h (Pu h (.bool (s == t))) := by
  refine run_validator_Weak ?_
  simp only [p_validator_Weak]
  simp (maxSteps := 4000000) only [vm, vl, Arg.get, cells, stor, boundO, resultsV, resV, partK, loadV, Vm.part, fillC, splice, reduceIte, reduceCtorEq, Nat.reduceEqDiff, Nat.reduceAdd, Nat.reduceSub, Nat.reduceMul, Nat.reduceLeDiff, ne_eq, not_false_eq_true, Int.reduceEq, Int.reduceLT, Int.reduceLE, Int.reduceNeg, Int.reduceToNat, Int.reduceGT, Int.reduceGE, Nat.reduceLT, Nat.lt_add_one, Nat.zero_lt_succ, Nat.succ_pos, Nat.zero_le, beq_self_eq_true]
theorem Strong_ok {a b : Bool} {s t : Bs} : Cf F L i_validator_Strong [.agg [.bool a, .str s], .agg [.bool b, .str t]] h (Pu h (.bool ((a == b && s == t) && !a))) := by
  refine run_validator_Strong ?_
  simp only [p_validator_Strong]
  have e : eqV (.agg [.b, .s]) (.agg [.bool a, .str s]) (.agg [.bool b, .str t]) = some (a == b && s == t) := by simp [eqV, eqLeaves, eqLeaf]
  cases hx : (a == b && s == t) <;> rw [hx] at e <;> simp (maxSteps := 4000000) only [vm, vl, Arg.get, cells, stor, boundO, resultsV, resV, partK, loadV, Vm.part, fillC, splice, reduceIte, reduceCtorEq, Nat.reduceEqDiff, Nat.reduceAdd, Nat.reduceSub, Nat.reduceMul, Nat.reduceLeDiff, ne_eq, not_false_eq_true, Int.reduceEq, Int.reduceLT, Int.reduceLE, Int.reduceNeg, Int.reduceToNat, Int.reduceGT, Int.reduceGE, Nat.reduceLT, Nat.lt_add_one, Nat.zero_lt_succ, Nat.succ_pos, Nat.zero_le, beq_self_eq_true, e]
  rfl
theorem eq_tag {a b : Bool} {s t : Bs} : eqV (.agg [.b, .s]) (.agg [.bool a, .str s]) (.agg [.bool b, .str t]) = some (a == b && s == t) := by simp [eqV, eqLeaves, eqLeaf]
theorem tagV_eq (o : Option (Bool × Bs)) : ∃ w t k, tagV o = .tup [.agg [.bool w, .str t], .bool k] := by
  cases o with
  | none => exact ⟨_, _, _, rfl⟩
  | some p => exact ⟨_, _, _, rfl⟩
end Go.Proofs.YtfkebmdfcpnaeaaDoor.Vh
