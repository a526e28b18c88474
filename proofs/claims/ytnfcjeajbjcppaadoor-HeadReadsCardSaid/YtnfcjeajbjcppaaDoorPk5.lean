/- Several texts in one: Tok, VTok1. -/
import Derived.Test.YtnfcjeajbjcppaaDoorPk2
import Derived.Test.YtnfcjeajbjcppaaDoorPk4
section
set_option linter.unusedVariables false
set_option linter.unusedSimpArgs false
namespace Go.Vt
abbrev Bs := List UInt8
/-- What holds of each byte, by trying all. -/
theorem byte_all {p : UInt8 → Prop} [DecidablePred p] (h : ∀ n : Fin 256, p (UInt8.ofNat n.val)) (c : UInt8) : p c := by
  have := h ⟨c.toNat, c.toNat_lt⟩
  simpa using this
def blankB (c : UInt8) : Bool := c == 32 || c == 9
def digB (c : UInt8) : Bool := decide (48 ≤ c.toNat) && decide (c.toNat ≤ 57)
def tokB (c : UInt8) : Bool := (decide (97 ≤ c.toNat) && decide (c.toNat ≤ 122)) || (decide (65 ≤ c.toNat) && decide (c.toNat ≤ 90)) || digB c || [33, 35, 36, 37, 38, 39, 42, 43, 45, 46, 94, 95, 96, 124, 126].contains c
def valB (c : UInt8) : Bool := blankB c || (decide (32 < c.toNat) && c != 127)
def lowB (c : UInt8) : UInt8 := if 65 ≤ c.toNat ∧ c.toNat ≤ 90 then c + 32 else c
def isTok (s : Bs) : Bool := !s.isEmpty && s.all tokB
def low (s : Bs) : Bs := s.map lowB
def trimL (s : Bs) : Bs := s.dropWhile blankB
def trimR : Bs → Bs
  | [] => []
  | c :: r => match trimR r with
    | [] => if blankB c then [] else [c]
    | r' => c :: r'
def trim (s : Bs) : Bs := trimL (trimR s)
def isVal (s : Bs) : Bool := decide (trim s = s) && s.all valB
theorem trimL_length (s : Bs) : (trimL s).length ≤ s.length := by
  unfold trimL
  exact (List.dropWhile_suffix blankB).length_le
theorem trimR_cons_ne {c : UInt8} {r : Bs} (h : trimR r ≠ []) : trimR (c :: r) = c :: trimR r := by
  conv => lhs; unfold trimR
  cases hr : trimR r with
  | nil => exact absurd hr h
  | cons a l => rfl
theorem trimR_cons_nil {c : UInt8} {r : Bs} (h : trimR r = []) : trimR (c :: r) = if blankB c then [] else [c] := by
  conv => lhs; unfold trimR
  rw [h]
theorem trimR_length (s : Bs) : (trimR s).length ≤ s.length := by
  induction s with
  | nil => simp [trimR]
  | cons c r ih =>
    by_cases h : trimR r = []
    · rw [trimR_cons_nil h]; split <;> simp
    · rw [trimR_cons_ne h]; simp; exact ih
theorem trim_length (s : Bs) : (trim s).length ≤ s.length := Nat.le_trans (trimL_length _) (trimR_length s)
/-- A text without blanks at its right end, and blanks behind. -/
theorem trimR_blank {s : Bs} {c : UInt8} (h : blankB c = true) : trimR (s ++ [c]) = trimR s := by
  induction s with
  | nil => simp [trimR, h]
  | cons a r ih =>
    rw [List.cons_append]
    by_cases hr : trimR r = []
    · rw [trimR_cons_nil (by rw [ih]; exact hr), trimR_cons_nil hr]
    · rw [trimR_cons_ne (by rw [ih]; exact hr), trimR_cons_ne hr, ih]
theorem trimR_full {s : Bs} {c : UInt8} (h : blankB c = false) : trimR (s ++ [c]) = s ++ [c] := by
  induction s with
  | nil => simp [trimR, h]
  | cons a r ih =>
    rw [List.cons_append, trimR_cons_ne (by rw [ih]; simp), ih]
theorem trimL_blank {s : Bs} {c : UInt8} (h : blankB c = true) : trimL (c :: s) = trimL s := by simp [trimL, h]
theorem trimL_full {s : Bs} {c : UInt8} (h : blankB c = false) : trimL (c :: s) = c :: s := by simp [trimL, h]
theorem trimR_nil_iff {s : Bs} : trimR s = [] ↔ ∀ c ∈ s, blankB c = true := by
  induction s with
  | nil => simp [trimR]
  | cons c r ih =>
    by_cases h : trimR r = []
    · rw [trimR_cons_nil h]
      have := ih.1 h
      by_cases hc : blankB c = true
      · simp [hc]; exact this
      · simp [hc]
    · rw [trimR_cons_ne h]
      refine ⟨fun hh => by simp at hh, fun hh => absurd (ih.2 fun x hx => hh x (List.mem_cons_of_mem _ hx)) h⟩
theorem trimL_nil_iff {s : Bs} : trimL s = [] ↔ ∀ c ∈ s, blankB c = true := by
  unfold trimL
  induction s with
  | nil => simp
  | cons c r ih => 
    by_cases hc : blankB c = true
    · simp [hc, ih]
    · simp [hc]
/-- Left first, then right: the same. -/
theorem trim_comm (s : Bs) : trimR (trimL s) = trim s := by
  unfold trim
  induction s with
  | nil => rfl
  | cons c r ih =>
    by_cases hc : blankB c = true
    · rw [trimL_blank hc]
      by_cases h : trimR r = []
      · rw [trimR_cons_nil h, if_pos hc]
        have : trimL r = [] := trimL_nil_iff.2 (trimR_nil_iff.1 h)
        rw [this]; rfl
      · rw [trimR_cons_ne h, trimL_blank hc, ih]
    · have hc' : blankB c = false := by simpa using hc
      rw [trimL_full hc']
      by_cases h : trimR r = []
      · rw [trimR_cons_nil h, if_neg hc, trimL_full hc']
      · rw [trimR_cons_ne h, trimL_full hc']
/-- A list's elements: own: what has been read of this one. -/
def flush (out : List Bs) (own : Bs) : List Bs := if trim own = [] then out else out ++ [trim own]
def splitG : Bs → Bs → Bool → List Bs → Option (List Bs)
  | [], own, q, out => if q then none else some (flush out own)
  | [c], own, q, out =>
    if c = 34 then (if q then some (flush out (own ++ [c])) else none) else if q then none else if c = 44 then some (flush (flush out own) []) else some (flush out (own ++ [c]))
  | c :: d :: r, own, q, out =>
    if c = 34 then splitG (d :: r) (own ++ [c]) (!q) out
    else if q && c == 92 then splitG r (own ++ [c, d]) q out
    else if !q && c == 44 then splitG (d :: r) [] q (flush out own)
    else splitG (d :: r) (own ++ [c]) q out
def split (s : Bs) : Option (List Bs) := splitG s [] false []
structure Pr where
  name : Bs
  value : Bs
  has : Bool
  ok : Bool
  deriving DecidableEq
/-- A number of digits, at most so much. -/
def numG : Bs → Int → Int → Int
  | [], n, _ => n
  | c :: r, n, most => if (c.toNat : Int) - 48 > most ∨ n > (most - ((c.toNat : Int) - 48)) / 10 then most else numG r (10 * n + ((c.toNat : Int) - 48)) most
def numS (s : Bs) (most : Int) : Int × Bool := if s.isEmpty || decide (most < 0) || !s.all digB then (0, false) else (numG s 0 most, true)
end Go.Vt
end
section
set_option linter.unusedVariables false
set_option linter.unusedSimpArgs false
namespace Go.Proofs.YtnfcjeajbjcppaaDoor.Vh
open Go.Vm Go.Vt
attribute [local congr] wi_congr wg_congr wgd_congr wb_congr wl_congr cf_congr
variable {L : FuncId → List V → V → Prop} {h : Heap}
/-- A byte, as a value. -/
abbrev byV (c : UInt8) : V := .int .u8 (c.toNat : Int)
theorem or32 (c : UInt8) : bitsI .or .u8 (c.toNat : Int) 32 = ((c ||| 32).toNat : Int) := byte_all (p := fun c => bitsI .or .u8 (c.toNat : Int) 32 = ((c ||| 32).toNat : Int)) (by decide +kernel) c
theorem marks_ok : Cf F L i_token_marks [] h (Pu h (.agg ([33, 35, 36, 37, 38, 39, 42, 43, 45, 46, 94, 95, 96, 124, 126].map (.int .u8)))) := by
  refine run_token_marks ?_
  simp only [p_token_marks]
  simp (maxSteps := 4000000) only [vm, vl, Arg.get, cells, stor, boundO, resultsV, resV, partK, loadV, Vm.part, fillC, splice, reduceIte, reduceCtorEq, Nat.reduceEqDiff, Nat.reduceAdd, Nat.reduceSub, Nat.reduceMul, Nat.reduceLeDiff, ne_eq, not_false_eq_true, Int.reduceEq, Int.reduceLT, Int.reduceLE, Int.reduceNeg, Int.reduceToNat, Int.reduceGT, Int.reduceGE, Nat.reduceLT, Nat.lt_add_one, Nat.zero_lt_succ, Nat.succ_pos, Nat.zero_le, beq_self_eq_true]
def marksL : List Int := [33, 35, 36, 37, 38, 39, 42, 43, 45, 46, 94, 95, 96, 124, 126]
theorem tokB_low (c : UInt8) : ((c ||| 32).toNat : Int) ≥ 97 → ((c ||| 32).toNat : Int) ≤ 122 → tokB c = true :=
  byte_all (p := fun c => ((c ||| 32).toNat : Int) ≥ 97 → ((c ||| 32).toNat : Int) ≤ 122 → tokB c = true) (by decide +kernel) c
theorem tokB_dig (c : UInt8) : (c.toNat : Int) ≥ 48 → (c.toNat : Int) ≤ 57 → tokB c = true :=
  byte_all (p := fun c => (c.toNat : Int) ≥ 48 → (c.toNat : Int) ≤ 57 → tokB c = true) (by decide +kernel) c
theorem tokB_mark (c : UInt8) : (c.toNat : Int) ∈ marksL → tokB c = true :=
  byte_all (p := fun c => (c.toNat : Int) ∈ marksL → tokB c = true) (by decide +kernel) c
theorem tokB_no (c : UInt8) : ¬ (((c ||| 32).toNat : Int) ≥ 97 ∧ ((c ||| 32).toNat : Int) ≤ 122) → ¬ ((c.toNat : Int) ≥ 48 ∧ (c.toNat : Int) ≤ 57) → ¬ (c.toNat : Int) ∈ marksL → tokB c = false :=
  byte_all (p := fun c => ¬ (((c ||| 32).toNat : Int) ≥ 97 ∧ ((c ||| 32).toNat : Int) ≤ 122) → ¬ ((c.toNat : Int) ≥ 48 ∧ (c.toNat : Int) ≤ 57) → ¬ (c.toNat : Int) ∈ marksL → tokB c = false) (by decide +kernel) c
theorem inToken_loop {c : UInt8} {h : Heap} {e : Env} {t : Heap} (e0 : e 0 = byV c) (e22 : e 22 = .agg (marksL.map (.int .u8))) (e23 : e 23 = .int .i64 0)
    (hn : ¬ (c.toNat : Int) ∈ marksL → tokB c = false) : Wl F L lc_token_inToken_0 (q_token_inToken_0 L (Pu h (.bool (tokB c)))) e (h ++ t) := by
  refine l_token_inToken_0 (fun n e h' => ∃ i, i ≤ 15 ∧ n = 15 - i ∧ e 0 = byV c ∧ e 22 = .agg (marksL.map (.int .u8)) ∧ e 23 = .int .i64 i ∧ h' = h ++ t ∧ ∀ j, j < i → marksL.getD j 0 ≠ (c.toNat : Int)) ?_ (n := 15) ⟨0, by simp, rfl, e0, e22, e23, rfl, by simp⟩
  rintro n e h' ⟨i, hi, rfl, e0, e22, e23, rfl, hj⟩
  simp only [b_token_inToken_0]
  
  have hd : ∀ i, i < 15 → (marksL.map (V.int .u8)).getD i (.tup []) = .int .u8 (marksL.getD i 0) := by
    intro i hi
    have : i < marksL.length := hi
    rw [List.getD_eq_getElem?_getD, List.getD_eq_getElem?_getD, List.getElem?_map, List.getElem?_eq_getElem this, Option.map_some, Option.getD_some, Option.getD_some]
  by_cases hl : (i : Int) < 15
  · have hl' : i < 15 := by omega
    have w := wrap64 (x := (i : Int) + 1) (by omega) (by omega)
    have b1 : i + 1 ≤ 15 := by omega
    have b2 := hd i hl'
    have hmem : marksL.getD i 0 ∈ marksL := by
      have : i < marksL.length := hl'
      rw [List.getD_eq_getElem?_getD, List.getElem?_eq_getElem this, Option.getD_some]
      exact List.getElem_mem _
    have b3 : (marksL.map (V.int .u8)).length = 15 := rfl
    generalize hL : (marksL.map (V.int .u8)) = Ls at *
    simp (maxSteps := 4000000) only [vm, vl, Arg.get, cells, stor, boundO, resultsV, resV, partK, loadV, Vm.part, fillC, splice, reduceIte, reduceCtorEq, Nat.reduceEqDiff, Nat.reduceAdd, Nat.reduceSub, Nat.reduceMul, Nat.reduceLeDiff, ne_eq, not_false_eq_true, Int.reduceEq, Int.reduceLT, Int.reduceLE, Int.reduceNeg, Int.reduceToNat, Int.reduceGT, Int.reduceGE, Nat.reduceLT, Nat.lt_add_one, Nat.zero_lt_succ, Nat.succ_pos, Nat.zero_le, beq_self_eq_true, k_token_inToken_1, k_token_inToken_3, k_token_inToken_2, k_token_inToken_0, e0, e22, e23, hl, w, hl', b1, b2, b3]
    (repeat' ((first | refine wg_casep (fun _ => ?_) (fun _ => ?_) | refine wg_casen (fun _ => ?_) (fun _ => ?_) | refine wg_case (fun _ => ?_) (fun _ => ?_) | refine wgd_casep (fun _ => ?_) (fun _ => ?_) | refine wgd_casen (fun _ => ?_) (fun _ => ?_) | refine wgd_case (fun _ => ?_) (fun _ => ?_) | refine wb_casep (fun _ => ?_) (fun _ => ?_) | refine wb_casen (fun _ => ?_) (fun _ => ?_) | refine wb_case (fun _ => ?_) (fun _ => ?_)) <;> try simp (maxSteps := 4000000) only [vm, vl, Arg.get, cells, stor, boundO, resultsV, resV, partK, loadV, Vm.part, fillC, splice, reduceIte, reduceCtorEq, Nat.reduceEqDiff, Nat.reduceAdd, Nat.reduceSub, Nat.reduceMul, Nat.reduceLeDiff, ne_eq, not_false_eq_true, Int.reduceEq, Int.reduceLT, Int.reduceLE, Int.reduceNeg, Int.reduceToNat, Int.reduceGT, Int.reduceGE, Nat.reduceLT, Nat.lt_add_one, Nat.zero_lt_succ, Nat.succ_pos, Nat.zero_le, beq_self_eq_true, k_token_inToken_1, k_token_inToken_3, k_token_inToken_2, k_token_inToken_0, *]))
    · rename_i hc
      rw [hc] at hmem
      rw [tokB_mark c hmem]
    · rename_i hc
      refine ⟨15 - (i + 1), by omega, i + 1, by omega, rfl, by simp, ?_⟩
      intro j hj'
      rcases Nat.lt_or_ge j i with h1 | h1
      · exact hj j h1
      · have : j = i := by omega
        subst this; exact hc
  · simp (maxSteps := 4000000) only [vm, vl, Arg.get, cells, stor, boundO, resultsV, resV, partK, loadV, Vm.part, fillC, splice, reduceIte, reduceCtorEq, Nat.reduceEqDiff, Nat.reduceAdd, Nat.reduceSub, Nat.reduceMul, Nat.reduceLeDiff, ne_eq, not_false_eq_true, Int.reduceEq, Int.reduceLT, Int.reduceLE, Int.reduceNeg, Int.reduceToNat, Int.reduceGT, Int.reduceGE, Nat.reduceLT, Nat.lt_add_one, Nat.zero_lt_succ, Nat.succ_pos, Nat.zero_le, beq_self_eq_true, k_token_inToken_1, k_token_inToken_3, k_token_inToken_2, k_token_inToken_0, e0, e22, e23, hl]
    refine (hn fun hm => ?_).symm
    obtain ⟨k, hk, he⟩ := List.getElem_of_mem hm
    refine hj k (by have : marksL.length = 15 := rfl; omega) ?_
    rw [List.getD_eq_getElem?_getD, List.getElem?_eq_getElem hk, Option.getD_some]; exact he
theorem inToken_ok {c : UInt8} : Cf F L i_token_inToken [byV c] h (Pu h (.bool (tokB c))) := by
  refine run_token_inToken ?_
  simp only [p_token_inToken]
  simp (maxSteps := 4000000) only [vm, vl, Arg.get, cells, stor, boundO, resultsV, resV, partK, loadV, Vm.part, fillC, splice, reduceIte, reduceCtorEq, Nat.reduceEqDiff, Nat.reduceAdd, Nat.reduceSub, Nat.reduceMul, Nat.reduceLeDiff, ne_eq, not_false_eq_true, Int.reduceEq, Int.reduceLT, Int.reduceLE, Int.reduceNeg, Int.reduceToNat, Int.reduceGT, Int.reduceGE, Nat.reduceLT, Nat.lt_add_one, Nat.zero_lt_succ, Nat.succ_pos, Nat.zero_le, beq_self_eq_true, k_token_inToken_1, k_token_inToken_3, k_token_inToken_2, k_token_inToken_0, or32]
  (repeat' ((first | refine wg_casep (fun _ => ?_) (fun _ => ?_) | refine wg_casen (fun _ => ?_) (fun _ => ?_) | refine wg_case (fun _ => ?_) (fun _ => ?_) | refine wgd_casep (fun _ => ?_) (fun _ => ?_) | refine wgd_casen (fun _ => ?_) (fun _ => ?_) | refine wgd_case (fun _ => ?_) (fun _ => ?_) | refine wb_casep (fun _ => ?_) (fun _ => ?_) | refine wb_casen (fun _ => ?_) (fun _ => ?_) | refine wb_case (fun _ => ?_) (fun _ => ?_) | refine Cf.pu marks_ok (fun _ => ?_)) <;> try simp (maxSteps := 4000000) only [vm, vl, Arg.get, cells, stor, boundO, resultsV, resV, partK, loadV, Vm.part, fillC, splice, reduceIte, reduceCtorEq, Nat.reduceEqDiff, Nat.reduceAdd, Nat.reduceSub, Nat.reduceMul, Nat.reduceLeDiff, ne_eq, not_false_eq_true, Int.reduceEq, Int.reduceLT, Int.reduceLE, Int.reduceNeg, Int.reduceToNat, Int.reduceGT, Int.reduceGE, Nat.reduceLT, Nat.lt_add_one, Nat.zero_lt_succ, Nat.succ_pos, Nat.zero_le, beq_self_eq_true, k_token_inToken_1, k_token_inToken_3, k_token_inToken_2, k_token_inToken_0, *]))
  all_goals first
    | exact inToken_loop rfl rfl rfl fun hm => tokB_no c (by omega) (by omega) hm
    | (rw [tokB_low c (by omega) (by omega)])
    | (rw [tokB_dig c (by omega) (by omega)])
theorem blank_eq (c : UInt8) : blankB c = (decide ((c.toNat : Int) = 32) || decide ((c.toNat : Int) = 9)) :=
  byte_all (p := fun c => blankB c = (decide ((c.toNat : Int) = 32) || decide ((c.toNat : Int) = 9))) (by decide +kernel) c
theorem val_eq (c : UInt8) : valB c = (blankB c || (decide ((c.toNat : Int) > 32) && !decide ((c.toNat : Int) = 127))) :=
  byte_all (p := fun c => valB c = (blankB c || (decide ((c.toNat : Int) > 32) && !decide ((c.toNat : Int) = 127)))) (by decide +kernel) c
theorem isBlank_ok {c : UInt8} : Cf F L i_token_isBlank [byV c] h (Pu h (.bool (blankB c))) := by
  refine run_token_isBlank ?_
  simp only [p_token_isBlank]
  simp (maxSteps := 4000000) only [vm, vl, Arg.get, cells, stor, boundO, resultsV, resV, partK, loadV, Vm.part, fillC, splice, reduceIte, reduceCtorEq, Nat.reduceEqDiff, Nat.reduceAdd, Nat.reduceSub, Nat.reduceMul, Nat.reduceLeDiff, ne_eq, not_false_eq_true, Int.reduceEq, Int.reduceLT, Int.reduceLE, Int.reduceNeg, Int.reduceToNat, Int.reduceGT, Int.reduceGE, Nat.reduceLT, Nat.lt_add_one, Nat.zero_lt_succ, Nat.succ_pos, Nat.zero_le, beq_self_eq_true]
  (repeat' ((first | refine wg_casep (fun _ => ?_) (fun _ => ?_) | refine wg_casen (fun _ => ?_) (fun _ => ?_) | refine wg_case (fun _ => ?_) (fun _ => ?_) | refine wgd_casep (fun _ => ?_) (fun _ => ?_) | refine wgd_casen (fun _ => ?_) (fun _ => ?_) | refine wgd_case (fun _ => ?_) (fun _ => ?_) | refine wb_casep (fun _ => ?_) (fun _ => ?_) | refine wb_casen (fun _ => ?_) (fun _ => ?_) | refine wb_case (fun _ => ?_) (fun _ => ?_)) <;> try simp (maxSteps := 4000000) only [vm, vl, Arg.get, cells, stor, boundO, resultsV, resV, partK, loadV, Vm.part, fillC, splice, reduceIte, reduceCtorEq, Nat.reduceEqDiff, Nat.reduceAdd, Nat.reduceSub, Nat.reduceMul, Nat.reduceLeDiff, ne_eq, not_false_eq_true, Int.reduceEq, Int.reduceLT, Int.reduceLE, Int.reduceNeg, Int.reduceToNat, Int.reduceGT, Int.reduceGE, Nat.reduceLT, Nat.lt_add_one, Nat.zero_lt_succ, Nat.succ_pos, Nat.zero_le, beq_self_eq_true, *]))
  all_goals simp [blank_eq, *]
theorem Value1_ok {c : UInt8} : Cf F L i_token_Value_1 [byV c] h (Pu h (.bool (valB c))) := by
  refine run_token_Value_1 ?_
  simp only [p_token_Value_1]
  simp (maxSteps := 4000000) only [vm, vl, Arg.get, cells, stor, boundO, resultsV, resV, partK, loadV, Vm.part, fillC, splice, reduceIte, reduceCtorEq, Nat.reduceEqDiff, Nat.reduceAdd, Nat.reduceSub, Nat.reduceMul, Nat.reduceLeDiff, ne_eq, not_false_eq_true, Int.reduceEq, Int.reduceLT, Int.reduceLE, Int.reduceNeg, Int.reduceToNat, Int.reduceGT, Int.reduceGE, Nat.reduceLT, Nat.lt_add_one, Nat.zero_lt_succ, Nat.succ_pos, Nat.zero_le, beq_self_eq_true]
  (repeat' ((first | refine wg_casep (fun _ => ?_) (fun _ => ?_) | refine wg_casen (fun _ => ?_) (fun _ => ?_) | refine wg_case (fun _ => ?_) (fun _ => ?_) | refine wgd_casep (fun _ => ?_) (fun _ => ?_) | refine wgd_casen (fun _ => ?_) (fun _ => ?_) | refine wgd_case (fun _ => ?_) (fun _ => ?_) | refine wb_casep (fun _ => ?_) (fun _ => ?_) | refine wb_casen (fun _ => ?_) (fun _ => ?_) | refine wb_case (fun _ => ?_) (fun _ => ?_) | refine Cf.pu isBlank_ok (fun _ => ?_)) <;> try simp (maxSteps := 4000000) only [vm, vl, Arg.get, cells, stor, boundO, resultsV, resV, partK, loadV, Vm.part, fillC, splice, reduceIte, reduceCtorEq, Nat.reduceEqDiff, Nat.reduceAdd, Nat.reduceSub, Nat.reduceMul, Nat.reduceLeDiff, ne_eq, not_false_eq_true, Int.reduceEq, Int.reduceLT, Int.reduceLE, Int.reduceNeg, Int.reduceToNat, Int.reduceGT, Int.reduceGE, Nat.reduceLT, Nat.lt_add_one, Nat.zero_lt_succ, Nat.succ_pos, Nat.zero_le, beq_self_eq_true, *]))
  all_goals simp [val_eq, *]
/-- A text at a place: its end, or a byte. -/
theorem str_at {s : Bs} {i : Nat} (hi : i ≤ s.length) : (¬ (i : Int) < s.length ∧ i = s.length ∧ s.drop i = []) ∨ ∃ c, (i : Int) < s.length ∧ i < s.length ∧ s.getD i 0 = c ∧ s.drop i = c :: s.drop (i + 1) := by
  rcases Nat.lt_or_eq_of_le hi with h | h
  · refine .inr ⟨s[i], by omega, h, ?_, List.drop_eq_getElem_cons h⟩
    rw [List.getD_eq_getElem?_getD, List.getElem?_eq_getElem h, Option.getD_some]
  · exact .inl ⟨by omega, h, by rw [h]; simp⟩
theorem all_ok {s : Bs} {f : FuncId} {caps : List V} {p : UInt8 → Bool} (hs : s.length < 9223372036854775807) (hf : ∀ (c : UInt8) (h : Heap), Cf F L f ([byV c] ++ caps) h (Pu h (.bool (p c)))) :
    Cf F L i_token_all [.str s, .fn f caps] h (Pu h (.bool (s.all p))) := by
  refine run_token_all ?_
  simp only [p_token_all]
  simp (maxSteps := 4000000) only [vm, vl, Arg.get, cells, stor, boundO, resultsV, resV, partK, loadV, Vm.part, fillC, splice, reduceIte, reduceCtorEq, Nat.reduceEqDiff, Nat.reduceAdd, Nat.reduceSub, Nat.reduceMul, Nat.reduceLeDiff, ne_eq, not_false_eq_true, Int.reduceEq, Int.reduceLT, Int.reduceLE, Int.reduceNeg, Int.reduceToNat, Int.reduceGT, Int.reduceGE, Nat.reduceLT, Nat.lt_add_one, Nat.zero_lt_succ, Nat.succ_pos, Nat.zero_le, beq_self_eq_true, k_token_all_0, k_token_all_2, k_token_all_1]
  refine l_token_all_0 (fun n e h' => ∃ i, n = s.length - i ∧ i ≤ s.length ∧ e 0 = .str s ∧ e 1 = .fn f caps ∧ e 7 = .int .i64 s.length ∧ e 8 = .int .i64 i ∧ (∃ t, h' = h ++ t) ∧ s.all p = (s.drop i).all p) ?_ (n := s.length) ⟨0, by simp, by simp, rfl, rfl, rfl, rfl, ⟨[], by simp⟩, rfl⟩
  rintro n e h' ⟨i, rfl, hi, e0, e1, e7, e8, ⟨t, rfl⟩, hall⟩
  simp only [b_token_all_0]
  rw [hall]
  rcases str_at hi with ⟨hn, rfl, hd⟩ | ⟨c, hl, hl', hc, hd⟩
  · simp (maxSteps := 4000000) only [vm, vl, Arg.get, cells, stor, boundO, resultsV, resV, partK, loadV, Vm.part, fillC, splice, reduceIte, reduceCtorEq, Nat.reduceEqDiff, Nat.reduceAdd, Nat.reduceSub, Nat.reduceMul, Nat.reduceLeDiff, ne_eq, not_false_eq_true, Int.reduceEq, Int.reduceLT, Int.reduceLE, Int.reduceNeg, Int.reduceToNat, Int.reduceGT, Int.reduceGE, Nat.reduceLT, Nat.lt_add_one, Nat.zero_lt_succ, Nat.succ_pos, Nat.zero_le, beq_self_eq_true, k_token_all_0, k_token_all_2, k_token_all_1, e7, e8, hn, hd]
  · have w := wrap64 (x := (i : Int) + 1) (by omega) (by omega)
    rw [hd]
    simp (maxSteps := 4000000) only [vm, vl, Arg.get, cells, stor, boundO, resultsV, resV, partK, loadV, Vm.part, fillC, splice, reduceIte, reduceCtorEq, Nat.reduceEqDiff, Nat.reduceAdd, Nat.reduceSub, Nat.reduceMul, Nat.reduceLeDiff, ne_eq, not_false_eq_true, Int.reduceEq, Int.reduceLT, Int.reduceLE, Int.reduceNeg, Int.reduceToNat, Int.reduceGT, Int.reduceGE, Nat.reduceLT, Nat.lt_add_one, Nat.zero_lt_succ, Nat.succ_pos, Nat.zero_le, beq_self_eq_true, k_token_all_0, k_token_all_2, k_token_all_1, e0, e1, e7, e8, hl, hc, hl', w]
    (repeat' ((first | refine wg_casep (fun _ => ?_) (fun _ => ?_) | refine wg_casen (fun _ => ?_) (fun _ => ?_) | refine wg_case (fun _ => ?_) (fun _ => ?_) | refine wgd_casep (fun _ => ?_) (fun _ => ?_) | refine wgd_casen (fun _ => ?_) (fun _ => ?_) | refine wgd_case (fun _ => ?_) (fun _ => ?_) | refine wb_casep (fun _ => ?_) (fun _ => ?_) | refine wb_casen (fun _ => ?_) (fun _ => ?_) | refine wb_case (fun _ => ?_) (fun _ => ?_) | refine Cf.pu (hf _ _) (fun _ => ?_)) <;> try simp (maxSteps := 4000000) only [vm, vl, Arg.get, cells, stor, boundO, resultsV, resV, partK, loadV, Vm.part, fillC, splice, reduceIte, reduceCtorEq, Nat.reduceEqDiff, Nat.reduceAdd, Nat.reduceSub, Nat.reduceMul, Nat.reduceLeDiff, ne_eq, not_false_eq_true, Int.reduceEq, Int.reduceLT, Int.reduceLE, Int.reduceNeg, Int.reduceToNat, Int.reduceGT, Int.reduceGE, Nat.reduceLT, Nat.lt_add_one, Nat.zero_lt_succ, Nat.succ_pos, Nat.zero_le, beq_self_eq_true, k_token_all_0, k_token_all_2, k_token_all_1, *]))
    · rename_i hp; simp at hp; simp [hp]
    · rename_i hp
      simp at hp
      refine ⟨s.length - (i + 1), by omega, i + 1, rfl, hl', by simp, ⟨_, rfl⟩, ?_⟩
      simp [hp]
theorem Is_ok {s : Bs} (hs : s.length < 9223372036854775807) : Cf F L i_token_Is [.str s] h (Pu h (.bool (isTok s))) := by
  refine run_token_Is ?_
  simp only [p_token_Is]
  simp (maxSteps := 4000000) only [vm, vl, Arg.get, cells, stor, boundO, resultsV, resV, partK, loadV, Vm.part, fillC, splice, reduceIte, reduceCtorEq, Nat.reduceEqDiff, Nat.reduceAdd, Nat.reduceSub, Nat.reduceMul, Nat.reduceLeDiff, ne_eq, not_false_eq_true, Int.reduceEq, Int.reduceLT, Int.reduceLE, Int.reduceNeg, Int.reduceToNat, Int.reduceGT, Int.reduceGE, Nat.reduceLT, Nat.lt_add_one, Nat.zero_lt_succ, Nat.succ_pos, Nat.zero_le, beq_self_eq_true]
  have hA := fun h => all_ok (L := L) (h := h) (s := s) (caps := []) hs (fun c h => inToken_ok)
  cases s with
  | nil =>
    have e1 : (([] : Bs) == []) = true := rfl
    simp (maxSteps := 4000000) only [vm, vl, Arg.get, cells, stor, boundO, resultsV, resV, partK, loadV, Vm.part, fillC, splice, reduceIte, reduceCtorEq, Nat.reduceEqDiff, Nat.reduceAdd, Nat.reduceSub, Nat.reduceMul, Nat.reduceLeDiff, ne_eq, not_false_eq_true, Int.reduceEq, Int.reduceLT, Int.reduceLE, Int.reduceNeg, Int.reduceToNat, Int.reduceGT, Int.reduceGE, Nat.reduceLT, Nat.lt_add_one, Nat.zero_lt_succ, Nat.succ_pos, Nat.zero_le, beq_self_eq_true, *]
    rfl
  | cons c r =>
    have e1 : ((c :: r : Bs) == []) = false := rfl
    simp (maxSteps := 4000000) only [vm, vl, Arg.get, cells, stor, boundO, resultsV, resV, partK, loadV, Vm.part, fillC, splice, reduceIte, reduceCtorEq, Nat.reduceEqDiff, Nat.reduceAdd, Nat.reduceSub, Nat.reduceMul, Nat.reduceLeDiff, ne_eq, not_false_eq_true, Int.reduceEq, Int.reduceLT, Int.reduceLE, Int.reduceNeg, Int.reduceToNat, Int.reduceGT, Int.reduceGE, Nat.reduceLT, Nat.lt_add_one, Nat.zero_lt_succ, Nat.succ_pos, Nat.zero_le, beq_self_eq_true, *]
    (repeat' ((first | refine wg_casep (fun _ => ?_) (fun _ => ?_) | refine wg_casen (fun _ => ?_) (fun _ => ?_) | refine wg_case (fun _ => ?_) (fun _ => ?_) | refine wgd_casep (fun _ => ?_) (fun _ => ?_) | refine wgd_casen (fun _ => ?_) (fun _ => ?_) | refine wgd_case (fun _ => ?_) (fun _ => ?_) | refine wb_casep (fun _ => ?_) (fun _ => ?_) | refine wb_casen (fun _ => ?_) (fun _ => ?_) | refine wb_case (fun _ => ?_) (fun _ => ?_) | refine Cf.pu (hA _) (fun _ => ?_)) <;> try simp (maxSteps := 4000000) only [vm, vl, Arg.get, cells, stor, boundO, resultsV, resV, partK, loadV, Vm.part, fillC, splice, reduceIte, reduceCtorEq, Nat.reduceEqDiff, Nat.reduceAdd, Nat.reduceSub, Nat.reduceMul, Nat.reduceLeDiff, ne_eq, not_false_eq_true, Int.reduceEq, Int.reduceLT, Int.reduceLE, Int.reduceNeg, Int.reduceToNat, Int.reduceGT, Int.reduceGE, Nat.reduceLT, Nat.lt_add_one, Nat.zero_lt_succ, Nat.succ_pos, Nat.zero_le, beq_self_eq_true, *]))
    rfl
def strs (out : List Bs) : List V := out.map .str
end Go.Proofs.YtnfcjeajbjcppaaDoor.Vh
end
