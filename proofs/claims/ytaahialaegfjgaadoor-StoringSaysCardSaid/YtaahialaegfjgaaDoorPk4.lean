/- Several texts in one: Tok, VTok1, VTrim, VRef1. -/
import Derived.Test.YtaahialaegfjgaaDoorPk2
import Derived.Test.YtaahialaegfjgaaDoorPk3
section
set_option linter.unusedVariables false
set_option linter.unusedSimpArgs false
namespace Go.Vt
abbrev Bs := List UInt8
/-- What holds of each byte, by trying all. -/
theorem byte_all {p : UInt8 → Prop} [DecidablePred p] (h : ∀ n : Fin 256, p (UInt8.ofNat n.val)) (c : UInt8) : p c := by
  have := h ⟨c.toNat, c.toNat_lt⟩
  simpa using this
def blankB (c : UInt8) : Bool := c == 32 || c == 9
def digB (c : UInt8) : Bool := decide (48 ≤ c.toNat) && decide (c.toNat ≤ 57)
def tokB (c : UInt8) : Bool := (decide (97 ≤ c.toNat) && decide (c.toNat ≤ 122)) || (decide (65 ≤ c.toNat) && decide (c.toNat ≤ 90)) || digB c || [33, 35, 36, 37, 38, 39, 42, 43, 45, 46, 94, 95, 96, 124, 126].contains c
def txtB (c : UInt8) : Bool := c == 9 || (decide (32 ≤ c.toNat) && c != 127)
def lowB (c : UInt8) : UInt8 := if 65 ≤ c.toNat ∧ c.toNat ≤ 90 then c + 32 else c
def isTok (s : Bs) : Bool := !s.isEmpty && s.all tokB
def low (s : Bs) : Bs := s.map lowB
def trimL (s : Bs) : Bs := s.dropWhile blankB
def trimR : Bs → Bs
  | [] => []
  | c :: r => match trimR r with
    | [] => if blankB c then [] else [c]
    | r' => c :: r'
def trim (s : Bs) : Bs := trimL (trimR s)
theorem low_length (s : Bs) : (low s).length = s.length := by simp [low]
theorem low_append (s t : Bs) : low (s ++ t) = low s ++ low t := by simp [low]
theorem trimR_cons_ne {c : UInt8} {r : Bs} (h : trimR r ≠ []) : trimR (c :: r) = c :: trimR r := by
  conv => lhs; unfold trimR
  cases hr : trimR r with
  | nil => exact absurd hr h
  | cons a l => rfl
theorem trimR_cons_nil {c : UInt8} {r : Bs} (h : trimR r = []) : trimR (c :: r) = if blankB c then [] else [c] := by
  conv => lhs; unfold trimR
  rw [h]
theorem trimR_length (s : Bs) : (trimR s).length ≤ s.length := by
  induction s with
  | nil => simp [trimR]
  | cons c r ih =>
    by_cases h : trimR r = []
    · rw [trimR_cons_nil h]; split <;> simp
    · rw [trimR_cons_ne h]; simp; exact ih
/-- A text without blanks at its right end, and blanks behind. -/
theorem trimR_blank {s : Bs} {c : UInt8} (h : blankB c = true) : trimR (s ++ [c]) = trimR s := by
  induction s with
  | nil => simp [trimR, h]
  | cons a r ih =>
    rw [List.cons_append]
    by_cases hr : trimR r = []
    · rw [trimR_cons_nil (by rw [ih]; exact hr), trimR_cons_nil hr]
    · rw [trimR_cons_ne (by rw [ih]; exact hr), trimR_cons_ne hr, ih]
theorem trimR_full {s : Bs} {c : UInt8} (h : blankB c = false) : trimR (s ++ [c]) = s ++ [c] := by
  induction s with
  | nil => simp [trimR, h]
  | cons a r ih =>
    rw [List.cons_append, trimR_cons_ne (by rw [ih]; simp), ih]
theorem trimL_blank {s : Bs} {c : UInt8} (h : blankB c = true) : trimL (c :: s) = trimL s := by simp [trimL, h]
theorem trimL_full {s : Bs} {c : UInt8} (h : blankB c = false) : trimL (c :: s) = c :: s := by simp [trimL, h]
theorem trimR_nil_iff {s : Bs} : trimR s = [] ↔ ∀ c ∈ s, blankB c = true := by
  induction s with
  | nil => simp [trimR]
  | cons c r ih =>
    by_cases h : trimR r = []
    · rw [trimR_cons_nil h]
      have := ih.1 h
      by_cases hc : blankB c = true
      · simp [hc]; exact this
      · simp [hc]
    · rw [trimR_cons_ne h]
      refine ⟨fun hh => by simp at hh, fun hh => absurd (ih.2 fun x hx => hh x (List.mem_cons_of_mem _ hx)) h⟩
theorem trimL_nil_iff {s : Bs} : trimL s = [] ↔ ∀ c ∈ s, blankB c = true := by
  unfold trimL
  induction s with
  | nil => simp
  | cons c r ih => 
    by_cases hc : blankB c = true
    · simp [hc, ih]
    · simp [hc]
/-- Left first, then right: the same. -/
theorem trim_comm (s : Bs) : trimR (trimL s) = trim s := by
  unfold trim
  induction s with
  | nil => rfl
  | cons c r ih =>
    by_cases hc : blankB c = true
    · rw [trimL_blank hc]
      by_cases h : trimR r = []
      · rw [trimR_cons_nil h, if_pos hc]
        have : trimL r = [] := trimL_nil_iff.2 (trimR_nil_iff.1 h)
        rw [this]; rfl
      · rw [trimR_cons_ne h, trimL_blank hc, ih]
    · have hc' : blankB c = false := by simpa using hc
      rw [trimL_full hc']
      by_cases h : trimR r = []
      · rw [trimR_cons_nil h, if_neg hc, trimL_full hc']
      · rw [trimR_cons_ne h, trimL_full hc']
/-- A list's elements: own: what has been read of this one. -/
def flush (out : List Bs) (own : Bs) : List Bs := if trim own = [] then out else out ++ [trim own]
def splitG : Bs → Bs → Bool → List Bs → Option (List Bs)
  | [], own, q, out => if q then none else some (flush out own)
  | [c], own, q, out =>
    if c = 34 then (if q then some (flush out (own ++ [c])) else none) else if q then none else if c = 44 then some (flush (flush out own) []) else some (flush out (own ++ [c]))
  | c :: d :: r, own, q, out =>
    if c = 34 then splitG (d :: r) (own ++ [c]) (!q) out
    else if q && c == 92 then splitG r (own ++ [c, d]) q out
    else if !q && c == 44 then splitG (d :: r) [] q (flush out own)
    else splitG (d :: r) (own ++ [c]) q out
def split (s : Bs) : Option (List Bs) := splitG s [] false []
def cutAt (x : UInt8) : Bs → Option (Bs × Bs)
  | [] => none
  | c :: r => if c = x then some ([], r) else (cutAt x r).map fun p => (c :: p.1, p.2)
def unqG : Bs → Bs → Option Bs
  | [], _ => none
  | [c], out => if c = 34 then some out else none
  | c :: d :: r, out => if c = 34 then none else if c = 92 then (if txtB d then unqG r (out ++ [d]) else none) else if txtB c then unqG (d :: r) (out ++ [c]) else none
def unq : Bs → Option Bs
  | 34 :: r => unqG r []
  | _ => none
structure Pr where
  name : Bs
  value : Bs
  has : Bool
  ok : Bool
  deriving DecidableEq
def pairS (s : Bs) : Pr :=
  match cutAt 61 s with
  | none => if isTok s then ⟨s, [], false, true⟩ else ⟨[], [], false, false⟩
  | some (n, v) => if !isTok n then ⟨[], [], false, false⟩ else if isTok v then ⟨n, v, true, true⟩ else match unq v with
    | some u => ⟨n, u, true, true⟩
    | none => ⟨[], [], false, false⟩
/-- A number of digits, at most so much. -/
def numG : Bs → Int → Int → Int
  | [], n, _ => n
  | c :: r, n, most => if (c.toNat : Int) - 48 > most ∨ n > (most - ((c.toNat : Int) - 48)) / 10 then most else numG r (10 * n + ((c.toNat : Int) - 48)) most
def numS (s : Bs) (most : Int) : Int × Bool := if s.isEmpty || decide (most < 0) || !s.all digB then (0, false) else (numG s 0 most, true)
end Go.Vt
end
section
set_option linter.unusedVariables false
set_option linter.unusedSimpArgs false
namespace Go.Proofs.YtaahialaegfjgaaDoor.Vh
open Go.Vm Go.Vt
attribute [local congr] wi_congr wg_congr wgd_congr wb_congr wl_congr cf_congr
variable {L : FuncId → List V → V → Prop} {h : Heap}
/-- A byte, as a value. -/
abbrev byV (c : UInt8) : V := .int .u8 (c.toNat : Int)
theorem or32 (c : UInt8) : bitsI .or .u8 (c.toNat : Int) 32 = ((c ||| 32).toNat : Int) := byte_all (p := fun c => bitsI .or .u8 (c.toNat : Int) 32 = ((c ||| 32).toNat : Int)) (by decide +kernel) c
theorem marks_ok : Cf F L i_token_marks [] h (Pu h (.agg ([33, 35, 36, 37, 38, 39, 42, 43, 45, 46, 94, 95, 96, 124, 126].map (.int .u8)))) := by
  refine run_token_marks ?_
  simp only [p_token_marks]
  simp (maxSteps := 4000000) only [vm, vl, Arg.get, cells, stor, boundO, resultsV, resV, partK, loadV, Vm.part, fillC, splice, reduceIte, reduceCtorEq, Nat.reduceEqDiff, Nat.reduceAdd, Nat.reduceSub, Nat.reduceMul, Nat.reduceLeDiff, ne_eq, not_false_eq_true, Int.reduceEq, Int.reduceLT, Int.reduceLE, Int.reduceNeg, Int.reduceToNat, Int.reduceGT, Int.reduceGE, Nat.reduceLT, Nat.lt_add_one, Nat.zero_lt_succ, Nat.succ_pos, Nat.zero_le, beq_self_eq_true]
def marksL : List Int := [33, 35, 36, 37, 38, 39, 42, 43, 45, 46, 94, 95, 96, 124, 126]
theorem tokB_low (c : UInt8) : ((c ||| 32).toNat : Int) ≥ 97 → ((c ||| 32).toNat : Int) ≤ 122 → tokB c = true :=
  byte_all (p := fun c => ((c ||| 32).toNat : Int) ≥ 97 → ((c ||| 32).toNat : Int) ≤ 122 → tokB c = true) (by decide +kernel) c
theorem tokB_dig (c : UInt8) : (c.toNat : Int) ≥ 48 → (c.toNat : Int) ≤ 57 → tokB c = true :=
  byte_all (p := fun c => (c.toNat : Int) ≥ 48 → (c.toNat : Int) ≤ 57 → tokB c = true) (by decide +kernel) c
theorem tokB_mark (c : UInt8) : (c.toNat : Int) ∈ marksL → tokB c = true :=
  byte_all (p := fun c => (c.toNat : Int) ∈ marksL → tokB c = true) (by decide +kernel) c
theorem tokB_no (c : UInt8) : ¬ (((c ||| 32).toNat : Int) ≥ 97 ∧ ((c ||| 32).toNat : Int) ≤ 122) → ¬ ((c.toNat : Int) ≥ 48 ∧ (c.toNat : Int) ≤ 57) → ¬ (c.toNat : Int) ∈ marksL → tokB c = false :=
  byte_all (p := fun c => ¬ (((c ||| 32).toNat : Int) ≥ 97 ∧ ((c ||| 32).toNat : Int) ≤ 122) → ¬ ((c.toNat : Int) ≥ 48 ∧ (c.toNat : Int) ≤ 57) → ¬ (c.toNat : Int) ∈ marksL → tokB c = false) (by decide +kernel) c
theorem inToken_loop {c : UInt8} {h : Heap} {e : Env} {t : Heap} (e0 : e 0 = byV c) (e22 : e 22 = .agg (marksL.map (.int .u8))) (e23 : e 23 = .int .i64 0)
    (hn : ¬ (c.toNat : Int) ∈ marksL → tokB c = false) : Wl F L lc_token_inToken_0 (q_token_inToken_0 L (Pu h (.bool (tokB c)))) e (h ++ t) := by
  refine l_token_inToken_0 (fun n e h' => ∃ i, i ≤ 15 ∧ n = 15 - i ∧ e 0 = byV c ∧ e 22 = .agg (marksL.map (.int .u8)) ∧ e 23 = .int .i64 i ∧ h' = h ++ t ∧ ∀ j, j < i → marksL.getD j 0 ≠ (c.toNat : Int)) ?_ (n := 15) ⟨0, by simp, rfl, e0, e22, e23, rfl, by simp⟩
  rintro n e h' ⟨i, hi, rfl, e0, e22, e23, rfl, hj⟩
  simp only [b_token_inToken_0]
  
  have hd : ∀ i, i < 15 → (marksL.map (V.int .u8)).getD i (.tup []) = .int .u8 (marksL.getD i 0) := by
    intro i hi
    have : i < marksL.length := hi
    rw [List.getD_eq_getElem?_getD, List.getD_eq_getElem?_getD, List.getElem?_map, List.getElem?_eq_getElem this, Option.map_some, Option.getD_some, Option.getD_some]
  by_cases hl : (i : Int) < 15
  · have hl' : i < 15 := by omega
    have w := wrap64 (x := (i : Int) + 1) (by omega) (by omega)
    have b1 : i + 1 ≤ 15 := by omega
    have b2 := hd i hl'
    have hmem : marksL.getD i 0 ∈ marksL := by
      have : i < marksL.length := hl'
      rw [List.getD_eq_getElem?_getD, List.getElem?_eq_getElem this, Option.getD_some]
      exact List.getElem_mem _
    have b3 : (marksL.map (V.int .u8)).length = 15 := rfl
    generalize hL : (marksL.map (V.int .u8)) = Ls at *
    simp (maxSteps := 4000000) only [vm, vl, Arg.get, cells, stor, boundO, resultsV, resV, partK, loadV, Vm.part, fillC, splice, reduceIte, reduceCtorEq, Nat.reduceEqDiff, Nat.reduceAdd, Nat.reduceSub, Nat.reduceMul, Nat.reduceLeDiff, ne_eq, not_false_eq_true, Int.reduceEq, Int.reduceLT, Int.reduceLE, Int.reduceNeg, Int.reduceToNat, Int.reduceGT, Int.reduceGE, Nat.reduceLT, Nat.lt_add_one, Nat.zero_lt_succ, Nat.succ_pos, Nat.zero_le, beq_self_eq_true, k_token_inToken_1, k_token_inToken_3, k_token_inToken_2, k_token_inToken_0, e0, e22, e23, hl, w, hl', b1, b2, b3]
    (repeat' ((first | refine wg_casep (fun _ => ?_) (fun _ => ?_) | refine wg_casen (fun _ => ?_) (fun _ => ?_) | refine wg_case (fun _ => ?_) (fun _ => ?_) | refine wgd_casep (fun _ => ?_) (fun _ => ?_) | refine wgd_casen (fun _ => ?_) (fun _ => ?_) | refine wgd_case (fun _ => ?_) (fun _ => ?_) | refine wb_casep (fun _ => ?_) (fun _ => ?_) | refine wb_casen (fun _ => ?_) (fun _ => ?_) | refine wb_case (fun _ => ?_) (fun _ => ?_)) <;> try simp (maxSteps := 4000000) only [vm, vl, Arg.get, cells, stor, boundO, resultsV, resV, partK, loadV, Vm.part, fillC, splice, reduceIte, reduceCtorEq, Nat.reduceEqDiff, Nat.reduceAdd, Nat.reduceSub, Nat.reduceMul, Nat.reduceLeDiff, ne_eq, not_false_eq_true, Int.reduceEq, Int.reduceLT, Int.reduceLE, Int.reduceNeg, Int.reduceToNat, Int.reduceGT, Int.reduceGE, Nat.reduceLT, Nat.lt_add_one, Nat.zero_lt_succ, Nat.succ_pos, Nat.zero_le, beq_self_eq_true, k_token_inToken_1, k_token_inToken_3, k_token_inToken_2, k_token_inToken_0, *]))
    · rename_i hc
      rw [hc] at hmem
      rw [tokB_mark c hmem]
    · rename_i hc
      refine ⟨15 - (i + 1), by omega, i + 1, by omega, rfl, by simp, ?_⟩
      intro j hj'
      rcases Nat.lt_or_ge j i with h1 | h1
      · exact hj j h1
      · have : j = i := by omega
        subst this; exact hc
  · simp (maxSteps := 4000000) only [vm, vl, Arg.get, cells, stor, boundO, resultsV, resV, partK, loadV, Vm.part, fillC, splice, reduceIte, reduceCtorEq, Nat.reduceEqDiff, Nat.reduceAdd, Nat.reduceSub, Nat.reduceMul, Nat.reduceLeDiff, ne_eq, not_false_eq_true, Int.reduceEq, Int.reduceLT, Int.reduceLE, Int.reduceNeg, Int.reduceToNat, Int.reduceGT, Int.reduceGE, Nat.reduceLT, Nat.lt_add_one, Nat.zero_lt_succ, Nat.succ_pos, Nat.zero_le, beq_self_eq_true, k_token_inToken_1, k_token_inToken_3, k_token_inToken_2, k_token_inToken_0, e0, e22, e23, hl]
    refine (hn fun hm => ?_).symm
    obtain ⟨k, hk, he⟩ := List.getElem_of_mem hm
    refine hj k (by have : marksL.length = 15 := rfl; omega) ?_
    rw [List.getD_eq_getElem?_getD, List.getElem?_eq_getElem hk, Option.getD_some]; exact he
theorem inToken_ok {c : UInt8} : Cf F L i_token_inToken [byV c] h (Pu h (.bool (tokB c))) := by
  refine run_token_inToken ?_
  simp only [p_token_inToken]
  simp (maxSteps := 4000000) only [vm, vl, Arg.get, cells, stor, boundO, resultsV, resV, partK, loadV, Vm.part, fillC, splice, reduceIte, reduceCtorEq, Nat.reduceEqDiff, Nat.reduceAdd, Nat.reduceSub, Nat.reduceMul, Nat.reduceLeDiff, ne_eq, not_false_eq_true, Int.reduceEq, Int.reduceLT, Int.reduceLE, Int.reduceNeg, Int.reduceToNat, Int.reduceGT, Int.reduceGE, Nat.reduceLT, Nat.lt_add_one, Nat.zero_lt_succ, Nat.succ_pos, Nat.zero_le, beq_self_eq_true, k_token_inToken_1, k_token_inToken_3, k_token_inToken_2, k_token_inToken_0, or32]
  (repeat' ((first | refine wg_casep (fun _ => ?_) (fun _ => ?_) | refine wg_casen (fun _ => ?_) (fun _ => ?_) | refine wg_case (fun _ => ?_) (fun _ => ?_) | refine wgd_casep (fun _ => ?_) (fun _ => ?_) | refine wgd_casen (fun _ => ?_) (fun _ => ?_) | refine wgd_case (fun _ => ?_) (fun _ => ?_) | refine wb_casep (fun _ => ?_) (fun _ => ?_) | refine wb_casen (fun _ => ?_) (fun _ => ?_) | refine wb_case (fun _ => ?_) (fun _ => ?_) | refine Cf.pu marks_ok (fun _ => ?_)) <;> try simp (maxSteps := 4000000) only [vm, vl, Arg.get, cells, stor, boundO, resultsV, resV, partK, loadV, Vm.part, fillC, splice, reduceIte, reduceCtorEq, Nat.reduceEqDiff, Nat.reduceAdd, Nat.reduceSub, Nat.reduceMul, Nat.reduceLeDiff, ne_eq, not_false_eq_true, Int.reduceEq, Int.reduceLT, Int.reduceLE, Int.reduceNeg, Int.reduceToNat, Int.reduceGT, Int.reduceGE, Nat.reduceLT, Nat.lt_add_one, Nat.zero_lt_succ, Nat.succ_pos, Nat.zero_le, beq_self_eq_true, k_token_inToken_1, k_token_inToken_3, k_token_inToken_2, k_token_inToken_0, *]))
  all_goals first
    | exact inToken_loop rfl rfl rfl fun hm => tokB_no c (by omega) (by omega) hm
    | (rw [tokB_low c (by omega) (by omega)])
    | (rw [tokB_dig c (by omega) (by omega)])
/-- A text at a place: its end, or a byte. -/
theorem str_at {s : Bs} {i : Nat} (hi : i ≤ s.length) : (¬ (i : Int) < s.length ∧ i = s.length ∧ s.drop i = []) ∨ ∃ c, (i : Int) < s.length ∧ i < s.length ∧ s.getD i 0 = c ∧ s.drop i = c :: s.drop (i + 1) := by
  rcases Nat.lt_or_eq_of_le hi with h | h
  · refine .inr ⟨s[i], by omega, h, ?_, List.drop_eq_getElem_cons h⟩
    rw [List.getD_eq_getElem?_getD, List.getElem?_eq_getElem h, Option.getD_some]
  · exact .inl ⟨by omega, h, by rw [h]; simp⟩
theorem all_ok {s : Bs} {f : FuncId} {caps : List V} {p : UInt8 → Bool} (hs : s.length < 9223372036854775807) (hf : ∀ (c : UInt8) (h : Heap), Cf F L f ([byV c] ++ caps) h (Pu h (.bool (p c)))) :
    Cf F L i_token_all [.str s, .fn f caps] h (Pu h (.bool (s.all p))) := by
  refine run_token_all ?_
  simp only [p_token_all]
  simp (maxSteps := 4000000) only [vm, vl, Arg.get, cells, stor, boundO, resultsV, resV, partK, loadV, Vm.part, fillC, splice, reduceIte, reduceCtorEq, Nat.reduceEqDiff, Nat.reduceAdd, Nat.reduceSub, Nat.reduceMul, Nat.reduceLeDiff, ne_eq, not_false_eq_true, Int.reduceEq, Int.reduceLT, Int.reduceLE, Int.reduceNeg, Int.reduceToNat, Int.reduceGT, Int.reduceGE, Nat.reduceLT, Nat.lt_add_one, Nat.zero_lt_succ, Nat.succ_pos, Nat.zero_le, beq_self_eq_true, k_token_all_0, k_token_all_2, k_token_all_1]
  refine l_token_all_0 (fun n e h' => ∃ i, n = s.length - i ∧ i ≤ s.length ∧ e 0 = .str s ∧ e 1 = .fn f caps ∧ e 7 = .int .i64 s.length ∧ e 8 = .int .i64 i ∧ (∃ t, h' = h ++ t) ∧ s.all p = (s.drop i).all p) ?_ (n := s.length) ⟨0, by simp, by simp, rfl, rfl, rfl, rfl, ⟨[], by simp⟩, rfl⟩
  rintro n e h' ⟨i, rfl, hi, e0, e1, e7, e8, ⟨t, rfl⟩, hall⟩
  simp only [b_token_all_0]
  rw [hall]
  rcases str_at hi with ⟨hn, rfl, hd⟩ | ⟨c, hl, hl', hc, hd⟩
  · simp (maxSteps := 4000000) only [vm, vl, Arg.get, cells, stor, boundO, resultsV, resV, partK, loadV, Vm.part, fillC, splice, reduceIte, reduceCtorEq, Nat.reduceEqDiff, Nat.reduceAdd, Nat.reduceSub, Nat.reduceMul, Nat.reduceLeDiff, ne_eq, not_false_eq_true, Int.reduceEq, Int.reduceLT, Int.reduceLE, Int.reduceNeg, Int.reduceToNat, Int.reduceGT, Int.reduceGE, Nat.reduceLT, Nat.lt_add_one, Nat.zero_lt_succ, Nat.succ_pos, Nat.zero_le, beq_self_eq_true, k_token_all_0, k_token_all_2, k_token_all_1, e7, e8, hn, hd]
  · have w := wrap64 (x := (i : Int) + 1) (by omega) (by omega)
    rw [hd]
    simp (maxSteps := 4000000) only [vm, vl, Arg.get, cells, stor, boundO, resultsV, resV, partK, loadV, Vm.part, fillC, splice, reduceIte, reduceCtorEq, Nat.reduceEqDiff, Nat.reduceAdd, Nat.reduceSub, Nat.reduceMul, Nat.reduceLeDiff, ne_eq, not_false_eq_true, Int.reduceEq, Int.reduceLT, Int.reduceLE, Int.reduceNeg, Int.reduceToNat, Int.reduceGT, Int.reduceGE, Nat.reduceLT, Nat.lt_add_one, Nat.zero_lt_succ, Nat.succ_pos, Nat.zero_le, beq_self_eq_true, k_token_all_0, k_token_all_2, k_token_all_1, e0, e1, e7, e8, hl, hc, hl', w]
    (repeat' ((first | refine wg_casep (fun _ => ?_) (fun _ => ?_) | refine wg_casen (fun _ => ?_) (fun _ => ?_) | refine wg_case (fun _ => ?_) (fun _ => ?_) | refine wgd_casep (fun _ => ?_) (fun _ => ?_) | refine wgd_casen (fun _ => ?_) (fun _ => ?_) | refine wgd_case (fun _ => ?_) (fun _ => ?_) | refine wb_casep (fun _ => ?_) (fun _ => ?_) | refine wb_casen (fun _ => ?_) (fun _ => ?_) | refine wb_case (fun _ => ?_) (fun _ => ?_) | refine Cf.pu (hf _ _) (fun _ => ?_)) <;> try simp (maxSteps := 4000000) only [vm, vl, Arg.get, cells, stor, boundO, resultsV, resV, partK, loadV, Vm.part, fillC, splice, reduceIte, reduceCtorEq, Nat.reduceEqDiff, Nat.reduceAdd, Nat.reduceSub, Nat.reduceMul, Nat.reduceLeDiff, ne_eq, not_false_eq_true, Int.reduceEq, Int.reduceLT, Int.reduceLE, Int.reduceNeg, Int.reduceToNat, Int.reduceGT, Int.reduceGE, Nat.reduceLT, Nat.lt_add_one, Nat.zero_lt_succ, Nat.succ_pos, Nat.zero_le, beq_self_eq_true, k_token_all_0, k_token_all_2, k_token_all_1, *]))
    · rename_i hp; simp at hp; simp [hp]
    · rename_i hp
      simp at hp
      refine ⟨s.length - (i + 1), by omega, i + 1, rfl, hl', by simp, ⟨_, rfl⟩, ?_⟩
      simp [hp]
theorem Is_ok {s : Bs} (hs : s.length < 9223372036854775807) : Cf F L i_token_Is [.str s] h (Pu h (.bool (isTok s))) := by
  refine run_token_Is ?_
  simp only [p_token_Is]
  simp (maxSteps := 4000000) only [vm, vl, Arg.get, cells, stor, boundO, resultsV, resV, partK, loadV, Vm.part, fillC, splice, reduceIte, reduceCtorEq, Nat.reduceEqDiff, Nat.reduceAdd, Nat.reduceSub, Nat.reduceMul, Nat.reduceLeDiff, ne_eq, not_false_eq_true, Int.reduceEq, Int.reduceLT, Int.reduceLE, Int.reduceNeg, Int.reduceToNat, Int.reduceGT, Int.reduceGE, Nat.reduceLT, Nat.lt_add_one, Nat.zero_lt_succ, Nat.succ_pos, Nat.zero_le, beq_self_eq_true]
  have hA := fun h => all_ok (L := L) (h := h) (s := s) (caps := []) hs (fun c h => inToken_ok)
  cases s with
  | nil =>
    have e1 : (([] : Bs) == []) = true := rfl
    simp (maxSteps := 4000000) only [vm, vl, Arg.get, cells, stor, boundO, resultsV, resV, partK, loadV, Vm.part, fillC, splice, reduceIte, reduceCtorEq, Nat.reduceEqDiff, Nat.reduceAdd, Nat.reduceSub, Nat.reduceMul, Nat.reduceLeDiff, ne_eq, not_false_eq_true, Int.reduceEq, Int.reduceLT, Int.reduceLE, Int.reduceNeg, Int.reduceToNat, Int.reduceGT, Int.reduceGE, Nat.reduceLT, Nat.lt_add_one, Nat.zero_lt_succ, Nat.succ_pos, Nat.zero_le, beq_self_eq_true, *]
    rfl
  | cons c r =>
    have e1 : ((c :: r : Bs) == []) = false := rfl
    simp (maxSteps := 4000000) only [vm, vl, Arg.get, cells, stor, boundO, resultsV, resV, partK, loadV, Vm.part, fillC, splice, reduceIte, reduceCtorEq, Nat.reduceEqDiff, Nat.reduceAdd, Nat.reduceSub, Nat.reduceMul, Nat.reduceLeDiff, ne_eq, not_false_eq_true, Int.reduceEq, Int.reduceLT, Int.reduceLE, Int.reduceNeg, Int.reduceToNat, Int.reduceGT, Int.reduceGE, Nat.reduceLT, Nat.lt_add_one, Nat.zero_lt_succ, Nat.succ_pos, Nat.zero_le, beq_self_eq_true, *]
    (repeat' ((first | refine wg_casep (fun _ => ?_) (fun _ => ?_) | refine wg_casen (fun _ => ?_) (fun _ => ?_) | refine wg_case (fun _ => ?_) (fun _ => ?_) | refine wgd_casep (fun _ => ?_) (fun _ => ?_) | refine wgd_casen (fun _ => ?_) (fun _ => ?_) | refine wgd_case (fun _ => ?_) (fun _ => ?_) | refine wb_casep (fun _ => ?_) (fun _ => ?_) | refine wb_casen (fun _ => ?_) (fun _ => ?_) | refine wb_case (fun _ => ?_) (fun _ => ?_) | refine Cf.pu (hA _) (fun _ => ?_)) <;> try simp (maxSteps := 4000000) only [vm, vl, Arg.get, cells, stor, boundO, resultsV, resV, partK, loadV, Vm.part, fillC, splice, reduceIte, reduceCtorEq, Nat.reduceEqDiff, Nat.reduceAdd, Nat.reduceSub, Nat.reduceMul, Nat.reduceLeDiff, ne_eq, not_false_eq_true, Int.reduceEq, Int.reduceLT, Int.reduceLE, Int.reduceNeg, Int.reduceToNat, Int.reduceGT, Int.reduceGE, Nat.reduceLT, Nat.lt_add_one, Nat.zero_lt_succ, Nat.succ_pos, Nat.zero_le, beq_self_eq_true, *]))
    rfl
theorem low_at (c : UInt8) : (c.toNat : Int) ≥ 65 → (c.toNat : Int) ≤ 90 → bitsI .or .u8 (c.toNat : Int) 32 = ((lowB c).toNat : Int) :=
  byte_all (p := fun c => (c.toNat : Int) ≥ 65 → (c.toNat : Int) ≤ 90 → bitsI .or .u8 (c.toNat : Int) 32 = ((lowB c).toNat : Int)) (by decide +kernel) c
theorem low_no (c : UInt8) (h : ¬ ((c.toNat : Int) ≥ 65 ∧ (c.toNat : Int) ≤ 90)) : lowB c = c := by
  unfold lowB; rw [if_neg (by omega)]
theorem toBytes_of (s : Bs) : toBytesL (s.map ofByte) = some s := by
  induction s with
  | nil => rfl
  | cons c r ih => simp [toBytesL, toByte, ofByte, ih]
/-- A text that has been turned up to a place. -/
def lowTo (s : Bs) (i : Nat) : List V := (low (s.take i) ++ s.drop i).map ofByte
theorem lowTo_0 (s : Bs) : lowTo s 0 = s.map ofByte := by simp [lowTo, low]
theorem lowTo_all (s : Bs) : lowTo s s.length = (low s).map ofByte := by simp [lowTo]
theorem lowTo_len {s : Bs} {i : Nat} (hi : i ≤ s.length) : (lowTo s i).length = s.length := by simp [lowTo, low]; omega
theorem lowTo_get {s : Bs} {i : Nat} {c : UInt8} (hl : i < s.length) (hd : s.drop i = c :: s.drop (i + 1)) : (lowTo s i).getD i (.tup []) = .int .u8 (c.toNat : Int) := by
  have e1 : (low (s.take i)).length = i := by simp [low]; omega
  rw [lowTo, List.getD_eq_getElem?_getD, List.getElem?_map, List.getElem?_append_right (by omega), e1, hd]
  simp [ofByte]
theorem take_succ {s : Bs} {i : Nat} {c : UInt8} (hl : i < s.length) (hd : s.drop i = c :: s.drop (i + 1)) : s.take (i + 1) = s.take i ++ [c] := by
  rw [List.take_add_one, List.getElem?_eq_getElem hl]
  have := List.drop_eq_getElem_cons hl
  rw [hd] at this
  injection this with h1 h2
  rw [h1]; rfl
theorem lowTo_put {s : Bs} {i : Nat} {c : UInt8} (hl : i < s.length) (hd : s.drop i = c :: s.drop (i + 1)) : (lowTo s i).take i ++ (.int .u8 ((lowB c).toNat : Int) :: (lowTo s i).drop (i + 1)) = lowTo s (i + 1) := by
  have e1 : (low (s.take i)).length = i := by simp [low]; omega
  unfold lowTo
  rw [take_succ hl hd, low_append, ← List.map_take, ← List.map_drop, List.take_left' e1, List.drop_append, e1, List.drop_eq_nil_of_le (by omega), hd]
  simp [low, ofByte, show i + 1 - i = 1 by omega]
theorem lowTo_same {s : Bs} {i : Nat} {c : UInt8} (hl : i < s.length) (hd : s.drop i = c :: s.drop (i + 1)) (h : lowB c = c) : lowTo s (i + 1) = lowTo s i := by
  unfold lowTo
  rw [take_succ hl hd, low_append, hd]
  simp [low, h]
theorem toStr_of {s : Bs} {id n : Nat} {h : Heap} (hb : h[id]? = some (.box (s.map ofByte))) (hn : n = s.length) : stepI (.toStr (.c (.hsl 1 id n))) E0 h = some (.str s, h) := by
  subst hn
  simp only [stepI, Arg.get, srcElems, hb, and_self, if_true, List.length_map, Nat.le_refl, List.take_of_length_le, Option.bind_some, toBytes_of, Option.map_some]
theorem Lower_ok {s : Bs} (hs : s.length ≤ 140737488355328) : Cf F L i_token_Lower [.str s] h (Pu h (.str (low s))) := by
  refine run_token_Lower ?_
  simp only [p_token_Lower]
  simp (maxSteps := 4000000) only [vm, vl, Arg.get, cells, stor, boundO, resultsV, resV, partK, loadV, Vm.part, fillC, splice, reduceIte, reduceCtorEq, Nat.reduceEqDiff, Nat.reduceAdd, Nat.reduceSub, Nat.reduceMul, Nat.reduceLeDiff, ne_eq, not_false_eq_true, Int.reduceEq, Int.reduceLT, Int.reduceLE, Int.reduceNeg, Int.reduceToNat, Int.reduceGT, Int.reduceGE, Nat.reduceLT, Nat.lt_add_one, Nat.zero_lt_succ, Nat.succ_pos, Nat.zero_le, beq_self_eq_true, k_token_Lower_0, k_token_Lower_2, k_token_Lower_1]
  refine l_token_Lower_0 (fun n e h' => ∃ i, n = s.length - i ∧ i ≤ s.length ∧ e 3 = .hsl 1 h.length s.length ∧ e 8 = .hsl 1 h.length s.length ∧ e 9 = .int .i64 s.length ∧ e 10 = .int .i64 i ∧ h' = h ++ [.box (lowTo s i)]) ?_ (n := s.length) ⟨0, by simp, by simp, rfl, rfl, rfl, rfl, by rw [lowTo_0]⟩
  rintro n e h' ⟨i, rfl, hi, e3, e8, e9, e10, rfl⟩
  simp only [b_token_Lower_0]
  rcases str_at hi with ⟨hn, rfl, hd⟩ | ⟨c, hl, hl', hc, hd⟩
  · have hb : (h ++ [O.box ((low s).map ofByte)])[h.length]? = some (.box ((low s).map ofByte)) := by simp
    have ht := toStr_of hb (low_length s).symm
    simp (maxSteps := 4000000) only [vm, vl, Arg.get, cells, stor, boundO, resultsV, resV, partK, loadV, Vm.part, fillC, splice, reduceIte, reduceCtorEq, Nat.reduceEqDiff, Nat.reduceAdd, Nat.reduceSub, Nat.reduceMul, Nat.reduceLeDiff, ne_eq, not_false_eq_true, Int.reduceEq, Int.reduceLT, Int.reduceLE, Int.reduceNeg, Int.reduceToNat, Int.reduceGT, Int.reduceGE, Nat.reduceLT, Nat.lt_add_one, Nat.zero_lt_succ, Nat.succ_pos, Nat.zero_le, beq_self_eq_true, k_token_Lower_0, k_token_Lower_2, k_token_Lower_1, e3, e8, e9, e10, hn, hd, lowTo_all, ht]
  · have w := wrap64 (x := (i : Int) + 1) (by omega) (by omega)
    have g1 := lowTo_get hl' hd
    have g2 := lowTo_len hi
    have g3 := lowTo_put hl' hd
    have g4 : i + 1 ≤ s.length := hl'
    simp (maxSteps := 4000000) only [vm, vl, Arg.get, cells, stor, boundO, resultsV, resV, partK, loadV, Vm.part, fillC, splice, reduceIte, reduceCtorEq, Nat.reduceEqDiff, Nat.reduceAdd, Nat.reduceSub, Nat.reduceMul, Nat.reduceLeDiff, ne_eq, not_false_eq_true, Int.reduceEq, Int.reduceLT, Int.reduceLE, Int.reduceNeg, Int.reduceToNat, Int.reduceGT, Int.reduceGE, Nat.reduceLT, Nat.lt_add_one, Nat.zero_lt_succ, Nat.succ_pos, Nat.zero_le, beq_self_eq_true, k_token_Lower_0, k_token_Lower_2, k_token_Lower_1, e3, e8, e9, e10, hl, hl', w, g1, g2, g4]
    (repeat' ((first | refine wg_casep (fun _ => ?_) (fun _ => ?_) | refine wg_casen (fun _ => ?_) (fun _ => ?_) | refine wg_case (fun _ => ?_) (fun _ => ?_) | refine wgd_casep (fun _ => ?_) (fun _ => ?_) | refine wgd_casen (fun _ => ?_) (fun _ => ?_) | refine wgd_case (fun _ => ?_) (fun _ => ?_) | refine wb_casep (fun _ => ?_) (fun _ => ?_) | refine wb_casen (fun _ => ?_) (fun _ => ?_) | refine wb_case (fun _ => ?_) (fun _ => ?_)) <;> try simp (maxSteps := 4000000) only [vm, vl, Arg.get, cells, stor, boundO, resultsV, resV, partK, loadV, Vm.part, fillC, splice, reduceIte, reduceCtorEq, Nat.reduceEqDiff, Nat.reduceAdd, Nat.reduceSub, Nat.reduceMul, Nat.reduceLeDiff, ne_eq, not_false_eq_true, Int.reduceEq, Int.reduceLT, Int.reduceLE, Int.reduceNeg, Int.reduceToNat, Int.reduceGT, Int.reduceGE, Nat.reduceLT, Nat.lt_add_one, Nat.zero_lt_succ, Nat.succ_pos, Nat.zero_le, beq_self_eq_true, k_token_Lower_0, k_token_Lower_2, k_token_Lower_1, *]))
    · rename_i h1 h2
      rw [low_at c h1 h2, g3]
      exact ⟨s.length - (i + 1), by omega, i + 1, rfl, hl', rfl, rfl⟩
    · rename_i h1 h2
      exact ⟨s.length - (i + 1), by omega, i + 1, rfl, hl', rfl, by rw [lowTo_same hl' hd (low_no c (by omega))]⟩
    · rename_i h1
      exact ⟨s.length - (i + 1), by omega, i + 1, rfl, hl', rfl, by rw [lowTo_same hl' hd (low_no c (by omega))]⟩
theorem Same_ok {s t : Bs} (hs : s.length ≤ 140737488355328) (ht : t.length ≤ 140737488355328) : Cf F L i_token_Same [.str s, .str t] h (Pu h (.bool (low s == low t))) := by
  refine run_token_Same ?_
  simp only [p_token_Same]
  simp (maxSteps := 4000000) only [vm, vl, Arg.get, cells, stor, boundO, resultsV, resV, partK, loadV, Vm.part, fillC, splice, reduceIte, reduceCtorEq, Nat.reduceEqDiff, Nat.reduceAdd, Nat.reduceSub, Nat.reduceMul, Nat.reduceLeDiff, ne_eq, not_false_eq_true, Int.reduceEq, Int.reduceLT, Int.reduceLE, Int.reduceNeg, Int.reduceToNat, Int.reduceGT, Int.reduceGE, Nat.reduceLT, Nat.lt_add_one, Nat.zero_lt_succ, Nat.succ_pos, Nat.zero_le, beq_self_eq_true]
  have hA : ∀ h, _ := fun h => Lower_ok (L := L) (h := h) hs
  have hB : ∀ h, _ := fun h => Lower_ok (L := L) (h := h) ht
  by_cases hne : (s.length : Int) = t.length
  · simp (maxSteps := 4000000) only [vm, vl, Arg.get, cells, stor, boundO, resultsV, resV, partK, loadV, Vm.part, fillC, splice, reduceIte, reduceCtorEq, Nat.reduceEqDiff, Nat.reduceAdd, Nat.reduceSub, Nat.reduceMul, Nat.reduceLeDiff, ne_eq, not_false_eq_true, Int.reduceEq, Int.reduceLT, Int.reduceLE, Int.reduceNeg, Int.reduceToNat, Int.reduceGT, Int.reduceGE, Nat.reduceLT, Nat.lt_add_one, Nat.zero_lt_succ, Nat.succ_pos, Nat.zero_le, beq_self_eq_true, *]
    (repeat' ((first | refine wg_casep (fun _ => ?_) (fun _ => ?_) | refine wg_casen (fun _ => ?_) (fun _ => ?_) | refine wg_case (fun _ => ?_) (fun _ => ?_) | refine wgd_casep (fun _ => ?_) (fun _ => ?_) | refine wgd_casen (fun _ => ?_) (fun _ => ?_) | refine wgd_case (fun _ => ?_) (fun _ => ?_) | refine wb_casep (fun _ => ?_) (fun _ => ?_) | refine wb_casen (fun _ => ?_) (fun _ => ?_) | refine wb_case (fun _ => ?_) (fun _ => ?_) | refine Cf.pu (hA _) (fun _ => ?_) | refine Cf.pu (hB _) (fun _ => ?_)) <;> try simp (maxSteps := 4000000) only [vm, vl, Arg.get, cells, stor, boundO, resultsV, resV, partK, loadV, Vm.part, fillC, splice, reduceIte, reduceCtorEq, Nat.reduceEqDiff, Nat.reduceAdd, Nat.reduceSub, Nat.reduceMul, Nat.reduceLeDiff, ne_eq, not_false_eq_true, Int.reduceEq, Int.reduceLT, Int.reduceLE, Int.reduceNeg, Int.reduceToNat, Int.reduceGT, Int.reduceGE, Nat.reduceLT, Nat.lt_add_one, Nat.zero_lt_succ, Nat.succ_pos, Nat.zero_le, beq_self_eq_true, *]))
  simp (maxSteps := 4000000) only [vm, vl, Arg.get, cells, stor, boundO, resultsV, resV, partK, loadV, Vm.part, fillC, splice, reduceIte, reduceCtorEq, Nat.reduceEqDiff, Nat.reduceAdd, Nat.reduceSub, Nat.reduceMul, Nat.reduceLeDiff, ne_eq, not_false_eq_true, Int.reduceEq, Int.reduceLT, Int.reduceLE, Int.reduceNeg, Int.reduceToNat, Int.reduceGT, Int.reduceGE, Nat.reduceLT, Nat.lt_add_one, Nat.zero_lt_succ, Nat.succ_pos, Nat.zero_le, beq_self_eq_true, *]
  have : (low s == low t) = false := by
    rw [beq_eq_false_iff_ne]
    intro he
    have := congrArg List.length he
    rw [low_length, low_length] at this
    omega
  rw [this]
def strs (out : List Bs) : List V := out.map .str
theorem strs_app (out : List Bs) (x : Bs) : strs out ++ [V.str x] = strs (out ++ [x]) := by simp [strs]
theorem strs_len (out : List Bs) : (strs out).length = out.length := by simp [strs]
end Go.Proofs.YtaahialaegfjgaaDoor.Vh
end
section
set_option linter.unusedVariables false
set_option linter.unusedSimpArgs false
namespace Go.Proofs.YtaahialaegfjgaaDoor.Vh
open Go.Vm Go.Vt
attribute [local congr] wi_congr wg_congr wgd_congr wb_congr wl_congr cf_congr
variable {L : FuncId → List V → V → Prop} {h : Heap}
theorem splice_set {cs : List V} {i : Nat} {x : V} (hi : i < cs.length) : cs.take i ++ x :: cs.drop (i + 1) = cs.set i x := by
  rw [List.set_eq_take_append_cons_drop, if_pos hi]
/-- The table of blanks. -/
def blankT : List V := ((List.replicate 256 (V.bool false)).set 32 (.bool true)).set 9 (.bool true)
def blankAt : Nat → List V
  | 0 => List.replicate 256 (.bool false)
  | 1 => (List.replicate 256 (V.bool false)).set 32 (.bool true)
  | _ => blankT
theorem blankAt_len : ∀ i, (blankAt i).length = 256
  | 0 => List.length_replicate ..
  | 1 => by simp only [blankAt, List.length_set, List.length_replicate]
  | i + 2 => by simp only [blankAt, blankT, List.length_set, List.length_replicate]
theorem blankT_at (c : UInt8) : blankT.getD c.toNat (.tup []) = .bool (blankB c) := by
  have : ∀ n : Fin 256, blankT.getD (UInt8.ofNat n.val).toNat (.tup []) = .bool (blankB (UInt8.ofNat n.val)) := by
    intro n
    have h : (blankT.map fun | .bool b => b | _ => false) = (List.range 256).map fun n => blankB (UInt8.ofNat n) := by decide +kernel
    have h2 : ∀ v ∈ blankT, ∃ b, v = V.bool b := by
      intro v hv
      unfold blankT at hv
      rcases List.mem_or_eq_of_mem_set hv with hv | rfl
      · rcases List.mem_or_eq_of_mem_set hv with hv | rfl
        · exact ⟨false, (List.mem_replicate.1 hv).2⟩
        · exact ⟨true, rfl⟩
      · exact ⟨true, rfl⟩
    have hl : n.val < blankT.length := by simp only [blankT, List.length_set, List.length_replicate]; exact n.isLt
    have e : (UInt8.ofNat n.val).toNat = n.val := by simp
    obtain ⟨b, hb⟩ := h2 blankT[n.val] (List.getElem_mem _)
    rw [e, List.getD_eq_getElem?_getD, List.getElem?_eq_getElem hl, Option.getD_some, hb]
    have h3 := congrArg (fun l => l[n.val]?) h
    simp only [List.getElem?_map, List.getElem?_eq_getElem hl, Option.map_some, hb, List.getElem?_range n.isLt] at h3
    injection h3 with h3
    rw [h3]
  have := this ⟨c.toNat, c.toNat_lt⟩
  simpa using this
theorem asciiSet_ok : Cf F L i_strings_makeASCIISet [.str [32, 9]] h (Pu h (.tup [.agg blankT, .bool true])) := by
  refine run_strings_makeASCIISet ?_
  simp only [p_strings_makeASCIISet]
  simp (maxSteps := 4000000) only [vm, vl, Arg.get, cells, stor, boundO, resultsV, resV, partK, loadV, Vm.part, fillC, splice, reduceIte, reduceCtorEq, Nat.reduceEqDiff, Nat.reduceAdd, Nat.reduceSub, Nat.reduceMul, Nat.reduceLeDiff, ne_eq, not_false_eq_true, Int.reduceEq, Int.reduceLT, Int.reduceLE, Int.reduceNeg, Int.reduceToNat, Int.reduceGT, Int.reduceGE, Nat.reduceLT, Nat.lt_add_one, Nat.zero_lt_succ, Nat.succ_pos, Nat.zero_le, beq_self_eq_true, k_strings_makeASCIISet_0, k_strings_makeASCIISet_2, k_strings_makeASCIISet_3, k_strings_makeASCIISet_1]
  refine l_strings_makeASCIISet_0 (fun n e h' => ∃ i, n = 2 - i ∧ i ≤ 2 ∧ e 0 = .str [32, 9] ∧ e 2 = .ptr h.length 0 ∧ e 3 = .bool false ∧ e 4 = .int .i64 i ∧ h' = h ++ [.box (blankAt i)]) ?_ (n := 2) ⟨0, by simp, by simp, rfl, rfl, rfl, rfl, rfl⟩
  rintro n e h' ⟨i, rfl, hi, e0, e2, e3, e4, rfl⟩
  simp only [b_strings_makeASCIISet_0]
  have u1 : UInt8.toNat 32 = 32 := rfl
  have u2 : UInt8.toNat 9 = 9 := rfl
  have w1 : IntKind.i64.wrap (0 + 1) = 1 := by decide
  have w2 : IntKind.i64.wrap (1 + 1) = 2 := by decide
  have p0 := blankAt_len 0
  have p1 := blankAt_len 1
  have p2 := blankAt_len 2
  have q0 : (blankAt 0).take 32 ++ .bool true :: (blankAt 0).drop 33 = blankAt 1 := splice_set (by rw [p0]; omega)
  have q1 : (blankAt 1).take 9 ++ .bool true :: (blankAt 1).drop 10 = blankAt 2 := splice_set (by rw [p1]; omega)
  match i, hi with
  | 0, _ =>
    simp (maxSteps := 4000000) only [vm, vl, Arg.get, cells, stor, boundO, resultsV, resV, partK, loadV, Vm.part, fillC, splice, reduceIte, reduceCtorEq, Nat.reduceEqDiff, Nat.reduceAdd, Nat.reduceSub, Nat.reduceMul, Nat.reduceLeDiff, ne_eq, not_false_eq_true, Int.reduceEq, Int.reduceLT, Int.reduceLE, Int.reduceNeg, Int.reduceToNat, Int.reduceGT, Int.reduceGE, Nat.reduceLT, Nat.lt_add_one, Nat.zero_lt_succ, Nat.succ_pos, Nat.zero_le, beq_self_eq_true, k_strings_makeASCIISet_0, k_strings_makeASCIISet_2, k_strings_makeASCIISet_3, k_strings_makeASCIISet_1, e0, e2, e3, e4, blankAt_len, u1, w1, q0, Int.natCast_zero, Int.cast_ofNat_Int]
    (repeat' ((first | refine wg_casep (fun _ => ?_) (fun _ => ?_) | refine wg_casen (fun _ => ?_) (fun _ => ?_) | refine wg_case (fun _ => ?_) (fun _ => ?_) | refine wgd_casep (fun _ => ?_) (fun _ => ?_) | refine wgd_casen (fun _ => ?_) (fun _ => ?_) | refine wgd_case (fun _ => ?_) (fun _ => ?_) | refine wb_casep (fun _ => ?_) (fun _ => ?_) | refine wb_casen (fun _ => ?_) (fun _ => ?_) | refine wb_case (fun _ => ?_) (fun _ => ?_)) <;> try simp (maxSteps := 4000000) only [vm, vl, Arg.get, cells, stor, boundO, resultsV, resV, partK, loadV, Vm.part, fillC, splice, reduceIte, reduceCtorEq, Nat.reduceEqDiff, Nat.reduceAdd, Nat.reduceSub, Nat.reduceMul, Nat.reduceLeDiff, ne_eq, not_false_eq_true, Int.reduceEq, Int.reduceLT, Int.reduceLE, Int.reduceNeg, Int.reduceToNat, Int.reduceGT, Int.reduceGE, Nat.reduceLT, Nat.lt_add_one, Nat.zero_lt_succ, Nat.succ_pos, Nat.zero_le, beq_self_eq_true, k_strings_makeASCIISet_0, k_strings_makeASCIISet_2, k_strings_makeASCIISet_3, k_strings_makeASCIISet_1, *]))
    exact ⟨1, by omega, 1, rfl, by omega, rfl, rfl⟩
  | 1, _ =>
    simp (maxSteps := 4000000) only [vm, vl, Arg.get, cells, stor, boundO, resultsV, resV, partK, loadV, Vm.part, fillC, splice, reduceIte, reduceCtorEq, Nat.reduceEqDiff, Nat.reduceAdd, Nat.reduceSub, Nat.reduceMul, Nat.reduceLeDiff, ne_eq, not_false_eq_true, Int.reduceEq, Int.reduceLT, Int.reduceLE, Int.reduceNeg, Int.reduceToNat, Int.reduceGT, Int.reduceGE, Nat.reduceLT, Nat.lt_add_one, Nat.zero_lt_succ, Nat.succ_pos, Nat.zero_le, beq_self_eq_true, k_strings_makeASCIISet_0, k_strings_makeASCIISet_2, k_strings_makeASCIISet_3, k_strings_makeASCIISet_1, e0, e2, e3, e4, blankAt_len, u2, w2, q1, Int.natCast_one]
    (repeat' ((first | refine wg_casep (fun _ => ?_) (fun _ => ?_) | refine wg_casen (fun _ => ?_) (fun _ => ?_) | refine wg_case (fun _ => ?_) (fun _ => ?_) | refine wgd_casep (fun _ => ?_) (fun _ => ?_) | refine wgd_casen (fun _ => ?_) (fun _ => ?_) | refine wgd_case (fun _ => ?_) (fun _ => ?_) | refine wb_casep (fun _ => ?_) (fun _ => ?_) | refine wb_casen (fun _ => ?_) (fun _ => ?_) | refine wb_case (fun _ => ?_) (fun _ => ?_)) <;> try simp (maxSteps := 4000000) only [vm, vl, Arg.get, cells, stor, boundO, resultsV, resV, partK, loadV, Vm.part, fillC, splice, reduceIte, reduceCtorEq, Nat.reduceEqDiff, Nat.reduceAdd, Nat.reduceSub, Nat.reduceMul, Nat.reduceLeDiff, ne_eq, not_false_eq_true, Int.reduceEq, Int.reduceLT, Int.reduceLE, Int.reduceNeg, Int.reduceToNat, Int.reduceGT, Int.reduceGE, Nat.reduceLT, Nat.lt_add_one, Nat.zero_lt_succ, Nat.succ_pos, Nat.zero_le, beq_self_eq_true, k_strings_makeASCIISet_0, k_strings_makeASCIISet_2, k_strings_makeASCIISet_3, k_strings_makeASCIISet_1, *]))
    exact ⟨0, by omega, 2, rfl, by omega, rfl, rfl⟩
  | 2, _ =>
    have z1 : List.take 256 (blankAt 2) = blankAt 2 := List.take_of_length_le (by rw [p2]; omega)
    have z2 : List.drop 256 (blankAt 2) = [] := List.drop_eq_nil_of_le (by rw [p2]; omega)
    simp (maxSteps := 4000000) only [vm, vl, Arg.get, cells, stor, boundO, resultsV, resV, partK, loadV, Vm.part, fillC, splice, reduceIte, reduceCtorEq, Nat.reduceEqDiff, Nat.reduceAdd, Nat.reduceSub, Nat.reduceMul, Nat.reduceLeDiff, ne_eq, not_false_eq_true, Int.reduceEq, Int.reduceLT, Int.reduceLE, Int.reduceNeg, Int.reduceToNat, Int.reduceGT, Int.reduceGE, Nat.reduceLT, Nat.lt_add_one, Nat.zero_lt_succ, Nat.succ_pos, Nat.zero_le, beq_self_eq_true, k_strings_makeASCIISet_0, k_strings_makeASCIISet_2, k_strings_makeASCIISet_3, k_strings_makeASCIISet_1, e0, e2, e3, e4, p2, z1, z2, List.append_nil]
    (repeat' ((first | refine wg_casep (fun _ => ?_) (fun _ => ?_) | refine wg_casen (fun _ => ?_) (fun _ => ?_) | refine wg_case (fun _ => ?_) (fun _ => ?_) | refine wgd_casep (fun _ => ?_) (fun _ => ?_) | refine wgd_casen (fun _ => ?_) (fun _ => ?_) | refine wgd_case (fun _ => ?_) (fun _ => ?_) | refine wb_casep (fun _ => ?_) (fun _ => ?_) | refine wb_casen (fun _ => ?_) (fun _ => ?_) | refine wb_case (fun _ => ?_) (fun _ => ?_)) <;> try simp (maxSteps := 4000000) only [vm, vl, Arg.get, cells, stor, boundO, resultsV, resV, partK, loadV, Vm.part, fillC, splice, reduceIte, reduceCtorEq, Nat.reduceEqDiff, Nat.reduceAdd, Nat.reduceSub, Nat.reduceMul, Nat.reduceLeDiff, ne_eq, not_false_eq_true, Int.reduceEq, Int.reduceLT, Int.reduceLE, Int.reduceNeg, Int.reduceToNat, Int.reduceGT, Int.reduceGE, Nat.reduceLT, Nat.lt_add_one, Nat.zero_lt_succ, Nat.succ_pos, Nat.zero_le, beq_self_eq_true, k_strings_makeASCIISet_0, k_strings_makeASCIISet_2, k_strings_makeASCIISet_3, k_strings_makeASCIISet_1, *]))
    rfl
theorem contains_ok {c : UInt8} {id : Nat} (hb : h[id]? = some (.box blankT)) : Cf F L i___strings_asciiSet__contains [.ptr id 0, byV c] h (Pu h (.bool (blankB c))) := by
  refine run___strings_asciiSet__contains ?_
  simp only [p___strings_asciiSet__contains]
  have h1 : (c.toNat : Int) < 256 := by have := c.toNat_lt; omega
  have h2 : blankT.length = 256 := blankAt_len 2
  have h3 : c.toNat + 1 ≤ 256 := by have := c.toNat_lt; omega
  simp (maxSteps := 4000000) only [vm, vl, Arg.get, cells, stor, boundO, resultsV, resV, partK, loadV, Vm.part, fillC, splice, reduceIte, reduceCtorEq, Nat.reduceEqDiff, Nat.reduceAdd, Nat.reduceSub, Nat.reduceMul, Nat.reduceLeDiff, ne_eq, not_false_eq_true, Int.reduceEq, Int.reduceLT, Int.reduceLE, Int.reduceNeg, Int.reduceToNat, Int.reduceGT, Int.reduceGE, Nat.reduceLT, Nat.lt_add_one, Nat.zero_lt_succ, Nat.succ_pos, Nat.zero_le, beq_self_eq_true, hb, blankT_at, h1, h2, h3]
/-- One byte off the right end. -/
theorem last_at {s : Bs} {n : Nat} (h : s.length = n + 1) : ∃ t c, s = t ++ [c] ∧ t.length = n ∧ s.getD n 0 = c ∧ s.take n = t := by
  have hne : s ≠ [] := by intro he; rw [he] at h; cases h
  obtain ⟨t, c, rfl⟩ : ∃ t c, s = t ++ [c] := ⟨s.dropLast, s.getLast hne, (List.dropLast_concat_getLast hne).symm⟩
  have hl : t.length = n := by simpa using h
  exact ⟨t, c, rfl, hl, by rw [List.getD_eq_getElem?_getD, List.getElem?_append_right (by omega)]; simp [hl], by rw [← hl]; simp⟩
theorem rightASCII_ok {s : Bs} {id : Nat} (hs : s.length < 9223372036854775807) (hb : h[id]? = some (.box blankT)) : Cf F L i_strings_trimRightASCII [.str s, .ptr id 0] h (Pu h (.str (trimR s))) := by
  refine run_strings_trimRightASCII ?_
  simp only [p_strings_trimRightASCII]
  refine l_strings_trimRightASCII_0 (fun n e h' => ∃ r : Bs, n = r.length ∧ e 0 = .str r ∧ e 1 = .ptr id 0 ∧ (∃ t, h' = h ++ t) ∧ r.length ≤ s.length ∧ trimR r = trimR s) ?_ (n := s.length) ⟨s, rfl, rfl, rfl, ⟨[], by simp⟩, by omega, rfl⟩
  rintro n e h' ⟨r, rfl, e0, e1, ⟨t, rfl⟩, hl, hr⟩
  simp only [b_strings_trimRightASCII_0]
  rw [← hr]
  cases hn : r.length with
  | zero =>
    obtain rfl : r = [] := List.eq_nil_of_length_eq_zero hn
    simp (maxSteps := 4000000) only [vm, vl, Arg.get, cells, stor, boundO, resultsV, resV, partK, loadV, Vm.part, fillC, splice, reduceIte, reduceCtorEq, Nat.reduceEqDiff, Nat.reduceAdd, Nat.reduceSub, Nat.reduceMul, Nat.reduceLeDiff, ne_eq, not_false_eq_true, Int.reduceEq, Int.reduceLT, Int.reduceLE, Int.reduceNeg, Int.reduceToNat, Int.reduceGT, Int.reduceGE, Nat.reduceLT, Nat.lt_add_one, Nat.zero_lt_succ, Nat.succ_pos, Nat.zero_le, beq_self_eq_true, k_strings_trimRightASCII_0, k_strings_trimRightASCII_2, k_strings_trimRightASCII_1, e0, e1]
    rfl
  | succ n =>
    obtain ⟨q, c, rfl, hq, hc, ht⟩ := last_at hn
    have w : IntKind.i64.wrap (((n + 1 : Nat) : Int) - 1) = n := by rw [wrap64 (by omega) (by omega)]; omega
    have g0 : ((n + 1 : Nat) : Int) > 0 := by omega
    have hb' : (h ++ t)[id]? = some (.box blankT) := get_old hb
    simp (maxSteps := 4000000) only [vm, vl, Arg.get, cells, stor, boundO, resultsV, resV, partK, loadV, Vm.part, fillC, splice, reduceIte, reduceCtorEq, Nat.reduceEqDiff, Nat.reduceAdd, Nat.reduceSub, Nat.reduceMul, Nat.reduceLeDiff, ne_eq, not_false_eq_true, Int.reduceEq, Int.reduceLT, Int.reduceLE, Int.reduceNeg, Int.reduceToNat, Int.reduceGT, Int.reduceGE, Nat.reduceLT, Nat.lt_add_one, Nat.zero_lt_succ, Nat.succ_pos, Nat.zero_le, beq_self_eq_true, k_strings_trimRightASCII_0, k_strings_trimRightASCII_2, k_strings_trimRightASCII_1, e0, e1, hn, w, g0, hc, ht]
    (repeat' ((first | refine wg_casep (fun _ => ?_) (fun _ => ?_) | refine wg_casen (fun _ => ?_) (fun _ => ?_) | refine wg_case (fun _ => ?_) (fun _ => ?_) | refine wgd_casep (fun _ => ?_) (fun _ => ?_) | refine wgd_casen (fun _ => ?_) (fun _ => ?_) | refine wgd_case (fun _ => ?_) (fun _ => ?_) | refine wb_casep (fun _ => ?_) (fun _ => ?_) | refine wb_casen (fun _ => ?_) (fun _ => ?_) | refine wb_case (fun _ => ?_) (fun _ => ?_) | refine Cf.pu (contains_ok hb') (fun _ => ?_)) <;> try simp (maxSteps := 4000000) only [vm, vl, Arg.get, cells, stor, boundO, resultsV, resV, partK, loadV, Vm.part, fillC, splice, reduceIte, reduceCtorEq, Nat.reduceEqDiff, Nat.reduceAdd, Nat.reduceSub, Nat.reduceMul, Nat.reduceLeDiff, ne_eq, not_false_eq_true, Int.reduceEq, Int.reduceLT, Int.reduceLE, Int.reduceNeg, Int.reduceToNat, Int.reduceGT, Int.reduceGE, Nat.reduceLT, Nat.lt_add_one, Nat.zero_lt_succ, Nat.succ_pos, Nat.zero_le, beq_self_eq_true, k_strings_trimRightASCII_0, k_strings_trimRightASCII_2, k_strings_trimRightASCII_1, *]))
    · rename_i hp
      simp at hp
      rw [← hr, trimR_full hp]
    · rename_i hp
      simp at hp
      exact ⟨by omega, q.length, by omega, q, rfl, rfl, ⟨_, rfl⟩, by rw [hn] at hl; omega, by rw [← hr, trimR_blank hp]⟩
theorem leftASCII_ok {s : Bs} {id : Nat} (hs : s.length < 9223372036854775807) (hb : h[id]? = some (.box blankT)) : Cf F L i_strings_trimLeftASCII [.str s, .ptr id 0] h (Pu h (.str (trimL s))) := by
  refine run_strings_trimLeftASCII ?_
  simp only [p_strings_trimLeftASCII]
  refine l_strings_trimLeftASCII_0 (fun n e h' => ∃ r : Bs, n = r.length ∧ e 0 = .str r ∧ e 1 = .ptr id 0 ∧ (∃ t, h' = h ++ t) ∧ r.length ≤ s.length ∧ trimL r = trimL s) ?_ (n := s.length) ⟨s, rfl, rfl, rfl, ⟨[], by simp⟩, by omega, rfl⟩
  rintro n e h' ⟨r, rfl, e0, e1, ⟨t, rfl⟩, hl, hr⟩
  simp only [b_strings_trimLeftASCII_0]
  rw [← hr]
  cases r with
  | nil =>
    simp (maxSteps := 4000000) only [vm, vl, Arg.get, cells, stor, boundO, resultsV, resV, partK, loadV, Vm.part, fillC, splice, reduceIte, reduceCtorEq, Nat.reduceEqDiff, Nat.reduceAdd, Nat.reduceSub, Nat.reduceMul, Nat.reduceLeDiff, ne_eq, not_false_eq_true, Int.reduceEq, Int.reduceLT, Int.reduceLE, Int.reduceNeg, Int.reduceToNat, Int.reduceGT, Int.reduceGE, Nat.reduceLT, Nat.lt_add_one, Nat.zero_lt_succ, Nat.succ_pos, Nat.zero_le, beq_self_eq_true, k_strings_trimLeftASCII_0, k_strings_trimLeftASCII_2, k_strings_trimLeftASCII_1, e0, e1]
    rfl
  | cons c q =>
    have g0 : (((c :: q).length : Nat) : Int) > 0 := by simp
    have g1 : 1 ≤ (c :: q).length := by simp
    have g2 : List.take (c :: q).length (c :: q) = c :: q := List.take_of_length_le (Nat.le_refl _)
    have g3 : 0 < (c :: q).length := by simp
    have hb' : (h ++ t)[id]? = some (.box blankT) := get_old hb
    simp only [List.length_cons] at g0 g1 g2 g3
    simp (maxSteps := 4000000) only [vm, vl, Arg.get, cells, stor, boundO, resultsV, resV, partK, loadV, Vm.part, fillC, splice, reduceIte, reduceCtorEq, Nat.reduceEqDiff, Nat.reduceAdd, Nat.reduceSub, Nat.reduceMul, Nat.reduceLeDiff, ne_eq, not_false_eq_true, Int.reduceEq, Int.reduceLT, Int.reduceLE, Int.reduceNeg, Int.reduceToNat, Int.reduceGT, Int.reduceGE, Nat.reduceLT, Nat.lt_add_one, Nat.zero_lt_succ, Nat.succ_pos, Nat.zero_le, beq_self_eq_true, k_strings_trimLeftASCII_0, k_strings_trimLeftASCII_2, k_strings_trimLeftASCII_1, e0, e1, g0, g1, g2, g3]
    (repeat' ((first | refine wg_casep (fun _ => ?_) (fun _ => ?_) | refine wg_casen (fun _ => ?_) (fun _ => ?_) | refine wg_case (fun _ => ?_) (fun _ => ?_) | refine wgd_casep (fun _ => ?_) (fun _ => ?_) | refine wgd_casen (fun _ => ?_) (fun _ => ?_) | refine wgd_case (fun _ => ?_) (fun _ => ?_) | refine wb_casep (fun _ => ?_) (fun _ => ?_) | refine wb_casen (fun _ => ?_) (fun _ => ?_) | refine wb_case (fun _ => ?_) (fun _ => ?_) | refine Cf.pu (contains_ok hb') (fun _ => ?_)) <;> try simp (maxSteps := 4000000) only [vm, vl, Arg.get, cells, stor, boundO, resultsV, resV, partK, loadV, Vm.part, fillC, splice, reduceIte, reduceCtorEq, Nat.reduceEqDiff, Nat.reduceAdd, Nat.reduceSub, Nat.reduceMul, Nat.reduceLeDiff, ne_eq, not_false_eq_true, Int.reduceEq, Int.reduceLT, Int.reduceLE, Int.reduceNeg, Int.reduceToNat, Int.reduceGT, Int.reduceGE, Nat.reduceLT, Nat.lt_add_one, Nat.zero_lt_succ, Nat.succ_pos, Nat.zero_le, beq_self_eq_true, k_strings_trimLeftASCII_0, k_strings_trimLeftASCII_2, k_strings_trimLeftASCII_1, *]))
    · rename_i hp
      simp at hp
      rw [← hr, trimL_full hp]
    · rename_i hp
      simp at hp
      exact ⟨q.length, by omega, q, rfl, rfl, ⟨_, rfl⟩, by simp at hl; omega, by rw [← hr, trimL_blank hp]⟩
theorem stringsTrim_ok {s : Bs} (hs : s.length < 9223372036854775807) : Cf F L i_strings_Trim [.str s, .str [32, 9]] h (Pu h (.str (trim s))) := by
  refine run_strings_Trim ?_
  simp only [p_strings_Trim]
  have q1 : (([32, 9] : Bs) == []) = false := rfl
  cases s with
  | nil =>
    have q2 : (([] : Bs) == []) = true := rfl
    simp (maxSteps := 4000000) only [vm, vl, Arg.get, cells, stor, boundO, resultsV, resV, partK, loadV, Vm.part, fillC, splice, reduceIte, reduceCtorEq, Nat.reduceEqDiff, Nat.reduceAdd, Nat.reduceSub, Nat.reduceMul, Nat.reduceLeDiff, ne_eq, not_false_eq_true, Int.reduceEq, Int.reduceLT, Int.reduceLE, Int.reduceNeg, Int.reduceToNat, Int.reduceGT, Int.reduceGE, Nat.reduceLT, Nat.lt_add_one, Nat.zero_lt_succ, Nat.succ_pos, Nat.zero_le, beq_self_eq_true, k_strings_Trim_2, k_strings_Trim_1, k_strings_Trim_0, q1, q2]
    rfl
  | cons c r =>
    have q2 : ((c :: r : Bs) == []) = false := rfl
    have l1 : blankT.length = 256 := blankAt_len 2
    have l2 : List.take 256 blankT = blankT := List.take_of_length_le (by omega)
    have l3 : ∀ q, List.drop (0 + 256) (List.replicate 256 q : List V) = [] := fun q => List.drop_eq_nil_of_le (by rw [List.length_replicate]; omega)
    simp (maxSteps := 4000000) only [vm, vl, Arg.get, cells, stor, boundO, resultsV, resV, partK, loadV, Vm.part, fillC, splice, reduceIte, reduceCtorEq, Nat.reduceEqDiff, Nat.reduceAdd, Nat.reduceSub, Nat.reduceMul, Nat.reduceLeDiff, ne_eq, not_false_eq_true, Int.reduceEq, Int.reduceLT, Int.reduceLE, Int.reduceNeg, Int.reduceToNat, Int.reduceGT, Int.reduceGE, Nat.reduceLT, Nat.lt_add_one, Nat.zero_lt_succ, Nat.succ_pos, Nat.zero_le, beq_self_eq_true, k_strings_Trim_2, k_strings_Trim_1, k_strings_Trim_0, q1, q2]
    (repeat' ((first | refine wg_casep (fun _ => ?_) (fun _ => ?_) | refine wg_casen (fun _ => ?_) (fun _ => ?_) | refine wg_case (fun _ => ?_) (fun _ => ?_) | refine wgd_casep (fun _ => ?_) (fun _ => ?_) | refine wgd_casen (fun _ => ?_) (fun _ => ?_) | refine wgd_case (fun _ => ?_) (fun _ => ?_) | refine wb_casep (fun _ => ?_) (fun _ => ?_) | refine wb_casen (fun _ => ?_) (fun _ => ?_) | refine wb_case (fun _ => ?_) (fun _ => ?_) | refine Cf.pu asciiSet_ok (fun _ => ?_)) <;> try simp (maxSteps := 4000000) only [vm, vl, Arg.get, cells, stor, boundO, resultsV, resV, partK, loadV, Vm.part, fillC, splice, reduceIte, reduceCtorEq, Nat.reduceEqDiff, Nat.reduceAdd, Nat.reduceSub, Nat.reduceMul, Nat.reduceLeDiff, ne_eq, not_false_eq_true, Int.reduceEq, Int.reduceLT, Int.reduceLE, Int.reduceNeg, Int.reduceToNat, Int.reduceGT, Int.reduceGE, Nat.reduceLT, Nat.lt_add_one, Nat.zero_lt_succ, Nat.succ_pos, Nat.zero_le, beq_self_eq_true, k_strings_Trim_2, k_strings_Trim_1, k_strings_Trim_0, *]))
    rename_i t
    refine ⟨by rw [List.length_replicate]; omega, ?_⟩
    have hb : (h ++ (t ++ [O.box (blankT ++ [])]))[h.length + t.length]? = some (.box blankT) := by
      rw [List.append_nil, ← List.append_assoc, List.getElem?_append_right (by simp)]
      simp
    refine Cf.pu (rightASCII_ok hs hb) fun t' => ?_
    refine Cf.pu (leftASCII_ok (Nat.lt_of_le_of_lt (trimR_length _) hs) (get_old hb)) fun t'' => ?_
    exact ⟨rfl, _, by rw [List.append_assoc, List.append_assoc]⟩
theorem Trim_ok {s : Bs} (hs : s.length < 9223372036854775807) : Cf F L i_token_Trim [.str s] h (Pu h (.str (trim s))) := by
  refine run_token_Trim ?_
  simp only [p_token_Trim]
  simp (maxSteps := 4000000) only [vm, vl, Arg.get, cells, stor, boundO, resultsV, resV, partK, loadV, Vm.part, fillC, splice, reduceIte, reduceCtorEq, Nat.reduceEqDiff, Nat.reduceAdd, Nat.reduceSub, Nat.reduceMul, Nat.reduceLeDiff, ne_eq, not_false_eq_true, Int.reduceEq, Int.reduceLT, Int.reduceLE, Int.reduceNeg, Int.reduceToNat, Int.reduceGT, Int.reduceGE, Nat.reduceLT, Nat.lt_add_one, Nat.zero_lt_succ, Nat.succ_pos, Nat.zero_le, beq_self_eq_true]
  (repeat' ((first | refine wg_casep (fun _ => ?_) (fun _ => ?_) | refine wg_casen (fun _ => ?_) (fun _ => ?_) | refine wg_case (fun _ => ?_) (fun _ => ?_) | refine wgd_casep (fun _ => ?_) (fun _ => ?_) | refine wgd_casen (fun _ => ?_) (fun _ => ?_) | refine wgd_case (fun _ => ?_) (fun _ => ?_) | refine wb_casep (fun _ => ?_) (fun _ => ?_) | refine wb_casen (fun _ => ?_) (fun _ => ?_) | refine wb_case (fun _ => ?_) (fun _ => ?_) | refine Cf.pu (stringsTrim_ok hs) (fun _ => ?_)) <;> try simp (maxSteps := 4000000) only [vm, vl, Arg.get, cells, stor, boundO, resultsV, resV, partK, loadV, Vm.part, fillC, splice, reduceIte, reduceCtorEq, Nat.reduceEqDiff, Nat.reduceAdd, Nat.reduceSub, Nat.reduceMul, Nat.reduceLeDiff, ne_eq, not_false_eq_true, Int.reduceEq, Int.reduceLT, Int.reduceLE, Int.reduceNeg, Int.reduceToNat, Int.reduceGT, Int.reduceGE, Nat.reduceLT, Nat.lt_add_one, Nat.zero_lt_succ, Nat.succ_pos, Nat.zero_le, beq_self_eq_true, *]))
end Go.Proofs.YtaahialaegfjgaaDoor.Vh
end
section
set_option linter.unusedVariables false
set_option linter.unusedSimpArgs false
namespace Go.Proofs.YtaahialaegfjgaaDoor.Vh
open Go.Vm Go.Vt
attribute [local congr] wi_congr wg_congr wgd_congr wb_congr wl_congr cf_congr
variable {L : FuncId → List V → V → Prop} {h : Heap}
end Go.Proofs.YtaahialaegfjgaaDoor.Vh
end
