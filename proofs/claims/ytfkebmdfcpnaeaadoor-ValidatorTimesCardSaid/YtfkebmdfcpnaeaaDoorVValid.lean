/- Package validator's conditions on the small machine. -/
import Derived.Test.YtfkebmdfcpnaeaaDoorVTag2
import Derived.Test.YtfkebmdfcpnaeaaDoorVSplit
import Derived.Test.YtfkebmdfcpnaeaaDoorVField
import Derived.Test.YtfkebmdfcpnaeaaDoorVFormsA
set_option linter.unusedVariables false
set_option linter.unusedSimpArgs false
namespace Go.Proofs.YtfkebmdfcpnaeaaDoor.Vh
open Go.Vm Go.Vt
attribute [local congr] wi_congr wg_congr wgd_congr wb_congr wl_congr cf_congr
variable {L : FuncId → List V → V → Prop} {h : Heap}
theorem trimL_len (s : Bs) : (trimL s).length ≤ s.length := (List.dropWhile_sublist _).length_le
theorem trimR_len : ∀ s : Bs, (trimR s).length ≤ s.length
  | [] => by simp [trimR]
  | c :: r => by
    have := trimR_len r
    unfold trimR
    split
    · split
      · simp
      · simp
    · rename_i h
      simp only [List.length_cons]; omega
theorem trim_len (s : Bs) : (trim s).length ≤ s.length := Nat.le_trans (trimL_len _) (trimR_len _)
theorem flush_mem {out : List Bs} {own x : Bs} (h : x ∈ flush out own) : x ∈ out ∨ x.length ≤ own.length := by
  unfold flush at h
  split at h
  · exact .inl h
  · rcases List.mem_append.1 h with h | h
    · exact .inl h
    · right; rw [List.mem_singleton.1 h]; exact trim_len _
theorem splitG_mem : ∀ {n : Nat} {s own : Bs} {q : Bool} {out l : List Bs}, s.length ≤ n → splitG s own q out = some l → ∀ x ∈ l, x ∈ out ∨ x.length ≤ own.length + s.length
  | n, [], own, q, out, l, hn, h, x, hx => by
    have e : splitG [] own q out = if q then none else some (flush out own) := rfl
    rw [e] at h
    split at h
    · cases h
    · injection h with h; subst h
      exact (flush_mem hx).imp_right fun h => by simpa using h
  | 0, c :: r, own, q, out, l, hn, h, x, hx => by simp at hn
  | n + 1, c :: r, own, q, out, l, hn, h, x, hx => by
    simp at hn
    rw [splitG_step] at h
    split at h
    · refine (splitG_mem hn h x hx).imp_right fun this => ?_; simp only [List.length_append, List.length_cons, List.length_nil] at this ⊢; omega
    split at h
    · cases r with
      | nil => cases h
      | cons d r =>
        refine (splitG_mem (n := n) (by simp at hn; omega) h x hx).imp_right fun this => ?_; simp only [List.length_append, List.length_cons, List.length_nil] at this ⊢; omega
    split at h
    · rcases splitG_mem hn h x hx with h1 | h1
      · refine (flush_mem h1).imp_right fun this => ?_; simp only [List.length_cons]; omega
      · right; simp only [List.length_cons, List.length_nil] at h1 ⊢; omega
    · refine (splitG_mem hn h x hx).imp_right fun this => ?_; simp only [List.length_append, List.length_cons, List.length_nil] at this ⊢; omega
theorem split_mem {s : Bs} {l : List Bs} (h : split s = some l) : ∀ x ∈ l, x.length ≤ s.length := by
  intro x hx
  have := splitG_mem (Nat.le_refl _) h x hx
  simpa using this
theorem splitG_len : ∀ {n : Nat} {s own : Bs} {q : Bool} {out l : List Bs}, s.length ≤ n → splitG s own q out = some l → l.length ≤ out.length + s.length + 1
  | n, [], own, q, out, l, hn, h => by
    have e : splitG [] own q out = if q then none else some (flush out own) := rfl
    rw [e] at h
    split at h
    · cases h
    · injection h with h; subst h
      have := flush_len out own; simp; omega
  | 0, c :: r, own, q, out, l, hn, h => by simp at hn
  | n + 1, c :: r, own, q, out, l, hn, h => by
    simp at hn
    rw [splitG_step] at h
    split at h
    · have := splitG_len hn h; simp; omega
    split at h
    · cases r with
      | nil => cases h
      | cons d r =>
        have := splitG_len (n := n) (by simp at hn; omega) h; simp; omega
    split at h
    · have := splitG_len hn h
      have := flush_len out own; simp; omega
    · have := splitG_len hn h; simp; omega
theorem index_fn {x : V} {l : List Bs} {g : FuncId} {caps : List V} {p : Bs → Bool} (hx : ListV 1 x (strs l)) (hl : l.length < 1000000000) (hg : ∀ s ∈ l, ∀ t, Cf F L g ([.str s] ++ caps) (h ++ t) (Pu (h ++ t) (.bool (p s)))) :
    Cf F L i_slices_IndexFunc___string_string_ [x, .fn g caps] h (fun v h' => (∃ t, h' = h ++ t) ∧ ((l.any p = true ∧ ∃ i : Nat, v = .int .i64 i) ∨ (l.any p = false ∧ v = .int .i64 (-1)))) := by
  refine run_slices_IndexFunc___string_string_ ?_
  simp only [p_slices_IndexFunc___string_string_]
  have l1 := fun {K : V → Heap → Prop} {h : Heap} => hx.len (F := F) (L := L) (e := E0) (K := K) (h := h)
  simp only [strs_len] at l1
  simp (maxSteps := 4000000) only [vm, vl, Arg.get, cells, stor, boundO, resultsV, resV, partK, loadV, Vm.part, fillC, splice, reduceIte, reduceCtorEq, Nat.reduceEqDiff, Nat.reduceAdd, Nat.reduceSub, Nat.reduceMul, Nat.reduceLeDiff, ne_eq, not_false_eq_true, Int.reduceEq, Int.reduceLT, Int.reduceLE, Int.reduceNeg, Int.reduceToNat, Int.reduceGT, Int.reduceGE, Nat.reduceLT, Nat.lt_add_one, Nat.zero_lt_succ, Nat.succ_pos, Nat.zero_le, beq_self_eq_true, k_slices_IndexFunc___string_string__0, k_slices_IndexFunc___string_string__2, k_slices_IndexFunc___string_string__1, l1]
  refine l_slices_IndexFunc___string_string__0 (fun n e h' => ∃ i, n = l.length - i ∧ i ≤ l.length ∧ e 0 = x ∧ e 1 = .fn g caps ∧ e 7 = .int .i64 l.length ∧ e 8 = .int .i64 i ∧ (l.take i).any p = false ∧ ∃ t, h' = h ++ t) ?_ (n := l.length) ⟨0, by simp, by simp, rfl, rfl, rfl, rfl, rfl, [], by simp⟩
  rintro n e h' ⟨i, rfl, hi, e0, e1, e7, e8, an, t, rfl⟩
  simp only [b_slices_IndexFunc___string_string__0]
  rcases list_at [] hi with ⟨hn, rfl, hd⟩ | ⟨hl1, hl2, hd, htk⟩
  · rw [List.take_length] at an
    simp (maxSteps := 4000000) only [vm, vl, Arg.get, cells, stor, boundO, resultsV, resV, partK, loadV, Vm.part, fillC, splice, reduceIte, reduceCtorEq, Nat.reduceEqDiff, Nat.reduceAdd, Nat.reduceSub, Nat.reduceMul, Nat.reduceLeDiff, ne_eq, not_false_eq_true, Int.reduceEq, Int.reduceLT, Int.reduceLE, Int.reduceNeg, Int.reduceToNat, Int.reduceGT, Int.reduceGE, Nat.reduceLT, Nat.lt_add_one, Nat.zero_lt_succ, Nat.succ_pos, Nat.zero_le, beq_self_eq_true, k_slices_IndexFunc___string_string__0, k_slices_IndexFunc___string_string__2, k_slices_IndexFunc___string_string__1, e0, e1, e7, e8, hn, decide_false]
    exact ⟨⟨t, rfl⟩, .inr an⟩
  · have w := wrap64 (x := (i : Int) + 1) (by omega) (by omega)
    have i1 := fun {K : V → Heap → Prop} {h : Heap} => hx.at (F := F) (L := L) (e := E0) (K := K) (h := h) (i := i) (by rw [strs_len]; exact hl2)
    have a1 : (strs l).getD i (.tup []) = .str (l.getD i []) := by
      unfold strs; simp [List.getD_eq_getElem?_getD, List.getElem?_eq_getElem hl2]
    have hmem : l.getD i [] ∈ l := by
      rw [List.getD_eq_getElem?_getD, List.getElem?_eq_getElem hl2]; exact List.getElem_mem _
    generalize hf : l.getD i [] = f at *
    simp (maxSteps := 4000000) only [vm, vl, Arg.get, cells, stor, boundO, resultsV, resV, partK, loadV, Vm.part, fillC, splice, reduceIte, reduceCtorEq, Nat.reduceEqDiff, Nat.reduceAdd, Nat.reduceSub, Nat.reduceMul, Nat.reduceLeDiff, ne_eq, not_false_eq_true, Int.reduceEq, Int.reduceLT, Int.reduceLE, Int.reduceNeg, Int.reduceToNat, Int.reduceGT, Int.reduceGE, Nat.reduceLT, Nat.lt_add_one, Nat.zero_lt_succ, Nat.succ_pos, Nat.zero_le, beq_self_eq_true, k_slices_IndexFunc___string_string__0, k_slices_IndexFunc___string_string__2, k_slices_IndexFunc___string_string__1, e0, e1, e7, e8, hl1, decide_true, i1, a1]
    have hc := hg f hmem t
    simp only [List.singleton_append] at hc
    refine Cf.pu hc fun t1 => ?_
    cases hp : p f with
    | false =>
      simp (maxSteps := 4000000) only [vm, vl, Arg.get, cells, stor, boundO, resultsV, resV, partK, loadV, Vm.part, fillC, splice, reduceIte, reduceCtorEq, Nat.reduceEqDiff, Nat.reduceAdd, Nat.reduceSub, Nat.reduceMul, Nat.reduceLeDiff, ne_eq, not_false_eq_true, Int.reduceEq, Int.reduceLT, Int.reduceLE, Int.reduceNeg, Int.reduceToNat, Int.reduceGT, Int.reduceGE, Nat.reduceLT, Nat.lt_add_one, Nat.zero_lt_succ, Nat.succ_pos, Nat.zero_le, beq_self_eq_true, k_slices_IndexFunc___string_string__0, k_slices_IndexFunc___string_string__2, k_slices_IndexFunc___string_string__1, hp, w]
      refine ⟨l.length - (i + 1), by omega, i + 1, rfl, hl2, rfl, ?_, _, rfl⟩
      rw [htk, List.any_append, an]; simp [hp]
    | true =>
      simp (maxSteps := 4000000) only [vm, vl, Arg.get, cells, stor, boundO, resultsV, resV, partK, loadV, Vm.part, fillC, splice, reduceIte, reduceCtorEq, Nat.reduceEqDiff, Nat.reduceAdd, Nat.reduceSub, Nat.reduceMul, Nat.reduceLeDiff, ne_eq, not_false_eq_true, Int.reduceEq, Int.reduceLT, Int.reduceLE, Int.reduceNeg, Int.reduceToNat, Int.reduceGT, Int.reduceGE, Nat.reduceLT, Nat.lt_add_one, Nat.zero_lt_succ, Nat.succ_pos, Nat.zero_le, beq_self_eq_true, k_slices_IndexFunc___string_string__0, k_slices_IndexFunc___string_string__2, k_slices_IndexFunc___string_string__1, hp]
      exact ⟨⟨_, rfl⟩, .inl ⟨List.any_eq_true.2 ⟨f, hmem, hp⟩, i, rfl⟩⟩
theorem contains_fn {x : V} {l : List Bs} {g : FuncId} {caps : List V} {p : Bs → Bool} (hx : ListV 1 x (strs l)) (hl : l.length < 1000000000) (hg : ∀ s ∈ l, ∀ t, Cf F L g ([.str s] ++ caps) (h ++ t) (Pu (h ++ t) (.bool (p s)))) :
    Cf F L i_slices_ContainsFunc___string_string_ [x, .fn g caps] h (Pu h (.bool (l.any p))) := by
  refine run_slices_ContainsFunc___string_string_ ?_
  simp only [p_slices_ContainsFunc___string_string_]
  simp (maxSteps := 4000000) only [vm, vl, Arg.get, cells, stor, boundO, resultsV, resV, partK, loadV, Vm.part, fillC, splice, reduceIte, reduceCtorEq, Nat.reduceEqDiff, Nat.reduceAdd, Nat.reduceSub, Nat.reduceMul, Nat.reduceLeDiff, ne_eq, not_false_eq_true, Int.reduceEq, Int.reduceLT, Int.reduceLE, Int.reduceNeg, Int.reduceToNat, Int.reduceGT, Int.reduceGE, Nat.reduceLT, Nat.lt_add_one, Nat.zero_lt_succ, Nat.succ_pos, Nat.zero_le, beq_self_eq_true]
  refine (index_fn hx hl hg).mono fun v h' hp => ?_
  obtain ⟨⟨t, rfl⟩, ⟨ha, i, rfl⟩ | ⟨ha, rfl⟩⟩ := hp
  · have : (i : Int) ≥ 0 := by omega
    simp (maxSteps := 4000000) only [vm, vl, Arg.get, cells, stor, boundO, resultsV, resV, partK, loadV, Vm.part, fillC, splice, reduceIte, reduceCtorEq, Nat.reduceEqDiff, Nat.reduceAdd, Nat.reduceSub, Nat.reduceMul, Nat.reduceLeDiff, ne_eq, not_false_eq_true, Int.reduceEq, Int.reduceLT, Int.reduceLE, Int.reduceNeg, Int.reduceToNat, Int.reduceGT, Int.reduceGE, Nat.reduceLT, Nat.lt_add_one, Nat.zero_lt_succ, Nat.succ_pos, Nat.zero_le, beq_self_eq_true, ha, this, decide_true]
  · simp (maxSteps := 4000000) only [vm, vl, Arg.get, cells, stor, boundO, resultsV, resV, partK, loadV, Vm.part, fillC, splice, reduceIte, reduceCtorEq, Nat.reduceEqDiff, Nat.reduceAdd, Nat.reduceSub, Nat.reduceMul, Nat.reduceLeDiff, ne_eq, not_false_eq_true, Int.reduceEq, Int.reduceLT, Int.reduceLE, Int.reduceNeg, Int.reduceToNat, Int.reduceGT, Int.reduceGE, Nat.reduceLT, Nat.lt_add_one, Nat.zero_lt_succ, Nat.succ_pos, Nat.zero_le, beq_self_eq_true, ha, decide_false]
/-- Is a text the tag of this text? -/
def hitT (t x : Bs) : Bool := match tagS x with
  | some (_, u) => u == t
  | none => false
def matchB (s own : Bs) : Bool := s == [42] || match tagS own with
  | some (_, t) => (match split s with
    | some l => l.any (hitT t)
    | none => false)
  | none => false
theorem match1_ok {x t : Bs} {w : Bool} {id : Nat} {h : Heap} (hx : x.length ≤ 9223372036854775807) (hb : h[id]? = some (.box [.bool w, .str t])) : Cf F L i_validator_matches_1 [.str x, .ptr id 0] h (Pu h (.bool (hitT t x))) := by
  refine run_validator_matches_1 ?_
  simp only [p_validator_matches_1]
  have hi := (List.getElem?_eq_some_iff.1 hb).1
  refine Cf.pu (TParse_ok hx) fun u => ?_
  unfold hitT
  cases e : tagS x with
  | none => simp (maxSteps := 4000000) only [vm, vl, Arg.get, cells, stor, boundO, resultsV, resV, partK, loadV, Vm.part, fillC, splice, reduceIte, reduceCtorEq, Nat.reduceEqDiff, Nat.reduceAdd, Nat.reduceSub, Nat.reduceMul, Nat.reduceLeDiff, ne_eq, not_false_eq_true, Int.reduceEq, Int.reduceLT, Int.reduceLE, Int.reduceNeg, Int.reduceToNat, Int.reduceGT, Int.reduceGE, Nat.reduceLT, Nat.lt_add_one, Nat.zero_lt_succ, Nat.succ_pos, Nat.zero_le, beq_self_eq_true, tagV]
  | some p =>
    obtain ⟨w', t'⟩ := p
    have hb' : ∀ l : Heap, (h ++ l)[id]? = some (.box [.bool w, .str t]) := fun l => by rw [List.getElem?_append_left hi, hb]
    simp (maxSteps := 4000000) only [vm, vl, Arg.get, cells, stor, boundO, resultsV, resV, partK, loadV, Vm.part, fillC, splice, reduceIte, reduceCtorEq, Nat.reduceEqDiff, Nat.reduceAdd, Nat.reduceSub, Nat.reduceMul, Nat.reduceLeDiff, ne_eq, not_false_eq_true, Int.reduceEq, Int.reduceLT, Int.reduceLE, Int.reduceNeg, Int.reduceToNat, Int.reduceGT, Int.reduceGE, Nat.reduceLT, Nat.lt_add_one, Nat.zero_lt_succ, Nat.succ_pos, Nat.zero_le, beq_self_eq_true, tagV, hb']
    refine Cf.pu Weak_ok fun u2 => ?_
    simp (maxSteps := 4000000) only [vm, vl, Arg.get, cells, stor, boundO, resultsV, resV, partK, loadV, Vm.part, fillC, splice, reduceIte, reduceCtorEq, Nat.reduceEqDiff, Nat.reduceAdd, Nat.reduceSub, Nat.reduceMul, Nat.reduceLeDiff, ne_eq, not_false_eq_true, Int.reduceEq, Int.reduceLT, Int.reduceLE, Int.reduceNeg, Int.reduceToNat, Int.reduceGT, Int.reduceGE, Nat.reduceLT, Nat.lt_add_one, Nat.zero_lt_succ, Nat.succ_pos, Nat.zero_le, beq_self_eq_true]
theorem matches_ok {s own : Bs} (hs : s.length < 500000000) (ho : own.length ≤ 9223372036854775807) : Cf F L i_validator_matches [.str s, .str own] h (Pu h (.bool (matchB s own))) := by
  refine run_validator_matches ?_
  simp only [p_validator_matches]
  unfold matchB
  by_cases a : s = [42]
  · have a' : (s == [42]) = true := beq_iff_eq.2 a
    simp (maxSteps := 4000000) only [vm, vl, Arg.get, cells, stor, boundO, resultsV, resV, partK, loadV, Vm.part, fillC, splice, reduceIte, reduceCtorEq, Nat.reduceEqDiff, Nat.reduceAdd, Nat.reduceSub, Nat.reduceMul, Nat.reduceLeDiff, ne_eq, not_false_eq_true, Int.reduceEq, Int.reduceLT, Int.reduceLE, Int.reduceNeg, Int.reduceToNat, Int.reduceGT, Int.reduceGE, Nat.reduceLT, Nat.lt_add_one, Nat.zero_lt_succ, Nat.succ_pos, Nat.zero_le, beq_self_eq_true, k_validator_matches_0, a', Bool.true_or]
  have a' : (s == [42]) = false := beq_eq_false_iff_ne.2 a
  simp (maxSteps := 4000000) only [vm, vl, Arg.get, cells, stor, boundO, resultsV, resV, partK, loadV, Vm.part, fillC, splice, reduceIte, reduceCtorEq, Nat.reduceEqDiff, Nat.reduceAdd, Nat.reduceSub, Nat.reduceMul, Nat.reduceLeDiff, ne_eq, not_false_eq_true, Int.reduceEq, Int.reduceLT, Int.reduceLE, Int.reduceNeg, Int.reduceToNat, Int.reduceGT, Int.reduceGE, Nat.reduceLT, Nat.lt_add_one, Nat.zero_lt_succ, Nat.succ_pos, Nat.zero_le, beq_self_eq_true, k_validator_matches_0, a', Bool.false_or]
  refine Cf.pu (TParse_ok ho) fun u => ?_
  cases e : tagS own with
  | none =>
    simp (maxSteps := 4000000) only [vm, vl, Arg.get, cells, stor, boundO, resultsV, resV, partK, loadV, Vm.part, fillC, splice, reduceIte, reduceCtorEq, Nat.reduceEqDiff, Nat.reduceAdd, Nat.reduceSub, Nat.reduceMul, Nat.reduceLeDiff, ne_eq, not_false_eq_true, Int.reduceEq, Int.reduceLT, Int.reduceLE, Int.reduceNeg, Int.reduceToNat, Int.reduceGT, Int.reduceGE, Nat.reduceLT, Nat.lt_add_one, Nat.zero_lt_succ, Nat.succ_pos, Nat.zero_le, beq_self_eq_true, k_validator_matches_0, tagV]
    refine Cf.pu (Split_ok (by omega)) fun u2 => ?_
    cases e2 : split s with
    | none => simp (maxSteps := 4000000) only [vm, vl, Arg.get, cells, stor, boundO, resultsV, resV, partK, loadV, Vm.part, fillC, splice, reduceIte, reduceCtorEq, Nat.reduceEqDiff, Nat.reduceAdd, Nat.reduceSub, Nat.reduceMul, Nat.reduceLeDiff, ne_eq, not_false_eq_true, Int.reduceEq, Int.reduceLT, Int.reduceLE, Int.reduceNeg, Int.reduceToNat, Int.reduceGT, Int.reduceGE, Nat.reduceLT, Nat.lt_add_one, Nat.zero_lt_succ, Nat.succ_pos, Nat.zero_le, beq_self_eq_true, k_validator_matches_0, splitV]
    | some l => simp (maxSteps := 4000000) only [vm, vl, Arg.get, cells, stor, boundO, resultsV, resV, partK, loadV, Vm.part, fillC, splice, reduceIte, reduceCtorEq, Nat.reduceEqDiff, Nat.reduceAdd, Nat.reduceSub, Nat.reduceMul, Nat.reduceLeDiff, ne_eq, not_false_eq_true, Int.reduceEq, Int.reduceLT, Int.reduceLE, Int.reduceNeg, Int.reduceToNat, Int.reduceGT, Int.reduceGE, Nat.reduceLT, Nat.lt_add_one, Nat.zero_lt_succ, Nat.succ_pos, Nat.zero_le, beq_self_eq_true, k_validator_matches_0, splitV]
  | some p =>
    obtain ⟨w, t⟩ := p
    simp (maxSteps := 4000000) only [vm, vl, Arg.get, cells, stor, boundO, resultsV, resV, partK, loadV, Vm.part, fillC, splice, reduceIte, reduceCtorEq, Nat.reduceEqDiff, Nat.reduceAdd, Nat.reduceSub, Nat.reduceMul, Nat.reduceLeDiff, ne_eq, not_false_eq_true, Int.reduceEq, Int.reduceLT, Int.reduceLE, Int.reduceNeg, Int.reduceToNat, Int.reduceGT, Int.reduceGE, Nat.reduceLT, Nat.lt_add_one, Nat.zero_lt_succ, Nat.succ_pos, Nat.zero_le, beq_self_eq_true, k_validator_matches_0, tagV]
    refine Cf.pu (Split_ok (by omega)) fun u2 => ?_
    cases e2 : split s with
    | none => simp (maxSteps := 4000000) only [vm, vl, Arg.get, cells, stor, boundO, resultsV, resV, partK, loadV, Vm.part, fillC, splice, reduceIte, reduceCtorEq, Nat.reduceEqDiff, Nat.reduceAdd, Nat.reduceSub, Nat.reduceMul, Nat.reduceLeDiff, ne_eq, not_false_eq_true, Int.reduceEq, Int.reduceLT, Int.reduceLE, Int.reduceNeg, Int.reduceToNat, Int.reduceGT, Int.reduceGE, Nat.reduceLT, Nat.lt_add_one, Nat.zero_lt_succ, Nat.succ_pos, Nat.zero_le, beq_self_eq_true, k_validator_matches_0, splitV]
    | some l =>
      have sl := split_mem e2
      have sn := splitG_len (Nat.le_refl _) e2
      have hl : ListV 1 (fullV l) (strs l) := by
        unfold fullV
        by_cases hne : l = []
        · rw [if_pos hne]; subst hne; exact .inl ⟨rfl, rfl⟩
        · rw [if_neg hne]; exact .inr ⟨_, rfl⟩
      simp (maxSteps := 4000000) only [vm, vl, Arg.get, cells, stor, boundO, resultsV, resV, partK, loadV, Vm.part, fillC, splice, reduceIte, reduceCtorEq, Nat.reduceEqDiff, Nat.reduceAdd, Nat.reduceSub, Nat.reduceMul, Nat.reduceLeDiff, ne_eq, not_false_eq_true, Int.reduceEq, Int.reduceLT, Int.reduceLE, Int.reduceNeg, Int.reduceToNat, Int.reduceGT, Int.reduceGE, Nat.reduceLT, Nat.lt_add_one, Nat.zero_lt_succ, Nat.succ_pos, Nat.zero_le, beq_self_eq_true, k_validator_matches_0, splitV]
      refine Cf.pu (contains_fn (p := hitT t) hl (by simp at sn; omega) fun x hx t1 => ?_) fun u3 => ?_
      · refine match1_ok (w := w) (Nat.le_trans (sl x hx) (by omega)) ?_
        simp [List.getElem?_append]
      · simp (maxSteps := 4000000) only [vm, vl, Arg.get, cells, stor, boundO, resultsV, resV, partK, loadV, Vm.part, fillC, splice, reduceIte, reduceCtorEq, Nat.reduceEqDiff, Nat.reduceAdd, Nat.reduceSub, Nat.reduceMul, Nat.reduceLeDiff, ne_eq, not_false_eq_true, Int.reduceEq, Int.reduceLT, Int.reduceLE, Int.reduceNeg, Int.reduceToNat, Int.reduceGT, Int.reduceGE, Nat.reduceLT, Nat.lt_add_one, Nat.zero_lt_succ, Nat.succ_pos, Nat.zero_le, beq_self_eq_true, k_validator_matches_0]
def nINM : Bs := [73, 102, 45, 78, 111, 110, 101, 45, 77, 97, 116, 99, 104]
def nIMS : Bs := [73, 102, 45, 77, 111, 100, 105, 102, 105, 101, 100, 45, 83, 105, 110, 99, 101]
def nIR : Bs := [73, 102, 45, 82, 97, 110, 103, 101]
def nR : Bs := [82, 97, 110, 103, 101]
/-- The fields that may be asked. -/
def FewF (l : List Fld) : Prop := l.length < 1000000 ∧ (∀ f ∈ l, f.1.length ≤ 140737488355328) ∧ ∀ name, (joinS (valsOf l name)).length < 500000000
theorem Get_few {x : V} {l : List Fld} {name : Bs} (HJ : JoinOk L) (hx : ListV 2 x (flds l)) (hl : FewF l) (hn : name.length ≤ 140737488355328) : Cf F L i_field_Get [x, .str name] h (Pu h (.tup [.str (joinS (valsOf l name)), .int .i64 (valsOf l name).length])) :=
  Get_ok HJ hx (by have := hl.1; omega) hl.2.1 hn (by have := hl.2.2 name; omega)
theorem one_ok {x : V} {l : List Fld} {name : Bs} (HJ : JoinOk L) (hx : ListV 2 x (flds l)) (hl : FewF l) (hn : name.length ≤ 140737488355328) : Cf F L i_validator_one [x, .str name] h (Pu h (.tup [.str (joinS (valsOf l name)), .bool (decide ((valsOf l name).length = 1))])) := by
  refine run_validator_one ?_
  simp only [p_validator_one]
  refine Cf.pu (Get_few HJ hx hl hn) fun u => ?_
  have e : decide (((valsOf l name).length : Int) = 1) = decide ((valsOf l name).length = 1) := by
    rw [decide_eq_decide]; omega
  simp (maxSteps := 4000000) only [vm, vl, Arg.get, cells, stor, boundO, resultsV, resV, partK, loadV, Vm.part, fillC, splice, reduceIte, reduceCtorEq, Nat.reduceEqDiff, Nat.reduceAdd, Nat.reduceSub, Nat.reduceMul, Nat.reduceLeDiff, ne_eq, not_false_eq_true, Int.reduceEq, Int.reduceLT, Int.reduceLE, Int.reduceNeg, Int.reduceToNat, Int.reduceGT, Int.reduceGE, Nat.reduceLT, Nat.lt_add_one, Nat.zero_lt_succ, Nat.succ_pos, Nat.zero_le, beq_self_eq_true, e]
def sinceB (s : Bs) (m : Int) : Bool := match dateS s with
  | some d => decide (m ≥ 0) && decide (m ≤ d)
  | none => false
def unchS (meth : Bs) (l : List Fld) (tag : Bs) (m : Int) : Bool :=
  if meth = [71, 69, 84] ∨ meth = [72, 69, 65, 68] then
    (if (valsOf l nINM).length > 0 then matchB (joinS (valsOf l nINM)) tag else decide ((valsOf l nIMS).length = 1) && sinceB (joinS (valsOf l nIMS)) m)
  else false
/-- A response's tellings: the cells in front of and behind the second. -/
def metaV (a b : List V) (m : Int) (tag : Bs) : V := .agg (a ++ [.int .i64 m] ++ b ++ [.str tag])
theorem unch1_ok {x p y : V} {meth : Bs} {l : List Fld} {ms : List V} {m : Int} {u : Heap} (HJ : JoinOk L) (hx : ListV 2 x (flds l)) (hl : FewF l) (hm : ms.length = 21) (h16 : ms.getD 16 (.tup []) = .int .i64 m) :
    k_validator_Unchanged_1 L (Pu h (.bool (decide ((valsOf l nIMS).length = 1) && sinceB (joinS (valsOf l nIMS)) m))) (.ptr h.length 0) (.ptr (h.length + 1) 0) (h ++ (O.box [.str meth, p, y, x] :: O.box ms :: u)) := by
  
  unfold k_validator_Unchanged_1
  have g2 : ∀ hh, Cf F L i_validator_one [x, .str [73, 102, 45, 77, 111, 100, 105, 102, 105, 101, 100, 45, 83, 105, 110, 99, 101]] hh (Pu hh (.tup [.str (joinS (valsOf l nIMS)), .bool (decide ((valsOf l nIMS).length = 1))])) := fun hh => one_ok HJ hx hl (by decide)
  have b2 := hl.2.2 nIMS
  have hm16 : 16 + 1 ≤ ms.length := by omega
  generalize joinS (valsOf l nIMS) = s2 at *
  generalize (valsOf l nIMS).length = n2 at *
  have P := fun hh => DParse_ok (L := L) (h := hh) (s := s2) (by omega)
  unfold sinceB
  simp (maxSteps := 4000000) only [vm, vl, Arg.get, cells, stor, boundO, resultsV, resV, partK, loadV, Vm.part, fillC, splice, reduceIte, reduceCtorEq, Nat.reduceEqDiff, Nat.reduceAdd, Nat.reduceSub, Nat.reduceMul, Nat.reduceLeDiff, ne_eq, not_false_eq_true, Int.reduceEq, Int.reduceLT, Int.reduceLE, Int.reduceNeg, Int.reduceToNat, Int.reduceGT, Int.reduceGE, Nat.reduceLT, Nat.lt_add_one, Nat.zero_lt_succ, Nat.succ_pos, Nat.zero_le, beq_self_eq_true]
  refine Cf.pu (g2 _) fun u2 => ?_
  simp (maxSteps := 4000000) only [vm, vl, Arg.get, cells, stor, boundO, resultsV, resV, partK, loadV, Vm.part, fillC, splice, reduceIte, reduceCtorEq, Nat.reduceEqDiff, Nat.reduceAdd, Nat.reduceSub, Nat.reduceMul, Nat.reduceLeDiff, ne_eq, not_false_eq_true, Int.reduceEq, Int.reduceLT, Int.reduceLE, Int.reduceNeg, Int.reduceToNat, Int.reduceGT, Int.reduceGE, Nat.reduceLT, Nat.lt_add_one, Nat.zero_lt_succ, Nat.succ_pos, Nat.zero_le, beq_self_eq_true]
  refine Cf.pu (P _) fun u3 => ?_
  cases e2 : dateS s2 with
  | none =>
    by_cases d : n2 = 1
    · simp (maxSteps := 4000000) only [vm, vl, Arg.get, cells, stor, boundO, resultsV, resV, partK, loadV, Vm.part, fillC, splice, reduceIte, reduceCtorEq, Nat.reduceEqDiff, Nat.reduceAdd, Nat.reduceSub, Nat.reduceMul, Nat.reduceLeDiff, ne_eq, not_false_eq_true, Int.reduceEq, Int.reduceLT, Int.reduceLE, Int.reduceNeg, Int.reduceToNat, Int.reduceGT, Int.reduceGE, Nat.reduceLT, Nat.lt_add_one, Nat.zero_lt_succ, Nat.succ_pos, Nat.zero_le, beq_self_eq_true, d, decide_true, dateV, Bool.and_false]
    · simp (maxSteps := 4000000) only [vm, vl, Arg.get, cells, stor, boundO, resultsV, resV, partK, loadV, Vm.part, fillC, splice, reduceIte, reduceCtorEq, Nat.reduceEqDiff, Nat.reduceAdd, Nat.reduceSub, Nat.reduceMul, Nat.reduceLeDiff, ne_eq, not_false_eq_true, Int.reduceEq, Int.reduceLT, Int.reduceLE, Int.reduceNeg, Int.reduceToNat, Int.reduceGT, Int.reduceGE, Nat.reduceLT, Nat.lt_add_one, Nat.zero_lt_succ, Nat.succ_pos, Nat.zero_le, beq_self_eq_true, d, decide_false, dateV, Bool.false_and]
  | some t =>
    by_cases d : n2 = 1
    · by_cases q : m ≥ 0
      · by_cases q2 : m ≤ t
        · simp (maxSteps := 4000000) only [vm, vl, Arg.get, cells, stor, boundO, resultsV, resV, partK, loadV, Vm.part, fillC, splice, reduceIte, reduceCtorEq, Nat.reduceEqDiff, Nat.reduceAdd, Nat.reduceSub, Nat.reduceMul, Nat.reduceLeDiff, ne_eq, not_false_eq_true, Int.reduceEq, Int.reduceLT, Int.reduceLE, Int.reduceNeg, Int.reduceToNat, Int.reduceGT, Int.reduceGE, Nat.reduceLT, Nat.lt_add_one, Nat.zero_lt_succ, Nat.succ_pos, Nat.zero_le, beq_self_eq_true, d, decide_true, dateV, hm16, h16, hm, q, q2, Bool.and_self]
        · simp (maxSteps := 4000000) only [vm, vl, Arg.get, cells, stor, boundO, resultsV, resV, partK, loadV, Vm.part, fillC, splice, reduceIte, reduceCtorEq, Nat.reduceEqDiff, Nat.reduceAdd, Nat.reduceSub, Nat.reduceMul, Nat.reduceLeDiff, ne_eq, not_false_eq_true, Int.reduceEq, Int.reduceLT, Int.reduceLE, Int.reduceNeg, Int.reduceToNat, Int.reduceGT, Int.reduceGE, Nat.reduceLT, Nat.lt_add_one, Nat.zero_lt_succ, Nat.succ_pos, Nat.zero_le, beq_self_eq_true, d, decide_true, decide_false, dateV, hm16, h16, hm, q, q2, Bool.and_false]
      · simp (maxSteps := 4000000) only [vm, vl, Arg.get, cells, stor, boundO, resultsV, resV, partK, loadV, Vm.part, fillC, splice, reduceIte, reduceCtorEq, Nat.reduceEqDiff, Nat.reduceAdd, Nat.reduceSub, Nat.reduceMul, Nat.reduceLeDiff, ne_eq, not_false_eq_true, Int.reduceEq, Int.reduceLT, Int.reduceLE, Int.reduceNeg, Int.reduceToNat, Int.reduceGT, Int.reduceGE, Nat.reduceLT, Nat.lt_add_one, Nat.zero_lt_succ, Nat.succ_pos, Nat.zero_le, beq_self_eq_true, d, decide_true, decide_false, dateV, hm16, h16, hm, q, Bool.and_false, Bool.false_and]
    · simp (maxSteps := 4000000) only [vm, vl, Arg.get, cells, stor, boundO, resultsV, resV, partK, loadV, Vm.part, fillC, splice, reduceIte, reduceCtorEq, Nat.reduceEqDiff, Nat.reduceAdd, Nat.reduceSub, Nat.reduceMul, Nat.reduceLeDiff, ne_eq, not_false_eq_true, Int.reduceEq, Int.reduceLT, Int.reduceLE, Int.reduceNeg, Int.reduceToNat, Int.reduceGT, Int.reduceGE, Nat.reduceLT, Nat.lt_add_one, Nat.zero_lt_succ, Nat.succ_pos, Nat.zero_le, beq_self_eq_true, d, decide_false, dateV, Bool.false_and]
theorem unch0_ok {x p y : V} {meth : Bs} {l : List Fld} {ms : List V} {m : Int} {tag : Bs} {u : Heap} (HJ : JoinOk L) (hx : ListV 2 x (flds l)) (hl : FewF l) (ht : tag.length ≤ 140737488355328) (hm : ms.length = 21) (h16 : ms.getD 16 (.tup []) = .int .i64 m) (h20 : ms.getD 20 (.tup []) = .str tag) (hmeth : meth = [71, 69, 84] ∨ meth = [72, 69, 65, 68]) :
    k_validator_Unchanged_0 L (Pu h (.bool (unchS meth l tag m))) (.ptr h.length 0) (.ptr (h.length + 1) 0) (h ++ (O.box [.str meth, p, y, x] :: O.box ms :: u)) := by
  
  unfold k_validator_Unchanged_0
  have g1 : ∀ hh, Cf F L i_field_Get [x, .str [73, 102, 45, 78, 111, 110, 101, 45, 77, 97, 116, 99, 104]] hh (Pu hh (.tup [.str (joinS (valsOf l nINM)), .int .i64 (valsOf l nINM).length])) := fun hh => Get_few HJ hx hl (by decide)
  have b1 := hl.2.2 nINM
  have hm20 : 20 + 1 ≤ ms.length := by omega
  have e : unchS meth l tag m = if (valsOf l nINM).length > 0 then matchB (joinS (valsOf l nINM)) tag else decide ((valsOf l nIMS).length = 1) && sinceB (joinS (valsOf l nIMS)) m := by unfold unchS; rw [if_pos hmeth]
  rw [e]
  have K1 := fun u => unch1_ok (L := L) (h := h) (u := u) (p := p) (y := y) (meth := meth) HJ hx hl hm h16
  generalize (decide ((valsOf l nIMS).length = 1) && sinceB (joinS (valsOf l nIMS)) m) = B at *
  generalize joinS (valsOf l nINM) = s1 at *
  generalize (valsOf l nINM).length = n1 at *
  simp (maxSteps := 4000000) only [vm, vl, Arg.get, cells, stor, boundO, resultsV, resV, partK, loadV, Vm.part, fillC, splice, reduceIte, reduceCtorEq, Nat.reduceEqDiff, Nat.reduceAdd, Nat.reduceSub, Nat.reduceMul, Nat.reduceLeDiff, ne_eq, not_false_eq_true, Int.reduceEq, Int.reduceLT, Int.reduceLE, Int.reduceNeg, Int.reduceToNat, Int.reduceGT, Int.reduceGE, Nat.reduceLT, Nat.lt_add_one, Nat.zero_lt_succ, Nat.succ_pos, Nat.zero_le, beq_self_eq_true]
  refine Cf.pu (g1 _) fun u1 => ?_
  by_cases c : n1 > 0
  · have c' : (n1 : Int) > 0 := by omega
    rw [if_pos c]
    simp (maxSteps := 4000000) only [vm, vl, Arg.get, cells, stor, boundO, resultsV, resV, partK, loadV, Vm.part, fillC, splice, reduceIte, reduceCtorEq, Nat.reduceEqDiff, Nat.reduceAdd, Nat.reduceSub, Nat.reduceMul, Nat.reduceLeDiff, ne_eq, not_false_eq_true, Int.reduceEq, Int.reduceLT, Int.reduceLE, Int.reduceNeg, Int.reduceToNat, Int.reduceGT, Int.reduceGE, Nat.reduceLT, Nat.lt_add_one, Nat.zero_lt_succ, Nat.succ_pos, Nat.zero_le, beq_self_eq_true, c', decide_true, hm20, h20, hm]
    refine Cf.pu (matches_ok b1 (by omega)) fun u2 => ?_
    simp (maxSteps := 4000000) only [vm, vl, Arg.get, cells, stor, boundO, resultsV, resV, partK, loadV, Vm.part, fillC, splice, reduceIte, reduceCtorEq, Nat.reduceEqDiff, Nat.reduceAdd, Nat.reduceSub, Nat.reduceMul, Nat.reduceLeDiff, ne_eq, not_false_eq_true, Int.reduceEq, Int.reduceLT, Int.reduceLE, Int.reduceNeg, Int.reduceToNat, Int.reduceGT, Int.reduceGE, Nat.reduceLT, Nat.lt_add_one, Nat.zero_lt_succ, Nat.succ_pos, Nat.zero_le, beq_self_eq_true]
  · have c' : ¬ (n1 : Int) > 0 := by omega
    rw [if_neg c]
    simp (maxSteps := 4000000) only [vm, vl, Arg.get, cells, stor, boundO, resultsV, resV, partK, loadV, Vm.part, fillC, splice, reduceIte, reduceCtorEq, Nat.reduceEqDiff, Nat.reduceAdd, Nat.reduceSub, Nat.reduceMul, Nat.reduceLeDiff, ne_eq, not_false_eq_true, Int.reduceEq, Int.reduceLT, Int.reduceLE, Int.reduceNeg, Int.reduceToNat, Int.reduceGT, Int.reduceGE, Nat.reduceLT, Nat.lt_add_one, Nat.zero_lt_succ, Nat.succ_pos, Nat.zero_le, beq_self_eq_true, c', decide_false]
    exact K1 _
theorem unch_ok {x p y : V} {meth : Bs} {l : List Fld} {ms : List V} {m : Int} {tag : Bs} (HJ : JoinOk L) (hx : ListV 2 x (flds l)) (hl : FewF l) (ht : tag.length ≤ 140737488355328) (hm : ms.length = 21) (h16 : ms.getD 16 (.tup []) = .int .i64 m) (h20 : ms.getD 20 (.tup []) = .str tag) :
    Cf F L i_validator_Unchanged [.agg [.str meth, p, y, x], .agg ms] h (Pu h (.bool (unchS meth l tag m))) := by
  refine run_validator_Unchanged ?_
  simp only [p_validator_Unchanged]
  
  have rest := fun hm' => unch0_ok (L := L) (h := h) (u := []) (p := p) (y := y) (meth := meth) HJ hx hl ht hm h16 h20 hm'
  by_cases a1 : meth = [71, 69, 84]
  · have a1' : (meth == [71, 69, 84]) = true := beq_iff_eq.2 a1
    simp (maxSteps := 4000000) only [vm, vl, Arg.get, cells, stor, boundO, resultsV, resV, partK, loadV, Vm.part, fillC, splice, reduceIte, reduceCtorEq, Nat.reduceEqDiff, Nat.reduceAdd, Nat.reduceSub, Nat.reduceMul, Nat.reduceLeDiff, ne_eq, not_false_eq_true, Int.reduceEq, Int.reduceLT, Int.reduceLE, Int.reduceNeg, Int.reduceToNat, Int.reduceGT, Int.reduceGE, Nat.reduceLT, Nat.lt_add_one, Nat.zero_lt_succ, Nat.succ_pos, Nat.zero_le, beq_self_eq_true, a1', Bool.not_true]
    exact rest (.inl a1)
  have a1' : (meth == [71, 69, 84]) = false := beq_eq_false_iff_ne.2 a1
  by_cases a2 : meth = [72, 69, 65, 68]
  · have a2' : (meth == [72, 69, 65, 68]) = true := beq_iff_eq.2 a2
    simp (maxSteps := 4000000) only [vm, vl, Arg.get, cells, stor, boundO, resultsV, resV, partK, loadV, Vm.part, fillC, splice, reduceIte, reduceCtorEq, Nat.reduceEqDiff, Nat.reduceAdd, Nat.reduceSub, Nat.reduceMul, Nat.reduceLeDiff, ne_eq, not_false_eq_true, Int.reduceEq, Int.reduceLT, Int.reduceLE, Int.reduceNeg, Int.reduceToNat, Int.reduceGT, Int.reduceGE, Nat.reduceLT, Nat.lt_add_one, Nat.zero_lt_succ, Nat.succ_pos, Nat.zero_le, beq_self_eq_true, a1', a2', Bool.not_true, Bool.not_false]
    exact rest (.inr a2)
  · have a2' : (meth == [72, 69, 65, 68]) = false := beq_eq_false_iff_ne.2 a2
    have e : unchS meth l tag m = false := by unfold unchS; rw [if_neg (fun h => h.elim a1 a2)]
    rw [e]
    simp (maxSteps := 4000000) only [vm, vl, Arg.get, cells, stor, boundO, resultsV, resV, partK, loadV, Vm.part, fillC, splice, reduceIte, reduceCtorEq, Nat.reduceEqDiff, Nat.reduceAdd, Nat.reduceSub, Nat.reduceMul, Nat.reduceLeDiff, ne_eq, not_false_eq_true, Int.reduceEq, Int.reduceLT, Int.reduceLE, Int.reduceNeg, Int.reduceToNat, Int.reduceGT, Int.reduceGE, Nat.reduceLT, Nat.lt_add_one, Nat.zero_lt_succ, Nat.succ_pos, Nat.zero_le, beq_self_eq_true, a1', a2', Bool.not_true, Bool.not_false]
def strongB (a b : Option (Bool × Bs)) : Bool := match a, b with
  | some (w, t), some (w', t') => (w == w' && t == t') && !w
  | _, _ => false
def applS (meth : Bs) (l : List Fld) (tag : Bs) (m : Int) : Bool :=
  if (valsOf l nR).length = 1 ∧ meth = [71, 69, 84] then
    (if (valsOf l nIR).length = 1 then
      (match tagS (joinS (valsOf l nIR)) with
        | some a => strongB (some a) (tagS tag)
        | none => (match dateS (joinS (valsOf l nIR)) with
          | some d => decide (d = m)
          | none => false))
    else decide ((valsOf l nIR).length = 0))
  else false
theorem appl_ok {x p y : V} {meth : Bs} {l : List Fld} {ms : List V} {m : Int} {tag : Bs} (HJ : JoinOk L) (hx : ListV 2 x (flds l)) (hl : FewF l) (ht : tag.length ≤ 140737488355328) (hm : ms.length = 21) (h16 : ms.getD 16 (.tup []) = .int .i64 m) (h20 : ms.getD 20 (.tup []) = .str tag) :
    Cf F L i_validator_Applies [.agg [.str meth, p, y, x], .agg ms] h (Pu h (.bool (applS meth l tag m))) := by
  refine run_validator_Applies ?_
  simp only [p_validator_Applies]
  
  have g1 : ∀ hh, Cf F L i_validator_one [x, .str [82, 97, 110, 103, 101]] hh (Pu hh (.tup [.str (joinS (valsOf l nR)), .bool (decide ((valsOf l nR).length = 1))])) := fun hh => one_ok HJ hx hl (by decide)
  have g2 : ∀ hh, Cf F L i_field_Get [x, .str [73, 102, 45, 82, 97, 110, 103, 101]] hh (Pu hh (.tup [.str (joinS (valsOf l nIR)), .int .i64 (valsOf l nIR).length])) := fun hh => Get_few HJ hx hl (by decide)
  have b2 := hl.2.2 nIR
  have hm16 : 16 + 1 ≤ ms.length := by omega
  have hm20 : 20 + 1 ≤ ms.length := by omega
  unfold applS
  generalize joinS (valsOf l nIR) = s2 at *
  generalize joinS (valsOf l nR) = s1 at *
  generalize (valsOf l nIR).length = n2 at *
  generalize (valsOf l nR).length = n1 at *
  have bc : ∀ (u : Heap) (i : Nat) (X : O), (h ++ (O.box [.str meth, p, y, x] :: O.box ms :: u))[h.length + 1]? = some (.box ms) := fun u i X => by simp [List.getElem?_append]
  simp (maxSteps := 4000000) only [vm, vl, Arg.get, cells, stor, boundO, resultsV, resV, partK, loadV, Vm.part, fillC, splice, reduceIte, reduceCtorEq, Nat.reduceEqDiff, Nat.reduceAdd, Nat.reduceSub, Nat.reduceMul, Nat.reduceLeDiff, ne_eq, not_false_eq_true, Int.reduceEq, Int.reduceLT, Int.reduceLE, Int.reduceNeg, Int.reduceToNat, Int.reduceGT, Int.reduceGE, Nat.reduceLT, Nat.lt_add_one, Nat.zero_lt_succ, Nat.succ_pos, Nat.zero_le, beq_self_eq_true]
  refine Cf.pu (g1 _) fun u1 => ?_
  by_cases c1 : n1 = 1
  case neg =>
    rw [if_neg (fun h => c1 h.1)]
    simp (maxSteps := 4000000) only [vm, vl, Arg.get, cells, stor, boundO, resultsV, resV, partK, loadV, Vm.part, fillC, splice, reduceIte, reduceCtorEq, Nat.reduceEqDiff, Nat.reduceAdd, Nat.reduceSub, Nat.reduceMul, Nat.reduceLeDiff, ne_eq, not_false_eq_true, Int.reduceEq, Int.reduceLT, Int.reduceLE, Int.reduceNeg, Int.reduceToNat, Int.reduceGT, Int.reduceGE, Nat.reduceLT, Nat.lt_add_one, Nat.zero_lt_succ, Nat.succ_pos, Nat.zero_le, beq_self_eq_true, c1, decide_false, Bool.not_false]
  by_cases a1 : meth = [71, 69, 84]
  case neg =>
    have a1' : (meth == [71, 69, 84]) = false := beq_eq_false_iff_ne.2 a1
    rw [if_neg (fun h => a1 h.2)]
    simp (maxSteps := 4000000) only [vm, vl, Arg.get, cells, stor, boundO, resultsV, resV, partK, loadV, Vm.part, fillC, splice, reduceIte, reduceCtorEq, Nat.reduceEqDiff, Nat.reduceAdd, Nat.reduceSub, Nat.reduceMul, Nat.reduceLeDiff, ne_eq, not_false_eq_true, Int.reduceEq, Int.reduceLT, Int.reduceLE, Int.reduceNeg, Int.reduceToNat, Int.reduceGT, Int.reduceGE, Nat.reduceLT, Nat.lt_add_one, Nat.zero_lt_succ, Nat.succ_pos, Nat.zero_le, beq_self_eq_true, c1, a1', decide_true, Bool.not_true, Bool.not_false]
  have a1' : (meth == [71, 69, 84]) = true := beq_iff_eq.2 a1
  rw [if_pos ⟨c1, a1⟩]
  simp (maxSteps := 4000000) only [vm, vl, Arg.get, cells, stor, boundO, resultsV, resV, partK, loadV, Vm.part, fillC, splice, reduceIte, reduceCtorEq, Nat.reduceEqDiff, Nat.reduceAdd, Nat.reduceSub, Nat.reduceMul, Nat.reduceLeDiff, ne_eq, not_false_eq_true, Int.reduceEq, Int.reduceLT, Int.reduceLE, Int.reduceNeg, Int.reduceToNat, Int.reduceGT, Int.reduceGE, Nat.reduceLT, Nat.lt_add_one, Nat.zero_lt_succ, Nat.succ_pos, Nat.zero_le, beq_self_eq_true, c1, a1', decide_true, Bool.not_true, Bool.not_false, k_validator_Applies_0]
  refine Cf.pu (g2 _) fun u2 => ?_
  by_cases c2 : n2 = 1
  case neg =>
    have c2' : ¬ (n2 : Int) = 1 := by omega
    have e0 : decide ((n2 : Int) = 0) = decide (n2 = 0) := by rw [decide_eq_decide]; omega
    rw [if_neg c2]
    simp (maxSteps := 4000000) only [vm, vl, Arg.get, cells, stor, boundO, resultsV, resV, partK, loadV, Vm.part, fillC, splice, reduceIte, reduceCtorEq, Nat.reduceEqDiff, Nat.reduceAdd, Nat.reduceSub, Nat.reduceMul, Nat.reduceLeDiff, ne_eq, not_false_eq_true, Int.reduceEq, Int.reduceLT, Int.reduceLE, Int.reduceNeg, Int.reduceToNat, Int.reduceGT, Int.reduceGE, Nat.reduceLT, Nat.lt_add_one, Nat.zero_lt_succ, Nat.succ_pos, Nat.zero_le, beq_self_eq_true, c2', decide_false, Bool.not_false, e0]
  have c2' : (n2 : Int) = 1 := by omega
  rw [if_pos c2]
  simp (maxSteps := 4000000) only [vm, vl, Arg.get, cells, stor, boundO, resultsV, resV, partK, loadV, Vm.part, fillC, splice, reduceIte, reduceCtorEq, Nat.reduceEqDiff, Nat.reduceAdd, Nat.reduceSub, Nat.reduceMul, Nat.reduceLeDiff, ne_eq, not_false_eq_true, Int.reduceEq, Int.reduceLT, Int.reduceLE, Int.reduceNeg, Int.reduceToNat, Int.reduceGT, Int.reduceGE, Nat.reduceLT, Nat.lt_add_one, Nat.zero_lt_succ, Nat.succ_pos, Nat.zero_le, beq_self_eq_true, c2', decide_true, Bool.not_true, k_validator_Applies_1, hm20, h20, hm]
  refine Cf.pu (TParse_ok (by omega)) fun u3 => ?_
  have sc : ∀ (A : Heap) (B : List V) (n : Nat), n = A.length → (A ++ [O.box [.bool false, .str []]]).set n (O.box B) = A ++ [O.box B] := fun A B n e => by subst e; simp
  obtain ⟨w1, t1, k1, e1⟩ := tagV_eq (tagS tag)
  rw [e1]
  simp (maxSteps := 4000000) only [vm, vl, Arg.get, cells, stor, boundO, resultsV, resV, partK, loadV, Vm.part, fillC, splice, reduceIte, reduceCtorEq, Nat.reduceEqDiff, Nat.reduceAdd, Nat.reduceSub, Nat.reduceMul, Nat.reduceLeDiff, ne_eq, not_false_eq_true, Int.reduceEq, Int.reduceLT, Int.reduceLE, Int.reduceNeg, Int.reduceToNat, Int.reduceGT, Int.reduceGE, Nat.reduceLT, Nat.lt_add_one, Nat.zero_lt_succ, Nat.succ_pos, Nat.zero_le, beq_self_eq_true]
  refine Cf.pu (TParse_ok (by omega)) fun u4 => ?_
  cases e3 : tagS s2 with
  | some q =>
    obtain ⟨w2, t2⟩ := q
    cases e4 : tagS tag with
    | none =>
      rw [e4] at e1
      have : k1 = false := by unfold tagV at e1; injection e1 with e1; injection e1 with _ e1; injection e1 with e1; injection e1 with e1; exact e1.symm
      subst this
      simp (maxSteps := 4000000) only [vm, vl, Arg.get, cells, stor, boundO, resultsV, resV, partK, loadV, Vm.part, fillC, splice, reduceIte, reduceCtorEq, Nat.reduceEqDiff, Nat.reduceAdd, Nat.reduceSub, Nat.reduceMul, Nat.reduceLeDiff, ne_eq, not_false_eq_true, Int.reduceEq, Int.reduceLT, Int.reduceLE, Int.reduceNeg, Int.reduceToNat, Int.reduceGT, Int.reduceGE, Nat.reduceLT, Nat.lt_add_one, Nat.zero_lt_succ, Nat.succ_pos, Nat.zero_le, beq_self_eq_true, tagV, strongB]
    | some q =>
      obtain ⟨w5, t5⟩ := q
      rw [e4] at e1
      have : w5 = w1 ∧ t5 = t1 ∧ k1 = true := by
        unfold tagV at e1; simp at e1; exact ⟨e1.1.1, e1.1.2, e1.2⟩
      obtain ⟨rfl, rfl, rfl⟩ := this
      simp (maxSteps := 4000000) only [vm, vl, Arg.get, cells, stor, boundO, resultsV, resV, partK, loadV, Vm.part, fillC, splice, reduceIte, reduceCtorEq, Nat.reduceEqDiff, Nat.reduceAdd, Nat.reduceSub, Nat.reduceMul, Nat.reduceLeDiff, ne_eq, not_false_eq_true, Int.reduceEq, Int.reduceLT, Int.reduceLE, Int.reduceNeg, Int.reduceToNat, Int.reduceGT, Int.reduceGE, Nat.reduceLT, Nat.lt_add_one, Nat.zero_lt_succ, Nat.succ_pos, Nat.zero_le, beq_self_eq_true, tagV, strongB]
      refine Cf.pu Strong_ok fun u5 => ?_
      simp (maxSteps := 4000000) only [vm, vl, Arg.get, cells, stor, boundO, resultsV, resV, partK, loadV, Vm.part, fillC, splice, reduceIte, reduceCtorEq, Nat.reduceEqDiff, Nat.reduceAdd, Nat.reduceSub, Nat.reduceMul, Nat.reduceLeDiff, ne_eq, not_false_eq_true, Int.reduceEq, Int.reduceLT, Int.reduceLE, Int.reduceNeg, Int.reduceToNat, Int.reduceGT, Int.reduceGE, Nat.reduceLT, Nat.lt_add_one, Nat.zero_lt_succ, Nat.succ_pos, Nat.zero_le, beq_self_eq_true]
  | none =>
    simp (maxSteps := 4000000) only [vm, vl, Arg.get, cells, stor, boundO, resultsV, resV, partK, loadV, Vm.part, fillC, splice, reduceIte, reduceCtorEq, Nat.reduceEqDiff, Nat.reduceAdd, Nat.reduceSub, Nat.reduceMul, Nat.reduceLeDiff, ne_eq, not_false_eq_true, Int.reduceEq, Int.reduceLT, Int.reduceLE, Int.reduceNeg, Int.reduceToNat, Int.reduceGT, Int.reduceGE, Nat.reduceLT, Nat.lt_add_one, Nat.zero_lt_succ, Nat.succ_pos, Nat.zero_le, beq_self_eq_true, tagV, k_validator_Applies_2]
    refine Cf.pu (DParse_ok (by omega)) fun u5 => ?_
    cases e5 : dateS s2 with
    | none => simp (maxSteps := 4000000) only [vm, vl, Arg.get, cells, stor, boundO, resultsV, resV, partK, loadV, Vm.part, fillC, splice, reduceIte, reduceCtorEq, Nat.reduceEqDiff, Nat.reduceAdd, Nat.reduceSub, Nat.reduceMul, Nat.reduceLeDiff, ne_eq, not_false_eq_true, Int.reduceEq, Int.reduceLT, Int.reduceLE, Int.reduceNeg, Int.reduceToNat, Int.reduceGT, Int.reduceGE, Nat.reduceLT, Nat.lt_add_one, Nat.zero_lt_succ, Nat.succ_pos, Nat.zero_le, beq_self_eq_true, dateV]
    | some d =>
      simp (maxSteps := 4000000) only [vm, vl, Arg.get, cells, stor, boundO, resultsV, resV, partK, loadV, Vm.part, fillC, splice, reduceIte, reduceCtorEq, Nat.reduceEqDiff, Nat.reduceAdd, Nat.reduceSub, Nat.reduceMul, Nat.reduceLeDiff, ne_eq, not_false_eq_true, Int.reduceEq, Int.reduceLT, Int.reduceLE, Int.reduceNeg, Int.reduceToNat, Int.reduceGT, Int.reduceGE, Nat.reduceLT, Nat.lt_add_one, Nat.zero_lt_succ, Nat.succ_pos, Nat.zero_le, beq_self_eq_true, dateV, hm16, h16, hm]
end Go.Proofs.YtfkebmdfcpnaeaaDoor.Vh
