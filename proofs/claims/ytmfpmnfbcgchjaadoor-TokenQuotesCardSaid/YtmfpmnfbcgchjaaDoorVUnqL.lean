/- token.unquote by its contract, as a function of the machine's library; the document's unquote and Pair, and token.Pair. -/
import Derived.Test.YtmfpmnfbcgchjaaDoorVRef1
import Derived.Test.YtmfpmnfbcgchjaaDoorVCutP
import Derived.Test.YtmfpmnfbcgchjaaDoorVUnq2
import Derived.Test.YtmfpmnfbcgchjaaDoorVmLib
set_option linter.unusedVariables false
set_option linter.unusedSimpArgs false
namespace Go.Proofs.YtmfpmnfbcgchjaaDoor.Vh
open Go.Vm Go.Vt
attribute [local congr] wi_congr wg_congr wgd_congr wb_congr wl_congr cf_congr
variable {L : FuncId → List V → V → Prop} {h : Heap}
def unqV (p : Bs × Bool) : V := .tup [.str p.1, .bool p.2]
def LUnq : FuncId → List V → V → Prop := fun f args v => f = i_token_unquote ∧ ∃ s : Bs, s.length ≤ 140737488351232 ∧ args = [.str s] ∧ v = unqV (Uq.unqS s)
theorem unq_at (w0 : World) : LibAt Tryd.prog w0 LUnq := by
  rintro f args v ⟨rfl, s, hs, rfl, rfl⟩
  refine ⟨by kernel_rfl, good_below fun B G h w vs hr hb hv => ?_⟩
  obtain ⟨a, rfl, ha⟩ := rvs_one hv
  cases ha
  refine (Uq.unq_calls ⟨s.toArray⟩ w (by show s.toArray.size ≤ _; simpa using hs) _ rfl).mono fun e w' ⟨h1, h2⟩ => ⟨_, h1, ?_, h2⟩
  refine .tup (vs := [.string ⟨(Uq.unqS s).1.toArray⟩, .bool (Uq.unqS s).2]) rfl fun k x v hx hv => ?_
  match k, hx, hv with
  | 0, hx, hv => cases hx; cases hv; exact .str _
  | 1, hx, hv => cases hx; cases hv; exact .bool _
def UnqOk (L : FuncId → List V → V → Prop) : Prop := ∀ {s : Bs} {h : Heap}, s.length ≤ 140737488351232 → Cf F L i_token_unquote [.str s] h (Pu h (unqV (Uq.unqS s)))
theorem unqOk {L : FuncId → List V → V → Prop} (hL : ∀ f a v, LUnq f a v → L f a v) : UnqOk L :=
  fun hs => wlib (hL _ _ _ ⟨rfl, _, hs, rfl, rfl⟩) ⟨rfl, [], by simp⟩
/-! What unquote tells. -/
def unqT : Bs → Bs → Bs × Bool
  | [], _ => ([], false)
  | c :: r, bs => if c = 34 then (bs, r.isEmpty) else if c = 92 then (match r with
      | [] => ([], false)
      | d :: r' => if txtB d then unqT r' (bs ++ [d]) else ([], false))
    else if txtB c then unqT r (bs ++ [c]) else ([], false)
def unqP (s : Bs) : Bs × Bool := if s.head? = some 34 then unqT (s.drop 1) [] else ([], false)
theorem inQ_txt (c : UInt8) : Uq.inQ (c.toNat : Int) = txtB c := byte_all (p := fun c => Uq.inQ (c.toNat : Int) = txtB c) (by decide +kernel) c
theorem unqG_eq : ∀ (n : Nat) (s bs : Bs), s.length ≤ n → Uq.unqG s bs = unqT s bs
  | _, [], bs, _ => by rw [Uq.unqG.eq_def, unqT.eq_def]
  | 0, c :: r, bs, h => by simp at h
  | n + 1, c :: r, bs, h => by
    simp at h
    rw [Uq.unqG.eq_def, unqT.eq_def]
    simp only
    split
    · rfl
    · split
      · cases r with
        | nil => rfl
        | cons d r' => simp only [inQ_txt]; simp at h; rw [unqG_eq n r' _ (by omega)]
      · rw [inQ_txt, unqG_eq n r _ h]
theorem unqS_eq (s : Bs) : Uq.unqS s = unqP s := by
  unfold Uq.unqS unqP
  cases s with
  | nil => rfl
  | cons c r =>
    by_cases hc : c = 34
    · subst hc
      rw [if_pos (by simp [Lib.hasPrefix])]
      show _ = unqT r []
      rw [← unqG_eq _ _ _ (Nat.le_refl _)]
      congr 1
    · rw [if_neg (by simp [Lib.hasPrefix]; exact fun h => hc h.symm), if_neg (by simp [hc])]
theorem Unq_ok (HU : UnqOk L) {s : Bs} (hs : s.length ≤ 140737488351232) : Cf F L i_token_unquote [.str s] h (Pu h (unqV (unqP s))) := by
  rw [← unqS_eq]; exact HU hs
/-- What the document's loop does from here. -/
theorem q34 {c : UInt8} : decide ((c.toNat : Int) = 34) = decide (c = 34) := byte_all (p := fun c => decide ((c.toNat : Int) = 34) = decide (c = 34)) (by decide +kernel) c
theorem q92 {c : UInt8} : decide ((c.toNat : Int) = 92) = decide (c = 92) := byte_all (p := fun c => decide ((c.toNat : Int) = 92) = decide (c = 92)) (by decide +kernel) c
/-- The document's answer: where it is none the text does not count. -/
def RqP (h : Heap) (R : Bs × Bool) (v : V) (h' : Heap) : Prop := ∃ x, (v = .tup [.str x, .bool R.2] ∧ ∃ t, h' = h ++ t) ∧ (R.2 = true → x = R.1)
theorem unqT_end {bs : Bs} : unqT [] bs = ([], false) := by rw [unqT.eq_def]
theorem unqT_stop {r bs : Bs} : unqT (34 :: r) bs = (bs, r.isEmpty) := by rw [unqT.eq_def]; rfl
theorem unqT_esc0 {bs : Bs} : unqT [92] bs = ([], false) := by rw [unqT.eq_def]; rfl
theorem unqT_esc {d : UInt8} {r bs : Bs} : unqT (92 :: d :: r) bs = if txtB d then unqT r (bs ++ [d]) else ([], false) := by rw [unqT.eq_def]; rfl
theorem unqT_one {c : UInt8} {r bs : Bs} (h1 : c ≠ 34) (h2 : c ≠ 92) : unqT (c :: r) bs = if txtB c then unqT r (bs ++ [c]) else ([], false) := by
  rw [unqT.eq_def]; simp only; rw [if_neg h1, if_neg h2]
theorem rUnq_loop {S : Bs} {R : Bs × Bool} {e : Env} (hs : S.length < 1000000000) (h1 : 1 ≤ S.length) (hR : unqT (S.drop 1) [] = R) (e0 : e 0 = .str S) (e4 : e 4 = .str []) (e5 : e 5 = .int .i64 1) :
    Wl F L lc_gatepostref01_unquote_0 (q_gatepostref01_unquote_0 L (RqP h R)) e h := by
  refine l_gatepostref01_unquote_0 (fun n e h' => ∃ (i : Nat) (bs : Bs), n = S.length - i ∧ i ≤ S.length ∧ 1 ≤ i ∧ bs.length ≤ i ∧ e 0 = .str S ∧ e 4 = .str bs ∧ e 5 = .int .i64 i ∧ unqT (S.drop i) bs = R ∧ ∃ t, h' = h ++ t) ?_ (n := S.length - 1) ⟨1, [], rfl, h1, by omega, by simp, e0, e4, e5, hR, [], by simp⟩
  rintro n e h' ⟨i, bs, rfl, hi, hi1, hb, e0, e4, e5, hR, t, rfl⟩
  simp only [b_gatepostref01_unquote_0]
  
  have wn := wrap64 (x := (S.length : Int) - 1) (by omega) (by omega)
  rcases str_at hi with ⟨hn, rfl, hd⟩ | ⟨c, hl, hl', hc, hd⟩
  · rw [hd, unqT_end] at hR
    subst hR
    have e1 : decide ((S.length : Int) = (S.length : Int) - 1) = false := by simp; omega
    simp (maxSteps := 4000000) only [vm, vl, Arg.get, cells, stor, boundO, resultsV, resV, partK, loadV, Vm.part, fillC, splice, reduceIte, reduceCtorEq, Nat.reduceEqDiff, Nat.reduceAdd, Nat.reduceSub, Nat.reduceMul, Nat.reduceLeDiff, ne_eq, not_false_eq_true, Int.reduceEq, Int.reduceLT, Int.reduceLE, Int.reduceNeg, Int.reduceToNat, Int.reduceGT, Int.reduceGE, Nat.reduceLT, Nat.lt_add_one, Nat.zero_lt_succ, Nat.succ_pos, Nat.zero_le, beq_self_eq_true, k_gatepostref01_unquote_1, k_gatepostref01_unquote_4, k_gatepostref01_unquote_3, k_gatepostref01_unquote_2, k_gatepostref01_unquote_0, e0, e4, e5, hn, wn, e1]
    exact ⟨bs, ⟨rfl, t, rfl⟩, fun h => by cases h⟩
  · have w := wrap64 (x := (i : Int) + 1) (by omega) (by omega)
    have k34 := q34 (c := c)
    have k92 := q92 (c := c)
    by_cases c34 : c = 34
    · subst c34
      rw [hd, unqT_stop] at hR
      subst hR
      have e1 : decide ((i : Int) = (S.length : Int) - 1) = (S.drop (i + 1)).isEmpty := by
        rw [Bool.eq_iff_iff, decide_eq_true_iff, List.isEmpty_iff, List.drop_eq_nil_iff]; omega
      have k34' : ((UInt8.toNat 34 : Nat) : Int) = 34 := rfl
      simp (maxSteps := 4000000) only [vm, vl, Arg.get, cells, stor, boundO, resultsV, resV, partK, loadV, Vm.part, fillC, splice, reduceIte, reduceCtorEq, Nat.reduceEqDiff, Nat.reduceAdd, Nat.reduceSub, Nat.reduceMul, Nat.reduceLeDiff, ne_eq, not_false_eq_true, Int.reduceEq, Int.reduceLT, Int.reduceLE, Int.reduceNeg, Int.reduceToNat, Int.reduceGT, Int.reduceGE, Nat.reduceLT, Nat.lt_add_one, Nat.zero_lt_succ, Nat.succ_pos, Nat.zero_le, beq_self_eq_true, k_gatepostref01_unquote_1, k_gatepostref01_unquote_4, k_gatepostref01_unquote_3, k_gatepostref01_unquote_2, k_gatepostref01_unquote_0, e0, e4, e5, hl, hl', hc, k34', decide_true, Bool.not_true, wn, e1]
      exact ⟨bs, ⟨rfl, t, rfl⟩, fun _ => rfl⟩
    · have k34' : ¬ (c.toNat : Int) = 34 := by rw [← decide_eq_false_iff_not, k34]; simpa using c34
      by_cases c92 : c = 92
      · subst c92
        have k92' : ((UInt8.toNat 92 : Nat) : Int) = 92 := rfl
        rcases str_at (s := S) (i := i + 1) hl' with ⟨hn, hie, hd2⟩ | ⟨d, hk, hk', hdv, hd2⟩
        · rw [hd, hd2, unqT_esc0] at hR
          subst hR
          have g1 : (i : Int) + 1 ≥ S.length := by omega
          simp (maxSteps := 4000000) only [vm, vl, Arg.get, cells, stor, boundO, resultsV, resV, partK, loadV, Vm.part, fillC, splice, reduceIte, reduceCtorEq, Nat.reduceEqDiff, Nat.reduceAdd, Nat.reduceSub, Nat.reduceMul, Nat.reduceLeDiff, ne_eq, not_false_eq_true, Int.reduceEq, Int.reduceLT, Int.reduceLE, Int.reduceNeg, Int.reduceToNat, Int.reduceGT, Int.reduceGE, Nat.reduceLT, Nat.lt_add_one, Nat.zero_lt_succ, Nat.succ_pos, Nat.zero_le, beq_self_eq_true, k_gatepostref01_unquote_1, k_gatepostref01_unquote_4, k_gatepostref01_unquote_3, k_gatepostref01_unquote_2, k_gatepostref01_unquote_0, e0, e4, e5, hl, hl', hc, k34', k92', decide_true, decide_false, Bool.not_true, Bool.not_false, w, g1]
          exact ⟨[], ⟨rfl, t, rfl⟩, fun h => by cases h⟩
        · rw [hd, hd2, unqT_esc] at hR
          have g1 : ¬ (i : Int) + 1 ≥ S.length := by omega
          have w2 := wrap64 (x := (i : Int) + 1 + 1) (by omega) (by omega)
          have t1 : ((i : Int) + 1 + 1).toNat = i + 2 := by omega
          have t2 : 0 ≤ (i : Int) + 1 + 1 := by omega
          have k3 : i + 1 ≤ i + 2 := by omega
          have k4 : i + 2 ≤ S.length := by omega
          have ec2 : List.drop (i + 1) (List.take (i + 2) S) = [d] := by
            rw [show i + 2 = (i + 1) + 1 by rfl, take_succ hk' hd2, List.drop_append]
            simp [Nat.min_eq_left (Nat.le_of_lt hk'), List.drop_eq_nil_of_le]
          have hadd : binV .add (.str bs) (.str [d]) = some (.str (bs ++ [d])) := bin_sadd (by simp; omega)
          simp (maxSteps := 4000000) only [vm, vl, Arg.get, cells, stor, boundO, resultsV, resV, partK, loadV, Vm.part, fillC, splice, reduceIte, reduceCtorEq, Nat.reduceEqDiff, Nat.reduceAdd, Nat.reduceSub, Nat.reduceMul, Nat.reduceLeDiff, ne_eq, not_false_eq_true, Int.reduceEq, Int.reduceLT, Int.reduceLE, Int.reduceNeg, Int.reduceToNat, Int.reduceGT, Int.reduceGE, Nat.reduceLT, Nat.lt_add_one, Nat.zero_lt_succ, Nat.succ_pos, Nat.zero_le, beq_self_eq_true, k_gatepostref01_unquote_1, k_gatepostref01_unquote_4, k_gatepostref01_unquote_3, k_gatepostref01_unquote_2, k_gatepostref01_unquote_0, e0, e4, e5, hl, hl', hc, k34', k92', decide_true, decide_false, Bool.not_true, Bool.not_false, w, g1]
          refine ⟨hk', ?_⟩
          rw [hdv]
          refine Cf.pu rtext_ok fun u => ?_
          cases ht : txtB d with
          | false =>
            rw [ht] at hR
            subst hR
            simp (maxSteps := 4000000) only [vm, vl, Arg.get, cells, stor, boundO, resultsV, resV, partK, loadV, Vm.part, fillC, splice, reduceIte, reduceCtorEq, Nat.reduceEqDiff, Nat.reduceAdd, Nat.reduceSub, Nat.reduceMul, Nat.reduceLeDiff, ne_eq, not_false_eq_true, Int.reduceEq, Int.reduceLT, Int.reduceLE, Int.reduceNeg, Int.reduceToNat, Int.reduceGT, Int.reduceGE, Nat.reduceLT, Nat.lt_add_one, Nat.zero_lt_succ, Nat.succ_pos, Nat.zero_le, beq_self_eq_true, k_gatepostref01_unquote_1, k_gatepostref01_unquote_4, k_gatepostref01_unquote_3, k_gatepostref01_unquote_2, k_gatepostref01_unquote_0]
            exact ⟨[], ⟨rfl, _, rfl⟩, fun h => by cases h⟩
          | true =>
            rw [ht, if_pos rfl] at hR
            simp (maxSteps := 4000000) only [vm, vl, Arg.get, cells, stor, boundO, resultsV, resV, partK, loadV, Vm.part, fillC, splice, reduceIte, reduceCtorEq, Nat.reduceEqDiff, Nat.reduceAdd, Nat.reduceSub, Nat.reduceMul, Nat.reduceLeDiff, ne_eq, not_false_eq_true, Int.reduceEq, Int.reduceLT, Int.reduceLE, Int.reduceNeg, Int.reduceToNat, Int.reduceGT, Int.reduceGE, Nat.reduceLT, Nat.lt_add_one, Nat.zero_lt_succ, Nat.succ_pos, Nat.zero_le, beq_self_eq_true, k_gatepostref01_unquote_1, k_gatepostref01_unquote_4, k_gatepostref01_unquote_3, k_gatepostref01_unquote_2, k_gatepostref01_unquote_0, w2, t1, t2, k3, k4, ec2, hadd]
            exact ⟨S.length - (i + 2), by omega, i + 2, bs ++ [d], rfl, by omega, by omega, by simp; omega, rfl, rfl, hR, _, rfl⟩
      · have k92' : ¬ (c.toNat : Int) = 92 := by rw [← decide_eq_false_iff_not, k92]; simpa using c92
        rw [hd, unqT_one c34 c92] at hR
        have g1 : ¬ (i : Int) ≥ S.length := by omega
        have k3 : i ≤ i + 1 := by omega
        have ec : List.drop i (List.take (i + 1) S) = [c] := by
          rw [take_succ hl' hd, List.drop_append]
          simp [Nat.min_eq_left (Nat.le_of_lt hl'), List.drop_eq_nil_of_le]
        have hadd : binV .add (.str bs) (.str [c]) = some (.str (bs ++ [c])) := bin_sadd (by simp; omega)
        simp (maxSteps := 4000000) only [vm, vl, Arg.get, cells, stor, boundO, resultsV, resV, partK, loadV, Vm.part, fillC, splice, reduceIte, reduceCtorEq, Nat.reduceEqDiff, Nat.reduceAdd, Nat.reduceSub, Nat.reduceMul, Nat.reduceLeDiff, ne_eq, not_false_eq_true, Int.reduceEq, Int.reduceLT, Int.reduceLE, Int.reduceNeg, Int.reduceToNat, Int.reduceGT, Int.reduceGE, Nat.reduceLT, Nat.lt_add_one, Nat.zero_lt_succ, Nat.succ_pos, Nat.zero_le, beq_self_eq_true, k_gatepostref01_unquote_1, k_gatepostref01_unquote_4, k_gatepostref01_unquote_3, k_gatepostref01_unquote_2, k_gatepostref01_unquote_0, e0, e4, e5, hl, hl', hc, k34', k92', decide_true, decide_false, Bool.not_true, Bool.not_false, w, g1]
        refine Cf.pu rtext_ok fun u => ?_
        cases ht : txtB c with
        | false =>
          rw [ht] at hR
          subst hR
          simp (maxSteps := 4000000) only [vm, vl, Arg.get, cells, stor, boundO, resultsV, resV, partK, loadV, Vm.part, fillC, splice, reduceIte, reduceCtorEq, Nat.reduceEqDiff, Nat.reduceAdd, Nat.reduceSub, Nat.reduceMul, Nat.reduceLeDiff, ne_eq, not_false_eq_true, Int.reduceEq, Int.reduceLT, Int.reduceLE, Int.reduceNeg, Int.reduceToNat, Int.reduceGT, Int.reduceGE, Nat.reduceLT, Nat.lt_add_one, Nat.zero_lt_succ, Nat.succ_pos, Nat.zero_le, beq_self_eq_true, k_gatepostref01_unquote_1, k_gatepostref01_unquote_4, k_gatepostref01_unquote_3, k_gatepostref01_unquote_2, k_gatepostref01_unquote_0]
          exact ⟨[], ⟨rfl, _, rfl⟩, fun h => by cases h⟩
        | true =>
          rw [ht, if_pos rfl] at hR
          simp (maxSteps := 4000000) only [vm, vl, Arg.get, cells, stor, boundO, resultsV, resV, partK, loadV, Vm.part, fillC, splice, reduceIte, reduceCtorEq, Nat.reduceEqDiff, Nat.reduceAdd, Nat.reduceSub, Nat.reduceMul, Nat.reduceLeDiff, ne_eq, not_false_eq_true, Int.reduceEq, Int.reduceLT, Int.reduceLE, Int.reduceNeg, Int.reduceToNat, Int.reduceGT, Int.reduceGE, Nat.reduceLT, Nat.lt_add_one, Nat.zero_lt_succ, Nat.succ_pos, Nat.zero_le, beq_self_eq_true, k_gatepostref01_unquote_1, k_gatepostref01_unquote_4, k_gatepostref01_unquote_3, k_gatepostref01_unquote_2, k_gatepostref01_unquote_0, w, hl', k3, ec, hadd]
          exact ⟨hl', S.length - (i + 1), by omega, i + 1, bs ++ [c], rfl, hl', by omega, by simp; omega, rfl, rfl, hR, _, rfl⟩
theorem rUnq_ok {s : Bs} (hs : s.length < 1000000000) : Cf F L i_gatepostref01_unquote [.str s] h (RqP h (unqP s)) := by
  refine run_gatepostref01_unquote ?_
  simp only [p_gatepostref01_unquote]
  rcases s with _ | ⟨a, r⟩
  · simp (maxSteps := 4000000) only [vm, vl, Arg.get, cells, stor, boundO, resultsV, resV, partK, loadV, Vm.part, fillC, splice, reduceIte, reduceCtorEq, Nat.reduceEqDiff, Nat.reduceAdd, Nat.reduceSub, Nat.reduceMul, Nat.reduceLeDiff, ne_eq, not_false_eq_true, Int.reduceEq, Int.reduceLT, Int.reduceLE, Int.reduceNeg, Int.reduceToNat, Int.reduceGT, Int.reduceGE, Nat.reduceLT, Nat.lt_add_one, Nat.zero_lt_succ, Nat.succ_pos, Nat.zero_le, beq_self_eq_true, k_gatepostref01_unquote_1, k_gatepostref01_unquote_4, k_gatepostref01_unquote_3, k_gatepostref01_unquote_2, k_gatepostref01_unquote_0]
    exact ⟨[], ⟨rfl, [], by simp⟩, fun h => by cases h⟩
  by_cases ha : a = 34
  case neg =>
    have e1 : unqP (a :: r) = ([], false) := by unfold unqP; rw [if_neg (by simp [ha])]
    rw [e1]
    have k34 := q34 (c := a)
    have k34' : ¬ (a.toNat : Int) = 34 := by rw [← decide_eq_false_iff_not, k34]; simpa using ha
    rcases r with _ | ⟨b, r⟩
    · have hl2 : (([a] : Bs).length : Int) < 2 := by simp
      simp (maxSteps := 4000000) only [vm, vl, Arg.get, cells, stor, boundO, resultsV, resV, partK, loadV, Vm.part, fillC, splice, reduceIte, reduceCtorEq, Nat.reduceEqDiff, Nat.reduceAdd, Nat.reduceSub, Nat.reduceMul, Nat.reduceLeDiff, ne_eq, not_false_eq_true, Int.reduceEq, Int.reduceLT, Int.reduceLE, Int.reduceNeg, Int.reduceToNat, Int.reduceGT, Int.reduceGE, Nat.reduceLT, Nat.lt_add_one, Nat.zero_lt_succ, Nat.succ_pos, Nat.zero_le, beq_self_eq_true, k_gatepostref01_unquote_1, k_gatepostref01_unquote_4, k_gatepostref01_unquote_3, k_gatepostref01_unquote_2, k_gatepostref01_unquote_0, hl2]
      exact ⟨[], ⟨rfl, [], by simp⟩, fun h => by cases h⟩
    · have hl2 : ¬ ((a :: b :: r : Bs).length : Int) < 2 := by simp; omega
      generalize hS : (a :: b :: r : Bs) = S at *
      have hS0 : S.getD 0 0 = a := by rw [← hS]; rfl
      have hS1 : (0 : Nat) < S.length := by rw [← hS]; simp
      simp (maxSteps := 4000000) only [vm, vl, Arg.get, cells, stor, boundO, resultsV, resV, partK, loadV, Vm.part, fillC, splice, reduceIte, reduceCtorEq, Nat.reduceEqDiff, Nat.reduceAdd, Nat.reduceSub, Nat.reduceMul, Nat.reduceLeDiff, ne_eq, not_false_eq_true, Int.reduceEq, Int.reduceLT, Int.reduceLE, Int.reduceNeg, Int.reduceToNat, Int.reduceGT, Int.reduceGE, Nat.reduceLT, Nat.lt_add_one, Nat.zero_lt_succ, Nat.succ_pos, Nat.zero_le, beq_self_eq_true, k_gatepostref01_unquote_1, k_gatepostref01_unquote_4, k_gatepostref01_unquote_3, k_gatepostref01_unquote_2, k_gatepostref01_unquote_0, hl2, hS0, hS1, k34', decide_false, Bool.not_false]
      exact ⟨[], ⟨rfl, [], by simp⟩, fun h => by cases h⟩
  subst ha
  rcases r with _ | ⟨b, r⟩
  · have hl2 : (([34] : Bs).length : Int) < 2 := by simp
    have e1 : unqP [34] = ([], false) := rfl
    rw [e1]
    simp (maxSteps := 4000000) only [vm, vl, Arg.get, cells, stor, boundO, resultsV, resV, partK, loadV, Vm.part, fillC, splice, reduceIte, reduceCtorEq, Nat.reduceEqDiff, Nat.reduceAdd, Nat.reduceSub, Nat.reduceMul, Nat.reduceLeDiff, ne_eq, not_false_eq_true, Int.reduceEq, Int.reduceLT, Int.reduceLE, Int.reduceNeg, Int.reduceToNat, Int.reduceGT, Int.reduceGE, Nat.reduceLT, Nat.lt_add_one, Nat.zero_lt_succ, Nat.succ_pos, Nat.zero_le, beq_self_eq_true, k_gatepostref01_unquote_1, k_gatepostref01_unquote_4, k_gatepostref01_unquote_3, k_gatepostref01_unquote_2, k_gatepostref01_unquote_0, hl2]
    exact ⟨[], ⟨rfl, [], by simp⟩, fun h => by cases h⟩
  have hl2 : ¬ ((34 :: b :: r : Bs).length : Int) < 2 := by simp; omega
  have hR : unqT ((34 :: b :: r).drop 1) [] = unqP (34 :: b :: r) := rfl
  generalize unqP (34 :: b :: r) = R at *
  generalize hS : (34 :: b :: r : Bs) = S at *
  have hS0 : S.getD 0 0 = 34 := by rw [← hS]; rfl
  have hS1 : (0 : Nat) < S.length := by rw [← hS]; simp
  have k34' : ((UInt8.toNat 34 : Nat) : Int) = 34 := rfl
  simp (maxSteps := 4000000) only [vm, vl, Arg.get, cells, stor, boundO, resultsV, resV, partK, loadV, Vm.part, fillC, splice, reduceIte, reduceCtorEq, Nat.reduceEqDiff, Nat.reduceAdd, Nat.reduceSub, Nat.reduceMul, Nat.reduceLeDiff, ne_eq, not_false_eq_true, Int.reduceEq, Int.reduceLT, Int.reduceLE, Int.reduceNeg, Int.reduceToNat, Int.reduceGT, Int.reduceGE, Nat.reduceLT, Nat.lt_add_one, Nat.zero_lt_succ, Nat.succ_pos, Nat.zero_le, beq_self_eq_true, k_gatepostref01_unquote_1, k_gatepostref01_unquote_4, k_gatepostref01_unquote_3, k_gatepostref01_unquote_2, k_gatepostref01_unquote_0, hl2, hS0, hS1, k34', decide_true, Bool.not_true]
  exact rUnq_loop hs hS1 hR rfl rfl rfl
/-- An element's name and value. -/
def pairS (s : Bs) : Bs × Bs × Bool × Bool :=
  let n := s.take (pos 61 s)
  let v := s.drop (pos 61 s + 1)
  if isTok n then (if pos 61 s < s.length then (if isTok v then (n, v, true, true) else if (unqP v).2 then (n, (unqP v).1, true, true) else ([], [], false, false)) else (n, v, false, true)) else ([], [], false, false)
def pairV (p : Bs × Bs × Bool × Bool) : V := .tup [.str p.1, .str p.2.1, .bool p.2.2.1, .bool p.2.2.2]
theorem Pair_ok (HI : IndexOk L) (HU : UnqOk L) {s : Bs} (hs : s.length ≤ 140737488351232) : Cf F L i_token_Pair [.str s] h (Pu h (pairV (pairS s))) := by
  refine run_token_Pair ?_
  simp only [p_token_Pair]
  simp (maxSteps := 4000000) only [vm, vl, Arg.get, cells, stor, boundO, resultsV, resV, partK, loadV, Vm.part, fillC, splice, reduceIte, reduceCtorEq, Nat.reduceEqDiff, Nat.reduceAdd, Nat.reduceSub, Nat.reduceMul, Nat.reduceLeDiff, ne_eq, not_false_eq_true, Int.reduceEq, Int.reduceLT, Int.reduceLE, Int.reduceNeg, Int.reduceToNat, Int.reduceGT, Int.reduceGE, Nat.reduceLT, Nat.lt_add_one, Nat.zero_lt_succ, Nat.succ_pos, Nat.zero_le, beq_self_eq_true, k_token_Pair_2, k_token_Pair_1, k_token_Pair_0]
  refine Cf.pu (Cut_ok HI (by omega)) fun u => ?_
  have b1 : (s.take (pos 61 s)).length ≤ 140737488351232 := by rw [List.length_take]; omega
  have b2 : (s.drop (pos 61 s + 1)).length ≤ 140737488351232 := by rw [List.length_drop]; omega
  unfold pairS cutS
  simp only
  generalize s.take (pos 61 s) = n at *
  generalize s.drop (pos 61 s + 1) = v at *
  simp (maxSteps := 4000000) only [vm, vl, Arg.get, cells, stor, boundO, resultsV, resV, partK, loadV, Vm.part, fillC, splice, reduceIte, reduceCtorEq, Nat.reduceEqDiff, Nat.reduceAdd, Nat.reduceSub, Nat.reduceMul, Nat.reduceLeDiff, ne_eq, not_false_eq_true, Int.reduceEq, Int.reduceLT, Int.reduceLE, Int.reduceNeg, Int.reduceToNat, Int.reduceGT, Int.reduceGE, Nat.reduceLT, Nat.lt_add_one, Nat.zero_lt_succ, Nat.succ_pos, Nat.zero_le, beq_self_eq_true, k_token_Pair_2, k_token_Pair_1, k_token_Pair_0]
  refine Cf.pu (Is_ok (by omega)) fun u1 => ?_
  cases t1 : isTok n with
  | false => simp (maxSteps := 4000000) only [vm, vl, Arg.get, cells, stor, boundO, resultsV, resV, partK, loadV, Vm.part, fillC, splice, reduceIte, reduceCtorEq, Nat.reduceEqDiff, Nat.reduceAdd, Nat.reduceSub, Nat.reduceMul, Nat.reduceLeDiff, ne_eq, not_false_eq_true, Int.reduceEq, Int.reduceLT, Int.reduceLE, Int.reduceNeg, Int.reduceToNat, Int.reduceGT, Int.reduceGE, Nat.reduceLT, Nat.lt_add_one, Nat.zero_lt_succ, Nat.succ_pos, Nat.zero_le, beq_self_eq_true, k_token_Pair_2, k_token_Pair_1, k_token_Pair_0, pairV, Bool.not_false]
  | true =>
    by_cases hp : pos 61 s < s.length
    case neg =>
      rw [if_neg hp]
      simp (maxSteps := 4000000) only [vm, vl, Arg.get, cells, stor, boundO, resultsV, resV, partK, loadV, Vm.part, fillC, splice, reduceIte, reduceCtorEq, Nat.reduceEqDiff, Nat.reduceAdd, Nat.reduceSub, Nat.reduceMul, Nat.reduceLeDiff, ne_eq, not_false_eq_true, Int.reduceEq, Int.reduceLT, Int.reduceLE, Int.reduceNeg, Int.reduceToNat, Int.reduceGT, Int.reduceGE, Nat.reduceLT, Nat.lt_add_one, Nat.zero_lt_succ, Nat.succ_pos, Nat.zero_le, beq_self_eq_true, k_token_Pair_2, k_token_Pair_1, k_token_Pair_0, pairV, Bool.not_true, Bool.not_false, hp, decide_false]
    rw [if_pos hp]
    simp (maxSteps := 4000000) only [vm, vl, Arg.get, cells, stor, boundO, resultsV, resV, partK, loadV, Vm.part, fillC, splice, reduceIte, reduceCtorEq, Nat.reduceEqDiff, Nat.reduceAdd, Nat.reduceSub, Nat.reduceMul, Nat.reduceLeDiff, ne_eq, not_false_eq_true, Int.reduceEq, Int.reduceLT, Int.reduceLE, Int.reduceNeg, Int.reduceToNat, Int.reduceGT, Int.reduceGE, Nat.reduceLT, Nat.lt_add_one, Nat.zero_lt_succ, Nat.succ_pos, Nat.zero_le, beq_self_eq_true, k_token_Pair_2, k_token_Pair_1, k_token_Pair_0, hp, decide_true, Bool.not_true]
    refine Cf.pu (Is_ok (by omega)) fun u2 => ?_
    cases t2 : isTok v with
    | true => simp (maxSteps := 4000000) only [vm, vl, Arg.get, cells, stor, boundO, resultsV, resV, partK, loadV, Vm.part, fillC, splice, reduceIte, reduceCtorEq, Nat.reduceEqDiff, Nat.reduceAdd, Nat.reduceSub, Nat.reduceMul, Nat.reduceLeDiff, ne_eq, not_false_eq_true, Int.reduceEq, Int.reduceLT, Int.reduceLE, Int.reduceNeg, Int.reduceToNat, Int.reduceGT, Int.reduceGE, Nat.reduceLT, Nat.lt_add_one, Nat.zero_lt_succ, Nat.succ_pos, Nat.zero_le, beq_self_eq_true, k_token_Pair_2, k_token_Pair_1, k_token_Pair_0, pairV]
    | false =>
      simp (maxSteps := 4000000) only [vm, vl, Arg.get, cells, stor, boundO, resultsV, resV, partK, loadV, Vm.part, fillC, splice, reduceIte, reduceCtorEq, Nat.reduceEqDiff, Nat.reduceAdd, Nat.reduceSub, Nat.reduceMul, Nat.reduceLeDiff, ne_eq, not_false_eq_true, Int.reduceEq, Int.reduceLT, Int.reduceLE, Int.reduceNeg, Int.reduceToNat, Int.reduceGT, Int.reduceGE, Nat.reduceLT, Nat.lt_add_one, Nat.zero_lt_succ, Nat.succ_pos, Nat.zero_le, beq_self_eq_true, k_token_Pair_2, k_token_Pair_1, k_token_Pair_0, k_token_Pair_1]
      refine Cf.pu (Unq_ok HU (by omega)) fun u3 => ?_
      cases t3 : (unqP v).2 with
      | false => simp (maxSteps := 4000000) only [vm, vl, Arg.get, cells, stor, boundO, resultsV, resV, partK, loadV, Vm.part, fillC, splice, reduceIte, reduceCtorEq, Nat.reduceEqDiff, Nat.reduceAdd, Nat.reduceSub, Nat.reduceMul, Nat.reduceLeDiff, ne_eq, not_false_eq_true, Int.reduceEq, Int.reduceLT, Int.reduceLE, Int.reduceNeg, Int.reduceToNat, Int.reduceGT, Int.reduceGE, Nat.reduceLT, Nat.lt_add_one, Nat.zero_lt_succ, Nat.succ_pos, Nat.zero_le, beq_self_eq_true, k_token_Pair_2, k_token_Pair_1, k_token_Pair_0, unqV, t3, Bool.not_false, pairV]
      | true => simp (maxSteps := 4000000) only [vm, vl, Arg.get, cells, stor, boundO, resultsV, resV, partK, loadV, Vm.part, fillC, splice, reduceIte, reduceCtorEq, Nat.reduceEqDiff, Nat.reduceAdd, Nat.reduceSub, Nat.reduceMul, Nat.reduceLeDiff, ne_eq, not_false_eq_true, Int.reduceEq, Int.reduceLT, Int.reduceLE, Int.reduceNeg, Int.reduceToNat, Int.reduceGT, Int.reduceGE, Nat.reduceLT, Nat.lt_add_one, Nat.zero_lt_succ, Nat.succ_pos, Nat.zero_le, beq_self_eq_true, k_token_Pair_2, k_token_Pair_1, k_token_Pair_0, unqV, t3, Bool.not_true, pairV, k_token_Pair_2]
end Go.Proofs.YtmfpmnfbcgchjaaDoor.Vh
