/- token.Split and the document's, on the small machine. -/
import Derived.Test.YtfihnnebffkbfaaDoorVRef1
set_option linter.unusedVariables false
set_option linter.unusedSimpArgs false
namespace Go.Proofs.YtfihnnebffkbfaaDoor.Vh
open Go.Vm Go.Vt
attribute [local congr] wi_congr wg_congr wgd_congr wb_congr wl_congr cf_congr
variable {L : FuncId → List V → V → Prop} {h : Heap}
theorem flat_strs (out : List Bs) : flat (out.map V.str) = out.map V.str := by
  induction out with
  | nil => rfl
  | cons a r ih => simp only [List.map_cons, flat, List.flatMap_cons, cells]; exact congrArg _ ih
theorem app_new {h : Heap} {x : Bs} : appV h 1 16 false .nsl (.sl 1 .full [.str x]) = some (.sl 1 (.tip h.length) [.str x], h ++ [.tip 1]) := rfl
theorem app_tip {h : Heap} {k : Nat} {out : List Bs} {x : Bs} (hb : h[k]? = some (.tip out.length)) (hr : out.length < 8000000000) :
    appV h 1 16 false (.sl 1 (.tip k) (out.map .str)) (.sl 1 .full [.str x]) = some (.sl 1 (.tip k) ((out ++ [x]).map .str), h.set k (.tip (out.length + 1))) := by
  have e1 : (out.map V.str ++ [V.str x]) = (out ++ [x]).map V.str := by simp
  have r : room ((out.map V.str).length + [V.str x].length) 16 = true := by simp [room]; omega
  have i : isTip h k (flat (out.map V.str)).length = true := by rw [flat_strs]; simp [isTip, hb]
  rw [flat_strs] at i
  simp only [appV, srcElems, if_true, Option.bind_some, r, i, Bool.and_self, e1, flat_strs]
  simp
/-- What stands on the heap while Split runs: the text, the list, the place; rows behind. -/
def SplitH (h h' : Heap) (s : Bs) (out : List Bs) (at_ : Int) : Prop :=
  ∃ lv t, h' = h ++ (O.box [.str s] :: .box [lv] :: .box [.int .i64 at_] :: t) ∧ ((out = [] ∧ lv = .nsl) ∨ (out ≠ [] ∧ ∃ j, lv = .sl 1 (.tip (h.length + (j + 3))) (out.map .str) ∧ t[j]? = some (.tip out.length)))
theorem end_ok {s own : Bs} {out : List Bs} {from_ to : Int} {h h' : Heap} (hs : s.length ≤ 8000000000) (h0 : 0 ≤ from_) (h1 : from_ ≤ to) (h2 : to ≤ s.length) (ho : out.length ≤ from_) (ho2 : out.length < 8000000000) (hown : (s.take to.toNat).drop from_.toNat = own)
    (H : SplitH h h' s out from_) {K : V → Heap → Prop} (hK : ∀ h'', SplitH h h'' s (flush out own) (to + 1) → K (.tup []) h'') :
    Cf F L i_token_Split_1 [.int .i64 to, .ptr h.length 0, .ptr (h.length + 2) 0, .ptr (h.length + 1) 0] h' K := by
  obtain ⟨lv, t, rfl, hl⟩ := H
  refine run_token_Split_1 ?_
  simp only [p_token_Split_1]
  have w := wrap64 (x := to + 1) (by omega) (by omega)
  have g1 : 0 ≤ from_ := h0
  have g2 : 0 ≤ to := by omega
  have g3 : from_.toNat ≤ to.toNat := by omega
  have g4 : to.toNat ≤ s.length := by omega
  have g5 : own.length < 9223372036854775807 := by rw [← hown]; simp; omega
  simp (maxSteps := 4000000) only [vm, vl, Arg.get, cells, stor, boundO, resultsV, resV, partK, loadV, Vm.part, fillC, splice, reduceIte, reduceCtorEq, Nat.reduceEqDiff, Nat.reduceAdd, Nat.reduceSub, Nat.reduceMul, Nat.reduceLeDiff, ne_eq, not_false_eq_true, Int.reduceEq, Int.reduceLT, Int.reduceLE, Int.reduceNeg, Int.reduceToNat, Int.reduceGT, Int.reduceGE, Nat.reduceLT, Nat.lt_add_one, Nat.zero_lt_succ, Nat.succ_pos, Nat.zero_le, beq_self_eq_true, k_token_Split_1_0, g1, g2, g3, g4, hown, w]
  refine Cf.pu (Trim_ok g5) fun t' => ?_
  by_cases he : trim own = []
  · have q : (trim own == []) = true := by rw [he]; rfl
    have ef : flush out own = out := by simp [flush, he]
    rw [ef] at hK
    simp (maxSteps := 4000000) only [vm, vl, Arg.get, cells, stor, boundO, resultsV, resV, partK, loadV, Vm.part, fillC, splice, reduceIte, reduceCtorEq, Nat.reduceEqDiff, Nat.reduceAdd, Nat.reduceSub, Nat.reduceMul, Nat.reduceLeDiff, ne_eq, not_false_eq_true, Int.reduceEq, Int.reduceLT, Int.reduceLE, Int.reduceNeg, Int.reduceToNat, Int.reduceGT, Int.reduceGE, Nat.reduceLT, Nat.lt_add_one, Nat.zero_lt_succ, Nat.succ_pos, Nat.zero_le, beq_self_eq_true, k_token_Split_1_0, q, w]
    refine hK _ ⟨lv, t ++ t', by simp, hl.imp_right fun ⟨hne, j, e1, e2⟩ => ⟨hne, j, e1, get_old e2⟩⟩
  · have q : (trim own == []) = false := by simpa using he
    have ef : flush out own = out ++ [trim own] := by simp [flush, he]
    rw [ef] at hK
    rcases hl with ⟨rfl, rfl⟩ | ⟨hne, j, rfl, hj⟩
    · simp (maxSteps := 4000000) only [vm, vl, Arg.get, cells, stor, boundO, resultsV, resV, partK, loadV, Vm.part, fillC, splice, reduceIte, reduceCtorEq, Nat.reduceEqDiff, Nat.reduceAdd, Nat.reduceSub, Nat.reduceMul, Nat.reduceLeDiff, ne_eq, not_false_eq_true, Int.reduceEq, Int.reduceLT, Int.reduceLE, Int.reduceNeg, Int.reduceToNat, Int.reduceGT, Int.reduceGE, Nat.reduceLT, Nat.lt_add_one, Nat.zero_lt_succ, Nat.succ_pos, Nat.zero_le, beq_self_eq_true, k_token_Split_1_0, q, w, app_new]
      refine hK _ ⟨_, t ++ (t' ++ [.tip 1]), rfl, .inr ⟨by simp, t.length + t'.length, ?_, ?_⟩⟩
      · simp [Nat.add_assoc]
      · rw [← List.append_assoc, List.getElem?_append_right (by simp)]
        simp
    · have hj' : (h ++ (O.box [.str s] :: .box [V.sl 1 (.tip (h.length + (j + 3))) (out.map V.str)] :: .box [.int .i64 from_] :: (t ++ t')))[h.length + (j + 3)]? = some (.tip out.length) := by
        rw [get_new]
        simp only [List.getElem?_cons_succ]
        exact get_old hj
      have ha := app_tip (x := trim own) hj' ho2
      simp (maxSteps := 4000000) only [vm, vl, Arg.get, cells, stor, boundO, resultsV, resV, partK, loadV, Vm.part, fillC, splice, reduceIte, reduceCtorEq, Nat.reduceEqDiff, Nat.reduceAdd, Nat.reduceSub, Nat.reduceMul, Nat.reduceLeDiff, ne_eq, not_false_eq_true, Int.reduceEq, Int.reduceLT, Int.reduceLE, Int.reduceNeg, Int.reduceToNat, Int.reduceGT, Int.reduceGE, Nat.reduceLT, Nat.lt_add_one, Nat.zero_lt_succ, Nat.succ_pos, Nat.zero_le, beq_self_eq_true, k_token_Split_1_0, q, w, ha]
      refine hK _ ⟨_, _, rfl, .inr ⟨by simp, j, rfl, ?_⟩⟩
      have hjl : j < (t ++ t').length := by
        have := (List.getElem?_eq_some_iff.1 hj).1
        simp; omega
      rw [List.getElem?_set_self hjl]
      simp
theorem flush_nil (out : List Bs) : flush out [] = out := by simp [flush, trim, trimR, trimL]
theorem splitG_step (c : UInt8) (r own : Bs) (q : Bool) (out : List Bs) : splitG (c :: r) own q out =
    if c = 34 then splitG r (own ++ [c]) (!q) out
    else if (q && c == 92) = true then (match r with | [] => none | d :: r' => splitG r' (own ++ [c, d]) q out)
    else if (!q && c == 44) = true then splitG r [] q (flush out own)
    else splitG r (own ++ [c]) q out := by
  cases r with
  | cons d r => rw [splitG]
  | nil =>
    by_cases h1 : c = 34
    · subst h1; cases q <;> simp [splitG]
    · cases q
      · by_cases h2 : c = 44 <;> simp [splitG, h1, h2, flush_nil]
      · by_cases h2 : c = 92 <;> simp [splitG, h1, h2]
theorem flush_len (out : List Bs) (own : Bs) : (flush out own).length ≤ out.length + 1 := by
  unfold flush; split <;> simp
theorem own_next {s : Bs} {i f : Nat} {c : UInt8} (hf : f ≤ i) (hl : i < s.length) (hd : s.drop i = c :: s.drop (i + 1)) : (s.take (i + 1)).drop f = (s.take i).drop f ++ [c] := by
  rw [take_succ hl hd, List.drop_append_of_le_length (by simp; omega)]
theorem own_none (s : Bs) (i : Nat) : (s.take i).drop i = [] := List.drop_eq_nil_of_le (by simp [List.length_take]; omega)
def fullV (out : List Bs) : V := if out = [] then .nsl else .sl 1 .full (out.map .str)
def splitV : Option (List Bs) → V
  | none => .tup [.nsl, .bool false]
  | some out => .tup [fullV out, .bool true]
theorem slsl_full {out : List Bs} (hne : out ≠ []) {o : Own} : slslV 1 (.sl 1 o (out.map V.str)) 0 (some out.length) (some out.length) = some (.sl 1 .full (out.map V.str)) := by
  have : List.take out.length (out.map V.str) = out.map V.str := List.take_of_length_le (by simp)
  simp [slslV, this]
theorem u34 {c : UInt8} : ((c.toNat : Int) = 34) = (c = 34) := propext ⟨fun h => by
  have : c.toNat = 34 := by omega
  exact UInt8.toNat_inj.1 (by simpa using this), fun h => by subst h; rfl⟩
theorem u92 {c : UInt8} : ((c.toNat : Int) = 92) = (c = 92) := propext ⟨fun h => by
  have : c.toNat = 92 := by omega
  exact UInt8.toNat_inj.1 (by simpa using this), fun h => by subst h; rfl⟩
theorem u44 {c : UInt8} : ((c.toNat : Int) = 44) = (c = 44) := propext ⟨fun h => by
  have : c.toNat = 44 := by omega
  exact UInt8.toNat_inj.1 (by simpa using this), fun h => by subst h; rfl⟩
def SplitI (h : Heap) (s : Bs) (n : Nat) (e : Env) (h' : Heap) : Prop :=
  ∃ (i f : Nat) (q : Bool) (out : List Bs), n = s.length + 1 - i ∧ f ≤ i ∧ f ≤ s.length ∧ out.length ≤ f ∧ SplitH h h' s out f ∧
    e 1 = .ptr h.length 0 ∧ e 4 = .ptr (h.length + 1) 0 ∧ e 6 = .fn i_token_Split_1 [.ptr h.length 0, .ptr (h.length + 2) 0, .ptr (h.length + 1) 0] ∧ e 7 = .bool q ∧ e 8 = .int .i64 i ∧
    ((i ≤ s.length ∧ split s = splitG (s.drop i) ((s.take i).drop f) q out) ∨ (i = s.length + 1 ∧ q = true ∧ split s = none))
theorem Split_ok {s : Bs} (hs : s.length < 8000000000) : Cf F L i_token_Split [.str s] h (Pu h (splitV (split s))) := by
  refine run_token_Split ?_
  simp only [p_token_Split]
  simp (maxSteps := 4000000) only [vm, vl, Arg.get, cells, stor, boundO, resultsV, resV, partK, loadV, Vm.part, fillC, splice, reduceIte, reduceCtorEq, Nat.reduceEqDiff, Nat.reduceAdd, Nat.reduceSub, Nat.reduceMul, Nat.reduceLeDiff, ne_eq, not_false_eq_true, Int.reduceEq, Int.reduceLT, Int.reduceLE, Int.reduceNeg, Int.reduceToNat, Int.reduceGT, Int.reduceGE, Nat.reduceLT, Nat.lt_add_one, Nat.zero_lt_succ, Nat.succ_pos, Nat.zero_le, beq_self_eq_true, k_token_Split_1, k_token_Split_0, k_token_Split_3, k_token_Split_2]
  refine l_token_Split_0 (SplitI h s) ?_ (n := s.length + 1) ⟨0, 0, false, [], by simp, by simp, by simp, by simp, ⟨_, _, rfl, .inl ⟨rfl, rfl⟩⟩, rfl, rfl, rfl, rfl, rfl, .inl ⟨by simp, by simp [split]⟩⟩
  rintro n e h' ⟨i, f, q, out, rfl, hf, hfs, hol, H, e1, e4, e6, e7, e8, hst⟩
  simp only [b_token_Split_0]
  have hb1 : h'[h.length]? = some (.box [.str s]) := by
    obtain ⟨lv, t, rfl, _⟩ := H
    rw [get_new0]; rfl
  rcases hst with ⟨hi, hsp⟩ | ⟨rfl, rfl, hsp⟩
  · rcases str_at hi with ⟨hn, rfl, hd⟩ | ⟨c, hl, hl', hc, hd⟩
    · cases q with
      | true =>
        have : split s = none := by rw [hsp, hd]; rfl
        simp (maxSteps := 4000000) only [vm, vl, Arg.get, cells, stor, boundO, resultsV, resV, partK, loadV, Vm.part, fillC, splice, reduceIte, reduceCtorEq, Nat.reduceEqDiff, Nat.reduceAdd, Nat.reduceSub, Nat.reduceMul, Nat.reduceLeDiff, ne_eq, not_false_eq_true, Int.reduceEq, Int.reduceLT, Int.reduceLE, Int.reduceNeg, Int.reduceToNat, Int.reduceGT, Int.reduceGE, Nat.reduceLT, Nat.lt_add_one, Nat.zero_lt_succ, Nat.succ_pos, Nat.zero_le, beq_self_eq_true, k_token_Split_1, k_token_Split_0, k_token_Split_3, k_token_Split_2, e1, e4, e6, e7, e8, hb1, hn]
        rw [this]; exact ⟨rfl, by obtain ⟨lv, t, rfl, _⟩ := H; exact ⟨_, rfl⟩⟩
      | false =>
        have hres : split s = some (flush out ((s.take s.length).drop f)) := by rw [hsp, hd]; rfl
        simp (maxSteps := 4000000) only [vm, vl, Arg.get, cells, stor, boundO, resultsV, resV, partK, loadV, Vm.part, fillC, splice, reduceIte, reduceCtorEq, Nat.reduceEqDiff, Nat.reduceAdd, Nat.reduceSub, Nat.reduceMul, Nat.reduceLeDiff, ne_eq, not_false_eq_true, Int.reduceEq, Int.reduceLT, Int.reduceLE, Int.reduceNeg, Int.reduceToNat, Int.reduceGT, Int.reduceGE, Nat.reduceLT, Nat.lt_add_one, Nat.zero_lt_succ, Nat.succ_pos, Nat.zero_le, beq_self_eq_true, k_token_Split_1, k_token_Split_0, k_token_Split_3, k_token_Split_2, e1, e4, e6, e7, e8, hb1, hn]
        refine end_ok (own := (s.take s.length).drop f) (from_ := f) (by omega) (by omega) (by omega) (by omega) (by omega) (by omega) (by simp) H fun h'' H'' => ?_
        rw [hres]
        generalize flush out ((s.take s.length).drop f) = fo at *
        obtain ⟨lv, t, rfl, hlv⟩ := H''
        rcases hlv with ⟨rfl, rfl⟩ | ⟨hne, j, rfl, hj⟩
        · have e0 : slslV 1 V.nsl 0 (some 0) (some 0) = some .nsl := rfl
          simp (maxSteps := 4000000) only [vm, vl, Arg.get, cells, stor, boundO, resultsV, resV, partK, loadV, Vm.part, fillC, splice, reduceIte, reduceCtorEq, Nat.reduceEqDiff, Nat.reduceAdd, Nat.reduceSub, Nat.reduceMul, Nat.reduceLeDiff, ne_eq, not_false_eq_true, Int.reduceEq, Int.reduceLT, Int.reduceLE, Int.reduceNeg, Int.reduceToNat, Int.reduceGT, Int.reduceGE, Nat.reduceLT, Nat.lt_add_one, Nat.zero_lt_succ, Nat.succ_pos, Nat.zero_le, beq_self_eq_true, k_token_Split_1, k_token_Split_0, k_token_Split_3, k_token_Split_2, e0]
          rfl
        · have e0 := slsl_full hne (o := .tip (h.length + (j + 3)))
          simp (maxSteps := 4000000) only [vm, vl, Arg.get, cells, stor, boundO, resultsV, resV, partK, loadV, Vm.part, fillC, splice, reduceIte, reduceCtorEq, Nat.reduceEqDiff, Nat.reduceAdd, Nat.reduceSub, Nat.reduceMul, Nat.reduceLeDiff, ne_eq, not_false_eq_true, Int.reduceEq, Int.reduceLT, Int.reduceLE, Int.reduceNeg, Int.reduceToNat, Int.reduceGT, Int.reduceGE, Nat.reduceLT, Nat.lt_add_one, Nat.zero_lt_succ, Nat.succ_pos, Nat.zero_le, beq_self_eq_true, k_token_Split_1, k_token_Split_0, k_token_Split_3, k_token_Split_2, e0]
          simp [splitV, fullV, hne]
    · have w := wrap64 (x := (i : Int) + 1) (by omega) (by omega)
      rw [hd, splitG_step] at hsp
      have own1 := own_next hf hl' hd
      have k1 : ¬ (92 : UInt8) = 34 := by decide
      have k2 : ¬ (44 : UInt8) = 34 := by decide
      by_cases c1 : c = 34
      · simp (maxSteps := 4000000) only [vm, vl, Arg.get, cells, stor, boundO, resultsV, resV, partK, loadV, Vm.part, fillC, splice, reduceIte, reduceCtorEq, Nat.reduceEqDiff, Nat.reduceAdd, Nat.reduceSub, Nat.reduceMul, Nat.reduceLeDiff, ne_eq, not_false_eq_true, Int.reduceEq, Int.reduceLT, Int.reduceLE, Int.reduceNeg, Int.reduceToNat, Int.reduceGT, Int.reduceGE, Nat.reduceLT, Nat.lt_add_one, Nat.zero_lt_succ, Nat.succ_pos, Nat.zero_le, beq_self_eq_true, k_token_Split_1, k_token_Split_0, k_token_Split_3, k_token_Split_2, e1, e4, e6, e7, e8, hb1, hl, hl', hc, u34, u92, u44, w, c1]
        refine ⟨s.length + 1 - (i + 1), by omega, i + 1, f, !q, out, rfl, by omega, hfs, hol, H, by simp [upd, e1], by simp [upd, e4], by simp [upd, e6], by simp [upd], by simp [upd], .inl ⟨hl', ?_⟩⟩
        rw [hsp, if_pos c1, own1]
      rw [if_neg c1] at hsp
      cases q with
      | true =>
        by_cases c2 : c = 92
        · have w2 := wrap64 (x := (i : Int) + 1 + 1) (by omega) (by omega)
          simp (maxSteps := 4000000) only [vm, vl, Arg.get, cells, stor, boundO, resultsV, resV, partK, loadV, Vm.part, fillC, splice, reduceIte, reduceCtorEq, Nat.reduceEqDiff, Nat.reduceAdd, Nat.reduceSub, Nat.reduceMul, Nat.reduceLeDiff, ne_eq, not_false_eq_true, Int.reduceEq, Int.reduceLT, Int.reduceLE, Int.reduceNeg, Int.reduceToNat, Int.reduceGT, Int.reduceGE, Nat.reduceLT, Nat.lt_add_one, Nat.zero_lt_succ, Nat.succ_pos, Nat.zero_le, beq_self_eq_true, k_token_Split_1, k_token_Split_0, k_token_Split_3, k_token_Split_2, e1, e4, e6, e7, e8, hb1, hl, hl', hc, u34, u92, u44, w, c1, c2, w2, k1]
          rw [if_pos (by simp [c2])] at hsp
          refine ⟨s.length + 1 - (i + 2), by omega, i + 2, f, true, out, rfl, by omega, hfs, hol, H, by simp [upd, e1], by simp [upd, e4], by simp [upd, e6], by simp [upd, e7], by simp [upd]; omega, ?_⟩
          rcases str_at (s := s) (i := i + 1) (by omega) with ⟨_, hn, hd1⟩ | ⟨d, _, hl1, _, hd1⟩
          · rw [hd1] at hsp
            exact .inr ⟨by omega, rfl, hsp⟩
          · rw [hd1] at hsp
            refine .inl ⟨by omega, ?_⟩
            rw [hsp, own_next (by omega) hl1 hd1, own1]
            simp
        · simp (maxSteps := 4000000) only [vm, vl, Arg.get, cells, stor, boundO, resultsV, resV, partK, loadV, Vm.part, fillC, splice, reduceIte, reduceCtorEq, Nat.reduceEqDiff, Nat.reduceAdd, Nat.reduceSub, Nat.reduceMul, Nat.reduceLeDiff, ne_eq, not_false_eq_true, Int.reduceEq, Int.reduceLT, Int.reduceLE, Int.reduceNeg, Int.reduceToNat, Int.reduceGT, Int.reduceGE, Nat.reduceLT, Nat.lt_add_one, Nat.zero_lt_succ, Nat.succ_pos, Nat.zero_le, beq_self_eq_true, k_token_Split_1, k_token_Split_0, k_token_Split_3, k_token_Split_2, e1, e4, e6, e7, e8, hb1, hl, hl', hc, u34, u92, u44, w, c1, c2]
          rw [if_neg (by simp [c2]), if_neg (by simp)] at hsp
          refine ⟨s.length + 1 - (i + 1), by omega, i + 1, f, true, out, rfl, by omega, hfs, hol, H, by simp [upd, e1], by simp [upd, e4], by simp [upd, e6], by simp [upd, e7], by simp [upd], .inl ⟨hl', ?_⟩⟩
          rw [hsp, own1]
      | false =>
        rw [if_neg (by simp)] at hsp
        by_cases c2 : c = 44
        · rw [if_pos (by simp [c2])] at hsp
          simp (maxSteps := 4000000) only [vm, vl, Arg.get, cells, stor, boundO, resultsV, resV, partK, loadV, Vm.part, fillC, splice, reduceIte, reduceCtorEq, Nat.reduceEqDiff, Nat.reduceAdd, Nat.reduceSub, Nat.reduceMul, Nat.reduceLeDiff, ne_eq, not_false_eq_true, Int.reduceEq, Int.reduceLT, Int.reduceLE, Int.reduceNeg, Int.reduceToNat, Int.reduceGT, Int.reduceGE, Nat.reduceLT, Nat.lt_add_one, Nat.zero_lt_succ, Nat.succ_pos, Nat.zero_le, beq_self_eq_true, k_token_Split_1, k_token_Split_0, k_token_Split_3, k_token_Split_2, e1, e4, e6, e7, e8, hb1, hl, hl', hc, u34, u92, u44, w, c1, c2, k2]
          refine end_ok (own := (s.take i).drop f) (from_ := f) (to := (i : Int)) (by omega) (by omega) (by omega) (by omega) (by omega) (by omega) (by simp) H fun h'' H'' => ?_
          refine ⟨s.length + 1 - (i + 1), by omega, i + 1, i + 1, false, flush out ((s.take i).drop f), rfl, by omega, hl', ?_, by simpa using H'', by simp [upd, e1], by simp [upd, e4], by simp [upd, e6], by simp [upd, e7], by simp [upd], .inl ⟨hl', ?_⟩⟩
          · have := flush_len out ((s.take i).drop f); omega
          · rw [hsp, own_none]
        · rw [if_neg (by simp [c2])] at hsp
          simp (maxSteps := 4000000) only [vm, vl, Arg.get, cells, stor, boundO, resultsV, resV, partK, loadV, Vm.part, fillC, splice, reduceIte, reduceCtorEq, Nat.reduceEqDiff, Nat.reduceAdd, Nat.reduceSub, Nat.reduceMul, Nat.reduceLeDiff, ne_eq, not_false_eq_true, Int.reduceEq, Int.reduceLT, Int.reduceLE, Int.reduceNeg, Int.reduceToNat, Int.reduceGT, Int.reduceGE, Nat.reduceLT, Nat.lt_add_one, Nat.zero_lt_succ, Nat.succ_pos, Nat.zero_le, beq_self_eq_true, k_token_Split_1, k_token_Split_0, k_token_Split_3, k_token_Split_2, e1, e4, e6, e7, e8, hb1, hl, hl', hc, u34, u92, u44, w, c1, c2]
          refine ⟨s.length + 1 - (i + 1), by omega, i + 1, f, false, out, rfl, by omega, hfs, hol, H, by simp [upd, e1], by simp [upd, e4], by simp [upd, e6], by simp [upd, e7], by simp [upd], .inl ⟨hl', ?_⟩⟩
          rw [hsp, own1]
  · have hn : ¬ ((s.length + 1 : Nat) : Int) < s.length := by omega
    simp (maxSteps := 4000000) only [vm, vl, Arg.get, cells, stor, boundO, resultsV, resV, partK, loadV, Vm.part, fillC, splice, reduceIte, reduceCtorEq, Nat.reduceEqDiff, Nat.reduceAdd, Nat.reduceSub, Nat.reduceMul, Nat.reduceLeDiff, ne_eq, not_false_eq_true, Int.reduceEq, Int.reduceLT, Int.reduceLE, Int.reduceNeg, Int.reduceToNat, Int.reduceGT, Int.reduceGE, Nat.reduceLT, Nat.lt_add_one, Nat.zero_lt_succ, Nat.succ_pos, Nat.zero_le, beq_self_eq_true, k_token_Split_1, k_token_Split_0, k_token_Split_3, k_token_Split_2, e1, e4, e6, e7, e8, hb1, hn, hsp]
    exact ⟨rfl, by obtain ⟨lv, t, rfl, _⟩ := H; exact ⟨_, rfl⟩⟩
end Go.Proofs.YtfihnnebffkbfaaDoor.Vh
