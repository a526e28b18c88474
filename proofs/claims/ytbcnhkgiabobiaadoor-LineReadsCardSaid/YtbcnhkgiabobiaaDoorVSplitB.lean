/- strings.Split at a blank, and package line's words, on the small machine. -/
import Derived.Test.YtbcnhkgiabobiaaDoorVCutP
import Derived.Test.YtbcnhkgiabobiaaDoorVmGrow
set_option linter.unusedVariables false
set_option linter.unusedSimpArgs false
namespace Go.Proofs.YtbcnhkgiabobiaaDoor.Vh
open Go.Vm Go.Vt
attribute [local congr] wi_congr wg_congr wgd_congr wb_congr wl_congr cf_congr
variable {L : FuncId → List V → V → Prop} {h : Heap}
def splitB : Bs → List Bs
  | [] => [[]]
  | c :: r => if c = 32 then [] :: splitB r else match splitB r with
    | w :: ws => (c :: w) :: ws
    | [] => [[c]]
theorem splitB_ne (s : Bs) : splitB s ≠ [] := by
  cases s with
  | nil => simp [splitB]
  | cons c r => unfold splitB; split; simp; split <;> simp
theorem splitB_len : ∀ s : Bs, (splitB s).length = s.count 32 + 1
  | [] => rfl
  | c :: r => by
    have ih := splitB_len r
    unfold splitB
    by_cases h : c = 32
    · rw [if_pos h, h, List.length_cons, ih, List.count_cons_self]
    · rw [if_neg h, List.count_cons_of_ne h]
      cases hs : splitB r with
      | nil => exact absurd hs (splitB_ne r)
      | cons w ws => rw [hs] at ih; simpa using ih
theorem splitB_step : ∀ {s : Bs}, pos 32 s < s.length → splitB s = s.take (pos 32 s) :: splitB (s.drop (pos 32 s + 1))
  | [], h => by simp at h
  | c :: r, h => by
    rw [pos_cons] at h ⊢
    by_cases hc : c = 32
    · rw [if_pos hc] at h ⊢
      rw [splitB, if_pos hc]; rfl
    · rw [if_neg hc] at h ⊢
      have ih := splitB_step (s := r) (by simpa using h)
      rw [splitB, if_neg hc, ih]; rfl
theorem splitB_one : ∀ {s : Bs}, ¬ pos 32 s < s.length → splitB s = [s]
  | [], _ => rfl
  | c :: r, h => by
    rw [pos_cons] at h
    by_cases hc : c = 32
    · rw [if_pos hc] at h; simp at h
    · rw [if_neg hc] at h
      have ih := splitB_one (s := r) (by simpa using h)
      rw [splitB, if_neg hc, ih]
def CountOk (L : FuncId → List V → V → Prop) : Prop := ∀ {s : Bs} {c : UInt8} {h : Heap}, Cf F L i_strings_Count [.str s, .str [c]] h (Pu h (.int .i64 ((s.count c : Nat) : Int)))
def LCount : FuncId → List V → V → Prop := fun f args v => f = i_strings_Count ∧ ∃ (s : Bs) (c : UInt8), args = [.str s, .str [c]] ∧ v = .int .i64 ((s.count c : Nat) : Int)
theorem count_at (w0 : World) : LibAt Tryd.prog w0 LCount := by
  rintro f args v ⟨rfl, s, c, rfl, rfl⟩
  refine ⟨by kernel_rfl, good_below fun B G h w vs hr hb hv => ?_⟩
  obtain ⟨a, b, rfl, ha, hs⟩ := rvs_two hv
  cases hs; cases ha
  refine (Tryd.strings_Count_one ⟨s.toArray⟩ c w).mono fun e w' ⟨h1, h2⟩ => ?_
  subst h2
  exact ⟨_, h1, .int .i64 _, Go.RowKit.Below.refl ..⟩
theorem countOk {L : FuncId → List V → V → Prop} (hL : ∀ f a v, LCount f a v → L f a v) : CountOk L :=
  wlib (hL _ _ _ ⟨rfl, _, _, rfl, rfl⟩) ⟨rfl, [], by simp⟩
theorem SIndex_ok {s : Bs} {c : UInt8} (HI : IndexOk L) : Cf F L i_strings_Index [.str s, .str [c]] h (Pu h (.int .i64 (Go.Lib.indexByte s c))) := by
  refine run_strings_Index ?_
  simp only [p_strings_Index]
  refine Cf.pu HI fun u => ?_
  simp (maxSteps := 4000000) only [vm, vl, Arg.get, cells, stor, boundO, resultsV, resV, partK, loadV, Vm.part, fillC, splice, reduceIte, reduceCtorEq, Nat.reduceEqDiff, Nat.reduceAdd, Nat.reduceSub, Nat.reduceMul, Nat.reduceLeDiff, ne_eq, not_false_eq_true, Int.reduceEq, Int.reduceLT, Int.reduceLE, Int.reduceNeg, Int.reduceToNat, Int.reduceGT, Int.reduceGE, Nat.reduceLT, Nat.lt_add_one, Nat.zero_lt_succ, Nat.succ_pos, Nat.zero_le, beq_self_eq_true]
/-- What stands in the box: the first words, and empty texts. -/
def wbox (W : List Bs) (i : Nat) : List V := (W.take i).map .str ++ List.replicate (W.length - i) (.str [])
theorem wbox_len {W : List Bs} {i : Nat} (hi : i ≤ W.length) : (wbox W i).length = W.length := by
  unfold wbox; rw [List.length_append, List.length_map, List.length_take, List.length_replicate]; omega
theorem wbox_put {W : List Bs} {i : Nat} {x : Bs} (hi : i < W.length) (hx : W.getD i [] = x) : (wbox W i).take i ++ (V.str x :: (wbox W i).drop (i + 1)) = wbox W (i + 1) := by
  have e : W.length - i = (W.length - (i + 1)) + 1 := by omega
  have lt : ((W.take i).map V.str).length = i := by rw [List.length_map, List.length_take]; omega
  have et : W.take (i + 1) = W.take i ++ [x] := by
    rw [List.take_add_one, List.getElem?_eq_getElem hi, ← hx, List.getD_eq_getElem?_getD, List.getElem?_eq_getElem hi]; rfl
  unfold wbox
  rw [List.take_left' lt, List.drop_append, lt, List.drop_eq_nil_of_le (by omega), List.nil_append, show i + 1 - i = 1 by omega, e, List.replicate_succ, List.drop_succ_cons, List.drop_zero, et, List.map_append, List.append_assoc]
  rfl
theorem wbox_full (W : List Bs) : wbox W W.length = W.map .str := by unfold wbox; simp
/-- A list in a box of its own. -/
def HslP (h : Heap) (W : List Bs) (v : V) (h' : Heap) : Prop := ∃ t u, v = .hsl 1 (h.length + t.length) W.length ∧ h' = h ++ (t ++ (O.box (W.map .str) :: u))
theorem genSplit_ok (HI : IndexOk L) (HC : CountOk L) {s : Bs} (hs : s.length ≤ 1000000) : Cf F L i_strings_genSplit [.str s, .str [32], .int .i64 0, .int .i64 (-1)] h (HslP h (splitB s)) := by
  refine run_strings_genSplit ?_
  simp only [p_strings_genSplit]
  
  have sl := splitB_len s
  have cl : s.count 32 ≤ s.length := List.count_le_length
  have HC' := fun hh => HC (s := s) (c := 32) (h := hh)
  generalize hW : splitB s = W at *
  have e1 : (([32] : Bs) == []) = false := rfl
  have w1 : IntKind.i64.wrap (((s.count 32 : Nat) : Int) + 1) = (W.length : Int) := by rw [wrap64 (by omega) (by omega)]; omega
  have w2 : IntKind.i64.wrap ((s.length : Int) + 1) = (s.length : Int) + 1 := wrap64 (by omega) (by omega)
  have w3 : IntKind.i64.wrap ((W.length : Int) - 1) = ((W.length - 1 : Nat) : Int) := by rw [wrap64 (by omega) (by omega)]; omega
  have mn : min (W.length : Int) ((s.length : Int) + 1) = W.length := by omega
  have rm : room W.length 16 = true := by unfold room; rw [decide_eq_true_eq]; omega
  have rep : (List.replicate W.length [V.str []]).flatten = wbox W 0 := by
    unfold wbox; simp
  simp (maxSteps := 4000000) only [vm, vl, Arg.get, cells, stor, boundO, resultsV, resV, partK, loadV, Vm.part, fillC, splice, reduceIte, reduceCtorEq, Nat.reduceEqDiff, Nat.reduceAdd, Nat.reduceSub, Nat.reduceMul, Nat.reduceLeDiff, ne_eq, not_false_eq_true, Int.reduceEq, Int.reduceLT, Int.reduceLE, Int.reduceNeg, Int.reduceToNat, Int.reduceGT, Int.reduceGE, Nat.reduceLT, Nat.lt_add_one, Nat.zero_lt_succ, Nat.succ_pos, Nat.zero_le, beq_self_eq_true, e1, decide_true, decide_false, k_strings_genSplit_0, k_strings_genSplit_1]
  refine Cf.pu (HC' _) fun u => ?_
  have mk : ∀ (K : V → Heap → Prop) (hh : Heap), wi F L (.mksl 1 16 [.str []] (.c (.int .i64 (W.length : Int))) (.c (.int .i64 (W.length : Int)))) E0 hh K = K (.hsl 1 hh.length W.length) (hh ++ [O.box (wbox W 0)]) := by
    intro K hh
    have : stepI (.mksl 1 16 [.str []] (.c (.int .i64 (W.length : Int))) (.c (.int .i64 (W.length : Int)))) E0 hh = some (.hsl 1 hh.length W.length, hh ++ [O.box (wbox W 0)]) := by
      simp only [stepI, Arg.get]
      rw [if_pos ⟨by omega, Int.le_refl _, by rw [Int.toNat_natCast]; exact rm⟩]
      simp only [Int.toNat_natCast, rep]
    rw [wi_mksl, this]
  simp (maxSteps := 4000000) only [vm, vl, Arg.get, cells, stor, boundO, resultsV, resV, partK, loadV, Vm.part, fillC, splice, reduceIte, reduceCtorEq, Nat.reduceEqDiff, Nat.reduceAdd, Nat.reduceSub, Nat.reduceMul, Nat.reduceLeDiff, ne_eq, not_false_eq_true, Int.reduceEq, Int.reduceLT, Int.reduceLE, Int.reduceNeg, Int.reduceToNat, Int.reduceGT, Int.reduceGE, Nat.reduceLT, Nat.lt_add_one, Nat.zero_lt_succ, Nat.succ_pos, Nat.zero_le, beq_self_eq_true, w1, w2, w3, mn, mn2, k_strings_genSplit_2, mk]
  refine l_strings_genSplit_0 (fun n e h' => ∃ (i : Nat) (si : Bs) (t : Heap), n = W.length - i ∧ i + 1 ≤ W.length ∧ splitB si = W.drop i ∧ si.length ≤ 1000000 ∧ e 0 = .str si ∧ e 1 = .str [32] ∧ e 2 = .int .i64 0 ∧ e 3 = .int .i64 ((W.length - 1 : Nat) : Int) ∧ e 9 = .hsl 1 (h.length + u.length) W.length ∧ e 10 = .int .i64 i ∧ h' = h ++ (u ++ (O.box (wbox W i) :: t))) ?_ (n := W.length) ⟨0, s, [], by simp, by omega, by rw [hW]; rfl, hs, rfl, rfl, rfl, rfl, by simp [upd], rfl, rfl⟩
  rintro n e h' ⟨i, si, t, rfl, hi, hsi, hl, e0, e1', e2, e3, e9, e10, rfl⟩
  simp only [b_strings_genSplit_0]
  have hx : ∀ x, splitB si = x → W.getD i [] = x.getD 0 [] := by
    rintro x rfl
    rw [hsi]
    simp [List.getD_eq_getElem?_getD]
  have wl := wbox_len (W := W) (i := i) (by omega)
  have z0 : (0 : Int) ≤ i := by omega
  have dl : (W.drop i).length = W.length - i := List.length_drop
  have w4 : IntKind.i64.wrap ((i : Int) + 1) = ((i + 1 : Nat) : Int) := by rw [wrap64 (by omega) (by omega)]; omega
  have li : i < W.length := by omega
  have li1 : i + 1 ≤ W.length := by omega
  by_cases c : i < W.length - 1
  · have c' : (i : Int) < ((W.length - 1 : Nat) : Int) := by omega
    have hp : pos 32 si < si.length := Classical.byContradiction fun hc => by
      rw [splitB_one hc] at hsi
      rw [← hsi] at dl
      simp at dl; omega
    have st := splitB_step hp
    have gx : W.getD i [] = si.take (pos 32 si) := hx _ st
    have pt := wbox_put (x := si.take (pos 32 si)) li gx
    have nx : splitB (si.drop (pos 32 si + 1)) = W.drop (i + 1) := by
      have : W.drop (i + 1) = (W.drop i).drop 1 := by rw [List.drop_drop]
      rw [this, ← hsi, st]; rfl
    have IX := fun hh => SIndex_ok (L := L) (h := hh) (s := si) (c := 32) HI
    rw [indexByte_pos, if_pos hp] at IX
    have l2 : (si.drop (pos 32 si + 1)).length ≤ 1000000 := by rw [List.length_drop]; omega
    have c1 : ¬ ((pos 32 si : Nat) : Int) < 0 := by omega
    have c2 : IntKind.i64.wrap (((pos 32 si : Nat) : Int) + 0) = ((pos 32 si : Nat) : Int) := by rw [Int.add_zero]; exact wrap64 (by omega) (by omega)
    have c3 : IntKind.i64.wrap (((pos 32 si : Nat) : Int) + 1) = ((pos 32 si + 1 : Nat) : Int) := by rw [wrap64 (by omega) (by omega)]; omega
    have c4 : (0 : Int) ≤ ((pos 32 si : Nat) : Int) := by omega
    have c5 : pos 32 si ≤ si.length := by omega
    have c6 : pos 32 si + 1 ≤ si.length := by omega
    have c7 : (([32] : Bs).length : Int) = 1 := rfl
    generalize pos 32 si = p at *
    generalize hA : si.take p = A at *
    generalize hB : si.drop (p + 1) = B at *
    simp (maxSteps := 4000000) only [vm, vl, Arg.get, cells, stor, boundO, resultsV, resV, partK, loadV, Vm.part, fillC, splice, reduceIte, reduceCtorEq, Nat.reduceEqDiff, Nat.reduceAdd, Nat.reduceSub, Nat.reduceMul, Nat.reduceLeDiff, ne_eq, not_false_eq_true, Int.reduceEq, Int.reduceLT, Int.reduceLE, Int.reduceNeg, Int.reduceToNat, Int.reduceGT, Int.reduceGE, Nat.reduceLT, Nat.lt_add_one, Nat.zero_lt_succ, Nat.succ_pos, Nat.zero_le, beq_self_eq_true, e0, e1', e2, e3, e9, e10, c', decide_true, k_strings_genSplit_4]
    refine Cf.pu (IX _) fun u1 => ?_
    simp (maxSteps := 4000000) only [vm, vl, Arg.get, cells, stor, boundO, resultsV, resV, partK, loadV, Vm.part, fillC, splice, reduceIte, reduceCtorEq, Nat.reduceEqDiff, Nat.reduceAdd, Nat.reduceSub, Nat.reduceMul, Nat.reduceLeDiff, ne_eq, not_false_eq_true, Int.reduceEq, Int.reduceLT, Int.reduceLE, Int.reduceNeg, Int.reduceToNat, Int.reduceGT, Int.reduceGE, Nat.reduceLT, Nat.lt_add_one, Nat.zero_lt_succ, Nat.succ_pos, Nat.zero_le, beq_self_eq_true, c1, c2, c3, c4, c5, c6, c7, hA, hB, z0, li, wl, li1, w4, decide_false, k_strings_genSplit_5, List.take_length, pt]
    exact ⟨W.length - (i + 1), by omega, i + 1, B, t ++ u1, rfl, by omega, nx, l2, rfl, e1', e2, e3, e9, rfl, rfl⟩
  · have c' : ¬ (i : Int) < ((W.length - 1 : Nat) : Int) := by omega
    have ei : i + 1 = W.length := by omega
    have hp : ¬ pos 32 si < si.length := fun hc => by
      rw [splitB_step hc] at hsi
      have := congrArg List.length hsi
      have q := splitB_ne (si.drop (pos 32 si + 1))
      rw [List.length_cons, dl] at this
      have : (splitB (si.drop (pos 32 si + 1))).length = 0 := by omega
      exact q (List.eq_nil_of_length_eq_zero this)
    have gx : W.getD i [] = si := hx _ (splitB_one hp)
    have pt := wbox_put (x := si) li gx
    rw [show wbox W (i + 1) = W.map .str by rw [ei, wbox_full]] at pt
    have sv : slslV 1 (V.hsl 1 (h.length + u.length) W.length) 0 (some (i + 1)) none = some (V.hsl 1 (h.length + u.length) W.length) := by
      simp [slslV, ei]
    simp (maxSteps := 4000000) only [vm, vl, Arg.get, cells, stor, boundO, resultsV, resV, partK, loadV, Vm.part, fillC, splice, reduceIte, reduceCtorEq, Nat.reduceEqDiff, Nat.reduceAdd, Nat.reduceSub, Nat.reduceMul, Nat.reduceLeDiff, ne_eq, not_false_eq_true, Int.reduceEq, Int.reduceLT, Int.reduceLE, Int.reduceNeg, Int.reduceToNat, Int.reduceGT, Int.reduceGE, Nat.reduceLT, Nat.lt_add_one, Nat.zero_lt_succ, Nat.succ_pos, Nat.zero_le, beq_self_eq_true, e0, e1', e2, e3, e9, e10, c', decide_false, k_strings_genSplit_3, z0, li, wl, li1, w4, pt, sv]
    exact ⟨u, t, rfl, rfl⟩
theorem SSplit_ok (HI : IndexOk L) (HC : CountOk L) {s : Bs} (hs : s.length ≤ 1000000) : Cf F L i_strings_Split [.str s, .str [32]] h (HslP h (splitB s)) := by
  refine run_strings_Split ?_
  simp only [p_strings_Split]
  refine (genSplit_ok HI HC hs).mono fun v h' hp => ?_
  obtain ⟨t, u, rfl, rfl⟩ := hp
  simp (maxSteps := 4000000) only [vm, vl, Arg.get, cells, stor, boundO, resultsV, resV, partK, loadV, Vm.part, fillC, splice, reduceIte, reduceCtorEq, Nat.reduceEqDiff, Nat.reduceAdd, Nat.reduceSub, Nat.reduceMul, Nat.reduceLeDiff, ne_eq, not_false_eq_true, Int.reduceEq, Int.reduceLT, Int.reduceLE, Int.reduceNeg, Int.reduceToNat, Int.reduceGT, Int.reduceGE, Nat.reduceLT, Nat.lt_add_one, Nat.zero_lt_succ, Nat.succ_pos, Nat.zero_le, beq_self_eq_true]
  exact ⟨t, u, rfl, rfl⟩
theorem words_ok (HI : IndexOk L) (HC : CountOk L) {s : Bs} (hs : s.length ≤ 1000000) : Cf F L i_line_words [.str s] h (HslP h (splitB s)) := by
  refine run_line_words ?_
  simp only [p_line_words]
  refine (SSplit_ok HI HC hs).mono fun v h' hp => ?_
  obtain ⟨t, u, rfl, rfl⟩ := hp
  generalize splitB s = W at *
  have sv : slslV 1 (V.hsl 1 (h.length + t.length) W.length) 0 (some W.length) (some W.length) = some (V.hsl 1 (h.length + t.length) W.length) := by
    simp [slslV]
  have z0 : (0 : Int) ≤ W.length := by omega
  simp (maxSteps := 4000000) only [vm, vl, Arg.get, cells, stor, boundO, resultsV, resV, partK, loadV, Vm.part, fillC, splice, reduceIte, reduceCtorEq, Nat.reduceEqDiff, Nat.reduceAdd, Nat.reduceSub, Nat.reduceMul, Nat.reduceLeDiff, ne_eq, not_false_eq_true, Int.reduceEq, Int.reduceLT, Int.reduceLE, Int.reduceNeg, Int.reduceToNat, Int.reduceGT, Int.reduceGE, Nat.reduceLT, Nat.lt_add_one, Nat.zero_lt_succ, Nat.succ_pos, Nat.zero_le, beq_self_eq_true, sv, z0]
  exact ⟨t, u, rfl, rfl⟩
end Go.Proofs.YtbcnhkgiabobiaaDoor.Vh
