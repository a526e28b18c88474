/- Several texts in one: VSplitB, VNum, VTrim, VRef1, VItoa, VLine, VLRead, VDigits, VLBackH, VLWords, VLReadsH, VField, VFew, VSplit, VSplit2, VParseH, VParsesH, VHead0, VHead1, VHead2, VHead3, VHead4, VHead5, VHeadN, VHead7, VHead8, VHead9, VHeadF, VHeadG, VHeadH. -/
import Derived.Test.YtnfcjeajbjcppaaDoorPk7
import Derived.Test.YtnfcjeajbjcppaaDoorPk8
import Derived.Test.YtnfcjeajbjcppaaDoorPk5
import Derived.Test.YtnfcjeajbjcppaaDoorPk4
import Derived.Test.YtnfcjeajbjcppaaDoorPk2
import Derived.Test.YtnfcjeajbjcppaaDoorPk6
import Derived.Lib.ItoaNum
import Derived.Lib.AppendIntMem
import Derived.KernelRfl
section
set_option linter.unusedVariables false
set_option linter.unusedSimpArgs false
namespace Go.Proofs.YtnfcjeajbjcppaaDoor.Vh
open Go.Vm Go.Vt
attribute [local congr] wi_congr wg_congr wgd_congr wb_congr wl_congr cf_congr
variable {L : FuncId → List V → V → Prop} {h : Heap}
def splitB : Bs → List Bs
  | [] => [[]]
  | c :: r => if c = 32 then [] :: splitB r else match splitB r with
    | w :: ws => (c :: w) :: ws
    | [] => [[c]]
theorem splitB_ne (s : Bs) : splitB s ≠ [] := by
  cases s with
  | nil => simp [splitB]
  | cons c r => unfold splitB; split; simp; split <;> simp
theorem splitB_len : ∀ s : Bs, (splitB s).length = s.count 32 + 1
  | [] => rfl
  | c :: r => by
    have ih := splitB_len r
    unfold splitB
    by_cases h : c = 32
    · rw [if_pos h, h, List.length_cons, ih, List.count_cons_self]
    · rw [if_neg h, List.count_cons_of_ne h]
      cases hs : splitB r with
      | nil => exact absurd hs (splitB_ne r)
      | cons w ws => rw [hs] at ih; simpa using ih
theorem splitB_step : ∀ {s : Bs}, pos 32 s < s.length → splitB s = s.take (pos 32 s) :: splitB (s.drop (pos 32 s + 1))
  | [], h => by simp at h
  | c :: r, h => by
    rw [pos_cons] at h ⊢
    by_cases hc : c = 32
    · rw [if_pos hc] at h ⊢
      rw [splitB, if_pos hc]; rfl
    · rw [if_neg hc] at h ⊢
      have ih := splitB_step (s := r) (by simpa using h)
      rw [splitB, if_neg hc, ih]; rfl
theorem splitB_one : ∀ {s : Bs}, ¬ pos 32 s < s.length → splitB s = [s]
  | [], _ => rfl
  | c :: r, h => by
    rw [pos_cons] at h
    by_cases hc : c = 32
    · rw [if_pos hc] at h; simp at h
    · rw [if_neg hc] at h
      have ih := splitB_one (s := r) (by simpa using h)
      rw [splitB, if_neg hc, ih]
def CountOk (L : FuncId → List V → V → Prop) : Prop := ∀ {s : Bs} {c : UInt8} {h : Heap}, Cf F L i_strings_Count [.str s, .str [c]] h (Pu h (.int .i64 ((s.count c : Nat) : Int)))
def LCount : FuncId → List V → V → Prop := fun f args v => f = i_strings_Count ∧ ∃ (s : Bs) (c : UInt8), args = [.str s, .str [c]] ∧ v = .int .i64 ((s.count c : Nat) : Int)
theorem count_at (w0 : World) : LibAt Tryd.prog w0 LCount := by
  rintro f args v ⟨rfl, s, c, rfl, rfl⟩
  refine ⟨by kernel_rfl, good_below fun B G h w vs hr hb hv => ?_⟩
  obtain ⟨a, b, rfl, ha, hs⟩ := rvs_two hv
  cases hs; cases ha
  refine (Tryd.strings_Count_one ⟨s.toArray⟩ c w).mono fun e w' ⟨h1, h2⟩ => ?_
  subst h2
  exact ⟨_, h1, .int .i64 _, Go.RowKit.Below.refl ..⟩
theorem countOk {L : FuncId → List V → V → Prop} (hL : ∀ f a v, LCount f a v → L f a v) : CountOk L :=
  wlib (hL _ _ _ ⟨rfl, _, _, rfl, rfl⟩) ⟨rfl, [], by simp⟩
theorem SIndex_ok {s : Bs} {c : UInt8} (HI : IndexOk L) : Cf F L i_strings_Index [.str s, .str [c]] h (Pu h (.int .i64 (Go.Lib.indexByte s c))) := by
  refine run_strings_Index ?_
  simp only [p_strings_Index]
  refine Cf.pu HI fun u => ?_
  simp (maxSteps := 4000000) only [vm, vl, Arg.get, cells, stor, boundO, resultsV, resV, partK, loadV, Vm.part, fillC, splice, reduceIte, reduceCtorEq, Nat.reduceEqDiff, Nat.reduceAdd, Nat.reduceSub, Nat.reduceMul, Nat.reduceLeDiff, ne_eq, not_false_eq_true, Int.reduceEq, Int.reduceLT, Int.reduceLE, Int.reduceNeg, Int.reduceToNat, Int.reduceGT, Int.reduceGE, Nat.reduceLT, Nat.lt_add_one, Nat.zero_lt_succ, Nat.succ_pos, Nat.zero_le, beq_self_eq_true]
/-- What stands in the box: the first words, and empty texts. -/
def wbox (W : List Bs) (i : Nat) : List V := (W.take i).map .str ++ List.replicate (W.length - i) (.str [])
theorem wbox_len {W : List Bs} {i : Nat} (hi : i ≤ W.length) : (wbox W i).length = W.length := by
  unfold wbox; rw [List.length_append, List.length_map, List.length_take, List.length_replicate]; omega
theorem wbox_put {W : List Bs} {i : Nat} {x : Bs} (hi : i < W.length) (hx : W.getD i [] = x) : (wbox W i).take i ++ (V.str x :: (wbox W i).drop (i + 1)) = wbox W (i + 1) := by
  have e : W.length - i = (W.length - (i + 1)) + 1 := by omega
  have lt : ((W.take i).map V.str).length = i := by rw [List.length_map, List.length_take]; omega
  have et : W.take (i + 1) = W.take i ++ [x] := by
    rw [List.take_add_one, List.getElem?_eq_getElem hi, ← hx, List.getD_eq_getElem?_getD, List.getElem?_eq_getElem hi]; rfl
  unfold wbox
  rw [List.take_left' lt, List.drop_append, lt, List.drop_eq_nil_of_le (by omega), List.nil_append, show i + 1 - i = 1 by omega, e, List.replicate_succ, List.drop_succ_cons, List.drop_zero, et, List.map_append, List.append_assoc]
  rfl
theorem wbox_full (W : List Bs) : wbox W W.length = W.map .str := by unfold wbox; simp
/-- A list in a box of its own. -/
def HslP (h : Heap) (W : List Bs) (v : V) (h' : Heap) : Prop := ∃ t u, v = .hsl 1 (h.length + t.length) W.length ∧ h' = h ++ (t ++ (O.box (W.map .str) :: u))
theorem genSplit_ok (HI : IndexOk L) (HC : CountOk L) {s : Bs} (hs : s.length ≤ 1000000) : Cf F L i_strings_genSplit [.str s, .str [32], .int .i64 0, .int .i64 (-1)] h (HslP h (splitB s)) := by
  refine run_strings_genSplit ?_
  simp only [p_strings_genSplit]
  
  have sl := splitB_len s
  have cl : s.count 32 ≤ s.length := List.count_le_length
  have HC' := fun hh => HC (s := s) (c := 32) (h := hh)
  generalize hW : splitB s = W at *
  have e1 : (([32] : Bs) == []) = false := rfl
  have w1 : IntKind.i64.wrap (((s.count 32 : Nat) : Int) + 1) = (W.length : Int) := by rw [wrap64 (by omega) (by omega)]; omega
  have w2 : IntKind.i64.wrap ((s.length : Int) + 1) = (s.length : Int) + 1 := wrap64 (by omega) (by omega)
  have w3 : IntKind.i64.wrap ((W.length : Int) - 1) = ((W.length - 1 : Nat) : Int) := by rw [wrap64 (by omega) (by omega)]; omega
  have mn : min (W.length : Int) ((s.length : Int) + 1) = W.length := by omega
  have rm : room W.length 16 = true := by unfold room; rw [decide_eq_true_eq]; omega
  have rep : (List.replicate W.length [V.str []]).flatten = wbox W 0 := by
    unfold wbox; simp
  simp (maxSteps := 4000000) only [vm, vl, Arg.get, cells, stor, boundO, resultsV, resV, partK, loadV, Vm.part, fillC, splice, reduceIte, reduceCtorEq, Nat.reduceEqDiff, Nat.reduceAdd, Nat.reduceSub, Nat.reduceMul, Nat.reduceLeDiff, ne_eq, not_false_eq_true, Int.reduceEq, Int.reduceLT, Int.reduceLE, Int.reduceNeg, Int.reduceToNat, Int.reduceGT, Int.reduceGE, Nat.reduceLT, Nat.lt_add_one, Nat.zero_lt_succ, Nat.succ_pos, Nat.zero_le, beq_self_eq_true, e1, decide_true, decide_false, k_strings_genSplit_0, k_strings_genSplit_1]
  refine Cf.pu (HC' _) fun u => ?_
  have mk : ∀ (K : V → Heap → Prop) (hh : Heap), wi F L (.mksl 1 16 [.str []] (.c (.int .i64 (W.length : Int))) (.c (.int .i64 (W.length : Int)))) E0 hh K = K (.hsl 1 hh.length W.length) (hh ++ [O.box (wbox W 0)]) := by
    intro K hh
    have : stepI (.mksl 1 16 [.str []] (.c (.int .i64 (W.length : Int))) (.c (.int .i64 (W.length : Int)))) E0 hh = some (.hsl 1 hh.length W.length, hh ++ [O.box (wbox W 0)]) := by
      simp only [stepI, Arg.get]
      rw [if_pos ⟨by omega, Int.le_refl _, by rw [Int.toNat_natCast]; exact rm⟩]
      simp only [Int.toNat_natCast, rep]
    rw [wi_mksl, this]
  simp (maxSteps := 4000000) only [vm, vl, Arg.get, cells, stor, boundO, resultsV, resV, partK, loadV, Vm.part, fillC, splice, reduceIte, reduceCtorEq, Nat.reduceEqDiff, Nat.reduceAdd, Nat.reduceSub, Nat.reduceMul, Nat.reduceLeDiff, ne_eq, not_false_eq_true, Int.reduceEq, Int.reduceLT, Int.reduceLE, Int.reduceNeg, Int.reduceToNat, Int.reduceGT, Int.reduceGE, Nat.reduceLT, Nat.lt_add_one, Nat.zero_lt_succ, Nat.succ_pos, Nat.zero_le, beq_self_eq_true, w1, w2, w3, mn, mn2, k_strings_genSplit_2, mk]
  refine l_strings_genSplit_0 (fun n e h' => ∃ (i : Nat) (si : Bs) (t : Heap), n = W.length - i ∧ i + 1 ≤ W.length ∧ splitB si = W.drop i ∧ si.length ≤ 1000000 ∧ e 0 = .str si ∧ e 1 = .str [32] ∧ e 2 = .int .i64 0 ∧ e 3 = .int .i64 ((W.length - 1 : Nat) : Int) ∧ e 9 = .hsl 1 (h.length + u.length) W.length ∧ e 10 = .int .i64 i ∧ h' = h ++ (u ++ (O.box (wbox W i) :: t))) ?_ (n := W.length) ⟨0, s, [], by simp, by omega, by rw [hW]; rfl, hs, rfl, rfl, rfl, rfl, by simp [upd], rfl, rfl⟩
  rintro n e h' ⟨i, si, t, rfl, hi, hsi, hl, e0, e1', e2, e3, e9, e10, rfl⟩
  simp only [b_strings_genSplit_0]
  have hx : ∀ x, splitB si = x → W.getD i [] = x.getD 0 [] := by
    rintro x rfl
    rw [hsi]
    simp [List.getD_eq_getElem?_getD]
  have wl := wbox_len (W := W) (i := i) (by omega)
  have z0 : (0 : Int) ≤ i := by omega
  have dl : (W.drop i).length = W.length - i := List.length_drop
  have w4 : IntKind.i64.wrap ((i : Int) + 1) = ((i + 1 : Nat) : Int) := by rw [wrap64 (by omega) (by omega)]; omega
  have li : i < W.length := by omega
  have li1 : i + 1 ≤ W.length := by omega
  by_cases c : i < W.length - 1
  · have c' : (i : Int) < ((W.length - 1 : Nat) : Int) := by omega
    have hp : pos 32 si < si.length := Classical.byContradiction fun hc => by
      rw [splitB_one hc] at hsi
      rw [← hsi] at dl
      simp at dl; omega
    have st := splitB_step hp
    have gx : W.getD i [] = si.take (pos 32 si) := hx _ st
    have pt := wbox_put (x := si.take (pos 32 si)) li gx
    have nx : splitB (si.drop (pos 32 si + 1)) = W.drop (i + 1) := by
      have : W.drop (i + 1) = (W.drop i).drop 1 := by rw [List.drop_drop]
      rw [this, ← hsi, st]; rfl
    have IX := fun hh => SIndex_ok (L := L) (h := hh) (s := si) (c := 32) HI
    rw [indexByte_pos, if_pos hp] at IX
    have l2 : (si.drop (pos 32 si + 1)).length ≤ 1000000 := by rw [List.length_drop]; omega
    have c1 : ¬ ((pos 32 si : Nat) : Int) < 0 := by omega
    have c2 : IntKind.i64.wrap (((pos 32 si : Nat) : Int) + 0) = ((pos 32 si : Nat) : Int) := by rw [Int.add_zero]; exact wrap64 (by omega) (by omega)
    have c3 : IntKind.i64.wrap (((pos 32 si : Nat) : Int) + 1) = ((pos 32 si + 1 : Nat) : Int) := by rw [wrap64 (by omega) (by omega)]; omega
    have c4 : (0 : Int) ≤ ((pos 32 si : Nat) : Int) := by omega
    have c5 : pos 32 si ≤ si.length := by omega
    have c6 : pos 32 si + 1 ≤ si.length := by omega
    have c7 : (([32] : Bs).length : Int) = 1 := rfl
    generalize pos 32 si = p at *
    generalize hA : si.take p = A at *
    generalize hB : si.drop (p + 1) = B at *
    simp (maxSteps := 4000000) only [vm, vl, Arg.get, cells, stor, boundO, resultsV, resV, partK, loadV, Vm.part, fillC, splice, reduceIte, reduceCtorEq, Nat.reduceEqDiff, Nat.reduceAdd, Nat.reduceSub, Nat.reduceMul, Nat.reduceLeDiff, ne_eq, not_false_eq_true, Int.reduceEq, Int.reduceLT, Int.reduceLE, Int.reduceNeg, Int.reduceToNat, Int.reduceGT, Int.reduceGE, Nat.reduceLT, Nat.lt_add_one, Nat.zero_lt_succ, Nat.succ_pos, Nat.zero_le, beq_self_eq_true, e0, e1', e2, e3, e9, e10, c', decide_true, k_strings_genSplit_4]
    refine Cf.pu (IX _) fun u1 => ?_
    simp (maxSteps := 4000000) only [vm, vl, Arg.get, cells, stor, boundO, resultsV, resV, partK, loadV, Vm.part, fillC, splice, reduceIte, reduceCtorEq, Nat.reduceEqDiff, Nat.reduceAdd, Nat.reduceSub, Nat.reduceMul, Nat.reduceLeDiff, ne_eq, not_false_eq_true, Int.reduceEq, Int.reduceLT, Int.reduceLE, Int.reduceNeg, Int.reduceToNat, Int.reduceGT, Int.reduceGE, Nat.reduceLT, Nat.lt_add_one, Nat.zero_lt_succ, Nat.succ_pos, Nat.zero_le, beq_self_eq_true, c1, c2, c3, c4, c5, c6, c7, hA, hB, z0, li, wl, li1, w4, decide_false, k_strings_genSplit_5, List.take_length, pt]
    exact ⟨W.length - (i + 1), by omega, i + 1, B, t ++ u1, rfl, by omega, nx, l2, rfl, e1', e2, e3, e9, rfl, rfl⟩
  · have c' : ¬ (i : Int) < ((W.length - 1 : Nat) : Int) := by omega
    have ei : i + 1 = W.length := by omega
    have hp : ¬ pos 32 si < si.length := fun hc => by
      rw [splitB_step hc] at hsi
      have := congrArg List.length hsi
      have q := splitB_ne (si.drop (pos 32 si + 1))
      rw [List.length_cons, dl] at this
      have : (splitB (si.drop (pos 32 si + 1))).length = 0 := by omega
      exact q (List.eq_nil_of_length_eq_zero this)
    have gx : W.getD i [] = si := hx _ (splitB_one hp)
    have pt := wbox_put (x := si) li gx
    rw [show wbox W (i + 1) = W.map .str by rw [ei, wbox_full]] at pt
    have sv : slslV 1 (V.hsl 1 (h.length + u.length) W.length) 0 (some (i + 1)) none = some (V.hsl 1 (h.length + u.length) W.length) := by
      simp [slslV, ei]
    simp (maxSteps := 4000000) only [vm, vl, Arg.get, cells, stor, boundO, resultsV, resV, partK, loadV, Vm.part, fillC, splice, reduceIte, reduceCtorEq, Nat.reduceEqDiff, Nat.reduceAdd, Nat.reduceSub, Nat.reduceMul, Nat.reduceLeDiff, ne_eq, not_false_eq_true, Int.reduceEq, Int.reduceLT, Int.reduceLE, Int.reduceNeg, Int.reduceToNat, Int.reduceGT, Int.reduceGE, Nat.reduceLT, Nat.lt_add_one, Nat.zero_lt_succ, Nat.succ_pos, Nat.zero_le, beq_self_eq_true, e0, e1', e2, e3, e9, e10, c', decide_false, k_strings_genSplit_3, z0, li, wl, li1, w4, pt, sv]
    exact ⟨u, t, rfl, rfl⟩
theorem SSplit_ok (HI : IndexOk L) (HC : CountOk L) {s : Bs} (hs : s.length ≤ 1000000) : Cf F L i_strings_Split [.str s, .str [32]] h (HslP h (splitB s)) := by
  refine run_strings_Split ?_
  simp only [p_strings_Split]
  refine (genSplit_ok HI HC hs).mono fun v h' hp => ?_
  obtain ⟨t, u, rfl, rfl⟩ := hp
  simp (maxSteps := 4000000) only [vm, vl, Arg.get, cells, stor, boundO, resultsV, resV, partK, loadV, Vm.part, fillC, splice, reduceIte, reduceCtorEq, Nat.reduceEqDiff, Nat.reduceAdd, Nat.reduceSub, Nat.reduceMul, Nat.reduceLeDiff, ne_eq, not_false_eq_true, Int.reduceEq, Int.reduceLT, Int.reduceLE, Int.reduceNeg, Int.reduceToNat, Int.reduceGT, Int.reduceGE, Nat.reduceLT, Nat.lt_add_one, Nat.zero_lt_succ, Nat.succ_pos, Nat.zero_le, beq_self_eq_true]
  exact ⟨t, u, rfl, rfl⟩
theorem words_ok (HI : IndexOk L) (HC : CountOk L) {s : Bs} (hs : s.length ≤ 1000000) : Cf F L i_line_words [.str s] h (HslP h (splitB s)) := by
  refine run_line_words ?_
  simp only [p_line_words]
  refine (SSplit_ok HI HC hs).mono fun v h' hp => ?_
  obtain ⟨t, u, rfl, rfl⟩ := hp
  generalize splitB s = W at *
  have sv : slslV 1 (V.hsl 1 (h.length + t.length) W.length) 0 (some W.length) (some W.length) = some (V.hsl 1 (h.length + t.length) W.length) := by
    simp [slslV]
  have z0 : (0 : Int) ≤ W.length := by omega
  simp (maxSteps := 4000000) only [vm, vl, Arg.get, cells, stor, boundO, resultsV, resV, partK, loadV, Vm.part, fillC, splice, reduceIte, reduceCtorEq, Nat.reduceEqDiff, Nat.reduceAdd, Nat.reduceSub, Nat.reduceMul, Nat.reduceLeDiff, ne_eq, not_false_eq_true, Int.reduceEq, Int.reduceLT, Int.reduceLE, Int.reduceNeg, Int.reduceToNat, Int.reduceGT, Int.reduceGE, Nat.reduceLT, Nat.lt_add_one, Nat.zero_lt_succ, Nat.succ_pos, Nat.zero_le, beq_self_eq_true, sv, z0]
  exact ⟨t, u, rfl, rfl⟩
end Go.Proofs.YtnfcjeajbjcppaaDoor.Vh
end
section
set_option linter.unusedVariables false
set_option linter.unusedSimpArgs false
namespace Go.Proofs.YtnfcjeajbjcppaaDoor.Vh
open Go.Vm Go.Vt
attribute [local congr] wi_congr wg_congr wgd_congr wb_congr wl_congr cf_congr
variable {L : FuncId → List V → V → Prop} {h : Heap}
theorem wquo {x c : Int} (h0 : 0 ≤ x) (hc : 0 < c) (h1 : x ≤ 9223372036854775807) : IntKind.i64.wrap (Int.tdiv x c) = x / c := by
  rw [Int.tdiv_eq_ediv_of_nonneg h0]
  have : 0 ≤ x / c := Int.ediv_nonneg h0 (by omega)
  have := Int.ediv_le_self c h0
  exact wrap64 (by omega) (by omega)
theorem bin_quo' {x y : Int} : binV .quo (.int .i64 x) (.int .i64 y) = if y = 0 then none else some (.int .i64 (IntKind.i64.wrap (x.tdiv y))) := by
  by_cases h : y = 0 <;> simp [binV, binI, h]
theorem dig_eq (c : UInt8) : digB c = (decide ((c.toNat : Int) ≥ 48) && decide ((c.toNat : Int) ≤ 57)) := byte_all (p := fun c => digB c = (decide ((c.toNat : Int) ≥ 48) && decide ((c.toNat : Int) ≤ 57))) (by decide +kernel) c
theorem dig_in {c : UInt8} (h : digB c = true) : 48 ≤ (c.toNat : Int) ∧ (c.toNat : Int) ≤ 57 := by
  rw [dig_eq, Bool.and_eq_true, decide_eq_true_eq, decide_eq_true_eq] at h; exact h
theorem dig_wrap (c : UInt8) : (decide (48 ≤ (c.toNat : Int)) && decide ((c.toNat : Int) ≤ 57)) = true → IntKind.u8.wrap ((c.toNat : Int) - 48) = (c.toNat : Int) - 48 :=
  byte_all (p := fun c => (decide (48 ≤ (c.toNat : Int)) && decide ((c.toNat : Int) ≤ 57)) = true → IntKind.u8.wrap ((c.toNat : Int) - 48) = (c.toNat : Int) - 48) (by decide +kernel) c
theorem numG_le : ∀ {s : Bs} {n most : Int}, s.all digB = true → 0 ≤ n → n ≤ most → 0 ≤ numG s n most ∧ numG s n most ≤ most
  | [], n, most, _, h0, h1 => ⟨h0, h1⟩
  | c :: r, n, most, ha, h0, h1 => by
    rw [List.all_cons, Bool.and_eq_true] at ha
    have hd := dig_in ha.1
    unfold numG
    split
    · omega
    · exact numG_le ha.2 (by omega) (by omega)
theorem numS_le (s : Bs) {most : Int} (h : 0 ≤ most) : 0 ≤ (numS s most).1 ∧ (numS s most).1 ≤ most := by
  unfold numS
  split
  · exact ⟨Int.le_refl _, h⟩
  · rename_i q
    simp only [Bool.or_eq_true, Bool.not_eq_true', not_or, Bool.not_eq_false] at q
    exact numG_le q.2 (Int.le_refl _) h
theorem Number1_ok {c : UInt8} : Cf F L i_token_Number_1 [byV c] h (Pu h (.bool (digB c))) := by
  refine run_token_Number_1 ?_
  simp only [p_token_Number_1]
  rw [dig_eq]
  by_cases a : (c.toNat : Int) ≥ 48
  · simp (maxSteps := 4000000) only [vm, vl, Arg.get, cells, stor, boundO, resultsV, resV, partK, loadV, Vm.part, fillC, splice, reduceIte, reduceCtorEq, Nat.reduceEqDiff, Nat.reduceAdd, Nat.reduceSub, Nat.reduceMul, Nat.reduceLeDiff, ne_eq, not_false_eq_true, Int.reduceEq, Int.reduceLT, Int.reduceLE, Int.reduceNeg, Int.reduceToNat, Int.reduceGT, Int.reduceGE, Nat.reduceLT, Nat.lt_add_one, Nat.zero_lt_succ, Nat.succ_pos, Nat.zero_le, beq_self_eq_true, a, decide_true, Bool.true_and]
  · simp (maxSteps := 4000000) only [vm, vl, Arg.get, cells, stor, boundO, resultsV, resV, partK, loadV, Vm.part, fillC, splice, reduceIte, reduceCtorEq, Nat.reduceEqDiff, Nat.reduceAdd, Nat.reduceSub, Nat.reduceMul, Nat.reduceLeDiff, ne_eq, not_false_eq_true, Int.reduceEq, Int.reduceLT, Int.reduceLE, Int.reduceNeg, Int.reduceToNat, Int.reduceGT, Int.reduceGE, Nat.reduceLT, Nat.lt_add_one, Nat.zero_lt_succ, Nat.succ_pos, Nat.zero_le, beq_self_eq_true, a, decide_false, Bool.false_and]
theorem num_pair {n : Int} {b : Bool} {x : Int × Bool} (h : x = (n, b)) : V.tup [.int .i64 x.1, .bool x.2] = .tup [.int .i64 n, .bool b] := by subst h; rfl
theorem Number_ok {s : Bs} {most : Int} (hs : s.length ≤ 9223372036854775806) (h0 : -4000000000000000000 ≤ most) (h1 : most ≤ 4000000000000000000) : Cf F L i_token_Number [.str s, .int .i64 most] h (Pu h (.tup [.int .i64 (numS s most).1, .bool (numS s most).2])) := by
  refine run_token_Number ?_
  simp only [p_token_Number]
  by_cases a : s = []
  · subst a
    rw [num_pair (show numS [] most = (0, false) from rfl)]
    have e1 : (([] : Bs) == []) = true := rfl
    simp (maxSteps := 4000000) only [vm, vl, Arg.get, cells, stor, boundO, resultsV, resV, partK, loadV, Vm.part, fillC, splice, reduceIte, reduceCtorEq, Nat.reduceEqDiff, Nat.reduceAdd, Nat.reduceSub, Nat.reduceMul, Nat.reduceLeDiff, ne_eq, not_false_eq_true, Int.reduceEq, Int.reduceLT, Int.reduceLE, Int.reduceNeg, Int.reduceToNat, Int.reduceGT, Int.reduceGE, Nat.reduceLT, Nat.lt_add_one, Nat.zero_lt_succ, Nat.succ_pos, Nat.zero_le, beq_self_eq_true, k_token_Number_1, k_token_Number_3, k_token_Number_4, k_token_Number_2, k_token_Number_0, e1]
  have a' : (s == []) = false := beq_eq_false_iff_ne.2 a
  have ae : s.isEmpty = false := by cases s; exact absurd rfl a; rfl
  by_cases b : most < 0
  · rw [num_pair (show numS s most = (0, false) by unfold numS; simp [b])]
    simp (maxSteps := 4000000) only [vm, vl, Arg.get, cells, stor, boundO, resultsV, resV, partK, loadV, Vm.part, fillC, splice, reduceIte, reduceCtorEq, Nat.reduceEqDiff, Nat.reduceAdd, Nat.reduceSub, Nat.reduceMul, Nat.reduceLeDiff, ne_eq, not_false_eq_true, Int.reduceEq, Int.reduceLT, Int.reduceLE, Int.reduceNeg, Int.reduceToNat, Int.reduceGT, Int.reduceGE, Nat.reduceLT, Nat.lt_add_one, Nat.zero_lt_succ, Nat.succ_pos, Nat.zero_le, beq_self_eq_true, k_token_Number_1, k_token_Number_3, k_token_Number_4, k_token_Number_2, k_token_Number_0, a', b, decide_true]
  cases hd : s.all digB with
  | false =>
    rw [num_pair (show numS s most = (0, false) by unfold numS; simp [hd])]
    simp (maxSteps := 4000000) only [vm, vl, Arg.get, cells, stor, boundO, resultsV, resV, partK, loadV, Vm.part, fillC, splice, reduceIte, reduceCtorEq, Nat.reduceEqDiff, Nat.reduceAdd, Nat.reduceSub, Nat.reduceMul, Nat.reduceLeDiff, ne_eq, not_false_eq_true, Int.reduceEq, Int.reduceLT, Int.reduceLE, Int.reduceNeg, Int.reduceToNat, Int.reduceGT, Int.reduceGE, Nat.reduceLT, Nat.lt_add_one, Nat.zero_lt_succ, Nat.succ_pos, Nat.zero_le, beq_self_eq_true, k_token_Number_1, k_token_Number_3, k_token_Number_4, k_token_Number_2, k_token_Number_0, a', b, decide_false]
    refine Cf.pu (all_ok (caps := []) (by omega) fun c h => Number1_ok) fun u => ?_
    simp (maxSteps := 4000000) only [vm, vl, Arg.get, cells, stor, boundO, resultsV, resV, partK, loadV, Vm.part, fillC, splice, reduceIte, reduceCtorEq, Nat.reduceEqDiff, Nat.reduceAdd, Nat.reduceSub, Nat.reduceMul, Nat.reduceLeDiff, ne_eq, not_false_eq_true, Int.reduceEq, Int.reduceLT, Int.reduceLE, Int.reduceNeg, Int.reduceToNat, Int.reduceGT, Int.reduceGE, Nat.reduceLT, Nat.lt_add_one, Nat.zero_lt_succ, Nat.succ_pos, Nat.zero_le, beq_self_eq_true, k_token_Number_1, k_token_Number_3, k_token_Number_4, k_token_Number_2, k_token_Number_0, hd, Bool.not_false]
  | true =>
    rw [num_pair (show numS s most = (numG s 0 most, true) by unfold numS; simp [hd, b, ae])]
    simp (maxSteps := 4000000) only [vm, vl, Arg.get, cells, stor, boundO, resultsV, resV, partK, loadV, Vm.part, fillC, splice, reduceIte, reduceCtorEq, Nat.reduceEqDiff, Nat.reduceAdd, Nat.reduceSub, Nat.reduceMul, Nat.reduceLeDiff, ne_eq, not_false_eq_true, Int.reduceEq, Int.reduceLT, Int.reduceLE, Int.reduceNeg, Int.reduceToNat, Int.reduceGT, Int.reduceGE, Nat.reduceLT, Nat.lt_add_one, Nat.zero_lt_succ, Nat.succ_pos, Nat.zero_le, beq_self_eq_true, k_token_Number_1, k_token_Number_3, k_token_Number_4, k_token_Number_2, k_token_Number_0, a', b, decide_false]
    refine Cf.pu (all_ok (caps := []) (by omega) fun c h => Number1_ok) fun u => ?_
    simp (maxSteps := 4000000) only [vm, vl, Arg.get, cells, stor, boundO, resultsV, resV, partK, loadV, Vm.part, fillC, splice, reduceIte, reduceCtorEq, Nat.reduceEqDiff, Nat.reduceAdd, Nat.reduceSub, Nat.reduceMul, Nat.reduceLeDiff, ne_eq, not_false_eq_true, Int.reduceEq, Int.reduceLT, Int.reduceLE, Int.reduceNeg, Int.reduceToNat, Int.reduceGT, Int.reduceGE, Nat.reduceLT, Nat.lt_add_one, Nat.zero_lt_succ, Nat.succ_pos, Nat.zero_le, beq_self_eq_true, k_token_Number_1, k_token_Number_3, k_token_Number_4, k_token_Number_2, k_token_Number_0, hd, Bool.not_true]
    refine l_token_Number_0 (fun n e h' => ∃ (i : Nat) (v : Int), n = s.length - i ∧ i ≤ s.length ∧ e 0 = .str s ∧ e 1 = .int .i64 most ∧ e 6 = .int .i64 v ∧ e 21 = .int .i64 s.length ∧ e 22 = .int .i64 i ∧ 0 ≤ v ∧ v ≤ most ∧ numG s 0 most = numG (s.drop i) v most ∧ ∃ t, h' = h ++ t) ?_ (n := s.length) ⟨0, 0, by simp, by simp, rfl, rfl, rfl, rfl, rfl, by omega, by omega, rfl, u, rfl⟩
    rintro n e h' ⟨i, v, rfl, hi, e0, e1, e6, e21, e22, v0, v1, hg, t, rfl⟩
    simp only [b_token_Number_0]
    rw [hg]
    rcases str_at hi with ⟨hn, rfl, hdr⟩ | ⟨c, hl, hl', hc, hdr⟩
    · rw [hdr]
      simp (maxSteps := 4000000) only [vm, vl, Arg.get, cells, stor, boundO, resultsV, resV, partK, loadV, Vm.part, fillC, splice, reduceIte, reduceCtorEq, Nat.reduceEqDiff, Nat.reduceAdd, Nat.reduceSub, Nat.reduceMul, Nat.reduceLeDiff, ne_eq, not_false_eq_true, Int.reduceEq, Int.reduceLT, Int.reduceLE, Int.reduceNeg, Int.reduceToNat, Int.reduceGT, Int.reduceGE, Nat.reduceLT, Nat.lt_add_one, Nat.zero_lt_succ, Nat.succ_pos, Nat.zero_le, beq_self_eq_true, k_token_Number_1, k_token_Number_3, k_token_Number_4, k_token_Number_2, k_token_Number_0, e0, e1, e6, e21, e22, hn, decide_false]
      rfl
    · have w := wrap64 (x := (i : Int) + 1) (by omega) (by omega)
      have dc : digB c = true := by
        rw [← hc]
        refine (List.all_eq_true.1 hd) _ ?_
        rw [List.getD_eq_getElem?_getD, List.getElem?_eq_getElem hl', Option.getD_some]; exact List.getElem_mem _
      have di := dig_in dc
      have dw := dig_wrap c (by simp [di])
      have d64 : IntKind.i64.wrap ((c.toNat : Int) - 48) = (c.toNat : Int) - 48 := wrap64 (by omega) (by omega)
      have eg : numG (c :: s.drop (i + 1)) v most = if (c.toNat : Int) - 48 > most ∨ v > (most - ((c.toNat : Int) - 48)) / 10 then most else numG (s.drop (i + 1)) (10 * v + ((c.toNat : Int) - 48)) most := rfl
      rw [hdr, eg]
      generalize hD : (c.toNat : Int) - 48 = D at *
      by_cases p : D > most
      · rw [if_pos (.inl p)]
        simp (maxSteps := 4000000) only [vm, vl, Arg.get, cells, stor, boundO, resultsV, resV, partK, loadV, Vm.part, fillC, splice, reduceIte, reduceCtorEq, Nat.reduceEqDiff, Nat.reduceAdd, Nat.reduceSub, Nat.reduceMul, Nat.reduceLeDiff, ne_eq, not_false_eq_true, Int.reduceEq, Int.reduceLT, Int.reduceLE, Int.reduceNeg, Int.reduceToNat, Int.reduceGT, Int.reduceGE, Nat.reduceLT, Nat.lt_add_one, Nat.zero_lt_succ, Nat.succ_pos, Nat.zero_le, beq_self_eq_true, k_token_Number_1, k_token_Number_3, k_token_Number_4, k_token_Number_2, k_token_Number_0, e0, e1, e6, e21, e22, hl, hl', hc, hD, dw, d64, p, decide_true]
      have w1 : IntKind.i64.wrap (most - D) = most - D := wrap64 (by omega) (by omega)
      have w2 : IntKind.i64.wrap ((most - D).tdiv 10) = (most - D) / 10 := wquo (by omega) (by omega) (by omega)
      by_cases q : v > (most - D) / 10
      · rw [if_pos (.inr q)]
        simp (maxSteps := 4000000) only [vm, vl, Arg.get, cells, stor, boundO, resultsV, resV, partK, loadV, Vm.part, fillC, splice, reduceIte, reduceCtorEq, Nat.reduceEqDiff, Nat.reduceAdd, Nat.reduceSub, Nat.reduceMul, Nat.reduceLeDiff, ne_eq, not_false_eq_true, Int.reduceEq, Int.reduceLT, Int.reduceLE, Int.reduceNeg, Int.reduceToNat, Int.reduceGT, Int.reduceGE, Nat.reduceLT, Nat.lt_add_one, Nat.zero_lt_succ, Nat.succ_pos, Nat.zero_le, beq_self_eq_true, k_token_Number_1, k_token_Number_3, k_token_Number_4, k_token_Number_2, k_token_Number_0, e0, e1, e6, e21, e22, hl, hl', hc, hD, dw, d64, p, q, w1, w2, bin_quo', decide_true, decide_false]
      · rw [if_neg (fun h => h.elim p q)]
        have w3 : IntKind.i64.wrap (10 * v) = 10 * v := wrap64 (by omega) (by omega)
        have w4 : IntKind.i64.wrap (10 * v + D) = 10 * v + D := wrap64 (by omega) (by omega)
        simp (maxSteps := 4000000) only [vm, vl, Arg.get, cells, stor, boundO, resultsV, resV, partK, loadV, Vm.part, fillC, splice, reduceIte, reduceCtorEq, Nat.reduceEqDiff, Nat.reduceAdd, Nat.reduceSub, Nat.reduceMul, Nat.reduceLeDiff, ne_eq, not_false_eq_true, Int.reduceEq, Int.reduceLT, Int.reduceLE, Int.reduceNeg, Int.reduceToNat, Int.reduceGT, Int.reduceGE, Nat.reduceLT, Nat.lt_add_one, Nat.zero_lt_succ, Nat.succ_pos, Nat.zero_le, beq_self_eq_true, k_token_Number_1, k_token_Number_3, k_token_Number_4, k_token_Number_2, k_token_Number_0, e0, e1, e6, e21, e22, hl, hl', hc, hD, dw, d64, p, q, w, w1, w2, w3, w4, bin_quo', decide_true, decide_false]
        exact ⟨s.length - (i + 1), by omega, i + 1, 10 * v + D, rfl, hl', rfl, rfl, by omega, by omega, rfl, _, rfl⟩
end Go.Proofs.YtnfcjeajbjcppaaDoor.Vh
end
section
set_option linter.unusedVariables false
set_option linter.unusedSimpArgs false
namespace Go.Proofs.YtnfcjeajbjcppaaDoor.Vh
open Go.Vm Go.Vt
attribute [local congr] wi_congr wg_congr wgd_congr wb_congr wl_congr cf_congr
variable {L : FuncId → List V → V → Prop} {h : Heap}
theorem splice_set {cs : List V} {i : Nat} {x : V} (hi : i < cs.length) : cs.take i ++ x :: cs.drop (i + 1) = cs.set i x := by
  rw [List.set_eq_take_append_cons_drop, if_pos hi]
/-- The table of blanks. -/
def blankT : List V := ((List.replicate 256 (V.bool false)).set 32 (.bool true)).set 9 (.bool true)
def blankAt : Nat → List V
  | 0 => List.replicate 256 (.bool false)
  | 1 => (List.replicate 256 (V.bool false)).set 32 (.bool true)
  | _ => blankT
theorem blankAt_len : ∀ i, (blankAt i).length = 256
  | 0 => List.length_replicate ..
  | 1 => by simp only [blankAt, List.length_set, List.length_replicate]
  | i + 2 => by simp only [blankAt, blankT, List.length_set, List.length_replicate]
theorem blankT_at (c : UInt8) : blankT.getD c.toNat (.tup []) = .bool (blankB c) := by
  have : ∀ n : Fin 256, blankT.getD (UInt8.ofNat n.val).toNat (.tup []) = .bool (blankB (UInt8.ofNat n.val)) := by
    intro n
    have h : (blankT.map fun | .bool b => b | _ => false) = (List.range 256).map fun n => blankB (UInt8.ofNat n) := by decide +kernel
    have h2 : ∀ v ∈ blankT, ∃ b, v = V.bool b := by
      intro v hv
      unfold blankT at hv
      rcases List.mem_or_eq_of_mem_set hv with hv | rfl
      · rcases List.mem_or_eq_of_mem_set hv with hv | rfl
        · exact ⟨false, (List.mem_replicate.1 hv).2⟩
        · exact ⟨true, rfl⟩
      · exact ⟨true, rfl⟩
    have hl : n.val < blankT.length := by simp only [blankT, List.length_set, List.length_replicate]; exact n.isLt
    have e : (UInt8.ofNat n.val).toNat = n.val := by simp
    obtain ⟨b, hb⟩ := h2 blankT[n.val] (List.getElem_mem _)
    rw [e, List.getD_eq_getElem?_getD, List.getElem?_eq_getElem hl, Option.getD_some, hb]
    have h3 := congrArg (fun l => l[n.val]?) h
    simp only [List.getElem?_map, List.getElem?_eq_getElem hl, Option.map_some, hb, List.getElem?_range n.isLt] at h3
    injection h3 with h3
    rw [h3]
  have := this ⟨c.toNat, c.toNat_lt⟩
  simpa using this
theorem asciiSet_ok : Cf F L i_strings_makeASCIISet [.str [32, 9]] h (Pu h (.tup [.agg blankT, .bool true])) := by
  refine run_strings_makeASCIISet ?_
  simp only [p_strings_makeASCIISet]
  simp (maxSteps := 4000000) only [vm, vl, Arg.get, cells, stor, boundO, resultsV, resV, partK, loadV, Vm.part, fillC, splice, reduceIte, reduceCtorEq, Nat.reduceEqDiff, Nat.reduceAdd, Nat.reduceSub, Nat.reduceMul, Nat.reduceLeDiff, ne_eq, not_false_eq_true, Int.reduceEq, Int.reduceLT, Int.reduceLE, Int.reduceNeg, Int.reduceToNat, Int.reduceGT, Int.reduceGE, Nat.reduceLT, Nat.lt_add_one, Nat.zero_lt_succ, Nat.succ_pos, Nat.zero_le, beq_self_eq_true, k_strings_makeASCIISet_0, k_strings_makeASCIISet_2, k_strings_makeASCIISet_3, k_strings_makeASCIISet_1]
  refine l_strings_makeASCIISet_0 (fun n e h' => ∃ i, n = 2 - i ∧ i ≤ 2 ∧ e 0 = .str [32, 9] ∧ e 2 = .ptr h.length 0 ∧ e 3 = .bool false ∧ e 4 = .int .i64 i ∧ h' = h ++ [.box (blankAt i)]) ?_ (n := 2) ⟨0, by simp, by simp, rfl, rfl, rfl, rfl, rfl⟩
  rintro n e h' ⟨i, rfl, hi, e0, e2, e3, e4, rfl⟩
  simp only [b_strings_makeASCIISet_0]
  have u1 : UInt8.toNat 32 = 32 := rfl
  have u2 : UInt8.toNat 9 = 9 := rfl
  have w1 : IntKind.i64.wrap (0 + 1) = 1 := by decide
  have w2 : IntKind.i64.wrap (1 + 1) = 2 := by decide
  have p0 := blankAt_len 0
  have p1 := blankAt_len 1
  have p2 := blankAt_len 2
  have q0 : (blankAt 0).take 32 ++ .bool true :: (blankAt 0).drop 33 = blankAt 1 := splice_set (by rw [p0]; omega)
  have q1 : (blankAt 1).take 9 ++ .bool true :: (blankAt 1).drop 10 = blankAt 2 := splice_set (by rw [p1]; omega)
  match i, hi with
  | 0, _ =>
    simp (maxSteps := 4000000) only [vm, vl, Arg.get, cells, stor, boundO, resultsV, resV, partK, loadV, Vm.part, fillC, splice, reduceIte, reduceCtorEq, Nat.reduceEqDiff, Nat.reduceAdd, Nat.reduceSub, Nat.reduceMul, Nat.reduceLeDiff, ne_eq, not_false_eq_true, Int.reduceEq, Int.reduceLT, Int.reduceLE, Int.reduceNeg, Int.reduceToNat, Int.reduceGT, Int.reduceGE, Nat.reduceLT, Nat.lt_add_one, Nat.zero_lt_succ, Nat.succ_pos, Nat.zero_le, beq_self_eq_true, k_strings_makeASCIISet_0, k_strings_makeASCIISet_2, k_strings_makeASCIISet_3, k_strings_makeASCIISet_1, e0, e2, e3, e4, blankAt_len, u1, w1, q0, Int.natCast_zero, Int.cast_ofNat_Int]
    (repeat' ((first | refine wg_casep (fun _ => ?_) (fun _ => ?_) | refine wg_casen (fun _ => ?_) (fun _ => ?_) | refine wg_case (fun _ => ?_) (fun _ => ?_) | refine wgd_casep (fun _ => ?_) (fun _ => ?_) | refine wgd_casen (fun _ => ?_) (fun _ => ?_) | refine wgd_case (fun _ => ?_) (fun _ => ?_) | refine wb_casep (fun _ => ?_) (fun _ => ?_) | refine wb_casen (fun _ => ?_) (fun _ => ?_) | refine wb_case (fun _ => ?_) (fun _ => ?_)) <;> try simp (maxSteps := 4000000) only [vm, vl, Arg.get, cells, stor, boundO, resultsV, resV, partK, loadV, Vm.part, fillC, splice, reduceIte, reduceCtorEq, Nat.reduceEqDiff, Nat.reduceAdd, Nat.reduceSub, Nat.reduceMul, Nat.reduceLeDiff, ne_eq, not_false_eq_true, Int.reduceEq, Int.reduceLT, Int.reduceLE, Int.reduceNeg, Int.reduceToNat, Int.reduceGT, Int.reduceGE, Nat.reduceLT, Nat.lt_add_one, Nat.zero_lt_succ, Nat.succ_pos, Nat.zero_le, beq_self_eq_true, k_strings_makeASCIISet_0, k_strings_makeASCIISet_2, k_strings_makeASCIISet_3, k_strings_makeASCIISet_1, *]))
    exact ⟨1, by omega, 1, rfl, by omega, rfl, rfl⟩
  | 1, _ =>
    simp (maxSteps := 4000000) only [vm, vl, Arg.get, cells, stor, boundO, resultsV, resV, partK, loadV, Vm.part, fillC, splice, reduceIte, reduceCtorEq, Nat.reduceEqDiff, Nat.reduceAdd, Nat.reduceSub, Nat.reduceMul, Nat.reduceLeDiff, ne_eq, not_false_eq_true, Int.reduceEq, Int.reduceLT, Int.reduceLE, Int.reduceNeg, Int.reduceToNat, Int.reduceGT, Int.reduceGE, Nat.reduceLT, Nat.lt_add_one, Nat.zero_lt_succ, Nat.succ_pos, Nat.zero_le, beq_self_eq_true, k_strings_makeASCIISet_0, k_strings_makeASCIISet_2, k_strings_makeASCIISet_3, k_strings_makeASCIISet_1, e0, e2, e3, e4, blankAt_len, u2, w2, q1, Int.natCast_one]
    (repeat' ((first | refine wg_casep (fun _ => ?_) (fun _ => ?_) | refine wg_casen (fun _ => ?_) (fun _ => ?_) | refine wg_case (fun _ => ?_) (fun _ => ?_) | refine wgd_casep (fun _ => ?_) (fun _ => ?_) | refine wgd_casen (fun _ => ?_) (fun _ => ?_) | refine wgd_case (fun _ => ?_) (fun _ => ?_) | refine wb_casep (fun _ => ?_) (fun _ => ?_) | refine wb_casen (fun _ => ?_) (fun _ => ?_) | refine wb_case (fun _ => ?_) (fun _ => ?_)) <;> try simp (maxSteps := 4000000) only [vm, vl, Arg.get, cells, stor, boundO, resultsV, resV, partK, loadV, Vm.part, fillC, splice, reduceIte, reduceCtorEq, Nat.reduceEqDiff, Nat.reduceAdd, Nat.reduceSub, Nat.reduceMul, Nat.reduceLeDiff, ne_eq, not_false_eq_true, Int.reduceEq, Int.reduceLT, Int.reduceLE, Int.reduceNeg, Int.reduceToNat, Int.reduceGT, Int.reduceGE, Nat.reduceLT, Nat.lt_add_one, Nat.zero_lt_succ, Nat.succ_pos, Nat.zero_le, beq_self_eq_true, k_strings_makeASCIISet_0, k_strings_makeASCIISet_2, k_strings_makeASCIISet_3, k_strings_makeASCIISet_1, *]))
    exact ⟨0, by omega, 2, rfl, by omega, rfl, rfl⟩
  | 2, _ =>
    have z1 : List.take 256 (blankAt 2) = blankAt 2 := List.take_of_length_le (by rw [p2]; omega)
    have z2 : List.drop 256 (blankAt 2) = [] := List.drop_eq_nil_of_le (by rw [p2]; omega)
    simp (maxSteps := 4000000) only [vm, vl, Arg.get, cells, stor, boundO, resultsV, resV, partK, loadV, Vm.part, fillC, splice, reduceIte, reduceCtorEq, Nat.reduceEqDiff, Nat.reduceAdd, Nat.reduceSub, Nat.reduceMul, Nat.reduceLeDiff, ne_eq, not_false_eq_true, Int.reduceEq, Int.reduceLT, Int.reduceLE, Int.reduceNeg, Int.reduceToNat, Int.reduceGT, Int.reduceGE, Nat.reduceLT, Nat.lt_add_one, Nat.zero_lt_succ, Nat.succ_pos, Nat.zero_le, beq_self_eq_true, k_strings_makeASCIISet_0, k_strings_makeASCIISet_2, k_strings_makeASCIISet_3, k_strings_makeASCIISet_1, e0, e2, e3, e4, p2, z1, z2, List.append_nil]
    (repeat' ((first | refine wg_casep (fun _ => ?_) (fun _ => ?_) | refine wg_casen (fun _ => ?_) (fun _ => ?_) | refine wg_case (fun _ => ?_) (fun _ => ?_) | refine wgd_casep (fun _ => ?_) (fun _ => ?_) | refine wgd_casen (fun _ => ?_) (fun _ => ?_) | refine wgd_case (fun _ => ?_) (fun _ => ?_) | refine wb_casep (fun _ => ?_) (fun _ => ?_) | refine wb_casen (fun _ => ?_) (fun _ => ?_) | refine wb_case (fun _ => ?_) (fun _ => ?_)) <;> try simp (maxSteps := 4000000) only [vm, vl, Arg.get, cells, stor, boundO, resultsV, resV, partK, loadV, Vm.part, fillC, splice, reduceIte, reduceCtorEq, Nat.reduceEqDiff, Nat.reduceAdd, Nat.reduceSub, Nat.reduceMul, Nat.reduceLeDiff, ne_eq, not_false_eq_true, Int.reduceEq, Int.reduceLT, Int.reduceLE, Int.reduceNeg, Int.reduceToNat, Int.reduceGT, Int.reduceGE, Nat.reduceLT, Nat.lt_add_one, Nat.zero_lt_succ, Nat.succ_pos, Nat.zero_le, beq_self_eq_true, k_strings_makeASCIISet_0, k_strings_makeASCIISet_2, k_strings_makeASCIISet_3, k_strings_makeASCIISet_1, *]))
    rfl
theorem contains_ok {c : UInt8} {id : Nat} (hb : h[id]? = some (.box blankT)) : Cf F L i___strings_asciiSet__contains [.ptr id 0, byV c] h (Pu h (.bool (blankB c))) := by
  refine run___strings_asciiSet__contains ?_
  simp only [p___strings_asciiSet__contains]
  have h1 : (c.toNat : Int) < 256 := by have := c.toNat_lt; omega
  have h2 : blankT.length = 256 := blankAt_len 2
  have h3 : c.toNat + 1 ≤ 256 := by have := c.toNat_lt; omega
  simp (maxSteps := 4000000) only [vm, vl, Arg.get, cells, stor, boundO, resultsV, resV, partK, loadV, Vm.part, fillC, splice, reduceIte, reduceCtorEq, Nat.reduceEqDiff, Nat.reduceAdd, Nat.reduceSub, Nat.reduceMul, Nat.reduceLeDiff, ne_eq, not_false_eq_true, Int.reduceEq, Int.reduceLT, Int.reduceLE, Int.reduceNeg, Int.reduceToNat, Int.reduceGT, Int.reduceGE, Nat.reduceLT, Nat.lt_add_one, Nat.zero_lt_succ, Nat.succ_pos, Nat.zero_le, beq_self_eq_true, hb, blankT_at, h1, h2, h3]
/-- One byte off the right end. -/
theorem last_at {s : Bs} {n : Nat} (h : s.length = n + 1) : ∃ t c, s = t ++ [c] ∧ t.length = n ∧ s.getD n 0 = c ∧ s.take n = t := by
  have hne : s ≠ [] := by intro he; rw [he] at h; cases h
  obtain ⟨t, c, rfl⟩ : ∃ t c, s = t ++ [c] := ⟨s.dropLast, s.getLast hne, (List.dropLast_concat_getLast hne).symm⟩
  have hl : t.length = n := by simpa using h
  exact ⟨t, c, rfl, hl, by rw [List.getD_eq_getElem?_getD, List.getElem?_append_right (by omega)]; simp [hl], by rw [← hl]; simp⟩
theorem rightASCII_ok {s : Bs} {id : Nat} (hs : s.length < 9223372036854775807) (hb : h[id]? = some (.box blankT)) : Cf F L i_strings_trimRightASCII [.str s, .ptr id 0] h (Pu h (.str (trimR s))) := by
  refine run_strings_trimRightASCII ?_
  simp only [p_strings_trimRightASCII]
  refine l_strings_trimRightASCII_0 (fun n e h' => ∃ r : Bs, n = r.length ∧ e 0 = .str r ∧ e 1 = .ptr id 0 ∧ (∃ t, h' = h ++ t) ∧ r.length ≤ s.length ∧ trimR r = trimR s) ?_ (n := s.length) ⟨s, rfl, rfl, rfl, ⟨[], by simp⟩, by omega, rfl⟩
  rintro n e h' ⟨r, rfl, e0, e1, ⟨t, rfl⟩, hl, hr⟩
  simp only [b_strings_trimRightASCII_0]
  rw [← hr]
  cases hn : r.length with
  | zero =>
    obtain rfl : r = [] := List.eq_nil_of_length_eq_zero hn
    simp (maxSteps := 4000000) only [vm, vl, Arg.get, cells, stor, boundO, resultsV, resV, partK, loadV, Vm.part, fillC, splice, reduceIte, reduceCtorEq, Nat.reduceEqDiff, Nat.reduceAdd, Nat.reduceSub, Nat.reduceMul, Nat.reduceLeDiff, ne_eq, not_false_eq_true, Int.reduceEq, Int.reduceLT, Int.reduceLE, Int.reduceNeg, Int.reduceToNat, Int.reduceGT, Int.reduceGE, Nat.reduceLT, Nat.lt_add_one, Nat.zero_lt_succ, Nat.succ_pos, Nat.zero_le, beq_self_eq_true, k_strings_trimRightASCII_0, k_strings_trimRightASCII_2, k_strings_trimRightASCII_1, e0, e1]
    rfl
  | succ n =>
    obtain ⟨q, c, rfl, hq, hc, ht⟩ := last_at hn
    have w : IntKind.i64.wrap (((n + 1 : Nat) : Int) - 1) = n := by rw [wrap64 (by omega) (by omega)]; omega
    have g0 : ((n + 1 : Nat) : Int) > 0 := by omega
    have hb' : (h ++ t)[id]? = some (.box blankT) := get_old hb
    simp (maxSteps := 4000000) only [vm, vl, Arg.get, cells, stor, boundO, resultsV, resV, partK, loadV, Vm.part, fillC, splice, reduceIte, reduceCtorEq, Nat.reduceEqDiff, Nat.reduceAdd, Nat.reduceSub, Nat.reduceMul, Nat.reduceLeDiff, ne_eq, not_false_eq_true, Int.reduceEq, Int.reduceLT, Int.reduceLE, Int.reduceNeg, Int.reduceToNat, Int.reduceGT, Int.reduceGE, Nat.reduceLT, Nat.lt_add_one, Nat.zero_lt_succ, Nat.succ_pos, Nat.zero_le, beq_self_eq_true, k_strings_trimRightASCII_0, k_strings_trimRightASCII_2, k_strings_trimRightASCII_1, e0, e1, hn, w, g0, hc, ht]
    (repeat' ((first | refine wg_casep (fun _ => ?_) (fun _ => ?_) | refine wg_casen (fun _ => ?_) (fun _ => ?_) | refine wg_case (fun _ => ?_) (fun _ => ?_) | refine wgd_casep (fun _ => ?_) (fun _ => ?_) | refine wgd_casen (fun _ => ?_) (fun _ => ?_) | refine wgd_case (fun _ => ?_) (fun _ => ?_) | refine wb_casep (fun _ => ?_) (fun _ => ?_) | refine wb_casen (fun _ => ?_) (fun _ => ?_) | refine wb_case (fun _ => ?_) (fun _ => ?_) | refine Cf.pu (contains_ok hb') (fun _ => ?_)) <;> try simp (maxSteps := 4000000) only [vm, vl, Arg.get, cells, stor, boundO, resultsV, resV, partK, loadV, Vm.part, fillC, splice, reduceIte, reduceCtorEq, Nat.reduceEqDiff, Nat.reduceAdd, Nat.reduceSub, Nat.reduceMul, Nat.reduceLeDiff, ne_eq, not_false_eq_true, Int.reduceEq, Int.reduceLT, Int.reduceLE, Int.reduceNeg, Int.reduceToNat, Int.reduceGT, Int.reduceGE, Nat.reduceLT, Nat.lt_add_one, Nat.zero_lt_succ, Nat.succ_pos, Nat.zero_le, beq_self_eq_true, k_strings_trimRightASCII_0, k_strings_trimRightASCII_2, k_strings_trimRightASCII_1, *]))
    · rename_i hp
      simp at hp
      rw [← hr, trimR_full hp]
    · rename_i hp
      simp at hp
      exact ⟨by omega, q.length, by omega, q, rfl, rfl, ⟨_, rfl⟩, by rw [hn] at hl; omega, by rw [← hr, trimR_blank hp]⟩
theorem leftASCII_ok {s : Bs} {id : Nat} (hs : s.length < 9223372036854775807) (hb : h[id]? = some (.box blankT)) : Cf F L i_strings_trimLeftASCII [.str s, .ptr id 0] h (Pu h (.str (trimL s))) := by
  refine run_strings_trimLeftASCII ?_
  simp only [p_strings_trimLeftASCII]
  refine l_strings_trimLeftASCII_0 (fun n e h' => ∃ r : Bs, n = r.length ∧ e 0 = .str r ∧ e 1 = .ptr id 0 ∧ (∃ t, h' = h ++ t) ∧ r.length ≤ s.length ∧ trimL r = trimL s) ?_ (n := s.length) ⟨s, rfl, rfl, rfl, ⟨[], by simp⟩, by omega, rfl⟩
  rintro n e h' ⟨r, rfl, e0, e1, ⟨t, rfl⟩, hl, hr⟩
  simp only [b_strings_trimLeftASCII_0]
  rw [← hr]
  cases r with
  | nil =>
    simp (maxSteps := 4000000) only [vm, vl, Arg.get, cells, stor, boundO, resultsV, resV, partK, loadV, Vm.part, fillC, splice, reduceIte, reduceCtorEq, Nat.reduceEqDiff, Nat.reduceAdd, Nat.reduceSub, Nat.reduceMul, Nat.reduceLeDiff, ne_eq, not_false_eq_true, Int.reduceEq, Int.reduceLT, Int.reduceLE, Int.reduceNeg, Int.reduceToNat, Int.reduceGT, Int.reduceGE, Nat.reduceLT, Nat.lt_add_one, Nat.zero_lt_succ, Nat.succ_pos, Nat.zero_le, beq_self_eq_true, k_strings_trimLeftASCII_0, k_strings_trimLeftASCII_2, k_strings_trimLeftASCII_1, e0, e1]
    rfl
  | cons c q =>
    have g0 : (((c :: q).length : Nat) : Int) > 0 := by simp
    have g1 : 1 ≤ (c :: q).length := by simp
    have g2 : List.take (c :: q).length (c :: q) = c :: q := List.take_of_length_le (Nat.le_refl _)
    have g3 : 0 < (c :: q).length := by simp
    have hb' : (h ++ t)[id]? = some (.box blankT) := get_old hb
    simp only [List.length_cons] at g0 g1 g2 g3
    simp (maxSteps := 4000000) only [vm, vl, Arg.get, cells, stor, boundO, resultsV, resV, partK, loadV, Vm.part, fillC, splice, reduceIte, reduceCtorEq, Nat.reduceEqDiff, Nat.reduceAdd, Nat.reduceSub, Nat.reduceMul, Nat.reduceLeDiff, ne_eq, not_false_eq_true, Int.reduceEq, Int.reduceLT, Int.reduceLE, Int.reduceNeg, Int.reduceToNat, Int.reduceGT, Int.reduceGE, Nat.reduceLT, Nat.lt_add_one, Nat.zero_lt_succ, Nat.succ_pos, Nat.zero_le, beq_self_eq_true, k_strings_trimLeftASCII_0, k_strings_trimLeftASCII_2, k_strings_trimLeftASCII_1, e0, e1, g0, g1, g2, g3]
    (repeat' ((first | refine wg_casep (fun _ => ?_) (fun _ => ?_) | refine wg_casen (fun _ => ?_) (fun _ => ?_) | refine wg_case (fun _ => ?_) (fun _ => ?_) | refine wgd_casep (fun _ => ?_) (fun _ => ?_) | refine wgd_casen (fun _ => ?_) (fun _ => ?_) | refine wgd_case (fun _ => ?_) (fun _ => ?_) | refine wb_casep (fun _ => ?_) (fun _ => ?_) | refine wb_casen (fun _ => ?_) (fun _ => ?_) | refine wb_case (fun _ => ?_) (fun _ => ?_) | refine Cf.pu (contains_ok hb') (fun _ => ?_)) <;> try simp (maxSteps := 4000000) only [vm, vl, Arg.get, cells, stor, boundO, resultsV, resV, partK, loadV, Vm.part, fillC, splice, reduceIte, reduceCtorEq, Nat.reduceEqDiff, Nat.reduceAdd, Nat.reduceSub, Nat.reduceMul, Nat.reduceLeDiff, ne_eq, not_false_eq_true, Int.reduceEq, Int.reduceLT, Int.reduceLE, Int.reduceNeg, Int.reduceToNat, Int.reduceGT, Int.reduceGE, Nat.reduceLT, Nat.lt_add_one, Nat.zero_lt_succ, Nat.succ_pos, Nat.zero_le, beq_self_eq_true, k_strings_trimLeftASCII_0, k_strings_trimLeftASCII_2, k_strings_trimLeftASCII_1, *]))
    · rename_i hp
      simp at hp
      rw [← hr, trimL_full hp]
    · rename_i hp
      simp at hp
      exact ⟨q.length, by omega, q, rfl, rfl, ⟨_, rfl⟩, by simp at hl; omega, by rw [← hr, trimL_blank hp]⟩
theorem stringsTrim_ok {s : Bs} (hs : s.length < 9223372036854775807) : Cf F L i_strings_Trim [.str s, .str [32, 9]] h (Pu h (.str (trim s))) := by
  refine run_strings_Trim ?_
  simp only [p_strings_Trim]
  have q1 : (([32, 9] : Bs) == []) = false := rfl
  cases s with
  | nil =>
    have q2 : (([] : Bs) == []) = true := rfl
    simp (maxSteps := 4000000) only [vm, vl, Arg.get, cells, stor, boundO, resultsV, resV, partK, loadV, Vm.part, fillC, splice, reduceIte, reduceCtorEq, Nat.reduceEqDiff, Nat.reduceAdd, Nat.reduceSub, Nat.reduceMul, Nat.reduceLeDiff, ne_eq, not_false_eq_true, Int.reduceEq, Int.reduceLT, Int.reduceLE, Int.reduceNeg, Int.reduceToNat, Int.reduceGT, Int.reduceGE, Nat.reduceLT, Nat.lt_add_one, Nat.zero_lt_succ, Nat.succ_pos, Nat.zero_le, beq_self_eq_true, k_strings_Trim_2, k_strings_Trim_1, k_strings_Trim_0, q1, q2]
    rfl
  | cons c r =>
    have q2 : ((c :: r : Bs) == []) = false := rfl
    have l1 : blankT.length = 256 := blankAt_len 2
    have l2 : List.take 256 blankT = blankT := List.take_of_length_le (by omega)
    have l3 : ∀ q, List.drop (0 + 256) (List.replicate 256 q : List V) = [] := fun q => List.drop_eq_nil_of_le (by rw [List.length_replicate]; omega)
    simp (maxSteps := 4000000) only [vm, vl, Arg.get, cells, stor, boundO, resultsV, resV, partK, loadV, Vm.part, fillC, splice, reduceIte, reduceCtorEq, Nat.reduceEqDiff, Nat.reduceAdd, Nat.reduceSub, Nat.reduceMul, Nat.reduceLeDiff, ne_eq, not_false_eq_true, Int.reduceEq, Int.reduceLT, Int.reduceLE, Int.reduceNeg, Int.reduceToNat, Int.reduceGT, Int.reduceGE, Nat.reduceLT, Nat.lt_add_one, Nat.zero_lt_succ, Nat.succ_pos, Nat.zero_le, beq_self_eq_true, k_strings_Trim_2, k_strings_Trim_1, k_strings_Trim_0, q1, q2]
    (repeat' ((first | refine wg_casep (fun _ => ?_) (fun _ => ?_) | refine wg_casen (fun _ => ?_) (fun _ => ?_) | refine wg_case (fun _ => ?_) (fun _ => ?_) | refine wgd_casep (fun _ => ?_) (fun _ => ?_) | refine wgd_casen (fun _ => ?_) (fun _ => ?_) | refine wgd_case (fun _ => ?_) (fun _ => ?_) | refine wb_casep (fun _ => ?_) (fun _ => ?_) | refine wb_casen (fun _ => ?_) (fun _ => ?_) | refine wb_case (fun _ => ?_) (fun _ => ?_) | refine Cf.pu asciiSet_ok (fun _ => ?_)) <;> try simp (maxSteps := 4000000) only [vm, vl, Arg.get, cells, stor, boundO, resultsV, resV, partK, loadV, Vm.part, fillC, splice, reduceIte, reduceCtorEq, Nat.reduceEqDiff, Nat.reduceAdd, Nat.reduceSub, Nat.reduceMul, Nat.reduceLeDiff, ne_eq, not_false_eq_true, Int.reduceEq, Int.reduceLT, Int.reduceLE, Int.reduceNeg, Int.reduceToNat, Int.reduceGT, Int.reduceGE, Nat.reduceLT, Nat.lt_add_one, Nat.zero_lt_succ, Nat.succ_pos, Nat.zero_le, beq_self_eq_true, k_strings_Trim_2, k_strings_Trim_1, k_strings_Trim_0, *]))
    rename_i t
    refine ⟨by rw [List.length_replicate]; omega, ?_⟩
    have hb : (h ++ (t ++ [O.box (blankT ++ [])]))[h.length + t.length]? = some (.box blankT) := by
      rw [List.append_nil, ← List.append_assoc, List.getElem?_append_right (by simp)]
      simp
    refine Cf.pu (rightASCII_ok hs hb) fun t' => ?_
    refine Cf.pu (leftASCII_ok (Nat.lt_of_le_of_lt (trimR_length _) hs) (get_old hb)) fun t'' => ?_
    exact ⟨rfl, _, by rw [List.append_assoc, List.append_assoc]⟩
theorem Trim_ok {s : Bs} (hs : s.length < 9223372036854775807) : Cf F L i_token_Trim [.str s] h (Pu h (.str (trim s))) := by
  refine run_token_Trim ?_
  simp only [p_token_Trim]
  simp (maxSteps := 4000000) only [vm, vl, Arg.get, cells, stor, boundO, resultsV, resV, partK, loadV, Vm.part, fillC, splice, reduceIte, reduceCtorEq, Nat.reduceEqDiff, Nat.reduceAdd, Nat.reduceSub, Nat.reduceMul, Nat.reduceLeDiff, ne_eq, not_false_eq_true, Int.reduceEq, Int.reduceLT, Int.reduceLE, Int.reduceNeg, Int.reduceToNat, Int.reduceGT, Int.reduceGE, Nat.reduceLT, Nat.lt_add_one, Nat.zero_lt_succ, Nat.succ_pos, Nat.zero_le, beq_self_eq_true]
  (repeat' ((first | refine wg_casep (fun _ => ?_) (fun _ => ?_) | refine wg_casen (fun _ => ?_) (fun _ => ?_) | refine wg_case (fun _ => ?_) (fun _ => ?_) | refine wgd_casep (fun _ => ?_) (fun _ => ?_) | refine wgd_casen (fun _ => ?_) (fun _ => ?_) | refine wgd_case (fun _ => ?_) (fun _ => ?_) | refine wb_casep (fun _ => ?_) (fun _ => ?_) | refine wb_casen (fun _ => ?_) (fun _ => ?_) | refine wb_case (fun _ => ?_) (fun _ => ?_) | refine Cf.pu (stringsTrim_ok hs) (fun _ => ?_)) <;> try simp (maxSteps := 4000000) only [vm, vl, Arg.get, cells, stor, boundO, resultsV, resV, partK, loadV, Vm.part, fillC, splice, reduceIte, reduceCtorEq, Nat.reduceEqDiff, Nat.reduceAdd, Nat.reduceSub, Nat.reduceMul, Nat.reduceLeDiff, ne_eq, not_false_eq_true, Int.reduceEq, Int.reduceLT, Int.reduceLE, Int.reduceNeg, Int.reduceToNat, Int.reduceGT, Int.reduceGE, Nat.reduceLT, Nat.lt_add_one, Nat.zero_lt_succ, Nat.succ_pos, Nat.zero_le, beq_self_eq_true, *]))
theorem Value_ok {s : Bs} (hs : s.length < 9223372036854775807) : Cf F L i_token_Value [.str s] h (Pu h (.bool (isVal s))) := by
  refine run_token_Value ?_
  simp only [p_token_Value]
  simp (maxSteps := 4000000) only [vm, vl, Arg.get, cells, stor, boundO, resultsV, resV, partK, loadV, Vm.part, fillC, splice, reduceIte, reduceCtorEq, Nat.reduceEqDiff, Nat.reduceAdd, Nat.reduceSub, Nat.reduceMul, Nat.reduceLeDiff, ne_eq, not_false_eq_true, Int.reduceEq, Int.reduceLT, Int.reduceLE, Int.reduceNeg, Int.reduceToNat, Int.reduceGT, Int.reduceGE, Nat.reduceLT, Nat.lt_add_one, Nat.zero_lt_succ, Nat.succ_pos, Nat.zero_le, beq_self_eq_true]
  (repeat' ((first | refine wg_casep (fun _ => ?_) (fun _ => ?_) | refine wg_casen (fun _ => ?_) (fun _ => ?_) | refine wg_case (fun _ => ?_) (fun _ => ?_) | refine wgd_casep (fun _ => ?_) (fun _ => ?_) | refine wgd_casen (fun _ => ?_) (fun _ => ?_) | refine wgd_case (fun _ => ?_) (fun _ => ?_) | refine wb_casep (fun _ => ?_) (fun _ => ?_) | refine wb_casen (fun _ => ?_) (fun _ => ?_) | refine wb_case (fun _ => ?_) (fun _ => ?_) | refine Cf.pu (Trim_ok hs) (fun _ => ?_) | refine Cf.pu (all_ok (caps := []) hs (fun c h => Value1_ok)) (fun _ => ?_)) <;> try simp (maxSteps := 4000000) only [vm, vl, Arg.get, cells, stor, boundO, resultsV, resV, partK, loadV, Vm.part, fillC, splice, reduceIte, reduceCtorEq, Nat.reduceEqDiff, Nat.reduceAdd, Nat.reduceSub, Nat.reduceMul, Nat.reduceLeDiff, ne_eq, not_false_eq_true, Int.reduceEq, Int.reduceLT, Int.reduceLE, Int.reduceNeg, Int.reduceToNat, Int.reduceGT, Int.reduceGE, Nat.reduceLT, Nat.lt_add_one, Nat.zero_lt_succ, Nat.succ_pos, Nat.zero_le, beq_self_eq_true, *]))
  all_goals simp_all [isVal]
end Go.Proofs.YtnfcjeajbjcppaaDoor.Vh
end
section
set_option linter.unusedVariables false
set_option linter.unusedSimpArgs false
namespace Go.Proofs.YtnfcjeajbjcppaaDoor.Vh
open Go.Vm Go.Vt
attribute [local congr] wi_congr wg_congr wgd_congr wb_congr wl_congr cf_congr
variable {L : FuncId → List V → V → Prop} {h : Heap}
theorem rblank_ok {c : UInt8} : Cf F L i_gatepostref01_blank [byV c] h (Pu h (.bool (blankB c))) := by
  refine run_gatepostref01_blank ?_
  simp only [p_gatepostref01_blank]
  simp (maxSteps := 4000000) only [vm, vl, Arg.get, cells, stor, boundO, resultsV, resV, partK, loadV, Vm.part, fillC, splice, reduceIte, reduceCtorEq, Nat.reduceEqDiff, Nat.reduceAdd, Nat.reduceSub, Nat.reduceMul, Nat.reduceLeDiff, ne_eq, not_false_eq_true, Int.reduceEq, Int.reduceLT, Int.reduceLE, Int.reduceNeg, Int.reduceToNat, Int.reduceGT, Int.reduceGE, Nat.reduceLT, Nat.lt_add_one, Nat.zero_lt_succ, Nat.succ_pos, Nat.zero_le, beq_self_eq_true]
  (repeat' ((first | refine wg_casep (fun _ => ?_) (fun _ => ?_) | refine wg_casen (fun _ => ?_) (fun _ => ?_) | refine wg_case (fun _ => ?_) (fun _ => ?_) | refine wgd_casep (fun _ => ?_) (fun _ => ?_) | refine wgd_casen (fun _ => ?_) (fun _ => ?_) | refine wgd_case (fun _ => ?_) (fun _ => ?_) | refine wb_casep (fun _ => ?_) (fun _ => ?_) | refine wb_casen (fun _ => ?_) (fun _ => ?_) | refine wb_case (fun _ => ?_) (fun _ => ?_)) <;> try simp (maxSteps := 4000000) only [vm, vl, Arg.get, cells, stor, boundO, resultsV, resV, partK, loadV, Vm.part, fillC, splice, reduceIte, reduceCtorEq, Nat.reduceEqDiff, Nat.reduceAdd, Nat.reduceSub, Nat.reduceMul, Nat.reduceLeDiff, ne_eq, not_false_eq_true, Int.reduceEq, Int.reduceLT, Int.reduceLE, Int.reduceNeg, Int.reduceToNat, Int.reduceGT, Int.reduceGE, Nat.reduceLT, Nat.lt_add_one, Nat.zero_lt_succ, Nat.succ_pos, Nat.zero_le, beq_self_eq_true, *]))
  all_goals simp [blank_eq, *]
theorem isVal_ref (s : Bs) : isVal s = (s.all valB && (s == [] || (!blankB (s.getD 0 0) && !blankB (s.getD (s.length - 1) 0)))) := by
  have key : (decide (trim s = s)) = (s == [] || (!blankB (s.getD 0 0) && !blankB (s.getD (s.length - 1) 0))) := by
    cases hn : s.length with
    | zero =>
      obtain rfl : s = [] := List.eq_nil_of_length_eq_zero hn
      rfl
    | succ n =>
      obtain ⟨q, c, rfl, hq, hc, ht⟩ := last_at hn
      have e1 : ((q ++ [c] : Bs) == []) = false := by cases q <;> rfl
      rw [e1, Nat.add_sub_cancel, hc, Bool.false_or]
      cases hb : blankB c with
      | true =>
        have : trim (q ++ [c]) ≠ q ++ [c] := by
          intro he
          have := congrArg List.length he
          unfold trim at this
          rw [trimR_blank hb] at this
          have h1 := trimL_length (trimR q)
          have h2 := trimR_length q
          simp at this
          omega
        simp [this]
      | false =>
        unfold trim
        rw [trimR_full hb]
        cases q with
        | nil => simp [trimL, hb]
        | cons d q =>
          rw [List.cons_append]
          cases hd : blankB d with
          | true =>
            rw [trimL_blank hd]
            have : trimL (q ++ [c]) ≠ d :: (q ++ [c]) := by
              intro he
              have := congrArg List.length he
              have h1 := trimL_length (q ++ [c])
              simp at this h1
              omega
            simp [this, hd]
          | false =>
            rw [trimL_full hd]
            simp [hd]
  rw [isVal, key, Bool.and_comm]
theorem val_ref (c : UInt8) : valB c = !(!blankB c && (decide ((c.toNat : Int) < 33) || decide ((c.toNat : Int) = 127))) :=
  byte_all (p := fun c => valB c = !(!blankB c && (decide ((c.toNat : Int) < 33) || decide ((c.toNat : Int) = 127)))) (by decide +kernel) c
theorem rValue_ok {s : Bs} (hs : s.length < 9223372036854775807) : Cf F L i_gatepostref01_Value [.str s] h (Pu h (.bool (isVal s))) := by
  refine run_gatepostref01_Value ?_
  simp only [p_gatepostref01_Value]
  rw [isVal_ref]
  refine l_gatepostref01_Value_0 (fun n e h' => ∃ i, n = s.length - i ∧ i ≤ s.length ∧ e 0 = .str s ∧ e 3 = .int .i64 i ∧ (∃ t, h' = h ++ t) ∧ s.all valB = (s.drop i).all valB) ?_ (n := s.length) ⟨0, by simp, by simp, rfl, rfl, ⟨[], by simp⟩, rfl⟩
  rintro n e h' ⟨i, rfl, hi, e0, e3, ⟨t, rfl⟩, hall⟩
  simp only [b_gatepostref01_Value_0]
  rcases str_at hi with ⟨hn, rfl, hd⟩ | ⟨c, hl, hl', hc, hd⟩
  · rw [hd] at hall
    cases hn2 : s.length with
    | zero =>
      obtain rfl : s = [] := List.eq_nil_of_length_eq_zero hn2
      have e1 : (([] : Bs) == []) = true := rfl
      simp (maxSteps := 4000000) only [vm, vl, Arg.get, cells, stor, boundO, resultsV, resV, partK, loadV, Vm.part, fillC, splice, reduceIte, reduceCtorEq, Nat.reduceEqDiff, Nat.reduceAdd, Nat.reduceSub, Nat.reduceMul, Nat.reduceLeDiff, ne_eq, not_false_eq_true, Int.reduceEq, Int.reduceLT, Int.reduceLE, Int.reduceNeg, Int.reduceToNat, Int.reduceGT, Int.reduceGE, Nat.reduceLT, Nat.lt_add_one, Nat.zero_lt_succ, Nat.succ_pos, Nat.zero_le, beq_self_eq_true, k_gatepostref01_Value_0, k_gatepostref01_Value_2, k_gatepostref01_Value_1, e0, e3, hn, hn2, e1]
      rfl
    | succ n =>
      have e1 : (s == []) = false := by cases s <;> first | (simp at hn2; done) | rfl
      have w : IntKind.i64.wrap (((n + 1 : Nat) : Int) - 1) = n := by rw [wrap64 (by omega) (by omega)]; omega
      rw [hn2] at e3 hn
      have g1 : 0 < n + 1 := by omega
      simp (maxSteps := 4000000) only [vm, vl, Arg.get, cells, stor, boundO, resultsV, resV, partK, loadV, Vm.part, fillC, splice, reduceIte, reduceCtorEq, Nat.reduceEqDiff, Nat.reduceAdd, Nat.reduceSub, Nat.reduceMul, Nat.reduceLeDiff, ne_eq, not_false_eq_true, Int.reduceEq, Int.reduceLT, Int.reduceLE, Int.reduceNeg, Int.reduceToNat, Int.reduceGT, Int.reduceGE, Nat.reduceLT, Nat.lt_add_one, Nat.zero_lt_succ, Nat.succ_pos, Nat.zero_le, beq_self_eq_true, k_gatepostref01_Value_0, k_gatepostref01_Value_2, k_gatepostref01_Value_1, e0, e3, hn, hn2, e1, w, g1]
      (repeat' ((first | refine wg_casep (fun _ => ?_) (fun _ => ?_) | refine wg_casen (fun _ => ?_) (fun _ => ?_) | refine wg_case (fun _ => ?_) (fun _ => ?_) | refine wgd_casep (fun _ => ?_) (fun _ => ?_) | refine wgd_casen (fun _ => ?_) (fun _ => ?_) | refine wgd_case (fun _ => ?_) (fun _ => ?_) | refine wb_casep (fun _ => ?_) (fun _ => ?_) | refine wb_casen (fun _ => ?_) (fun _ => ?_) | refine wb_case (fun _ => ?_) (fun _ => ?_) | refine Cf.pu rblank_ok (fun _ => ?_)) <;> try simp (maxSteps := 4000000) only [vm, vl, Arg.get, cells, stor, boundO, resultsV, resV, partK, loadV, Vm.part, fillC, splice, reduceIte, reduceCtorEq, Nat.reduceEqDiff, Nat.reduceAdd, Nat.reduceSub, Nat.reduceMul, Nat.reduceLeDiff, ne_eq, not_false_eq_true, Int.reduceEq, Int.reduceLT, Int.reduceLE, Int.reduceNeg, Int.reduceToNat, Int.reduceGT, Int.reduceGE, Nat.reduceLT, Nat.lt_add_one, Nat.zero_lt_succ, Nat.succ_pos, Nat.zero_le, beq_self_eq_true, k_gatepostref01_Value_0, k_gatepostref01_Value_2, k_gatepostref01_Value_1, *]))
      all_goals simp_all
  · have w := wrap64 (x := (i : Int) + 1) (by omega) (by omega)
    rw [hd] at hall
    simp (maxSteps := 4000000) only [vm, vl, Arg.get, cells, stor, boundO, resultsV, resV, partK, loadV, Vm.part, fillC, splice, reduceIte, reduceCtorEq, Nat.reduceEqDiff, Nat.reduceAdd, Nat.reduceSub, Nat.reduceMul, Nat.reduceLeDiff, ne_eq, not_false_eq_true, Int.reduceEq, Int.reduceLT, Int.reduceLE, Int.reduceNeg, Int.reduceToNat, Int.reduceGT, Int.reduceGE, Nat.reduceLT, Nat.lt_add_one, Nat.zero_lt_succ, Nat.succ_pos, Nat.zero_le, beq_self_eq_true, k_gatepostref01_Value_0, k_gatepostref01_Value_2, k_gatepostref01_Value_1, e0, e3, hl, hc, hl', w]
    (repeat' ((first | refine wg_casep (fun _ => ?_) (fun _ => ?_) | refine wg_casen (fun _ => ?_) (fun _ => ?_) | refine wg_case (fun _ => ?_) (fun _ => ?_) | refine wgd_casep (fun _ => ?_) (fun _ => ?_) | refine wgd_casen (fun _ => ?_) (fun _ => ?_) | refine wgd_case (fun _ => ?_) (fun _ => ?_) | refine wb_casep (fun _ => ?_) (fun _ => ?_) | refine wb_casen (fun _ => ?_) (fun _ => ?_) | refine wb_case (fun _ => ?_) (fun _ => ?_) | refine Cf.pu rblank_ok (fun _ => ?_)) <;> try simp (maxSteps := 4000000) only [vm, vl, Arg.get, cells, stor, boundO, resultsV, resV, partK, loadV, Vm.part, fillC, splice, reduceIte, reduceCtorEq, Nat.reduceEqDiff, Nat.reduceAdd, Nat.reduceSub, Nat.reduceMul, Nat.reduceLeDiff, ne_eq, not_false_eq_true, Int.reduceEq, Int.reduceLT, Int.reduceLE, Int.reduceNeg, Int.reduceToNat, Int.reduceGT, Int.reduceGE, Nat.reduceLT, Nat.lt_add_one, Nat.zero_lt_succ, Nat.succ_pos, Nat.zero_le, beq_self_eq_true, k_gatepostref01_Value_0, k_gatepostref01_Value_2, k_gatepostref01_Value_1, *]))
    all_goals have hv := val_ref c
    all_goals first
      | (simp_all; done)
      | (refine ⟨s.length - (i + 1), by omega, i + 1, rfl, hl', by simp, ⟨_, rfl⟩, ?_⟩; simp_all; done)
      | trace_state
end Go.Proofs.YtnfcjeajbjcppaaDoor.Vh
end
section
set_option linter.unusedVariables false
set_option linter.unusedSimpArgs false
namespace Go.Proofs.YtnfcjeajbjcppaaDoor.Vh
open Go.Vm
end Go.Proofs.YtnfcjeajbjcppaaDoor.Vh
end
section
set_option linter.unusedVariables false
set_option linter.unusedSimpArgs false
namespace Go.Proofs.YtnfcjeajbjcppaaDoor.Vh
open Go.Vm Go.Vt
attribute [local congr] wi_congr wg_congr wgd_congr wb_congr wl_congr cf_congr
variable {L : FuncId → List V → V → Prop} {h : Heap}
def tgtB (c : UInt8) : Bool := decide (32 < (c.toNat : Int) ∧ (c.toNat : Int) ≤ 126)
def rsnB (c : UInt8) : Bool := decide ((c.toNat : Int) = 9 ∨ (32 ≤ (c.toNat : Int) ∧ (c.toNat : Int) ≠ 127))
def tgtS (s : Bs) : Bool := !s.isEmpty && s.all tgtB
def rsnS (s : Bs) : Bool := s.all rsnB
theorem isTarget_ok {s : Bs} (hs : s.length < 9223372036854775807) : Cf F L i_line_isTarget [.str s] h (Pu h (.bool (tgtS s))) := by
  refine run_line_isTarget ?_
  simp only [p_line_isTarget]
  simp (maxSteps := 4000000) only [vm, vl, Arg.get, cells, stor, boundO, resultsV, resV, partK, loadV, Vm.part, fillC, splice, reduceIte, reduceCtorEq, Nat.reduceEqDiff, Nat.reduceAdd, Nat.reduceSub, Nat.reduceMul, Nat.reduceLeDiff, ne_eq, not_false_eq_true, Int.reduceEq, Int.reduceLT, Int.reduceLE, Int.reduceNeg, Int.reduceToNat, Int.reduceGT, Int.reduceGE, Nat.reduceLT, Nat.lt_add_one, Nat.zero_lt_succ, Nat.succ_pos, Nat.zero_le, beq_self_eq_true, k_line_isTarget_0, k_line_isTarget_2, k_line_isTarget_1]
  refine l_line_isTarget_0 (fun n e h' => ∃ i, n = s.length - i ∧ i ≤ s.length ∧ e 0 = .str s ∧ e 5 = .int .i64 s.length ∧ e 6 = .int .i64 i ∧ (∃ t, h' = h ++ t) ∧ s.all tgtB = (s.drop i).all tgtB) ?_ (n := s.length) ⟨0, by simp, by simp, rfl, rfl, rfl, ⟨[], by simp⟩, rfl⟩
  rintro n e h' ⟨i, rfl, hi, e0, e5, e6, ⟨t, rfl⟩, hall⟩
  simp only [b_line_isTarget_0]
  rcases str_at hi with ⟨hn, rfl, hd⟩ | ⟨c, hl, hl', hc, hd⟩
  · simp (maxSteps := 4000000) only [vm, vl, Arg.get, cells, stor, boundO, resultsV, resV, partK, loadV, Vm.part, fillC, splice, reduceIte, reduceCtorEq, Nat.reduceEqDiff, Nat.reduceAdd, Nat.reduceSub, Nat.reduceMul, Nat.reduceLeDiff, ne_eq, not_false_eq_true, Int.reduceEq, Int.reduceLT, Int.reduceLE, Int.reduceNeg, Int.reduceToNat, Int.reduceGT, Int.reduceGE, Nat.reduceLT, Nat.lt_add_one, Nat.zero_lt_succ, Nat.succ_pos, Nat.zero_le, beq_self_eq_true, k_line_isTarget_0, k_line_isTarget_2, k_line_isTarget_1, e0, e5, e6, hn]
    rw [tgtS, hall, hd]
    cases s <;> simp
  · have w := wrap64 (x := (i : Int) + 1) (by omega) (by omega)
    rw [hd, List.all_cons] at hall
    by_cases c1 : (c.toNat : Int) ≤ 32
    · have q : tgtB c = false := by simp [tgtB]; omega
      simp (maxSteps := 4000000) only [vm, vl, Arg.get, cells, stor, boundO, resultsV, resV, partK, loadV, Vm.part, fillC, splice, reduceIte, reduceCtorEq, Nat.reduceEqDiff, Nat.reduceAdd, Nat.reduceSub, Nat.reduceMul, Nat.reduceLeDiff, ne_eq, not_false_eq_true, Int.reduceEq, Int.reduceLT, Int.reduceLE, Int.reduceNeg, Int.reduceToNat, Int.reduceGT, Int.reduceGE, Nat.reduceLT, Nat.lt_add_one, Nat.zero_lt_succ, Nat.succ_pos, Nat.zero_le, beq_self_eq_true, k_line_isTarget_0, k_line_isTarget_2, k_line_isTarget_1, e0, e5, e6, hl, hc, hl', c1, decide_true]
      rw [tgtS, hall, q]; simp
    · by_cases c2 : (c.toNat : Int) > 126
      · have q : tgtB c = false := by simp [tgtB]; omega
        simp (maxSteps := 4000000) only [vm, vl, Arg.get, cells, stor, boundO, resultsV, resV, partK, loadV, Vm.part, fillC, splice, reduceIte, reduceCtorEq, Nat.reduceEqDiff, Nat.reduceAdd, Nat.reduceSub, Nat.reduceMul, Nat.reduceLeDiff, ne_eq, not_false_eq_true, Int.reduceEq, Int.reduceLT, Int.reduceLE, Int.reduceNeg, Int.reduceToNat, Int.reduceGT, Int.reduceGE, Nat.reduceLT, Nat.lt_add_one, Nat.zero_lt_succ, Nat.succ_pos, Nat.zero_le, beq_self_eq_true, k_line_isTarget_0, k_line_isTarget_2, k_line_isTarget_1, e0, e5, e6, hl, hc, hl', c1, c2, decide_true, decide_false]
        rw [tgtS, hall, q]; simp
      · have q : tgtB c = true := by simp [tgtB]; omega
        simp (maxSteps := 4000000) only [vm, vl, Arg.get, cells, stor, boundO, resultsV, resV, partK, loadV, Vm.part, fillC, splice, reduceIte, reduceCtorEq, Nat.reduceEqDiff, Nat.reduceAdd, Nat.reduceSub, Nat.reduceMul, Nat.reduceLeDiff, ne_eq, not_false_eq_true, Int.reduceEq, Int.reduceLT, Int.reduceLE, Int.reduceNeg, Int.reduceToNat, Int.reduceGT, Int.reduceGE, Nat.reduceLT, Nat.lt_add_one, Nat.zero_lt_succ, Nat.succ_pos, Nat.zero_le, beq_self_eq_true, k_line_isTarget_0, k_line_isTarget_2, k_line_isTarget_1, e0, e5, e6, hl, hc, hl', c1, c2, decide_true, decide_false, w]
        exact ⟨s.length - (i + 1), by omega, i + 1, rfl, hl', rfl, ⟨t, rfl⟩, by rw [hall, q]; simp⟩
theorem isReason_ok {s : Bs} (hs : s.length < 9223372036854775807) : Cf F L i_line_isReason [.str s] h (Pu h (.bool (rsnS s))) := by
  refine run_line_isReason ?_
  simp only [p_line_isReason]
  simp (maxSteps := 4000000) only [vm, vl, Arg.get, cells, stor, boundO, resultsV, resV, partK, loadV, Vm.part, fillC, splice, reduceIte, reduceCtorEq, Nat.reduceEqDiff, Nat.reduceAdd, Nat.reduceSub, Nat.reduceMul, Nat.reduceLeDiff, ne_eq, not_false_eq_true, Int.reduceEq, Int.reduceLT, Int.reduceLE, Int.reduceNeg, Int.reduceToNat, Int.reduceGT, Int.reduceGE, Nat.reduceLT, Nat.lt_add_one, Nat.zero_lt_succ, Nat.succ_pos, Nat.zero_le, beq_self_eq_true, k_line_isReason_0, k_line_isReason_2, k_line_isReason_1]
  refine l_line_isReason_0 (fun n e h' => ∃ i, n = s.length - i ∧ i ≤ s.length ∧ e 0 = .str s ∧ e 6 = .int .i64 s.length ∧ e 7 = .int .i64 i ∧ (∃ t, h' = h ++ t) ∧ s.all rsnB = (s.drop i).all rsnB) ?_ (n := s.length) ⟨0, by simp, by simp, rfl, rfl, rfl, ⟨[], by simp⟩, rfl⟩
  rintro n e h' ⟨i, rfl, hi, e0, e6, e7, ⟨t, rfl⟩, hall⟩
  simp only [b_line_isReason_0]
  rcases str_at hi with ⟨hn, rfl, hd⟩ | ⟨c, hl, hl', hc, hd⟩
  · simp (maxSteps := 4000000) only [vm, vl, Arg.get, cells, stor, boundO, resultsV, resV, partK, loadV, Vm.part, fillC, splice, reduceIte, reduceCtorEq, Nat.reduceEqDiff, Nat.reduceAdd, Nat.reduceSub, Nat.reduceMul, Nat.reduceLeDiff, ne_eq, not_false_eq_true, Int.reduceEq, Int.reduceLT, Int.reduceLE, Int.reduceNeg, Int.reduceToNat, Int.reduceGT, Int.reduceGE, Nat.reduceLT, Nat.lt_add_one, Nat.zero_lt_succ, Nat.succ_pos, Nat.zero_le, beq_self_eq_true, k_line_isReason_0, k_line_isReason_2, k_line_isReason_1, e0, e6, e7, hn]
    rw [rsnS, hall, hd]; rfl
  · have w := wrap64 (x := (i : Int) + 1) (by omega) (by omega)
    rw [hd, List.all_cons] at hall
    have no : rsnB c = false → false = rsnS s := by intro q; rw [rsnS, hall, q]; rfl
    have yes : rsnB c = true → s.all rsnB = (s.drop (i + 1)).all rsnB := by intro q; rw [hall, q]; rfl
    by_cases c1 : (c.toNat : Int) < 32
    · by_cases c2 : (c.toNat : Int) = 9
      · have q : rsnB c = true := by simp [rsnB]; omega
        have c3 : ¬ (c.toNat : Int) = 127 := by omega
        simp (maxSteps := 4000000) only [vm, vl, Arg.get, cells, stor, boundO, resultsV, resV, partK, loadV, Vm.part, fillC, splice, reduceIte, reduceCtorEq, Nat.reduceEqDiff, Nat.reduceAdd, Nat.reduceSub, Nat.reduceMul, Nat.reduceLeDiff, ne_eq, not_false_eq_true, Int.reduceEq, Int.reduceLT, Int.reduceLE, Int.reduceNeg, Int.reduceToNat, Int.reduceGT, Int.reduceGE, Nat.reduceLT, Nat.lt_add_one, Nat.zero_lt_succ, Nat.succ_pos, Nat.zero_le, beq_self_eq_true, k_line_isReason_0, k_line_isReason_2, k_line_isReason_1, e0, e6, e7, hl, hc, hl', c1, c2, w, decide_true, decide_false, Bool.not_true]
        exact ⟨s.length - (i + 1), by omega, i + 1, rfl, hl', rfl, ⟨t, rfl⟩, yes q⟩
      · have q : rsnB c = false := by simp [rsnB]; omega
        simp (maxSteps := 4000000) only [vm, vl, Arg.get, cells, stor, boundO, resultsV, resV, partK, loadV, Vm.part, fillC, splice, reduceIte, reduceCtorEq, Nat.reduceEqDiff, Nat.reduceAdd, Nat.reduceSub, Nat.reduceMul, Nat.reduceLeDiff, ne_eq, not_false_eq_true, Int.reduceEq, Int.reduceLT, Int.reduceLE, Int.reduceNeg, Int.reduceToNat, Int.reduceGT, Int.reduceGE, Nat.reduceLT, Nat.lt_add_one, Nat.zero_lt_succ, Nat.succ_pos, Nat.zero_le, beq_self_eq_true, k_line_isReason_0, k_line_isReason_2, k_line_isReason_1, e0, e6, e7, hl, hc, hl', c1, c2, w, decide_true, decide_false, Bool.not_false]
        exact no q
    · by_cases c3 : (c.toNat : Int) = 127
      · have q : rsnB c = false := by simp [rsnB]; omega
        simp (maxSteps := 4000000) only [vm, vl, Arg.get, cells, stor, boundO, resultsV, resV, partK, loadV, Vm.part, fillC, splice, reduceIte, reduceCtorEq, Nat.reduceEqDiff, Nat.reduceAdd, Nat.reduceSub, Nat.reduceMul, Nat.reduceLeDiff, ne_eq, not_false_eq_true, Int.reduceEq, Int.reduceLT, Int.reduceLE, Int.reduceNeg, Int.reduceToNat, Int.reduceGT, Int.reduceGE, Nat.reduceLT, Nat.lt_add_one, Nat.zero_lt_succ, Nat.succ_pos, Nat.zero_le, beq_self_eq_true, k_line_isReason_0, k_line_isReason_2, k_line_isReason_1, e0, e6, e7, hl, hc, hl', c1, c3, w, decide_true, decide_false]
        exact no q
      · have q : rsnB c = true := by simp [rsnB]; omega
        simp (maxSteps := 4000000) only [vm, vl, Arg.get, cells, stor, boundO, resultsV, resV, partK, loadV, Vm.part, fillC, splice, reduceIte, reduceCtorEq, Nat.reduceEqDiff, Nat.reduceAdd, Nat.reduceSub, Nat.reduceMul, Nat.reduceLeDiff, ne_eq, not_false_eq_true, Int.reduceEq, Int.reduceLT, Int.reduceLE, Int.reduceNeg, Int.reduceToNat, Int.reduceGT, Int.reduceGE, Nat.reduceLT, Nat.lt_add_one, Nat.zero_lt_succ, Nat.succ_pos, Nat.zero_le, beq_self_eq_true, k_line_isReason_0, k_line_isReason_2, k_line_isReason_1, e0, e6, e7, hl, hc, hl', c1, c3, w, decide_true, decide_false]
        exact ⟨s.length - (i + 1), by omega, i + 1, rfl, hl', rfl, ⟨t, rfl⟩, yes q⟩
end Go.Proofs.YtnfcjeajbjcppaaDoor.Vh
end
section
set_option linter.unusedVariables false
set_option linter.unusedSimpArgs false
namespace Go.Proofs.YtnfcjeajbjcppaaDoor.Vh
open Go.Vm Go.Vt
attribute [local congr] wi_congr wg_congr wgd_congr wb_congr wl_congr cf_congr
variable {L : FuncId → List V → V → Prop} {h : Heap}
def ver0 : Bs := [72, 84, 84, 80, 47, 49, 46, 48]
def ver1 : Bs := [72, 84, 84, 80, 47, 49, 46, 49]
def versS (s : Bs) : Int := if s = ver0 then 0 else if s = ver1 then 1 else -1
theorem vers_le (s : Bs) : -1 ≤ versS s ∧ versS s ≤ 1 := by unfold versS; split; omega; split <;> omega
theorem version_ok {s : Bs} : Cf F L i_line_version [.str s] h (Pu h (.int .i64 (versS s))) := by
  refine run_line_version ?_
  simp only [p_line_version]
  unfold versS ver0 ver1
  by_cases a : s = [72, 84, 84, 80, 47, 49, 46, 48]
  · have a' : (s == [72, 84, 84, 80, 47, 49, 46, 48]) = true := beq_iff_eq.2 a
    rw [if_pos a]
    simp (maxSteps := 4000000) only [vm, vl, Arg.get, cells, stor, boundO, resultsV, resV, partK, loadV, Vm.part, fillC, splice, reduceIte, reduceCtorEq, Nat.reduceEqDiff, Nat.reduceAdd, Nat.reduceSub, Nat.reduceMul, Nat.reduceLeDiff, ne_eq, not_false_eq_true, Int.reduceEq, Int.reduceLT, Int.reduceLE, Int.reduceNeg, Int.reduceToNat, Int.reduceGT, Int.reduceGE, Nat.reduceLT, Nat.lt_add_one, Nat.zero_lt_succ, Nat.succ_pos, Nat.zero_le, beq_self_eq_true, k_line_version_0, a']
  have a' : (s == [72, 84, 84, 80, 47, 49, 46, 48]) = false := beq_eq_false_iff_ne.2 a
  rw [if_neg a]
  by_cases b : s = [72, 84, 84, 80, 47, 49, 46, 49]
  · have b' : (s == [72, 84, 84, 80, 47, 49, 46, 49]) = true := beq_iff_eq.2 b
    rw [if_pos b]
    simp (maxSteps := 4000000) only [vm, vl, Arg.get, cells, stor, boundO, resultsV, resV, partK, loadV, Vm.part, fillC, splice, reduceIte, reduceCtorEq, Nat.reduceEqDiff, Nat.reduceAdd, Nat.reduceSub, Nat.reduceMul, Nat.reduceLeDiff, ne_eq, not_false_eq_true, Int.reduceEq, Int.reduceLT, Int.reduceLE, Int.reduceNeg, Int.reduceToNat, Int.reduceGT, Int.reduceGE, Nat.reduceLT, Nat.lt_add_one, Nat.zero_lt_succ, Nat.succ_pos, Nat.zero_le, beq_self_eq_true, k_line_version_0, a', b']
  have b' : (s == [72, 84, 84, 80, 47, 49, 46, 49]) = false := beq_eq_false_iff_ne.2 b
  rw [if_neg b]
  simp (maxSteps := 4000000) only [vm, vl, Arg.get, cells, stor, boundO, resultsV, resV, partK, loadV, Vm.part, fillC, splice, reduceIte, reduceCtorEq, Nat.reduceEqDiff, Nat.reduceAdd, Nat.reduceSub, Nat.reduceMul, Nat.reduceLeDiff, ne_eq, not_false_eq_true, Int.reduceEq, Int.reduceLT, Int.reduceLE, Int.reduceNeg, Int.reduceToNat, Int.reduceGT, Int.reduceGE, Nat.reduceLT, Nat.lt_add_one, Nat.zero_lt_succ, Nat.succ_pos, Nat.zero_le, beq_self_eq_true, k_line_version_0, a', b']
def req3 (a b c : Bs) : Option (Bs × Bs × Int) := if isTok a = true ∧ tgtS b = true ∧ 0 ≤ versS c then some (a, b, versS c) else none
def reqW : List Bs → Option (Bs × Bs × Int)
  | [a, b, c] => req3 a b c
  | _ => none
def reqO : Option (Bs × Bs × Int) → V
  | some (a, b, m) => .tup [.str a, .str b, .int .i64 m, .int .i64 0]
  | none => .tup [.str [], .str [], .int .i64 0, .int .i64 30]
def reqRV (s : Bs) : V := if s.length > 1024 then .tup [.str [], .str [], .int .i64 0, .int .i64 3] else reqO (reqW (splitB s))
theorem words_all : ∀ s : Bs, ∀ w ∈ splitB s, w.length ≤ s.length
  | [], w, h => by simp [splitB] at h; simp [h]
  | c :: r, w, h => by
    have ih := words_all r
    unfold splitB at h
    split at h
    · rcases List.mem_cons.1 h with rfl | h
      · simp
      · have := ih w h; simp only [List.length_cons]; omega
    · cases hs : splitB r with
      | nil => exact absurd hs (splitB_ne r)
      | cons x xs =>
        rw [hs] at h ih
        rcases List.mem_cons.1 h with rfl | h
        · have := ih x (by simp); simp only [List.length_cons]; omega
        · have := ih w (by simp [h]); simp only [List.length_cons]; omega
theorem LRequest_ok (HI : IndexOk L) (HC : CountOk L) {s : Bs} (hs : s.length ≤ 140737488351232) : Cf F L i_line_Request [.str s] h (Pu h (reqRV s)) := by
  refine run_line_Request ?_
  simp only [p_line_Request]
  
  unfold reqRV
  by_cases c : s.length > 1024
  · have c' : (s.length : Int) > 1024 := by omega
    rw [if_pos c]
    simp (maxSteps := 4000000) only [vm, vl, Arg.get, cells, stor, boundO, resultsV, resV, partK, loadV, Vm.part, fillC, splice, reduceIte, reduceCtorEq, Nat.reduceEqDiff, Nat.reduceAdd, Nat.reduceSub, Nat.reduceMul, Nat.reduceLeDiff, ne_eq, not_false_eq_true, Int.reduceEq, Int.reduceLT, Int.reduceLE, Int.reduceNeg, Int.reduceToNat, Int.reduceGT, Int.reduceGE, Nat.reduceLT, Nat.lt_add_one, Nat.zero_lt_succ, Nat.succ_pos, Nat.zero_le, beq_self_eq_true, c', decide_true]
  have c' : ¬ (s.length : Int) > 1024 := by omega
  rw [if_neg c]
  simp (maxSteps := 4000000) only [vm, vl, Arg.get, cells, stor, boundO, resultsV, resV, partK, loadV, Vm.part, fillC, splice, reduceIte, reduceCtorEq, Nat.reduceEqDiff, Nat.reduceAdd, Nat.reduceSub, Nat.reduceMul, Nat.reduceLeDiff, ne_eq, not_false_eq_true, Int.reduceEq, Int.reduceLT, Int.reduceLE, Int.reduceNeg, Int.reduceToNat, Int.reduceGT, Int.reduceGE, Nat.reduceLT, Nat.lt_add_one, Nat.zero_lt_succ, Nat.succ_pos, Nat.zero_le, beq_self_eq_true, c', decide_false, k_line_Request_0]
  refine (words_ok HI HC (by omega)).mono fun v h' hp => ?_
  obtain ⟨t, u, rfl, rfl⟩ := hp
  have wa := words_all s
  generalize splitB s = W at *
  by_cases n3 : W.length = 3
  case neg =>
    have n3' : ¬ (W.length : Int) = 3 := by omega
    have e : reqW W = none := by
      match W, n3 with
      | [], _ => rfl
      | [_], _ => rfl
      | [_, _], _ => rfl
      | [_, _, _], h => exact absurd rfl h
      | _ :: _ :: _ :: _ :: _, _ => rfl
    rw [e]
    simp (maxSteps := 4000000) only [vm, vl, Arg.get, cells, stor, boundO, resultsV, resV, partK, loadV, Vm.part, fillC, splice, reduceIte, reduceCtorEq, Nat.reduceEqDiff, Nat.reduceAdd, Nat.reduceSub, Nat.reduceMul, Nat.reduceLeDiff, ne_eq, not_false_eq_true, Int.reduceEq, Int.reduceLT, Int.reduceLE, Int.reduceNeg, Int.reduceToNat, Int.reduceGT, Int.reduceGE, Nat.reduceLT, Nat.lt_add_one, Nat.zero_lt_succ, Nat.succ_pos, Nat.zero_le, beq_self_eq_true, n3', decide_false, Bool.not_false, reqO]
  match W, n3 with
  | [x, y, z], _ =>
    have lx := wa x (by simp)
    have ly := wa y (by simp)
    have I1 := fun hh => Is_ok (L := L) (h := hh) (s := x) (by omega)
    have I2 := fun hh => isTarget_ok (L := L) (h := hh) (s := y) (by omega)
    have vz := vers_le z
    have n3' : ((([x, y, z] : List Bs).length : Nat) : Int) = 3 := rfl
    have n3n : ([x, y, z] : List Bs).length = 3 := rfl
    have m3 : ([x, y, z] : List Bs).map V.str = [.str x, .str y, .str z] := rfl
    have rw1 : reqW [x, y, z] = req3 x y z := rfl
    rw [rw1, n3n, m3]
    clear n3' n3n m3 rw1 wa
    have no : ¬ (isTok x = true ∧ tgtS y = true ∧ 0 ≤ versS z) → req3 x y z = none := fun h => if_neg h
    have z3 : ((3 : Nat) : Int) = 3 := rfl
    simp (maxSteps := 4000000) only [vm, vl, Arg.get, cells, stor, boundO, resultsV, resV, partK, loadV, Vm.part, fillC, splice, reduceIte, reduceCtorEq, Nat.reduceEqDiff, Nat.reduceAdd, Nat.reduceSub, Nat.reduceMul, Nat.reduceLeDiff, ne_eq, not_false_eq_true, Int.reduceEq, Int.reduceLT, Int.reduceLE, Int.reduceNeg, Int.reduceToNat, Int.reduceGT, Int.reduceGE, Nat.reduceLT, Nat.lt_add_one, Nat.zero_lt_succ, Nat.succ_pos, Nat.zero_le, beq_self_eq_true, z3, decide_true, Bool.not_true, List.length_cons, List.length_nil, List.getD_cons_zero, List.getD_cons_succ]
    refine Cf.pu (I1 _) fun u1 => ?_
    cases e1 : isTok x with
    | false =>
      rw [no (fun h => by rw [e1] at h; cases h.1)]
      simp (maxSteps := 4000000) only [vm, vl, Arg.get, cells, stor, boundO, resultsV, resV, partK, loadV, Vm.part, fillC, splice, reduceIte, reduceCtorEq, Nat.reduceEqDiff, Nat.reduceAdd, Nat.reduceSub, Nat.reduceMul, Nat.reduceLeDiff, ne_eq, not_false_eq_true, Int.reduceEq, Int.reduceLT, Int.reduceLE, Int.reduceNeg, Int.reduceToNat, Int.reduceGT, Int.reduceGE, Nat.reduceLT, Nat.lt_add_one, Nat.zero_lt_succ, Nat.succ_pos, Nat.zero_le, beq_self_eq_true, Bool.not_false, reqO]
    | true =>
      simp (maxSteps := 4000000) only [vm, vl, Arg.get, cells, stor, boundO, resultsV, resV, partK, loadV, Vm.part, fillC, splice, reduceIte, reduceCtorEq, Nat.reduceEqDiff, Nat.reduceAdd, Nat.reduceSub, Nat.reduceMul, Nat.reduceLeDiff, ne_eq, not_false_eq_true, Int.reduceEq, Int.reduceLT, Int.reduceLE, Int.reduceNeg, Int.reduceToNat, Int.reduceGT, Int.reduceGE, Nat.reduceLT, Nat.lt_add_one, Nat.zero_lt_succ, Nat.succ_pos, Nat.zero_le, beq_self_eq_true, Bool.not_true, List.length_cons, List.length_nil, List.getD_cons_zero, List.getD_cons_succ]
      refine Cf.pu (I2 _) fun u2 => ?_
      cases e2 : tgtS y with
      | false =>
        rw [no (fun h => by rw [e2] at h; cases h.2.1)]
        simp (maxSteps := 4000000) only [vm, vl, Arg.get, cells, stor, boundO, resultsV, resV, partK, loadV, Vm.part, fillC, splice, reduceIte, reduceCtorEq, Nat.reduceEqDiff, Nat.reduceAdd, Nat.reduceSub, Nat.reduceMul, Nat.reduceLeDiff, ne_eq, not_false_eq_true, Int.reduceEq, Int.reduceLT, Int.reduceLE, Int.reduceNeg, Int.reduceToNat, Int.reduceGT, Int.reduceGE, Nat.reduceLT, Nat.lt_add_one, Nat.zero_lt_succ, Nat.succ_pos, Nat.zero_le, beq_self_eq_true, Bool.not_false, reqO]
      | true =>
        simp (maxSteps := 4000000) only [vm, vl, Arg.get, cells, stor, boundO, resultsV, resV, partK, loadV, Vm.part, fillC, splice, reduceIte, reduceCtorEq, Nat.reduceEqDiff, Nat.reduceAdd, Nat.reduceSub, Nat.reduceMul, Nat.reduceLeDiff, ne_eq, not_false_eq_true, Int.reduceEq, Int.reduceLT, Int.reduceLE, Int.reduceNeg, Int.reduceToNat, Int.reduceGT, Int.reduceGE, Nat.reduceLT, Nat.lt_add_one, Nat.zero_lt_succ, Nat.succ_pos, Nat.zero_le, beq_self_eq_true, Bool.not_true, List.length_cons, List.length_nil, List.getD_cons_zero, List.getD_cons_succ]
        refine Cf.pu version_ok fun u3 => ?_
        by_cases e3 : versS z < 0
        · rw [no (fun h => by omega)]
          simp (maxSteps := 4000000) only [vm, vl, Arg.get, cells, stor, boundO, resultsV, resV, partK, loadV, Vm.part, fillC, splice, reduceIte, reduceCtorEq, Nat.reduceEqDiff, Nat.reduceAdd, Nat.reduceSub, Nat.reduceMul, Nat.reduceLeDiff, ne_eq, not_false_eq_true, Int.reduceEq, Int.reduceLT, Int.reduceLE, Int.reduceNeg, Int.reduceToNat, Int.reduceGT, Int.reduceGE, Nat.reduceLT, Nat.lt_add_one, Nat.zero_lt_succ, Nat.succ_pos, Nat.zero_le, beq_self_eq_true, e3, decide_true, reqO]
        · rw [show req3 x y z = some (x, y, versS z) from if_pos ⟨e1, e2, by omega⟩]
          simp (maxSteps := 4000000) only [vm, vl, Arg.get, cells, stor, boundO, resultsV, resV, partK, loadV, Vm.part, fillC, splice, reduceIte, reduceCtorEq, Nat.reduceEqDiff, Nat.reduceAdd, Nat.reduceSub, Nat.reduceMul, Nat.reduceLeDiff, ne_eq, not_false_eq_true, Int.reduceEq, Int.reduceLT, Int.reduceLE, Int.reduceNeg, Int.reduceToNat, Int.reduceGT, Int.reduceGE, Nat.reduceLT, Nat.lt_add_one, Nat.zero_lt_succ, Nat.succ_pos, Nat.zero_le, beq_self_eq_true, e3, decide_false, reqO, k_line_Request_1, List.length_cons, List.length_nil, List.getD_cons_zero, List.getD_cons_succ]
          refine Cf.pu version_ok fun u4 => ?_
          simp (maxSteps := 4000000) only [vm, vl, Arg.get, cells, stor, boundO, resultsV, resV, partK, loadV, Vm.part, fillC, splice, reduceIte, reduceCtorEq, Nat.reduceEqDiff, Nat.reduceAdd, Nat.reduceSub, Nat.reduceMul, Nat.reduceLeDiff, ne_eq, not_false_eq_true, Int.reduceEq, Int.reduceLT, Int.reduceLE, Int.reduceNeg, Int.reduceToNat, Int.reduceGT, Int.reduceGE, Nat.reduceLT, Nat.lt_add_one, Nat.zero_lt_succ, Nat.succ_pos, Nat.zero_le, beq_self_eq_true]
def stP (s : Bs) : Option (Int × Int × Bs) :=
  let f := s.take (pos 32 s); let rest := s.drop (pos 32 s + 1)
  let d := rest.take (pos 32 rest); let r := rest.drop (pos 32 rest + 1)
  if 0 ≤ versS f ∧ (numS d 1024).2 = true ∧ d.length = 3 ∧ 100 ≤ (numS d 1024).1 ∧ (numS d 1024).1 ≤ 599 ∧ rsnS r = true then some (versS f, (numS d 1024).1, r) else none
def stO : Option (Int × Int × Bs) → V
  | some (m, c, r) => .tup [.int .i64 m, .int .i64 c, .str r, .int .i64 0]
  | none => .tup [.int .i64 0, .int .i64 0, .str [], .int .i64 30]
def stRV (s : Bs) : V := if s.length > 1024 then .tup [.int .i64 0, .int .i64 0, .str [], .int .i64 3] else stO (stP s)
theorem wrong_ok {e : Int} : Cf F L i_line_Status_1 [.int .i64 e] h (Pu h (.tup [.int .i64 0, .int .i64 0, .str [], .int .i64 e])) := by
  refine run_line_Status_1 ?_
  simp only [p_line_Status_1]
  
  simp (maxSteps := 4000000) only [vm, vl, Arg.get, cells, stor, boundO, resultsV, resV, partK, loadV, Vm.part, fillC, splice, reduceIte, reduceCtorEq, Nat.reduceEqDiff, Nat.reduceAdd, Nat.reduceSub, Nat.reduceMul, Nat.reduceLeDiff, ne_eq, not_false_eq_true, Int.reduceEq, Int.reduceLT, Int.reduceLE, Int.reduceNeg, Int.reduceToNat, Int.reduceGT, Int.reduceGE, Nat.reduceLT, Nat.lt_add_one, Nat.zero_lt_succ, Nat.succ_pos, Nat.zero_le, beq_self_eq_true]
theorem LStatus_ok (HI : IndexOk L) {s : Bs} (hs : s.length ≤ 140737488351232) : Cf F L i_line_Status [.str s] h (Pu h (stRV s)) := by
  refine run_line_Status ?_
  simp only [p_line_Status]
  
  unfold stRV
  by_cases c : s.length > 1024
  · have c' : (s.length : Int) > 1024 := by omega
    rw [if_pos c]
    simp (maxSteps := 4000000) only [vm, vl, Arg.get, cells, stor, boundO, resultsV, resV, partK, loadV, Vm.part, fillC, splice, reduceIte, reduceCtorEq, Nat.reduceEqDiff, Nat.reduceAdd, Nat.reduceSub, Nat.reduceMul, Nat.reduceLeDiff, ne_eq, not_false_eq_true, Int.reduceEq, Int.reduceLT, Int.reduceLE, Int.reduceNeg, Int.reduceToNat, Int.reduceGT, Int.reduceGE, Nat.reduceLT, Nat.lt_add_one, Nat.zero_lt_succ, Nat.succ_pos, Nat.zero_le, beq_self_eq_true, c', decide_true]
    refine Cf.pu wrong_ok fun u => ?_
    simp (maxSteps := 4000000) only [vm, vl, Arg.get, cells, stor, boundO, resultsV, resV, partK, loadV, Vm.part, fillC, splice, reduceIte, reduceCtorEq, Nat.reduceEqDiff, Nat.reduceAdd, Nat.reduceSub, Nat.reduceMul, Nat.reduceLeDiff, ne_eq, not_false_eq_true, Int.reduceEq, Int.reduceLT, Int.reduceLE, Int.reduceNeg, Int.reduceToNat, Int.reduceGT, Int.reduceGE, Nat.reduceLT, Nat.lt_add_one, Nat.zero_lt_succ, Nat.succ_pos, Nat.zero_le, beq_self_eq_true]
  have c' : ¬ (s.length : Int) > 1024 := by omega
  rw [if_neg c]
  have C1 := fun hh => Cut_ok (L := L) (h := hh) (s := s) (c := 32) HI (by omega)
  have l2 : (s.drop (pos 32 s + 1)).length ≤ 1024 := by rw [List.length_drop]; omega
  have no : ¬ (0 ≤ versS (s.take (pos 32 s)) ∧ (numS ((s.drop (pos 32 s + 1)).take (pos 32 (s.drop (pos 32 s + 1)))) 1024).2 = true ∧ ((s.drop (pos 32 s + 1)).take (pos 32 (s.drop (pos 32 s + 1)))).length = 3 ∧ 100 ≤ (numS ((s.drop (pos 32 s + 1)).take (pos 32 (s.drop (pos 32 s + 1)))) 1024).1 ∧ (numS ((s.drop (pos 32 s + 1)).take (pos 32 (s.drop (pos 32 s + 1)))) 1024).1 ≤ 599 ∧ rsnS ((s.drop (pos 32 s + 1)).drop (pos 32 (s.drop (pos 32 s + 1)) + 1)) = true) → stP s = none := fun h => if_neg h
  have yes : (0 ≤ versS (s.take (pos 32 s)) ∧ (numS ((s.drop (pos 32 s + 1)).take (pos 32 (s.drop (pos 32 s + 1)))) 1024).2 = true ∧ ((s.drop (pos 32 s + 1)).take (pos 32 (s.drop (pos 32 s + 1)))).length = 3 ∧ 100 ≤ (numS ((s.drop (pos 32 s + 1)).take (pos 32 (s.drop (pos 32 s + 1)))) 1024).1 ∧ (numS ((s.drop (pos 32 s + 1)).take (pos 32 (s.drop (pos 32 s + 1)))) 1024).1 ≤ 599 ∧ rsnS ((s.drop (pos 32 s + 1)).drop (pos 32 (s.drop (pos 32 s + 1)) + 1)) = true) → stP s = some (versS (s.take (pos 32 s)), (numS ((s.drop (pos 32 s + 1)).take (pos 32 (s.drop (pos 32 s + 1)))) 1024).1, ((s.drop (pos 32 s + 1)).drop (pos 32 (s.drop (pos 32 s + 1)) + 1))) := fun h => if_pos h
  generalize stP s = R at *
  unfold cutS at C1
  generalize s.take (pos 32 s) = f at *
  generalize s.drop (pos 32 s + 1) = rest at *
  generalize decide (pos 32 s < s.length) = h1 at *
  have C2 := fun hh => Cut_ok (L := L) (h := hh) (s := rest) (c := 32) HI (by omega)
  unfold cutS at C2
  have l3 : (rest.take (pos 32 rest)).length ≤ 1024 := by rw [List.length_take]; omega
  have l4 : (rest.drop (pos 32 rest + 1)).length ≤ 1024 := by rw [List.length_drop]; omega
  generalize rest.take (pos 32 rest) = d at *
  generalize rest.drop (pos 32 rest + 1) = r at *
  generalize decide (pos 32 rest < rest.length) = h2 at *
  have N1 := fun hh => Number_ok (L := L) (h := hh) (s := d) (most := 1024) (by omega) (by omega) (by omega)
  have I2 := fun hh => isReason_ok (L := L) (h := hh) (s := r) (by omega)
  have nl := numS_le d (most := 1024) (by omega)
  generalize numS d 1024 = nd at *
  obtain ⟨n, ok⟩ := nd
  simp only at *
  simp (maxSteps := 4000000) only [vm, vl, Arg.get, cells, stor, boundO, resultsV, resV, partK, loadV, Vm.part, fillC, splice, reduceIte, reduceCtorEq, Nat.reduceEqDiff, Nat.reduceAdd, Nat.reduceSub, Nat.reduceMul, Nat.reduceLeDiff, ne_eq, not_false_eq_true, Int.reduceEq, Int.reduceLT, Int.reduceLE, Int.reduceNeg, Int.reduceToNat, Int.reduceGT, Int.reduceGE, Nat.reduceLT, Nat.lt_add_one, Nat.zero_lt_succ, Nat.succ_pos, Nat.zero_le, beq_self_eq_true, c', decide_false, k_line_Status_0]
  refine Cf.pu (C1 _) fun u1 => ?_
  simp (maxSteps := 4000000) only [vm, vl, Arg.get, cells, stor, boundO, resultsV, resV, partK, loadV, Vm.part, fillC, splice, reduceIte, reduceCtorEq, Nat.reduceEqDiff, Nat.reduceAdd, Nat.reduceSub, Nat.reduceMul, Nat.reduceLeDiff, ne_eq, not_false_eq_true, Int.reduceEq, Int.reduceLT, Int.reduceLE, Int.reduceNeg, Int.reduceToNat, Int.reduceGT, Int.reduceGE, Nat.reduceLT, Nat.lt_add_one, Nat.zero_lt_succ, Nat.succ_pos, Nat.zero_le, beq_self_eq_true]
  refine Cf.pu (C2 _) fun u2 => ?_
  simp (maxSteps := 4000000) only [vm, vl, Arg.get, cells, stor, boundO, resultsV, resV, partK, loadV, Vm.part, fillC, splice, reduceIte, reduceCtorEq, Nat.reduceEqDiff, Nat.reduceAdd, Nat.reduceSub, Nat.reduceMul, Nat.reduceLeDiff, ne_eq, not_false_eq_true, Int.reduceEq, Int.reduceLT, Int.reduceLE, Int.reduceNeg, Int.reduceToNat, Int.reduceGT, Int.reduceGE, Nat.reduceLT, Nat.lt_add_one, Nat.zero_lt_succ, Nat.succ_pos, Nat.zero_le, beq_self_eq_true]
  refine Cf.pu (N1 _) fun u3 => ?_
  simp (maxSteps := 4000000) only [vm, vl, Arg.get, cells, stor, boundO, resultsV, resV, partK, loadV, Vm.part, fillC, splice, reduceIte, reduceCtorEq, Nat.reduceEqDiff, Nat.reduceAdd, Nat.reduceSub, Nat.reduceMul, Nat.reduceLeDiff, ne_eq, not_false_eq_true, Int.reduceEq, Int.reduceLT, Int.reduceLE, Int.reduceNeg, Int.reduceToNat, Int.reduceGT, Int.reduceGE, Nat.reduceLT, Nat.lt_add_one, Nat.zero_lt_succ, Nat.succ_pos, Nat.zero_le, beq_self_eq_true]
  refine Cf.pu version_ok fun u4 => ?_
  by_cases a1 : versS f < 0
  · rw [no (fun h => by omega)]
    simp (maxSteps := 4000000) only [vm, vl, Arg.get, cells, stor, boundO, resultsV, resV, partK, loadV, Vm.part, fillC, splice, reduceIte, reduceCtorEq, Nat.reduceEqDiff, Nat.reduceAdd, Nat.reduceSub, Nat.reduceMul, Nat.reduceLeDiff, ne_eq, not_false_eq_true, Int.reduceEq, Int.reduceLT, Int.reduceLE, Int.reduceNeg, Int.reduceToNat, Int.reduceGT, Int.reduceGE, Nat.reduceLT, Nat.lt_add_one, Nat.zero_lt_succ, Nat.succ_pos, Nat.zero_le, beq_self_eq_true, a1, decide_true]
    refine Cf.pu wrong_ok fun u => ?_
    simp (maxSteps := 4000000) only [vm, vl, Arg.get, cells, stor, boundO, resultsV, resV, partK, loadV, Vm.part, fillC, splice, reduceIte, reduceCtorEq, Nat.reduceEqDiff, Nat.reduceAdd, Nat.reduceSub, Nat.reduceMul, Nat.reduceLeDiff, ne_eq, not_false_eq_true, Int.reduceEq, Int.reduceLT, Int.reduceLE, Int.reduceNeg, Int.reduceToNat, Int.reduceGT, Int.reduceGE, Nat.reduceLT, Nat.lt_add_one, Nat.zero_lt_succ, Nat.succ_pos, Nat.zero_le, beq_self_eq_true, stO]
  cases ok with
  | false =>
    rw [no (fun h => by cases h.2.1)]
    simp (maxSteps := 4000000) only [vm, vl, Arg.get, cells, stor, boundO, resultsV, resV, partK, loadV, Vm.part, fillC, splice, reduceIte, reduceCtorEq, Nat.reduceEqDiff, Nat.reduceAdd, Nat.reduceSub, Nat.reduceMul, Nat.reduceLeDiff, ne_eq, not_false_eq_true, Int.reduceEq, Int.reduceLT, Int.reduceLE, Int.reduceNeg, Int.reduceToNat, Int.reduceGT, Int.reduceGE, Nat.reduceLT, Nat.lt_add_one, Nat.zero_lt_succ, Nat.succ_pos, Nat.zero_le, beq_self_eq_true, a1, decide_false, Bool.not_false]
    refine Cf.pu wrong_ok fun u => ?_
    simp (maxSteps := 4000000) only [vm, vl, Arg.get, cells, stor, boundO, resultsV, resV, partK, loadV, Vm.part, fillC, splice, reduceIte, reduceCtorEq, Nat.reduceEqDiff, Nat.reduceAdd, Nat.reduceSub, Nat.reduceMul, Nat.reduceLeDiff, ne_eq, not_false_eq_true, Int.reduceEq, Int.reduceLT, Int.reduceLE, Int.reduceNeg, Int.reduceToNat, Int.reduceGT, Int.reduceGE, Nat.reduceLT, Nat.lt_add_one, Nat.zero_lt_succ, Nat.succ_pos, Nat.zero_le, beq_self_eq_true, stO]
  | true =>
    by_cases a3 : d.length = 3
    case neg =>
      have a3' : ¬ (d.length : Int) = 3 := by omega
      rw [no (fun h => a3 h.2.2.1)]
      simp (maxSteps := 4000000) only [vm, vl, Arg.get, cells, stor, boundO, resultsV, resV, partK, loadV, Vm.part, fillC, splice, reduceIte, reduceCtorEq, Nat.reduceEqDiff, Nat.reduceAdd, Nat.reduceSub, Nat.reduceMul, Nat.reduceLeDiff, ne_eq, not_false_eq_true, Int.reduceEq, Int.reduceLT, Int.reduceLE, Int.reduceNeg, Int.reduceToNat, Int.reduceGT, Int.reduceGE, Nat.reduceLT, Nat.lt_add_one, Nat.zero_lt_succ, Nat.succ_pos, Nat.zero_le, beq_self_eq_true, a1, a3', decide_false, Bool.not_false, Bool.not_true]
      refine Cf.pu wrong_ok fun u => ?_
      simp (maxSteps := 4000000) only [vm, vl, Arg.get, cells, stor, boundO, resultsV, resV, partK, loadV, Vm.part, fillC, splice, reduceIte, reduceCtorEq, Nat.reduceEqDiff, Nat.reduceAdd, Nat.reduceSub, Nat.reduceMul, Nat.reduceLeDiff, ne_eq, not_false_eq_true, Int.reduceEq, Int.reduceLT, Int.reduceLE, Int.reduceNeg, Int.reduceToNat, Int.reduceGT, Int.reduceGE, Nat.reduceLT, Nat.lt_add_one, Nat.zero_lt_succ, Nat.succ_pos, Nat.zero_le, beq_self_eq_true, stO]
    have a3' : (d.length : Int) = 3 := by omega
    by_cases a4 : n < 100
    · rw [no (fun h => by omega)]
      simp (maxSteps := 4000000) only [vm, vl, Arg.get, cells, stor, boundO, resultsV, resV, partK, loadV, Vm.part, fillC, splice, reduceIte, reduceCtorEq, Nat.reduceEqDiff, Nat.reduceAdd, Nat.reduceSub, Nat.reduceMul, Nat.reduceLeDiff, ne_eq, not_false_eq_true, Int.reduceEq, Int.reduceLT, Int.reduceLE, Int.reduceNeg, Int.reduceToNat, Int.reduceGT, Int.reduceGE, Nat.reduceLT, Nat.lt_add_one, Nat.zero_lt_succ, Nat.succ_pos, Nat.zero_le, beq_self_eq_true, a1, a3', a4, decide_true, decide_false, Bool.not_false, Bool.not_true]
      refine Cf.pu wrong_ok fun u => ?_
      simp (maxSteps := 4000000) only [vm, vl, Arg.get, cells, stor, boundO, resultsV, resV, partK, loadV, Vm.part, fillC, splice, reduceIte, reduceCtorEq, Nat.reduceEqDiff, Nat.reduceAdd, Nat.reduceSub, Nat.reduceMul, Nat.reduceLeDiff, ne_eq, not_false_eq_true, Int.reduceEq, Int.reduceLT, Int.reduceLE, Int.reduceNeg, Int.reduceToNat, Int.reduceGT, Int.reduceGE, Nat.reduceLT, Nat.lt_add_one, Nat.zero_lt_succ, Nat.succ_pos, Nat.zero_le, beq_self_eq_true, stO]
    by_cases a5 : n > 599
    · rw [no (fun h => by omega)]
      simp (maxSteps := 4000000) only [vm, vl, Arg.get, cells, stor, boundO, resultsV, resV, partK, loadV, Vm.part, fillC, splice, reduceIte, reduceCtorEq, Nat.reduceEqDiff, Nat.reduceAdd, Nat.reduceSub, Nat.reduceMul, Nat.reduceLeDiff, ne_eq, not_false_eq_true, Int.reduceEq, Int.reduceLT, Int.reduceLE, Int.reduceNeg, Int.reduceToNat, Int.reduceGT, Int.reduceGE, Nat.reduceLT, Nat.lt_add_one, Nat.zero_lt_succ, Nat.succ_pos, Nat.zero_le, beq_self_eq_true, a1, a3', a4, a5, decide_true, decide_false, Bool.not_false, Bool.not_true]
      refine Cf.pu wrong_ok fun u => ?_
      simp (maxSteps := 4000000) only [vm, vl, Arg.get, cells, stor, boundO, resultsV, resV, partK, loadV, Vm.part, fillC, splice, reduceIte, reduceCtorEq, Nat.reduceEqDiff, Nat.reduceAdd, Nat.reduceSub, Nat.reduceMul, Nat.reduceLeDiff, ne_eq, not_false_eq_true, Int.reduceEq, Int.reduceLT, Int.reduceLE, Int.reduceNeg, Int.reduceToNat, Int.reduceGT, Int.reduceGE, Nat.reduceLT, Nat.lt_add_one, Nat.zero_lt_succ, Nat.succ_pos, Nat.zero_le, beq_self_eq_true, stO]
    simp (maxSteps := 4000000) only [vm, vl, Arg.get, cells, stor, boundO, resultsV, resV, partK, loadV, Vm.part, fillC, splice, reduceIte, reduceCtorEq, Nat.reduceEqDiff, Nat.reduceAdd, Nat.reduceSub, Nat.reduceMul, Nat.reduceLeDiff, ne_eq, not_false_eq_true, Int.reduceEq, Int.reduceLT, Int.reduceLE, Int.reduceNeg, Int.reduceToNat, Int.reduceGT, Int.reduceGE, Nat.reduceLT, Nat.lt_add_one, Nat.zero_lt_succ, Nat.succ_pos, Nat.zero_le, beq_self_eq_true, a1, a3', a4, a5, decide_true, decide_false, Bool.not_false, Bool.not_true]
    refine Cf.pu (I2 _) fun u5 => ?_
    cases a6 : rsnS r with
    | false =>
      rw [no (fun h => by rw [a6] at h; cases h.2.2.2.2.2)]
      simp (maxSteps := 4000000) only [vm, vl, Arg.get, cells, stor, boundO, resultsV, resV, partK, loadV, Vm.part, fillC, splice, reduceIte, reduceCtorEq, Nat.reduceEqDiff, Nat.reduceAdd, Nat.reduceSub, Nat.reduceMul, Nat.reduceLeDiff, ne_eq, not_false_eq_true, Int.reduceEq, Int.reduceLT, Int.reduceLE, Int.reduceNeg, Int.reduceToNat, Int.reduceGT, Int.reduceGE, Nat.reduceLT, Nat.lt_add_one, Nat.zero_lt_succ, Nat.succ_pos, Nat.zero_le, beq_self_eq_true, Bool.not_false]
      refine Cf.pu wrong_ok fun u => ?_
      simp (maxSteps := 4000000) only [vm, vl, Arg.get, cells, stor, boundO, resultsV, resV, partK, loadV, Vm.part, fillC, splice, reduceIte, reduceCtorEq, Nat.reduceEqDiff, Nat.reduceAdd, Nat.reduceSub, Nat.reduceMul, Nat.reduceLeDiff, ne_eq, not_false_eq_true, Int.reduceEq, Int.reduceLT, Int.reduceLE, Int.reduceNeg, Int.reduceToNat, Int.reduceGT, Int.reduceGE, Nat.reduceLT, Nat.lt_add_one, Nat.zero_lt_succ, Nat.succ_pos, Nat.zero_le, beq_self_eq_true, stO]
    | true =>
      rw [yes ⟨by omega, rfl, a3, by omega, by omega, a6⟩]
      simp (maxSteps := 4000000) only [vm, vl, Arg.get, cells, stor, boundO, resultsV, resV, partK, loadV, Vm.part, fillC, splice, reduceIte, reduceCtorEq, Nat.reduceEqDiff, Nat.reduceAdd, Nat.reduceSub, Nat.reduceMul, Nat.reduceLeDiff, ne_eq, not_false_eq_true, Int.reduceEq, Int.reduceLT, Int.reduceLE, Int.reduceNeg, Int.reduceToNat, Int.reduceGT, Int.reduceGE, Nat.reduceLT, Nat.lt_add_one, Nat.zero_lt_succ, Nat.succ_pos, Nat.zero_le, beq_self_eq_true, Bool.not_true, k_line_Status_1, stO]
end Go.Proofs.YtnfcjeajbjcppaaDoor.Vh
end
section
set_option linter.unusedVariables false
set_option linter.unusedSimpArgs false
namespace Go.Proofs.YtnfcjeajbjcppaaDoor.Vh
open Go.Vm Go.Vt
end Go.Proofs.YtnfcjeajbjcppaaDoor.Vh
end
section
set_option linter.unusedVariables false
set_option linter.unusedSimpArgs false
namespace Go.Proofs.YtnfcjeajbjcppaaDoor.Vh
open Go.Vm Go.Vt
attribute [local congr] wi_congr wg_congr wgd_congr wb_congr wl_congr cf_congr
variable {L : FuncId → List V → V → Prop} {h : Heap}
end Go.Proofs.YtnfcjeajbjcppaaDoor.Vh
end
section
set_option linter.unusedVariables false
set_option linter.unusedSimpArgs false
namespace Go.Proofs.YtnfcjeajbjcppaaDoor.Vh
open Go.Vm Go.Vt
attribute [local congr] wi_congr wg_congr wgd_congr wb_congr wl_congr cf_congr
variable {L : FuncId → List V → V → Prop} {h : Heap}
end Go.Proofs.YtnfcjeajbjcppaaDoor.Vh
end
section
set_option linter.unusedVariables false
set_option linter.unusedSimpArgs false
namespace Go.Proofs.YtnfcjeajbjcppaaDoor.Vh
open Go.Vm Go.Vt
attribute [local congr] wi_congr wg_congr wgd_congr wb_congr wl_congr cf_congr
variable {L : FuncId → List V → V → Prop} {h : Heap}
theorem reqRV_tup (s : Bs) : ∃ (a b : Bs) (m e : Int), reqRV s = .tup [.str a, .str b, .int .i64 m, .int .i64 e] := by
  unfold reqRV
  split
  · exact ⟨_, _, _, _, rfl⟩
  · rcases reqW (splitB s) with _ | ⟨a, b, m⟩ <;> exact ⟨_, _, _, _, rfl⟩
theorem stRV_tup (s : Bs) : ∃ (m c : Int) (r : Bs) (e : Int), stRV s = .tup [.int .i64 m, .int .i64 c, .str r, .int .i64 e] := by
  unfold stRV
  split
  · exact ⟨_, _, _, _, rfl⟩
  · rcases stP s with _ | ⟨a, b, m⟩ <;> exact ⟨_, _, _, _, rfl⟩
end Go.Proofs.YtnfcjeajbjcppaaDoor.Vh
end
section
set_option linter.unusedVariables false
set_option linter.unusedSimpArgs false
namespace Go.Proofs.YtnfcjeajbjcppaaDoor.Vh
open Go.Vm Go.Vt
attribute [local congr] wi_congr wg_congr wgd_congr wb_congr wl_congr cf_congr
variable {L : FuncId → List V → V → Prop} {h : Heap}
abbrev Fld := Bs × Bs
def fldV (f : Fld) : V := .agg [.str f.1, .str f.2]
def flds (l : List Fld) : List V := l.map fldV
theorem flds_len (l : List Fld) : (flds l).length = l.length := by simp [flds]
end Go.Proofs.YtnfcjeajbjcppaaDoor.Vh
end
section
set_option linter.unusedVariables false
set_option linter.unusedSimpArgs false
namespace Go.Proofs.YtnfcjeajbjcppaaDoor.Vh
open Go.Vm Go.Vt
attribute [local congr] wi_congr wg_congr wgd_congr wb_congr wl_congr cf_congr
variable {L : FuncId → List V → V → Prop} {h : Heap}
end Go.Proofs.YtnfcjeajbjcppaaDoor.Vh
end
section
set_option linter.unusedVariables false
set_option linter.unusedSimpArgs false
namespace Go.Proofs.YtnfcjeajbjcppaaDoor.Vh
open Go.Vm Go.Vt
attribute [local congr] wi_congr wg_congr wgd_congr wb_congr wl_congr cf_congr
variable {L : FuncId → List V → V → Prop} {h : Heap}
end Go.Proofs.YtnfcjeajbjcppaaDoor.Vh
end
section
set_option linter.unusedVariables false
set_option linter.unusedSimpArgs false
namespace Go.Proofs.YtnfcjeajbjcppaaDoor.Vh
open Go.Vm Go.Vt
attribute [local congr] wi_congr wg_congr wgd_congr wb_congr wl_congr cf_congr
variable {L : FuncId → List V → V → Prop} {h : Heap}
/-- What Split comes to: a list, or none. -/
def SplitP (h : Heap) (o : Option (List Bs)) (v : V) (h' : Heap) : Prop := (∃ t, h' = h ++ t) ∧ ((o = none ∧ v = .tup [.nsl, .bool false]) ∨ ∃ out x, o = some out ∧ v = .tup [x, .bool true] ∧ ListV 1 x (strs out))
theorem SplitP.no {h h' : Heap} (hh : ∃ t, h' = h ++ t) : SplitP h none (.tup [.nsl, .bool false]) h' := ⟨hh, .inl ⟨rfl, rfl⟩⟩
theorem SplitP.yes {h h' : Heap} {x : V} {out : List Bs} (hh : ∃ t, h' = h ++ t) (hl : ListV 1 x (strs out)) : SplitP h (some out) (.tup [x, .bool true]) h' := ⟨hh, .inr ⟨out, x, rfl, rfl, hl⟩⟩
end Go.Proofs.YtnfcjeajbjcppaaDoor.Vh
end
section
set_option linter.unusedVariables false
set_option linter.unusedSimpArgs false
namespace Go.Proofs.YtnfcjeajbjcppaaDoor.Vh
open Go.Vm Go.Vt
attribute [local congr] wi_congr wg_congr wgd_congr wb_congr wl_congr cf_congr
variable {L : FuncId → List V → V → Prop} {h : Heap}
/-- A byte's first place; the length where it is not. -/
def valF (f : Fld) : Bool := isTok f.1 && isVal f.2
def parseF (s : Bs) : Option Fld := if pos 58 s < s.length ∧ valF (s.take (pos 58 s), trim (s.drop (pos 58 s + 1))) = true then some (s.take (pos 58 s), trim (s.drop (pos 58 s + 1))) else none
def parseV : Option Fld → V
  | some f => .tup [fldV f, .int .i64 0]
  | none => .tup [fldV ([], []), .int .i64 31]
theorem fine_ok {f : Fld} (h1 : f.1.length < 9223372036854775807) (h2 : f.2.length < 9223372036854775807) : Cf F L i_field_fine [fldV f] h (Pu h (.bool (valF f))) := by
  refine run_field_fine ?_
  simp only [p_field_fine]
  simp (maxSteps := 4000000) only [vm, vl, Arg.get, cells, stor, boundO, resultsV, resV, partK, loadV, Vm.part, fillC, splice, reduceIte, reduceCtorEq, Nat.reduceEqDiff, Nat.reduceAdd, Nat.reduceSub, Nat.reduceMul, Nat.reduceLeDiff, ne_eq, not_false_eq_true, Int.reduceEq, Int.reduceLT, Int.reduceLE, Int.reduceNeg, Int.reduceToNat, Int.reduceGT, Int.reduceGE, Nat.reduceLT, Nat.lt_add_one, Nat.zero_lt_succ, Nat.succ_pos, Nat.zero_le, beq_self_eq_true, fldV]
  refine Cf.pu (Is_ok h1) fun t => ?_
  cases q : isTok f.1 with
  | true =>
    simp (maxSteps := 4000000) only [vm, vl, Arg.get, cells, stor, boundO, resultsV, resV, partK, loadV, Vm.part, fillC, splice, reduceIte, reduceCtorEq, Nat.reduceEqDiff, Nat.reduceAdd, Nat.reduceSub, Nat.reduceMul, Nat.reduceLeDiff, ne_eq, not_false_eq_true, Int.reduceEq, Int.reduceLT, Int.reduceLE, Int.reduceNeg, Int.reduceToNat, Int.reduceGT, Int.reduceGE, Nat.reduceLT, Nat.lt_add_one, Nat.zero_lt_succ, Nat.succ_pos, Nat.zero_le, beq_self_eq_true]
    refine Cf.pu (Value_ok h2) fun t => ?_
    simp (maxSteps := 4000000) only [vm, vl, Arg.get, cells, stor, boundO, resultsV, resV, partK, loadV, Vm.part, fillC, splice, reduceIte, reduceCtorEq, Nat.reduceEqDiff, Nat.reduceAdd, Nat.reduceSub, Nat.reduceMul, Nat.reduceLeDiff, ne_eq, not_false_eq_true, Int.reduceEq, Int.reduceLT, Int.reduceLE, Int.reduceNeg, Int.reduceToNat, Int.reduceGT, Int.reduceGE, Nat.reduceLT, Nat.lt_add_one, Nat.zero_lt_succ, Nat.succ_pos, Nat.zero_le, beq_self_eq_true, valF, q, Bool.true_and]
  | false => simp (maxSteps := 4000000) only [vm, vl, Arg.get, cells, stor, boundO, resultsV, resV, partK, loadV, Vm.part, fillC, splice, reduceIte, reduceCtorEq, Nat.reduceEqDiff, Nat.reduceAdd, Nat.reduceSub, Nat.reduceMul, Nat.reduceLeDiff, ne_eq, not_false_eq_true, Int.reduceEq, Int.reduceLT, Int.reduceLE, Int.reduceNeg, Int.reduceToNat, Int.reduceGT, Int.reduceGE, Nat.reduceLT, Nat.lt_add_one, Nat.zero_lt_succ, Nat.succ_pos, Nat.zero_le, beq_self_eq_true, valF, q, Bool.false_and]
theorem Parse_ok {s : Bs} (HI : IndexOk L) (hs : s.length < 100000) : Cf F L i_field_Parse [.str s] h (Pu h (parseV (parseF s))) := by
  refine run_field_Parse ?_
  simp only [p_field_Parse]
  simp (maxSteps := 4000000) only [vm, vl, Arg.get, cells, stor, boundO, resultsV, resV, partK, loadV, Vm.part, fillC, splice, reduceIte, reduceCtorEq, Nat.reduceEqDiff, Nat.reduceAdd, Nat.reduceSub, Nat.reduceMul, Nat.reduceLeDiff, ne_eq, not_false_eq_true, Int.reduceEq, Int.reduceLT, Int.reduceLE, Int.reduceNeg, Int.reduceToNat, Int.reduceGT, Int.reduceGE, Nat.reduceLT, Nat.lt_add_one, Nat.zero_lt_succ, Nat.succ_pos, Nat.zero_le, beq_self_eq_true, k_field_Parse_0]
  refine Cf.pu (Cut_ok HI (by omega)) fun t => ?_
  unfold cutS
  simp (maxSteps := 4000000) only [vm, vl, Arg.get, cells, stor, boundO, resultsV, resV, partK, loadV, Vm.part, fillC, splice, reduceIte, reduceCtorEq, Nat.reduceEqDiff, Nat.reduceAdd, Nat.reduceSub, Nat.reduceMul, Nat.reduceLeDiff, ne_eq, not_false_eq_true, Int.reduceEq, Int.reduceLT, Int.reduceLE, Int.reduceNeg, Int.reduceToNat, Int.reduceGT, Int.reduceGE, Nat.reduceLT, Nat.lt_add_one, Nat.zero_lt_succ, Nat.succ_pos, Nat.zero_le, beq_self_eq_true, k_field_Parse_0]
  have hd : (s.drop (pos 58 s + 1)).length ≤ s.length := by rw [List.length_drop]; omega
  have ht := trim_length (s.drop (pos 58 s + 1))
  have hk : (s.take (pos 58 s)).length ≤ s.length := by rw [List.length_take]; omega
  refine Cf.pu (Trim_ok (by omega)) fun t => ?_
  by_cases hp : pos 58 s < s.length
  · have d : decide (pos 58 s < s.length) = true := by simpa using hp
    simp (maxSteps := 4000000) only [vm, vl, Arg.get, cells, stor, boundO, resultsV, resV, partK, loadV, Vm.part, fillC, splice, reduceIte, reduceCtorEq, Nat.reduceEqDiff, Nat.reduceAdd, Nat.reduceSub, Nat.reduceMul, Nat.reduceLeDiff, ne_eq, not_false_eq_true, Int.reduceEq, Int.reduceLT, Int.reduceLE, Int.reduceNeg, Int.reduceToNat, Int.reduceGT, Int.reduceGE, Nat.reduceLT, Nat.lt_add_one, Nat.zero_lt_succ, Nat.succ_pos, Nat.zero_le, beq_self_eq_true, k_field_Parse_0, d, Bool.not_true]
    have hf := fun {h : Heap} => fine_ok (L := L) (h := h) (f := (s.take (pos 58 s), trim (s.drop (pos 58 s + 1)))) (by show List.length (List.take _ _) < _; omega) (by show List.length (trim _) < _; omega)
    simp only [fldV] at hf
    refine Cf.pu hf fun t => ?_
    cases q : valF (s.take (pos 58 s), trim (s.drop (pos 58 s + 1))) with
    | true =>
      have e : parseF s = some (s.take (pos 58 s), trim (s.drop (pos 58 s + 1))) := by unfold parseF; rw [if_pos ⟨hp, q⟩]
      rw [e]
      simp (maxSteps := 4000000) only [vm, vl, Arg.get, cells, stor, boundO, resultsV, resV, partK, loadV, Vm.part, fillC, splice, reduceIte, reduceCtorEq, Nat.reduceEqDiff, Nat.reduceAdd, Nat.reduceSub, Nat.reduceMul, Nat.reduceLeDiff, ne_eq, not_false_eq_true, Int.reduceEq, Int.reduceLT, Int.reduceLE, Int.reduceNeg, Int.reduceToNat, Int.reduceGT, Int.reduceGE, Nat.reduceLT, Nat.lt_add_one, Nat.zero_lt_succ, Nat.succ_pos, Nat.zero_le, beq_self_eq_true, k_field_Parse_0, parseV, fldV, Bool.not_true]
    | false =>
      have e : parseF s = none := by unfold parseF; rw [if_neg (by rintro ⟨_, h⟩; rw [q] at h; cases h)]
      rw [e]
      simp (maxSteps := 4000000) only [vm, vl, Arg.get, cells, stor, boundO, resultsV, resV, partK, loadV, Vm.part, fillC, splice, reduceIte, reduceCtorEq, Nat.reduceEqDiff, Nat.reduceAdd, Nat.reduceSub, Nat.reduceMul, Nat.reduceLeDiff, ne_eq, not_false_eq_true, Int.reduceEq, Int.reduceLT, Int.reduceLE, Int.reduceNeg, Int.reduceToNat, Int.reduceGT, Int.reduceGE, Nat.reduceLT, Nat.lt_add_one, Nat.zero_lt_succ, Nat.succ_pos, Nat.zero_le, beq_self_eq_true, k_field_Parse_0, parseV, fldV, Bool.not_false]
  · have d : decide (pos 58 s < s.length) = false := by simpa using hp
    have e : parseF s = none := by unfold parseF; rw [if_neg (by rintro ⟨h, _⟩; exact hp h)]
    rw [e]
    simp (maxSteps := 4000000) only [vm, vl, Arg.get, cells, stor, boundO, resultsV, resV, partK, loadV, Vm.part, fillC, splice, reduceIte, reduceCtorEq, Nat.reduceEqDiff, Nat.reduceAdd, Nat.reduceSub, Nat.reduceMul, Nat.reduceLeDiff, ne_eq, not_false_eq_true, Int.reduceEq, Int.reduceLT, Int.reduceLE, Int.reduceNeg, Int.reduceToNat, Int.reduceGT, Int.reduceGE, Nat.reduceLT, Nat.lt_add_one, Nat.zero_lt_succ, Nat.succ_pos, Nat.zero_le, beq_self_eq_true, k_field_Parse_0, d, Bool.not_false, parseV, fldV]
end Go.Proofs.YtnfcjeajbjcppaaDoor.Vh
end
section
set_option linter.unusedVariables false
set_option linter.unusedSimpArgs false
namespace Go.Proofs.YtnfcjeajbjcppaaDoor.Vh
open Go.Vm Go.Vt
attribute [local congr] wi_congr wg_congr wgd_congr wb_congr wl_congr cf_congr
variable {L : FuncId → List V → V → Prop} {h : Heap}
end Go.Proofs.YtnfcjeajbjcppaaDoor.Vh
end
section
set_option linter.unusedVariables false
set_option linter.unusedSimpArgs false
namespace Go.Proofs.YtnfcjeajbjcppaaDoor.Vh
open Go.Vm Go.Vt
attribute [local congr] wi_congr wg_congr wgd_congr wb_congr wl_congr cf_congr
variable {L : FuncId → List V → V → Prop} {h : Heap}
structure HS where
  taken : Nat
  own : Bs
  begun : Bool
  done : Bool
  e : Int
  q : V × V × V
  p : V × V × V
  fs : List Fld
def parts4 : V → (V × V × V) × Int
  | .tup [a, b, c, .int _ e] => ((a, b, c), e)
  | _ => ((.str [], .str [], .str []), 0)
def firstP (ans : Bool) (s : Bs) : (V × V × V) × Int := parts4 (if ans then stRV s else reqRV s)
def parF (s : Bs) : Fld := (parseF s).getD ([], [])
def parE (s : Bs) : Int := if (parseF s).isSome then 0 else 31
def endS (ans : Bool) (s : Bs) (st : HS) : HS :=
  if st.begun = false then (if s = [] then st else { st with begun := true, e := (firstP ans s).2, q := if ans then st.q else (firstP ans s).1, p := if ans then (firstP ans s).1 else st.p })
  else if s = [] then { st with done := true }
  else if st.fs.length = 64 then { st with e := 3 }
  else { st with e := parE s, fs := st.fs ++ [parF s] }
def cutE (b : Bs) : Bs := if b.length > 0 ∧ b.getD (b.length - 1) 0 = 13 then b.take (b.length - 1) else b
def cutL (b : Bs) : Bs := cutE (b.take (b.length - 1))
def takeS (ans : Bool) (c : UInt8) (st : HS) : HS :=
  if st.taken + 1 > 8192 ∨ (st.begun = false ∧ st.own.length + 1 > 1026) then { st with taken := st.taken + 1, own := st.own ++ [c], e := 3 }
  else if c ≠ 10 then { st with taken := st.taken + 1, own := st.own ++ [c] }
  else endS ans (cutL (st.own ++ [c])) { st with taken := st.taken + 1, own := [] }
def feedS (ans : Bool) : Bs → HS → Nat × HS
  | [], st => (0, st)
  | c :: r, st => if st.e = 0 ∧ st.done = false then ((feedS ans r (takeS ans c st)).1 + 1, (feedS ans r (takeS ans c st)).2) else (0, st)
structure HOk (st : HS) : Prop where
  own : st.own.length ≤ st.taken
  fs : st.fs.length ≤ 64
  run : st.e = 0 → st.taken ≤ 8192
  max : st.taken ≤ 8193
  dn : st.done = true → st.e = 0
theorem parseV_form (s : Bs) : parseV (parseF s) = .tup [fldV (parF s), .int .i64 (parE s)] := by
  unfold parF parE
  cases parseF s <;> rfl
theorem firstP_req (s : Bs) : ∃ a b m, firstP false s = ((.str a, .str b, .int .i64 m), (firstP false s).2) ∧ reqRV s = .tup [.str a, .str b, .int .i64 m, .int .i64 (firstP false s).2] := by
  obtain ⟨a, b, m, e, h⟩ := reqRV_tup s
  refine ⟨a, b, m, ?_, ?_⟩ <;> simp only [firstP, Bool.false_eq_true, if_false, h, parts4]
theorem firstP_res (s : Bs) : ∃ m c r, firstP true s = ((.int .i64 m, .int .i64 c, .str r), (firstP true s).2) ∧ stRV s = .tup [.int .i64 m, .int .i64 c, .str r, .int .i64 (firstP true s).2] := by
  obtain ⟨a, b, m, e, h⟩ := stRV_tup s
  refine ⟨a, b, m, ?_, ?_⟩ <;> simp only [firstP, if_true, h, parts4]
theorem endS_ok {ans : Bool} {s : Bs} {st : HS} (h : HOk st) (he : st.e = 0) (hd : st.done = false) (hf : st.taken ≤ 8192) : HOk (endS ans s st) := by
  unfold endS
  split
  · split
    · exact h
    · exact ⟨h.own, h.fs, fun _ => hf, h.max, fun hh => by rw [hd] at hh; cases hh⟩
  · split
    · exact ⟨h.own, h.fs, fun _ => hf, h.max, fun _ => he⟩
    · split
      · exact ⟨h.own, h.fs, fun hh => by simp at hh, h.max, fun hh => by rw [hd] at hh; cases hh⟩
      · rename_i hn
        exact ⟨h.own, by have := h.fs; simp; omega, fun _ => hf, h.max, fun hh => by rw [hd] at hh; cases hh⟩
theorem takeS_ok {ans : Bool} {c : UInt8} {st : HS} (h : HOk st) (he : st.e = 0) (hd : st.done = false) : HOk (takeS ans c st) := by
  have h1 := h.run he
  have h2 := h.own
  unfold takeS
  split
  · exact ⟨by simp; omega, h.fs, fun hh => by simp at hh, by simp; omega, fun hh => by simp only at hh; rw [hd] at hh; cases hh⟩
  · rename_i hn
    have h3 : st.taken + 1 ≤ 8192 := Classical.byContradiction fun hh => hn (.inl (by omega))
    split
    · exact ⟨by simp; omega, h.fs, fun _ => h3, by simp; omega, fun hh => by simp only at hh; rw [hd] at hh; cases hh⟩
    · exact endS_ok ⟨by simp, h.fs, fun _ => h3, by simp only; omega, fun hh => by simp only at hh; rw [hd] at hh; cases hh⟩ he hd h3
theorem cutE_len (b : Bs) : (cutE b).length ≤ b.length := by
  unfold cutE; split
  · rw [List.length_take]; omega
  · exact Nat.le_refl _
theorem cutL_len (b : Bs) : (cutL b).length ≤ b.length := Nat.le_trans (cutE_len _) (by rw [List.length_take]; omega)
end Go.Proofs.YtnfcjeajbjcppaaDoor.Vh
end
section
set_option linter.unusedVariables false
set_option linter.unusedSimpArgs false
namespace Go.Proofs.YtnfcjeajbjcppaaDoor.Vh
open Go.Vm Go.Vt
attribute [local congr] wi_congr wg_congr wgd_congr wb_congr wl_congr cf_congr
variable {L : FuncId → List V → V → Prop} {h : Heap}
def OwnV (h : Heap) (v : V) (S : Nat → Prop) (own : Bs) : Prop :=
  (v = .nsl ∧ own = []) ∨ ∃ k cs, v = .hsl 1 k own.length ∧ h[k]? = some (.box cs) ∧ own.length ≤ cs.length ∧ cs.take own.length = own.map ofByte ∧ S k
def FlsV (h : Heap) (v : V) (S : Nat → Prop) (fs : List Fld) : Prop :=
  (v = .nsl ∧ fs = []) ∨ ∃ k, v = .sl 2 (.tip k) (flds fs) ∧ h[k]? = some (.tip (flat (flds fs)).length) ∧ S k
def growS (S : Nat → Prop) (a b : Nat) : Nat → Prop := fun i => S i ∨ (a ≤ i ∧ i < b)
/-- All but what is S's stays. -/
def Fr (S : Nat → Prop) (h h' : Heap) : Prop := h.length ≤ h'.length ∧ ∀ i x, h[i]? = some x → ¬ S i → h'[i]? = some x
theorem lt_of_get {h : Heap} {i : Nat} {x : O} (g : h[i]? = some x) : i < h.length := (List.getElem?_eq_some_iff.1 g).1
theorem Fr.trans {S : Nat → Prop} {h h1 h2 : Heap} (a : Fr S h h1) (b : Fr (growS S h.length h1.length) h1 h2) : Fr S h h2 :=
  ⟨Nat.le_trans a.1 b.1, fun i x g hn => b.2 i x (a.2 i x g hn) fun hs => hs.elim hn fun hs => by have := lt_of_get g; omega⟩
theorem Fr.refl {S : Nat → Prop} {h : Heap} : Fr S h h := ⟨Nat.le_refl _, fun _ _ g _ => g⟩
theorem Fr.app {S : Nat → Prop} {h t : Heap} : Fr S h (h ++ t) := ⟨by simp, fun _ _ g _ => get_old g⟩
theorem Fr.set {S : Nat → Prop} {h : Heap} {k : Nat} {x : O} (hk : S k) : Fr S h (h.set k x) := ⟨by simp, fun i y g hn => by
  rw [List.getElem?_set, if_neg (fun hh => hn (by rw [← hh]; exact hk))]; exact g⟩
theorem Fr.mono {S T : Nat → Prop} {h h' : Heap} (hs : ∀ i, S i → T i) (a : Fr S h h') : Fr T h h' := ⟨a.1, fun i x g hn => a.2 i x g fun hh => hn (hs i hh)⟩
theorem OwnV.mono {S T : Nat → Prop} {h h' : Heap} {v : V} {own : Bs} (g : OwnV h v S own) (hs : ∀ i, S i → T i) (hh : ∀ i cs, h[i]? = some (.box cs) → S i → h'[i]? = some (.box cs)) : OwnV h' v T own := by
  rcases g with g | ⟨k, cs, h1, h2, h3, h4, h5⟩
  · exact .inl g
  · exact .inr ⟨k, cs, h1, hh k _ h2 h5, h3, h4, hs k h5⟩
theorem FlsV.mono {S T : Nat → Prop} {h h' : Heap} {v : V} {fs : List Fld} (g : FlsV h v S fs) (hs : ∀ i, S i → T i) (hh : ∀ i n, h[i]? = some (.tip n) → S i → h'[i]? = some (.tip n)) : FlsV h' v T fs := by
  rcases g with g | ⟨k, h1, h2, h5⟩
  · exact .inl g
  · exact .inr ⟨k, h1, hh k _ h2 h5, hs k h5⟩
/-- A byte more. -/
theorem own_app {S : Nat → Prop} {v : V} {own : Bs} {c : UInt8} (g : OwnV h v S own) (hl : own.length < 100000) :
    ∃ v' h', appV h 1 1 true v (.sl 1 .full [.int .u8 c.toNat]) = some (v', h') ∧ (∃ cs, v' = .hsl 1 h.length (own.length + 1) ∧ h'[h.length]? = some (.box cs) ∧ cs = (own ++ [c]).map ofByte) ∧ h'.length = h.length + 1 ∧ ∀ i x, h[i]? = some x → ¬ (S i ∧ ∃ cs, x = .box cs) → h'[i]? = some x := by
  rcases g with ⟨rfl, rfl⟩ | ⟨k, cs, rfl, h2, h3, h4, h5⟩
  · refine ⟨.hsl 1 h.length 1, h ++ [.box [ofByte c]], rfl, ⟨_, rfl, by simp, rfl⟩, by simp, fun i x g _ => get_old g⟩
  · have r : room (own.length + 1) 1 = true := by simp [room]; omega
    refine ⟨.hsl 1 h.length (own.length + 1), h.set k .dead ++ [.box (cs.take own.length ++ [ofByte c])], ?_, ⟨cs.take own.length ++ [ofByte c], rfl, ?_, ?_⟩, by simp, fun i x g hn => ?_⟩
    · simp only [appV, srcElems, if_true, Option.bind_some, List.length_singleton, r, and_self, h2, if_pos h3]
      rfl
    · rw [List.getElem?_append_right (by simp)]; simp
    · rw [h4]; simp
    · refine get_old ?_
      rw [List.getElem?_set]
      split
      · rename_i hk
        subst hk
        exact absurd ⟨h5, cs, Option.some.inj (g.symm.trans h2)⟩ hn
      · exact g
/-- A field more. -/
theorem fls_app {S : Nat → Prop} {v : V} {fs : List Fld} {f : Fld} (g : FlsV h v S fs) (hl : fs.length ≤ 100) :
    ∃ v' h', appV h 2 32 false v (.sl 2 .full [fldV f]) = some (v', h') ∧ FlsV h' v' (growS S h.length h'.length) (fs ++ [f]) ∧ h.length ≤ h'.length ∧ ∀ i x, h[i]? = some x → ¬ (S i ∧ ∃ n, x = .tip n) → h'[i]? = some x := by
  rcases g with ⟨rfl, rfl⟩ | ⟨k, rfl, h2, h5⟩
  · exact ⟨.sl 2 (.tip h.length) [fldV f], h ++ [.tip 2], rfl, .inr ⟨h.length, rfl, by simp; rfl, .inr (by simp)⟩, by simp, fun i x g _ => get_old g⟩
  · have hfl : flds (fs ++ [f]) = flds fs ++ [fldV f] := by simp [flds]
    have hln := flds_len fs
    have r : room ((flds fs).length + 1) 32 = true := by simp [room, hln]; omega
    have i : isTip h k (flat (flds fs)).length = true := by simp [isTip, h2]
    refine ⟨.sl 2 (.tip k) (flds fs ++ [fldV f]), h.set k (.tip (flat (flds fs ++ [fldV f])).length), ?_, .inr ⟨k, by rw [hfl], by rw [hfl, List.getElem?_set_self (lt_of_get h2)], .inl h5⟩, by simp, fun i x g hn => ?_⟩
    · simp only [appV, srcElems, if_true, Option.bind_some, List.length_singleton, r, i, Bool.and_self]
    · rw [List.getElem?_set]
      split
      · rename_i hk
        subst hk
        exact absurd ⟨h5, _, Option.some.inj (g.symm.trans h2)⟩ hn
      · exact g
theorem toBytes_map : ∀ l : Bs, toBytesL (l.map ofByte) = some l
  | [] => rfl
  | b :: r => by
    simp only [List.map_cons, toBytesL, toBytes_map r]
    simp [toByte, ofByte]
theorem take_map (l : Bs) (n : Nat) : (l.map ofByte).take n = (l.take n).map ofByte := (List.map_take).symm
theorem box_take {cs : List V} {own : Bs} {n : Nat} (h1 : cs.take own.length = own.map ofByte) (hn : n ≤ own.length) : cs.take n = (own.take n).map ofByte := by
  rw [← take_map, ← h1, List.take_take, Nat.min_eq_left hn]
theorem box_get {cs : List V} {own : Bs} {n : Nat} (h1 : cs.take own.length = own.map ofByte) (hn : n < own.length) : cs[n]? = some (.int .u8 (own.getD n 0).toNat) := by
  have h2 : (cs.take own.length)[n]? = (own.map ofByte)[n]? := by rw [h1]
  rw [List.getElem?_take, if_pos hn] at h2
  rw [h2, List.getElem?_map, List.getElem?_eq_getElem hn, List.getD_eq_getElem?_getD, List.getElem?_eq_getElem hn]
  rfl
/-- The text of a line's bytes. -/
theorem str_own {k n : Nat} {cs : List V} {own : Bs} (h1 : h[k]? = some (.box cs)) (h2 : own.length ≤ cs.length) (h3 : cs.take own.length = own.map ofByte) (hn : n ≤ own.length) : stepI (.toStr (.c (.hsl 1 k n))) E0 h = some (.str (own.take n), h) := by
  simp only [stepI, Arg.get, srcElems, h1, and_self, if_true]
  rw [if_pos (by omega)]
  simp only [Option.bind_some, box_take h3 hn, toBytes_map, Option.map_some]
theorem cut_ok {k : Nat} {cs : List V} {own : Bs} (h1 : h[k]? = some (.box cs)) (h2 : own.length ≤ cs.length) (h3 : cs.take own.length = own.map ofByte) (hl : own.length < 100000) (h0 : 0 < own.length) :
    Cf F L i_head_cut [.hsl 1 k own.length] h (Pu h (.str (cutL own))) := by
  refine run_head_cut ?_
  simp only [p_head_cut]
  
  obtain ⟨m, hm⟩ : ∃ m, own.length = m + 1 := ⟨own.length - 1, by omega⟩
  have w1 := wrap64 (x := ((m + 1 : Nat) : Int) - 1) (by omega) (by omega)
  rw [show ((m + 1 : Nat) : Int) - 1 = (m : Int) by omega] at w1
  have e1 : ((m + 1 : Nat) : Int) - 1 = (m : Int) := by omega
  have i1 : (0 : Int) ≤ (m : Int) := by omega
  have i2 : m ≤ m + 1 := by omega
  have hcl : cutL own = cutE (own.take m) := by unfold cutL; rw [hm]; rfl
  have htl : (own.take m).length = m := by rw [List.length_take]; omega
  simp (maxSteps := 4000000) only [vm, vl, Arg.get, cells, stor, boundO, resultsV, resV, partK, loadV, Vm.part, fillC, splice, reduceIte, reduceCtorEq, Nat.reduceEqDiff, Nat.reduceAdd, Nat.reduceSub, Nat.reduceMul, Nat.reduceLeDiff, ne_eq, not_false_eq_true, Int.reduceEq, Int.reduceLT, Int.reduceLE, Int.reduceNeg, Int.reduceToNat, Int.reduceGT, Int.reduceGE, Nat.reduceLT, Nat.lt_add_one, Nat.zero_lt_succ, Nat.succ_pos, Nat.zero_le, beq_self_eq_true, hm, e1, w1, i1, i2, slslV, not_true_eq_false, not_false_eq_true, Int.toNat_natCast]
  by_cases c : m = 0
  · subst c
    have hh : cutL own = own.take 0 := by rw [hcl]; rfl
    simp (maxSteps := 4000000) only [vm, vl, Arg.get, cells, stor, boundO, resultsV, resV, partK, loadV, Vm.part, fillC, splice, reduceIte, reduceCtorEq, Nat.reduceEqDiff, Nat.reduceAdd, Nat.reduceSub, Nat.reduceMul, Nat.reduceLeDiff, ne_eq, not_false_eq_true, Int.reduceEq, Int.reduceLT, Int.reduceLE, Int.reduceNeg, Int.reduceToNat, Int.reduceGT, Int.reduceGE, Nat.reduceLT, Nat.lt_add_one, Nat.zero_lt_succ, Nat.succ_pos, Nat.zero_le, beq_self_eq_true, k_head_cut_0]
    rw [str_own h1 h2 h3 (by omega)]
    exact ⟨by rw [hh], [], by simp⟩
  · obtain ⟨q, rfl⟩ : ∃ q, m = q + 1 := ⟨m - 1, by omega⟩
    have w2 := wrap64 (x := ((q + 1 : Nat) : Int) - 1) (by omega) (by omega)
    rw [show ((q + 1 : Nat) : Int) - 1 = (q : Int) by omega] at w2
    have e2 : ((q + 1 : Nat) : Int) - 1 = (q : Int) := by omega
    have c2 : ((q + 1 : Nat) : Int) > 0 := by omega
    have i3 : (0 : Int) ≤ (q : Int) := by omega
    have i4 : q < q + 1 := by omega
    have i5 : q ≤ q + 1 := by omega
    have g1 : cs.getD q (.tup []) = .int .u8 (own.getD q 0).toNat := by rw [List.getD_eq_getElem?_getD, box_get (n := q) h3 (by omega)]; rfl
    have g2 : q + 1 ≤ cs.length := by omega
    simp (maxSteps := 4000000) only [vm, vl, Arg.get, cells, stor, boundO, resultsV, resV, partK, loadV, Vm.part, fillC, splice, reduceIte, reduceCtorEq, Nat.reduceEqDiff, Nat.reduceAdd, Nat.reduceSub, Nat.reduceMul, Nat.reduceLeDiff, ne_eq, not_false_eq_true, Int.reduceEq, Int.reduceLT, Int.reduceLE, Int.reduceNeg, Int.reduceToNat, Int.reduceGT, Int.reduceGE, Nat.reduceLT, Nat.lt_add_one, Nat.zero_lt_succ, Nat.succ_pos, Nat.zero_le, beq_self_eq_true, c2, decide_true, e2, w2, i3, i4, i5, slslV, not_true_eq_false, not_false_eq_true, Int.toNat_natCast, h1, g1, g2]
    have hb : (own.take (q + 1)).getD q 0 = own.getD q 0 := by
      rw [List.getD_eq_getElem?_getD, List.getD_eq_getElem?_getD, List.getElem?_take, if_pos (by omega)]
    have hce : cutL own = if own.getD q 0 = 13 then own.take q else own.take (q + 1) := by
      rw [hcl]
      unfold cutE
      rw [htl, Nat.add_sub_cancel, hb]
      by_cases c3 : own.getD q 0 = 13
      · rw [if_pos ⟨by omega, c3⟩, if_pos c3, List.take_take, Nat.min_eq_left (by omega)]
      · rw [if_neg (fun hh => c3 hh.2), if_neg c3]
    have b13 : (((own.getD q 0).toNat : Int) = 13) = (own.getD q 0 = 13) := propext ⟨fun hh => by
      apply UInt8.toNat_inj.1
      have : (own.getD q 0).toNat = 13 := by omega
      rw [this]; rfl, fun hh => by rw [hh]; rfl⟩
    by_cases c3 : own.getD q 0 = 13
    · rw [if_pos c3] at hce
      have d3 := decide_eq_true (b13.mpr c3)
      simp (maxSteps := 4000000) only [vm, vl, Arg.get, cells, stor, boundO, resultsV, resV, partK, loadV, Vm.part, fillC, splice, reduceIte, reduceCtorEq, Nat.reduceEqDiff, Nat.reduceAdd, Nat.reduceSub, Nat.reduceMul, Nat.reduceLeDiff, ne_eq, not_false_eq_true, Int.reduceEq, Int.reduceLT, Int.reduceLE, Int.reduceNeg, Int.reduceToNat, Int.reduceGT, Int.reduceGE, Nat.reduceLT, Nat.lt_add_one, Nat.zero_lt_succ, Nat.succ_pos, Nat.zero_le, beq_self_eq_true, d3, e2, w2, i3, i5, slslV, not_true_eq_false, not_false_eq_true, Int.toNat_natCast, k_head_cut_0]
      rw [str_own h1 h2 h3 (by omega)]
      exact ⟨by rw [hce], [], by simp⟩
    · rw [if_neg c3] at hce
      have d3 := decide_eq_false (fun hh => c3 (b13.mp hh))
      simp (maxSteps := 4000000) only [vm, vl, Arg.get, cells, stor, boundO, resultsV, resV, partK, loadV, Vm.part, fillC, splice, reduceIte, reduceCtorEq, Nat.reduceEqDiff, Nat.reduceAdd, Nat.reduceSub, Nat.reduceMul, Nat.reduceLeDiff, ne_eq, not_false_eq_true, Int.reduceEq, Int.reduceLT, Int.reduceLE, Int.reduceNeg, Int.reduceToNat, Int.reduceGT, Int.reduceGE, Nat.reduceLT, Nat.lt_add_one, Nat.zero_lt_succ, Nat.succ_pos, Nat.zero_le, beq_self_eq_true, d3, k_head_cut_0]
      rw [str_own h1 h2 h3 (by omega)]
      exact ⟨by rw [hce], [], by simp⟩
end Go.Proofs.YtnfcjeajbjcppaaDoor.Vh
end
section
set_option linter.unusedVariables false
set_option linter.unusedSimpArgs false
namespace Go.Proofs.YtnfcjeajbjcppaaDoor.Vh
open Go.Vm Go.Vt
attribute [local congr] wi_congr wg_congr wgd_congr wb_congr wl_congr cf_congr
variable {L : FuncId → List V → V → Prop} {h : Heap} {kr kc : Nat} {f b1 b2 b3 e4 t5 o6 q0 q1 q2 q3 p0 p1 p2 p3 fl : V}
theorem New1_ok (HI : IndexOk L) (HC : CountOk L) {s : Bs} (hs : s.length < 100000) (gk : h[kc]? = some (.box [.ptr kr 0])) (gr : h[kr]? = some (.box [f, b1, b2, b3, e4, t5, o6, q0, q1, q2, q3, p0, p1, p2, p3, fl])) (hne : kr ≠ kc) :
    Cf F L i_head_New_1 [.str s, .ptr kc 0] h (fun v h' => v = .int .i64 (firstP false s).2 ∧ ∃ u, h' = (h ++ u).set kr (.box [f, b1, b2, b3, e4, t5, o6, (firstP false s).1.1, (firstP false s).1.2.1, (firstP false s).1.2.2, q3, p0, p1, p2, p3, fl])) := by
  refine run_head_New_1 ?_
  simp only [p_head_New_1]
  
  obtain ⟨a, b, m, hf, hr⟩ := firstP_req s
  have R := fun h' => LRequest_ok (L := L) (h := h') HI HC (s := s) (by omega)
  rw [hr] at R
  simp (maxSteps := 4000000) only [vm, vl, Arg.get, cells, stor, boundO, resultsV, resV, partK, loadV, Vm.part, fillC, splice, reduceIte, reduceCtorEq, Nat.reduceEqDiff, Nat.reduceAdd, Nat.reduceSub, Nat.reduceMul, Nat.reduceLeDiff, ne_eq, not_false_eq_true, Int.reduceEq, Int.reduceLT, Int.reduceLE, Int.reduceNeg, Int.reduceToNat, Int.reduceGT, Int.reduceGE, Nat.reduceLT, Nat.lt_add_one, Nat.zero_lt_succ, Nat.succ_pos, Nat.zero_le, beq_self_eq_true, gk]
  refine Cf.pu (R _) fun u => ?_
  refine ⟨by simp (maxSteps := 4000000) only [vm, vl, Arg.get, cells, stor, boundO, resultsV, resV, partK, loadV, Vm.part, fillC, splice, reduceIte, reduceCtorEq, Nat.reduceEqDiff, Nat.reduceAdd, Nat.reduceSub, Nat.reduceMul, Nat.reduceLeDiff, ne_eq, not_false_eq_true, Int.reduceEq, Int.reduceLT, Int.reduceLE, Int.reduceNeg, Int.reduceToNat, Int.reduceGT, Int.reduceGE, Nat.reduceLT, Nat.lt_add_one, Nat.zero_lt_succ, Nat.succ_pos, Nat.zero_le, beq_self_eq_true], ?_⟩
  have gk' := get_old (t := u) gk
  have gr' := get_old (t := u) gr
  generalize hH : h ++ u = H at *
  have s1 : ∀ X, (H.set kr X)[kr]? = some X := fun X => List.getElem?_set_self (lt_of_get gr')
  have s2 : ∀ X Y : O, (H.set kr X).set kr Y = H.set kr Y := fun X Y => List.set_set ..
  have s3 : ∀ X, (H.set kr X)[kc]? = some (.box [.ptr kr 0]) := fun X => by rw [List.getElem?_set_ne hne]; exact gk'
  simp (maxSteps := 4000000) only [vm, vl, Arg.get, cells, stor, boundO, resultsV, resV, partK, loadV, Vm.part, fillC, splice, reduceIte, reduceCtorEq, Nat.reduceEqDiff, Nat.reduceAdd, Nat.reduceSub, Nat.reduceMul, Nat.reduceLeDiff, ne_eq, not_false_eq_true, Int.reduceEq, Int.reduceLT, Int.reduceLE, Int.reduceNeg, Int.reduceToNat, Int.reduceGT, Int.reduceGE, Nat.reduceLT, Nat.lt_add_one, Nat.zero_lt_succ, Nat.succ_pos, Nat.zero_le, beq_self_eq_true, gr', s1, s2, s3]
  rw [hf]
  exact ⟨u, by rw [hH]⟩
theorem New2_ok (HI : IndexOk L) {s : Bs} (hs : s.length < 100000) (gk : h[kc]? = some (.box [.ptr kr 0])) (gr : h[kr]? = some (.box [f, b1, b2, b3, e4, t5, o6, q0, q1, q2, q3, p0, p1, p2, p3, fl])) (hne : kr ≠ kc) :
    Cf F L i_head_New_2 [.str s, .ptr kc 0] h (fun v h' => v = .int .i64 (firstP true s).2 ∧ ∃ u, h' = (h ++ u).set kr (.box [f, b1, b2, b3, e4, t5, o6, q0, q1, q2, q3, (firstP true s).1.1, (firstP true s).1.2.1, (firstP true s).1.2.2, p3, fl])) := by
  refine run_head_New_2 ?_
  simp only [p_head_New_2]
  
  obtain ⟨a, b, m, hf, hr⟩ := firstP_res s
  have R := fun h' => LStatus_ok (L := L) (h := h') HI (s := s) (by omega)
  rw [hr] at R
  simp (maxSteps := 4000000) only [vm, vl, Arg.get, cells, stor, boundO, resultsV, resV, partK, loadV, Vm.part, fillC, splice, reduceIte, reduceCtorEq, Nat.reduceEqDiff, Nat.reduceAdd, Nat.reduceSub, Nat.reduceMul, Nat.reduceLeDiff, ne_eq, not_false_eq_true, Int.reduceEq, Int.reduceLT, Int.reduceLE, Int.reduceNeg, Int.reduceToNat, Int.reduceGT, Int.reduceGE, Nat.reduceLT, Nat.lt_add_one, Nat.zero_lt_succ, Nat.succ_pos, Nat.zero_le, beq_self_eq_true, gk]
  refine Cf.pu (R _) fun u => ?_
  refine ⟨by simp (maxSteps := 4000000) only [vm, vl, Arg.get, cells, stor, boundO, resultsV, resV, partK, loadV, Vm.part, fillC, splice, reduceIte, reduceCtorEq, Nat.reduceEqDiff, Nat.reduceAdd, Nat.reduceSub, Nat.reduceMul, Nat.reduceLeDiff, ne_eq, not_false_eq_true, Int.reduceEq, Int.reduceLT, Int.reduceLE, Int.reduceNeg, Int.reduceToNat, Int.reduceGT, Int.reduceGE, Nat.reduceLT, Nat.lt_add_one, Nat.zero_lt_succ, Nat.succ_pos, Nat.zero_le, beq_self_eq_true], ?_⟩
  have gk' := get_old (t := u) gk
  have gr' := get_old (t := u) gr
  generalize hH : h ++ u = H at *
  have s1 : ∀ X, (H.set kr X)[kr]? = some X := fun X => List.getElem?_set_self (lt_of_get gr')
  have s2 : ∀ X Y : O, (H.set kr X).set kr Y = H.set kr Y := fun X Y => List.set_set ..
  have s3 : ∀ X, (H.set kr X)[kc]? = some (.box [.ptr kr 0]) := fun X => by rw [List.getElem?_set_ne hne]; exact gk'
  simp (maxSteps := 4000000) only [vm, vl, Arg.get, cells, stor, boundO, resultsV, resV, partK, loadV, Vm.part, fillC, splice, reduceIte, reduceCtorEq, Nat.reduceEqDiff, Nat.reduceAdd, Nat.reduceSub, Nat.reduceMul, Nat.reduceLeDiff, ne_eq, not_false_eq_true, Int.reduceEq, Int.reduceLT, Int.reduceLE, Int.reduceNeg, Int.reduceToNat, Int.reduceGT, Int.reduceGE, Nat.reduceLT, Nat.lt_add_one, Nat.zero_lt_succ, Nat.succ_pos, Nat.zero_le, beq_self_eq_true, gr', s1, s2, s3]
  rw [hf]
  exact ⟨u, by rw [hH]⟩
end Go.Proofs.YtnfcjeajbjcppaaDoor.Vh
end
section
set_option linter.unusedVariables false
set_option linter.unusedSimpArgs false
namespace Go.Proofs.YtnfcjeajbjcppaaDoor.Vh
open Go.Vm Go.Vt
attribute [local congr] wi_congr wg_congr wgd_congr wb_congr wl_congr cf_congr
variable {L : FuncId → List V → V → Prop} {h : Heap} {kr kc : Nat} {S : Nat → Prop} {ans : Bool} {st : HS}
def rdV (ans : Bool) (kc : Nat) (st : HS) (vo vf : V) : List V := [.fn (if ans then i_head_New_2 else i_head_New_1) [.ptr kc 0], .bool ans, .bool st.begun, .bool st.done, .int .i64 st.e, .int .i64 st.taken, vo, st.q.1, st.q.2.1, st.q.2.2, .nsl, st.p.1, st.p.2.1, st.p.2.2, .nsl, vf]
def RD (h : Heap) (S : Nat → Prop) (kr kc : Nat) (ans : Bool) (st : HS) : Prop :=
  ∃ vo vf, h[kr]? = some (.box (rdV ans kc st vo vf)) ∧ h[kc]? = some (.box [.ptr kr 0]) ∧ OwnV h vo S st.own ∧ FlsV h vf S st.fs ∧ ¬ S kr ∧ ¬ S kc ∧ kr ≠ kc ∧ (∀ i, S i → i < h.length)
def orK (S : Nat → Prop) (k : Nat) : Nat → Prop := fun i => S i ∨ i = k
/-- The reader's box is written, more stands behind. -/
theorem RD.put {u : Heap} {st' : HS} {vo vf : V} (g2 : h[kc]? = some (.box [.ptr kr 0])) (g3 : OwnV h vo S st'.own) (g4 : FlsV h vf S st'.fs) (g5 : ¬ S kr) (g6 : ¬ S kc) (g7 : kr ≠ kc) (g8 : ∀ i, S i → i < h.length) (hk : kr < h.length) :
    RD ((h ++ u).set kr (.box (rdV ans kc st' vo vf))) (growS S h.length ((h ++ u).set kr (.box (rdV ans kc st' vo vf))).length) kr kc ans st' ∧ Fr (orK S kr) h ((h ++ u).set kr (.box (rdV ans kc st' vo vf))) := by
  have hlt := lt_of_get g2
  have keep : ∀ i x, h[i]? = some x → S i → ((h ++ u).set kr (.box (rdV ans kc st' vo vf)))[i]? = some x := fun i x hx hs => by
    rw [List.getElem?_set_ne (fun hh => g5 (by rw [hh]; exact hs))]; exact get_old hx
  refine ⟨⟨vo, vf, List.getElem?_set_self (by simp; omega), ?_, g3.mono (fun i hs => .inl hs) (fun i x hx hs => keep i _ hx hs), g4.mono (fun i hs => .inl hs) (fun i n hx hs => keep i _ hx hs), ?_, ?_, g7, ?_⟩, ?_⟩
  · rw [List.getElem?_set_ne g7]; exact get_old g2
  · rintro (hh | hh)
    · exact g5 hh
    · omega
  · rintro (hh | hh)
    · exact g6 hh
    · omega
  · rintro i (hh | hh)
    · have := g8 i hh; simp; omega
    · exact hh.2
  · refine ⟨by simp, fun i x hx hn => ?_⟩
    rw [List.getElem?_set_ne (fun hh => hn (.inr hh.symm))]; exact get_old hx
theorem RD.same (g : RD h S kr kc ans st) : RD h (growS S h.length h.length) kr kc ans st := by
  obtain ⟨vo, vf, g1, g2, g3, g4, g5, g6, g7, g8⟩ := g
  refine ⟨vo, vf, g1, g2, g3.mono (fun i hs => .inl hs) (fun i x hx _ => hx), g4.mono (fun i hs => .inl hs) (fun i n hx _ => hx), ?_, ?_, g7, ?_⟩
  · rintro (hh | hh)
    · exact g5 hh
    · omega
  · rintro (hh | hh)
    · exact g6 hh
    · omega
  · rintro i (hh | hh)
    · exact g8 i hh
    · omega
def EndP (h : Heap) (S : Nat → Prop) (kr kc : Nat) (ans : Bool) (r : HS) (v : V) (h' : Heap) : Prop :=
  v = .int .i64 r.e ∧ RD h' (growS S h.length h'.length) kr kc ans { r with e := 0 } ∧ Fr (orK S kr) h h'
theorem Ended_first (HI : IndexOk L) (HC : CountOk L) {s : Bs} {tk : Nat} {own : Bs} {dn : Bool} {q p : V × V × V} {fs : List Fld} (g : RD h S kr kc ans ⟨tk, own, false, dn, 0, q, p, fs⟩) (hs : s.length < 100000) (h0 : s ≠ []) :
    Cf F L i___gatepost_head_Reader__ended [.ptr kr 0, .str s] h (EndP h S kr kc ans (endS ans s ⟨tk, own, false, dn, 0, q, p, fs⟩)) := by
  refine run___gatepost_head_Reader__ended ?_
  simp only [p___gatepost_head_Reader__ended]
  
  obtain ⟨vo, vf, g1, g2, g3, g4, g5, g6, g7, g8⟩ := g
  have hlt := lt_of_get g1
  have c1 : (s == []) = false := by cases s <;> simp_all
  have c2 : decide (s = []) = false := decide_eq_false h0
  have s1 : ∀ X, (h.set kr X)[kr]? = some X := fun X => List.getElem?_set_self hlt
  have s2 : ∀ X Y : O, (h.set kr X).set kr Y = h.set kr Y := fun X Y => List.set_set ..
  have s3 : ∀ X, (h.set kr X)[kc]? = some (.box [.ptr kr 0]) := fun X => by rw [List.getElem?_set_ne g7]; exact g2
  have hE : endS ans s ⟨tk, own, false, dn, 0, q, p, fs⟩ = ⟨tk, own, true, dn, (firstP ans s).2, if ans then q else (firstP ans s).1, if ans then (firstP ans s).1 else p, fs⟩ := by
    unfold endS; rw [if_pos rfl, if_neg h0]
  rw [hE]
  unfold rdV at g1
  simp only at g1
  cases ans with
  | false =>
    simp only [Bool.false_eq_true, if_false] at g1 ⊢
    simp (maxSteps := 4000000) only [vm, vl, Arg.get, cells, stor, boundO, resultsV, resV, partK, loadV, Vm.part, fillC, splice, reduceIte, reduceCtorEq, Nat.reduceEqDiff, Nat.reduceAdd, Nat.reduceSub, Nat.reduceMul, Nat.reduceLeDiff, ne_eq, not_false_eq_true, Int.reduceEq, Int.reduceLT, Int.reduceLE, Int.reduceNeg, Int.reduceToNat, Int.reduceGT, Int.reduceGE, Nat.reduceLT, Nat.lt_add_one, Nat.zero_lt_succ, Nat.succ_pos, Nat.zero_le, beq_self_eq_true, g1, s1, s2, c1, c2]
    refine (New1_ok HI HC hs (s3 _) (s1 _) g7).mono fun v h' hv => ?_
    obtain ⟨rfl, u, rfl⟩ := hv
    have R := RD.put (ans := false) (u := u) (st' := ⟨tk, own, true, dn, 0, (firstP false s).1, p, fs⟩) g2 g3 g4 g5 g6 g7 g8 hlt
    have hset : ∀ X Y : O, (h.set kr X ++ u).set kr Y = (h ++ u).set kr Y := fun X Y => by
      rw [List.set_append_left _ _ (by simpa using hlt), List.set_append_left _ _ hlt, List.set_set]
    refine ⟨rfl, ?_⟩
    rw [hset]
    exact R
  | true =>
    simp only [if_true] at g1 ⊢
    simp (maxSteps := 4000000) only [vm, vl, Arg.get, cells, stor, boundO, resultsV, resV, partK, loadV, Vm.part, fillC, splice, reduceIte, reduceCtorEq, Nat.reduceEqDiff, Nat.reduceAdd, Nat.reduceSub, Nat.reduceMul, Nat.reduceLeDiff, ne_eq, not_false_eq_true, Int.reduceEq, Int.reduceLT, Int.reduceLE, Int.reduceNeg, Int.reduceToNat, Int.reduceGT, Int.reduceGE, Nat.reduceLT, Nat.lt_add_one, Nat.zero_lt_succ, Nat.succ_pos, Nat.zero_le, beq_self_eq_true, g1, s1, s2, c1, c2]
    refine (New2_ok HI hs (s3 _) (s1 _) g7).mono fun v h' hv => ?_
    obtain ⟨rfl, u, rfl⟩ := hv
    have R := RD.put (ans := true) (u := u) (st' := ⟨tk, own, true, dn, 0, q, (firstP true s).1, fs⟩) g2 g3 g4 g5 g6 g7 g8 hlt
    have hset : ∀ X Y : O, (h.set kr X ++ u).set kr Y = (h ++ u).set kr Y := fun X Y => by
      rw [List.set_append_left _ _ (by simpa using hlt), List.set_append_left _ _ hlt, List.set_set]
    refine ⟨rfl, ?_⟩
    rw [hset]
    exact R
theorem Field0_ok (HI : IndexOk L) {s : Bs} {tk : Nat} {own : Bs} {dn : Bool} {q p : V × V × V} {fs : List Fld} {vo vf : V} (g1 : h[kr]? = some (.box (rdV ans kc ⟨tk, own, true, dn, 0, q, p, fs⟩ vo vf))) (g2 : h[kc]? = some (.box [.ptr kr 0])) (g3 : OwnV h vo S own) (g4 : FlsV h vf S fs) (g5 : ¬ S kr) (g6 : ¬ S kc) (g7 : kr ≠ kc) (g8 : ∀ i, S i → i < h.length) (hs : s.length < 100000) (hf : fs.length < 64) :
    k___gatepost_head_Reader__ended_0 L (EndP h S kr kc ans ⟨tk, own, true, dn, parE s, q, p, fs ++ [parF s]⟩) (.ptr kr 0) (.str s) h := by
  
  unfold k___gatepost_head_Reader__ended_0
  unfold rdV at g1
  simp only at g1
  have R := fun h' => Parse_ok (L := L) (h := h') (s := s) HI hs
  rw [parseV_form] at R
  simp (maxSteps := 4000000) only [vm, vl, Arg.get, cells, stor, boundO, resultsV, resV, partK, loadV, Vm.part, fillC, splice, reduceIte, reduceCtorEq, Nat.reduceEqDiff, Nat.reduceAdd, Nat.reduceSub, Nat.reduceMul, Nat.reduceLeDiff, ne_eq, not_false_eq_true, Int.reduceEq, Int.reduceLT, Int.reduceLE, Int.reduceNeg, Int.reduceToNat, Int.reduceGT, Int.reduceGE, Nat.reduceLT, Nat.lt_add_one, Nat.zero_lt_succ, Nat.succ_pos, Nat.zero_le, beq_self_eq_true]
  refine Cf.pu (R _) fun u => ?_
  unfold k___gatepost_head_Reader__ended_1
  have g1' := get_old (t := u) g1
  have g2' := get_old (t := u) g2
  have g3' := g3.mono (T := S) (h' := h ++ u) (fun i hh => hh) (fun i x hx _ => get_old hx)
  have g4' := g4.mono (T := S) (h' := h ++ u) (fun i hh => hh) (fun i n hx _ => get_old hx)
  have hle : h.length ≤ (h ++ u).length := by simp
  have hfr : ∀ i x, h[i]? = some x → (h ++ u)[i]? = some x := fun i x hx => get_old hx
  generalize h ++ u = H at *
  have hlt' := lt_of_get g1'
  -- the box of the field
  have g1b := get_old (t := [.box [.str (parF s).1, .str (parF s).2]]) g1'
  have g4b := g4'.mono (T := S) (h' := H ++ [.box [.str (parF s).1, .str (parF s).2]]) (fun i hh => hh) (fun i n hx _ => get_old hx)
  obtain ⟨vf', H2, ha, gf, hl2, hk2⟩ := fls_app (f := parF s) g4b (by omega)
  unfold fldV at ha
  have gr2 := hk2 kr _ g1b (fun hh => g5 hh.1)
  have gc2 := hk2 kc _ (get_old g2') (fun hh => g6 hh.1)
  have hlt2 := lt_of_get gr2
  have s1 : ∀ X, (H2.set kr X)[kr]? = some X := fun X => List.getElem?_set_self hlt2
  have hv : ∃ k', vf' = .sl 2 (.tip k') (flds (fs ++ [parF s])) := by
    rcases gf with ⟨_, hh⟩ | ⟨k', hh, _⟩
    · simp at hh
    · exact ⟨k', hh⟩
  obtain ⟨k', rfl⟩ := hv
  simp only [fldV]
  simp (maxSteps := 4000000) only [vm, vl, Arg.get, cells, stor, boundO, resultsV, resV, partK, loadV, Vm.part, fillC, splice, reduceIte, reduceCtorEq, Nat.reduceEqDiff, Nat.reduceAdd, Nat.reduceSub, Nat.reduceMul, Nat.reduceLeDiff, ne_eq, not_false_eq_true, Int.reduceEq, Int.reduceLT, Int.reduceLE, Int.reduceNeg, Int.reduceToNat, Int.reduceGT, Int.reduceGE, Nat.reduceLT, Nat.lt_add_one, Nat.zero_lt_succ, Nat.succ_pos, Nat.zero_le, beq_self_eq_true, g1b, ha, gr2, s1]
  have hl3 : H.length + 1 ≤ H2.length := by simpa using hl2
  refine ⟨rfl, ⟨vo, .sl 2 (.tip k') (flds (fs ++ [parF s])), s1 _, by rw [List.getElem?_set_ne g7]; exact gc2, ?_, ?_, ?_, ?_, g7, ?_⟩, ?_⟩
  · refine g3.mono (fun i hh => .inl hh) fun i cs hx hs => ?_
    rw [List.getElem?_set_ne (fun hh => g5 (by rw [hh]; exact hs))]
    exact hk2 i _ (get_old (hfr i _ hx)) fun hh => by obtain ⟨_, n, hn⟩ := hh; cases hn
  · refine gf.mono (fun i hh => ?_) fun i n hx hs => ?_
    · simp only [List.length_set]
      rcases hh with hh | hh
      · exact .inl hh
      · refine .inr ⟨?_, hh.2⟩
        have := hh.1
        simp only [List.length_append, List.length_singleton] at this
        omega
    · rw [List.getElem?_set_ne (fun hh => by rw [hh] at gr2; rw [gr2] at hx; cases hx)]; exact hx
  · rintro (hh | hh)
    · exact g5 hh
    · have := lt_of_get g1; omega
  · rintro (hh | hh)
    · exact g6 hh
    · have := lt_of_get g2; omega
  · rintro i (hh | hh)
    · have := g8 i hh; simp only [List.length_set]; omega
    · exact hh.2
  · refine ⟨by simp only [List.length_set]; omega, fun i x hx hn => ?_⟩
    rw [List.getElem?_set_ne (fun hh => hn (.inr hh.symm))]
    exact hk2 i x (get_old (hfr i x hx)) fun hh => hn (.inl hh.1)
theorem Ended_field (HI : IndexOk L) {s : Bs} {tk : Nat} {own : Bs} {dn : Bool} {q p : V × V × V} {fs : List Fld} (g : RD h S kr kc ans ⟨tk, own, true, dn, 0, q, p, fs⟩) (hs : s.length < 100000) (h0 : s ≠ []) (hf : fs.length < 64) :
    Cf F L i___gatepost_head_Reader__ended [.ptr kr 0, .str s] h (EndP h S kr kc ans (endS ans s ⟨tk, own, true, dn, 0, q, p, fs⟩)) := by
  have hE : endS ans s ⟨tk, own, true, dn, 0, q, p, fs⟩ = ⟨tk, own, true, dn, parE s, q, p, fs ++ [parF s]⟩ := by
    unfold endS; rw [if_neg (by simp), if_neg h0, if_neg (by simp only; omega)]
  rw [hE]
  refine run___gatepost_head_Reader__ended ?_
  simp only [p___gatepost_head_Reader__ended]
  
  obtain ⟨vo, vf, g1, g2, g3, g4, g5, g6, g7, g8⟩ := g
  have c1 : (s == []) = false := by cases s <;> simp_all
  have c2 : decide (s = []) = false := decide_eq_false h0
  have c3 : decide (((fs.length : Nat) : Int) = 64) = false := decide_eq_false (by omega)
  have K := Field0_ok HI g1 g2 g3 g4 g5 g6 g7 g8 hs hf
  unfold rdV at g1
  simp only at g1
  have hfl := flds_len fs
  rcases g4 with ⟨rfl, h5⟩ | ⟨k, rfl, _⟩
  · have : fs = [] := h5
    subst this
    simp (maxSteps := 4000000) only [vm, vl, Arg.get, cells, stor, boundO, resultsV, resV, partK, loadV, Vm.part, fillC, splice, reduceIte, reduceCtorEq, Nat.reduceEqDiff, Nat.reduceAdd, Nat.reduceSub, Nat.reduceMul, Nat.reduceLeDiff, ne_eq, not_false_eq_true, Int.reduceEq, Int.reduceLT, Int.reduceLE, Int.reduceNeg, Int.reduceToNat, Int.reduceGT, Int.reduceGE, Nat.reduceLT, Nat.lt_add_one, Nat.zero_lt_succ, Nat.succ_pos, Nat.zero_le, beq_self_eq_true, g1, c1, c2, c3]
    exact K
  · generalize flds fs = es at *
    simp (maxSteps := 4000000) only [vm, vl, Arg.get, cells, stor, boundO, resultsV, resV, partK, loadV, Vm.part, fillC, splice, reduceIte, reduceCtorEq, Nat.reduceEqDiff, Nat.reduceAdd, Nat.reduceSub, Nat.reduceMul, Nat.reduceLeDiff, ne_eq, not_false_eq_true, Int.reduceEq, Int.reduceLT, Int.reduceLE, Int.reduceNeg, Int.reduceToNat, Int.reduceGT, Int.reduceGE, Nat.reduceLT, Nat.lt_add_one, Nat.zero_lt_succ, Nat.succ_pos, Nat.zero_le, beq_self_eq_true, g1, c1, c2, hfl, c3]
    exact K
end Go.Proofs.YtnfcjeajbjcppaaDoor.Vh
end
section
set_option linter.unusedVariables false
set_option linter.unusedSimpArgs false
namespace Go.Proofs.YtnfcjeajbjcppaaDoor.Vh
open Go.Vm Go.Vt
attribute [local congr] wi_congr wg_congr wgd_congr wb_congr wl_congr cf_congr
variable {L : FuncId → List V → V → Prop} {h : Heap} {kr kc : Nat} {S : Nat → Prop} {ans : Bool} {st : HS}
theorem grow_grow {S : Nat → Prop} {a b c : Nat} (h1 : a ≤ b) (h2 : b ≤ c) : growS (growS S a b) b c = growS S a c := by
  funext i
  refine propext ⟨?_, ?_⟩
  · rintro ((hh | hh) | hh)
    · exact .inl hh
    · exact .inr ⟨hh.1, by omega⟩
    · exact .inr ⟨by omega, hh.2⟩
  · rintro (hh | hh)
    · exact .inl (.inl hh)
    · rcases Nat.lt_or_ge i b with h3 | h3
      · exact .inl (.inr ⟨hh.1, h3⟩)
      · exact .inr ⟨h3, hh.2⟩
theorem EndP.trans {h1 h' : Heap} {r : HS} {v : V} (a : Fr (orK S kr) h h1) (b : EndP h1 (growS S h.length h1.length) kr kc ans r v h') : EndP h S kr kc ans r v h' := by
  obtain ⟨b1, b2, b3⟩ := b
  rw [grow_grow a.1 b3.1] at b2
  refine ⟨b1, b2, a.trans (b3.mono fun i hh => ?_)⟩
  rcases hh with (hh | hh) | hh
  · exact .inl (.inl hh)
  · exact .inr hh
  · exact .inl (.inr hh)
theorem Ended_none {tk : Nat} {own : Bs} {dn : Bool} {q p : V × V × V} {fs : List Fld} (g : RD h S kr kc ans ⟨tk, own, false, dn, 0, q, p, fs⟩) :
    Cf F L i___gatepost_head_Reader__ended [.ptr kr 0, .str []] h (EndP h S kr kc ans ⟨tk, own, false, dn, 0, q, p, fs⟩) := by
  have G := g.same
  refine run___gatepost_head_Reader__ended ?_
  simp only [p___gatepost_head_Reader__ended]
  
  obtain ⟨vo, vf, g1, g2, g3, g4, g5, g6, g7, g8⟩ := g
  unfold rdV at g1
  simp only at g1
  simp (maxSteps := 4000000) only [vm, vl, Arg.get, cells, stor, boundO, resultsV, resV, partK, loadV, Vm.part, fillC, splice, reduceIte, reduceCtorEq, Nat.reduceEqDiff, Nat.reduceAdd, Nat.reduceSub, Nat.reduceMul, Nat.reduceLeDiff, ne_eq, not_false_eq_true, Int.reduceEq, Int.reduceLT, Int.reduceLE, Int.reduceNeg, Int.reduceToNat, Int.reduceGT, Int.reduceGE, Nat.reduceLT, Nat.lt_add_one, Nat.zero_lt_succ, Nat.succ_pos, Nat.zero_le, beq_self_eq_true, g1]
  exact ⟨rfl, G, .refl⟩
theorem Ended_done {tk : Nat} {own : Bs} {dn : Bool} {q p : V × V × V} {fs : List Fld} (g : RD h S kr kc ans ⟨tk, own, true, dn, 0, q, p, fs⟩) :
    Cf F L i___gatepost_head_Reader__ended [.ptr kr 0, .str []] h (EndP h S kr kc ans ⟨tk, own, true, true, 0, q, p, fs⟩) := by
  refine run___gatepost_head_Reader__ended ?_
  simp only [p___gatepost_head_Reader__ended]
  
  obtain ⟨vo, vf, g1, g2, g3, g4, g5, g6, g7, g8⟩ := g
  have R := RD.put (ans := ans) (u := []) (st' := ⟨tk, own, true, true, 0, q, p, fs⟩) g2 g3 g4 g5 g6 g7 g8 (lt_of_get g1)
  rw [List.append_nil] at R
  unfold rdV at g1
  simp only at g1
  simp (maxSteps := 4000000) only [vm, vl, Arg.get, cells, stor, boundO, resultsV, resV, partK, loadV, Vm.part, fillC, splice, reduceIte, reduceCtorEq, Nat.reduceEqDiff, Nat.reduceAdd, Nat.reduceSub, Nat.reduceMul, Nat.reduceLeDiff, ne_eq, not_false_eq_true, Int.reduceEq, Int.reduceLT, Int.reduceLE, Int.reduceNeg, Int.reduceToNat, Int.reduceGT, Int.reduceGE, Nat.reduceLT, Nat.lt_add_one, Nat.zero_lt_succ, Nat.succ_pos, Nat.zero_le, beq_self_eq_true, g1]
  exact ⟨rfl, R⟩
theorem Ended_many {s : Bs} {tk : Nat} {own : Bs} {dn : Bool} {q p : V × V × V} {fs : List Fld} (g : RD h S kr kc ans ⟨tk, own, true, dn, 0, q, p, fs⟩) (h0 : s ≠ []) (hf2 : fs.length = 64) :
    Cf F L i___gatepost_head_Reader__ended [.ptr kr 0, .str s] h (EndP h S kr kc ans ⟨tk, own, true, dn, 3, q, p, fs⟩) := by
  have G := g.same
  refine run___gatepost_head_Reader__ended ?_
  simp only [p___gatepost_head_Reader__ended]
  
  obtain ⟨vo, vf, g1, g2, g3, g4, g5, g6, g7, g8⟩ := g
  have c1 : (s == []) = false := by cases s <;> simp_all
  have c2 : decide (s = []) = false := decide_eq_false h0
  unfold rdV at g1
  simp only at g1
  have hfl := flds_len fs
  rcases g4 with ⟨_, h5⟩ | ⟨k, rfl, _⟩
  · have h5' : fs = [] := h5
    rw [h5'] at hf2; cases hf2
  · generalize flds fs = es at *
    have c3 : decide (((fs.length : Nat) : Int) = 64) = true := decide_eq_true (by omega)
    simp (maxSteps := 4000000) only [vm, vl, Arg.get, cells, stor, boundO, resultsV, resV, partK, loadV, Vm.part, fillC, splice, reduceIte, reduceCtorEq, Nat.reduceEqDiff, Nat.reduceAdd, Nat.reduceSub, Nat.reduceMul, Nat.reduceLeDiff, ne_eq, not_false_eq_true, Int.reduceEq, Int.reduceLT, Int.reduceLE, Int.reduceNeg, Int.reduceToNat, Int.reduceGT, Int.reduceGE, Nat.reduceLT, Nat.lt_add_one, Nat.zero_lt_succ, Nat.succ_pos, Nat.zero_le, beq_self_eq_true, g1, c1, c2, hfl, c3]
    exact ⟨rfl, G, .refl⟩
theorem Ended_ok (HI : IndexOk L) (HC : CountOk L) {s : Bs} (g : RD h S kr kc ans st) (he : st.e = 0) (hs : s.length < 100000) (hf : st.fs.length ≤ 64) :
    Cf F L i___gatepost_head_Reader__ended [.ptr kr 0, .str s] h (EndP h S kr kc ans (endS ans s st)) := by
  obtain ⟨tk, own, bg, dn, e, q, p, fs⟩ := st
  simp only at he hf
  subst he
  by_cases h0 : s = []
  · subst h0
    cases bg with
    | false =>
      have hE : endS ans [] ⟨tk, own, false, dn, 0, q, p, fs⟩ = ⟨tk, own, false, dn, 0, q, p, fs⟩ := by
        unfold endS; rw [if_pos rfl, if_pos rfl]
      rw [hE]
      exact Ended_none g
    | true =>
      have hE : endS ans [] ⟨tk, own, true, dn, 0, q, p, fs⟩ = ⟨tk, own, true, true, 0, q, p, fs⟩ := by
        unfold endS; rw [if_neg (by simp), if_pos rfl]
      rw [hE]
      exact Ended_done g
  · cases bg with
    | false => exact Ended_first HI HC g hs h0
    | true =>
      by_cases hf2 : fs.length = 64
      · have hE : endS ans s ⟨tk, own, true, dn, 0, q, p, fs⟩ = ⟨tk, own, true, dn, 3, q, p, fs⟩ := by
          unfold endS; rw [if_neg (by simp), if_neg h0, if_pos hf2]
        rw [hE]
        exact Ended_many g h0 hf2
      · exact Ended_field HI g hs h0 (by omega)
theorem Line_ok (HI : IndexOk L) (HC : CountOk L) (g : RD h S kr kc ans st) (he : st.e = 0) (h0 : 0 < st.own.length) (hl : st.own.length < 100000) (hf : st.fs.length ≤ 64) {K : V → Heap → Prop} (hK : ∀ v h', EndP h S kr kc ans (endS ans (cutL st.own) { st with own := [] }) v h' → K v h') :
    k___gatepost_head_Reader__take_1 L K (.ptr kr 0) h := by
  
  obtain ⟨tk, own, bg, dn, e, q, p, fs⟩ := st
  simp only at he h0 hl hf hK
  subst he
  obtain ⟨vo, vf, g1, g2, g3, g4, g5, g6, g7, g8⟩ := g
  simp only at g3 g4
  unfold k___gatepost_head_Reader__take_1
  unfold rdV at g1
  simp only at g1 ⊢
  rcases g3 with ⟨_, hh⟩ | ⟨k, cs, rfl, hk1, hk2, hk3, hk4⟩
  · rw [hh] at h0; cases h0
  simp (maxSteps := 4000000) only [vm, vl, Arg.get, cells, stor, boundO, resultsV, resV, partK, loadV, Vm.part, fillC, splice, reduceIte, reduceCtorEq, Nat.reduceEqDiff, Nat.reduceAdd, Nat.reduceSub, Nat.reduceMul, Nat.reduceLeDiff, ne_eq, not_false_eq_true, Int.reduceEq, Int.reduceLT, Int.reduceLE, Int.reduceNeg, Int.reduceToNat, Int.reduceGT, Int.reduceGE, Nat.reduceLT, Nat.lt_add_one, Nat.zero_lt_succ, Nat.succ_pos, Nat.zero_le, beq_self_eq_true, g1]
  refine Cf.pu (cut_ok hk1 hk2 hk3 hl h0) fun u => ?_
  unfold k___gatepost_head_Reader__take_2
  have g1' := get_old (t := u) g1
  have hlt := lt_of_get g1
  have hlt' := lt_of_get g1'
  have s1 : ∀ X, ((h ++ u).set kr X)[kr]? = some X := fun X => List.getElem?_set_self hlt'
  have i0 : 0 ≤ own.length := Nat.zero_le _
  have R := RD.put (ans := ans) (u := u) (st' := ⟨tk, [], bg, dn, 0, q, p, fs⟩) (vo := .hsl 1 k 0) g2 (.inr ⟨k, cs, rfl, hk1, Nat.zero_le _, rfl, hk4⟩) g4 g5 g6 g7 g8 hlt
  have Q := fun hx => Ended_ok HI HC R.1 rfl (s := cutL own) hx hf
  have hcl := cutL_len own
  have Q2 := Q (by omega)
  unfold rdV at R Q2
  simp only at R Q2
  simp (maxSteps := 4000000) only [vm, vl, Arg.get, cells, stor, boundO, resultsV, resV, partK, loadV, Vm.part, fillC, splice, reduceIte, reduceCtorEq, Nat.reduceEqDiff, Nat.reduceAdd, Nat.reduceSub, Nat.reduceMul, Nat.reduceLeDiff, ne_eq, not_false_eq_true, Int.reduceEq, Int.reduceLT, Int.reduceLE, Int.reduceNeg, Int.reduceToNat, Int.reduceGT, Int.reduceGE, Nat.reduceLT, Nat.lt_add_one, Nat.zero_lt_succ, Nat.succ_pos, Nat.zero_le, beq_self_eq_true, g1', s1, slslV, i0, not_true_eq_false, not_false_eq_true, Int.reduceToNat, and_self]
  exact Q2.mono fun v h' hv => hK _ _ (EndP.trans R.2 hv)
theorem Take_ok (HI : IndexOk L) (HC : CountOk L) {c : UInt8} (g : RD h S kr kc ans st) (he : st.e = 0) (ho : HOk st) :
    Cf F L i___gatepost_head_Reader__take [.ptr kr 0, .int .u8 c.toNat] h (EndP h S kr kc ans (takeS ans c st)) := by
  obtain ⟨o1, o2, o3, o4, o5⟩ := ho
  obtain ⟨tk, own, bg, dn, e, q, p, fs⟩ := st
  simp only at he o1 o2 o3 o4 o5
  subst he
  have htk := o3 rfl
  obtain ⟨vo, vf, g1, g2, g3, g4, g5, g6, g7, g8⟩ := g
  simp only at g3 g4
  have hlt := lt_of_get g1
  refine run___gatepost_head_Reader__take ?_
  simp only [p___gatepost_head_Reader__take]
  
  unfold rdV at g1
  simp only at g1
  have w := wrap64 (x := (tk : Int) + 1) (by omega) (by omega)
  -- the count
  have s1 : ∀ X, (h.set kr X)[kr]? = some X := fun X => List.getElem?_set_self hlt
  obtain ⟨X1, hX1⟩ : ∃ X1, X1 = [V.fn (if ans then i_head_New_2 else i_head_New_1) [.ptr kc 0], .bool ans, .bool bg, .bool dn, .int .i64 0, .int .i64 ((tk : Int) + 1), vo, q.1, q.2.1, q.2.2, .nsl, p.1, p.2.1, p.2.2, .nsl, vf] := ⟨_, rfl⟩
  have hl1 : (h.set kr (.box X1)).length = h.length := List.length_set ..
  have k1 : ∀ i x, h[i]? = some x → i ≠ kr → (h.set kr (.box X1))[i]? = some x := fun i x hx hn => by rw [List.getElem?_set_ne (fun hh => hn hh.symm)]; exact hx
  have g3b := g3.mono (T := S) (h' := h.set kr (.box X1)) (fun i hh => hh) (fun i cs hx hs => k1 i _ hx fun hh => g5 (by rw [← hh]; exact hs))
  have g4b := g4.mono (T := S) (h' := h.set kr (.box X1)) (fun i hh => hh) (fun i n hx hs => k1 i _ hx fun hh => g5 (by rw [← hh]; exact hs))
  obtain ⟨vo', H2, ha, ⟨cs, hv, hc1, hc2⟩, hl2, hk2⟩ := own_app (c := c) g3b (by omega)
  have gr2 := hk2 kr _ (s1 _) (fun hh => g5 hh.1)
  have gc2 := hk2 kc _ (k1 kc _ g2 (fun hh => g7 hh.symm)) (fun hh => g6 hh.1)
  have g4c := g4b.mono (T := S) (h' := H2) (fun i hh => hh) (fun i n hx hs => hk2 i _ hx fun hh => by obtain ⟨_, cs, hn⟩ := hh; cases hn)
  rw [hl1] at hv hc1 hl2
  have hlt2 := lt_of_get gr2
  have s2 : ∀ X, (H2.set kr X)[kr]? = some X := fun X => List.getElem?_set_self hlt2
  rw [hX1] at ha gr2
  subst hv
  simp (maxSteps := 4000000) only [vm, vl, Arg.get, cells, stor, boundO, resultsV, resV, partK, loadV, Vm.part, fillC, splice, reduceIte, reduceCtorEq, Nat.reduceEqDiff, Nat.reduceAdd, Nat.reduceSub, Nat.reduceMul, Nat.reduceLeDiff, ne_eq, not_false_eq_true, Int.reduceEq, Int.reduceLT, Int.reduceLE, Int.reduceNeg, Int.reduceToNat, Int.reduceGT, Int.reduceGE, Nat.reduceLT, Nat.lt_add_one, Nat.zero_lt_succ, Nat.succ_pos, Nat.zero_le, beq_self_eq_true, g1, w, s1, ha, gr2, s2]
  have R : RD (H2.set kr (.box (rdV ans kc ⟨tk + 1, own ++ [c], bg, dn, 0, q, p, fs⟩ (.hsl 1 h.length (own.length + 1)) vf))) (growS S h.length (H2.set kr (.box (rdV ans kc ⟨tk + 1, own ++ [c], bg, dn, 0, q, p, fs⟩ (.hsl 1 h.length (own.length + 1)) vf))).length) kr kc ans ⟨tk + 1, own ++ [c], bg, dn, 0, q, p, fs⟩ ∧ Fr (orK S kr) h (H2.set kr (.box (rdV ans kc ⟨tk + 1, own ++ [c], bg, dn, 0, q, p, fs⟩ (.hsl 1 h.length (own.length + 1)) vf))) := by
    have hkc := lt_of_get g2
    refine ⟨⟨_, vf, s2 _, by rw [List.getElem?_set_ne g7]; exact gc2, .inr ⟨h.length, cs, by simp, ?_, ?_, ?_, .inr ⟨Nat.le_refl _, ?_⟩⟩, g4c.mono (fun i hh => .inl hh) (fun i n hx hs => ?_), ?_, ?_, g7, ?_⟩, ?_, fun i x hx hn => ?_⟩
    · rw [List.getElem?_set_ne (by omega)]; exact hc1
    · rw [hc2]; simp
    · rw [hc2]; simp only [List.length_append, List.length_singleton]; rw [List.take_of_length_le (by simp)]
    · simp only [List.length_set]; omega
    · rw [List.getElem?_set_ne (fun hh => g5 (by rw [hh]; exact hs))]; exact hx
    · rintro (hh | hh)
      · exact g5 hh
      · omega
    · rintro (hh | hh)
      · exact g6 hh
      · omega
    · rintro i (hh | hh)
      · have := g8 i hh; simp only [List.length_set]; omega
      · exact hh.2
    · simp only [List.length_set]; omega
    · rw [List.getElem?_set_ne (fun hh => hn (.inr hh.symm))]
      exact hk2 i x (k1 i x hx fun hh => hn (.inr hh)) fun hh => hn (.inl hh.1)
  unfold rdV at R
  simp only [Int.natCast_add, Int.cast_ofNat_Int] at R
  have hT : takeS ans c ⟨tk, own, bg, dn, 0, q, p, fs⟩ = if tk + 1 > 8192 ∨ (bg = false ∧ own.length + 1 > 1026) then ⟨tk + 1, own ++ [c], bg, dn, 3, q, p, fs⟩ else if c ≠ 10 then ⟨tk + 1, own ++ [c], bg, dn, 0, q, p, fs⟩ else endS ans (cutL (own ++ [c])) ⟨tk + 1, [], bg, dn, 0, q, p, fs⟩ := rfl
  have K0 : ∀ {H3 : Heap}, RD H3 (growS S h.length H3.length) kr kc ans ⟨tk + 1, own ++ [c], bg, dn, 0, q, p, fs⟩ → Fr (orK S kr) h H3 → ¬ (tk + 1 > 8192 ∨ (bg = false ∧ own.length + 1 > 1026)) →
      k___gatepost_head_Reader__take_0 L (EndP h S kr kc ans (takeS ans c ⟨tk, own, bg, dn, 0, q, p, fs⟩)) (.ptr kr 0) (.int .u8 c.toNat) H3 := by
    intro H3 R1 R2 hn
    have u10 : (((c.toNat : Nat) : Int) = 10) = (c = 10) := propext ⟨fun hh => by
      apply UInt8.toNat_inj.1
      have : c.toNat = 10 := by omega
      rw [this]; rfl, fun hh => by rw [hh]; rfl⟩
    unfold k___gatepost_head_Reader__take_0
    by_cases c10 : c = 10
    · have hA : takeS ans c ⟨tk, own, bg, dn, 0, q, p, fs⟩ = endS ans (cutL (own ++ [c])) ⟨tk + 1, [], bg, dn, 0, q, p, fs⟩ := by
        rw [hT]; exact (if_neg hn).trans (if_neg (fun hh => hh c10))
      rw [hA]
      have d := decide_eq_true (u10.mpr c10)
      simp (maxSteps := 4000000) only [vm, vl, Arg.get, cells, stor, boundO, resultsV, resV, partK, loadV, Vm.part, fillC, splice, reduceIte, reduceCtorEq, Nat.reduceEqDiff, Nat.reduceAdd, Nat.reduceSub, Nat.reduceMul, Nat.reduceLeDiff, ne_eq, not_false_eq_true, Int.reduceEq, Int.reduceLT, Int.reduceLE, Int.reduceNeg, Int.reduceToNat, Int.reduceGT, Int.reduceGE, Nat.reduceLT, Nat.lt_add_one, Nat.zero_lt_succ, Nat.succ_pos, Nat.zero_le, beq_self_eq_true, d]
      exact Line_ok HI HC R1 rfl (by simp) (by simp; omega) (by simp only; omega) fun v h' hv => EndP.trans R2 hv
    · have hA : takeS ans c ⟨tk, own, bg, dn, 0, q, p, fs⟩ = ⟨tk + 1, own ++ [c], bg, dn, 0, q, p, fs⟩ := by
        rw [hT]; exact (if_neg hn).trans (if_pos c10)
      rw [hA]
      have d := decide_eq_false (fun hh => c10 (u10.mp hh))
      simp (maxSteps := 4000000) only [vm, vl, Arg.get, cells, stor, boundO, resultsV, resV, partK, loadV, Vm.part, fillC, splice, reduceIte, reduceCtorEq, Nat.reduceEqDiff, Nat.reduceAdd, Nat.reduceSub, Nat.reduceMul, Nat.reduceLeDiff, ne_eq, not_false_eq_true, Int.reduceEq, Int.reduceLT, Int.reduceLE, Int.reduceNeg, Int.reduceToNat, Int.reduceGT, Int.reduceGE, Nat.reduceLT, Nat.lt_add_one, Nat.zero_lt_succ, Nat.succ_pos, Nat.zero_le, beq_self_eq_true, d]
      exact ⟨rfl, R1, R2⟩
  by_cases c1 : (tk : Int) + 1 > 8192
  · have hA : takeS ans c ⟨tk, own, bg, dn, 0, q, p, fs⟩ = ⟨tk + 1, own ++ [c], bg, dn, 3, q, p, fs⟩ := by
      rw [hT]; exact if_pos (.inl (by omega))
    rw [hA]
    simp (maxSteps := 4000000) only [vm, vl, Arg.get, cells, stor, boundO, resultsV, resV, partK, loadV, Vm.part, fillC, splice, reduceIte, reduceCtorEq, Nat.reduceEqDiff, Nat.reduceAdd, Nat.reduceSub, Nat.reduceMul, Nat.reduceLeDiff, ne_eq, not_false_eq_true, Int.reduceEq, Int.reduceLT, Int.reduceLE, Int.reduceNeg, Int.reduceToNat, Int.reduceGT, Int.reduceGE, Nat.reduceLT, Nat.lt_add_one, Nat.zero_lt_succ, Nat.succ_pos, Nat.zero_le, beq_self_eq_true, c1, decide_true]
    exact ⟨rfl, R⟩
  · cases bg with
    | true =>
      simp (maxSteps := 4000000) only [vm, vl, Arg.get, cells, stor, boundO, resultsV, resV, partK, loadV, Vm.part, fillC, splice, reduceIte, reduceCtorEq, Nat.reduceEqDiff, Nat.reduceAdd, Nat.reduceSub, Nat.reduceMul, Nat.reduceLeDiff, ne_eq, not_false_eq_true, Int.reduceEq, Int.reduceLT, Int.reduceLE, Int.reduceNeg, Int.reduceToNat, Int.reduceGT, Int.reduceGE, Nat.reduceLT, Nat.lt_add_one, Nat.zero_lt_succ, Nat.succ_pos, Nat.zero_le, beq_self_eq_true, c1, s2, decide_false]
      exact K0 R.1 R.2 (fun hh => by rcases hh with hh | hh; omega; cases hh.1)
    | false =>
      by_cases c2 : ((own.length + 1 : Nat) : Int) > 1026
      · have hA : takeS ans c ⟨tk, own, false, dn, 0, q, p, fs⟩ = ⟨tk + 1, own ++ [c], false, dn, 3, q, p, fs⟩ := by
          rw [hT]; exact if_pos (.inr ⟨rfl, by omega⟩)
        rw [hA]
        simp (maxSteps := 4000000) only [vm, vl, Arg.get, cells, stor, boundO, resultsV, resV, partK, loadV, Vm.part, fillC, splice, reduceIte, reduceCtorEq, Nat.reduceEqDiff, Nat.reduceAdd, Nat.reduceSub, Nat.reduceMul, Nat.reduceLeDiff, ne_eq, not_false_eq_true, Int.reduceEq, Int.reduceLT, Int.reduceLE, Int.reduceNeg, Int.reduceToNat, Int.reduceGT, Int.reduceGE, Nat.reduceLT, Nat.lt_add_one, Nat.zero_lt_succ, Nat.succ_pos, Nat.zero_le, beq_self_eq_true, c1, c2, s2, decide_true, decide_false]
        exact ⟨rfl, R⟩
      · simp (maxSteps := 4000000) only [vm, vl, Arg.get, cells, stor, boundO, resultsV, resV, partK, loadV, Vm.part, fillC, splice, reduceIte, reduceCtorEq, Nat.reduceEqDiff, Nat.reduceAdd, Nat.reduceSub, Nat.reduceMul, Nat.reduceLeDiff, ne_eq, not_false_eq_true, Int.reduceEq, Int.reduceLT, Int.reduceLE, Int.reduceNeg, Int.reduceToNat, Int.reduceGT, Int.reduceGE, Nat.reduceLT, Nat.lt_add_one, Nat.zero_lt_succ, Nat.succ_pos, Nat.zero_le, beq_self_eq_true, c1, c2, s2, decide_false]
        exact K0 R.1 R.2 (fun hh => by rcases hh with hh | hh; omega; omega)
end Go.Proofs.YtnfcjeajbjcppaaDoor.Vh
end
section
set_option linter.unusedVariables false
set_option linter.unusedSimpArgs false
namespace Go.Proofs.YtnfcjeajbjcppaaDoor.Vh
open Go.Vm Go.Vt
attribute [local congr] wi_congr wg_congr wgd_congr wb_congr wl_congr cf_congr
variable {L : FuncId → List V → V → Prop} {h : Heap} {kr kc : Nat} {S : Nat → Prop} {ans : Bool} {st : HS}
def Bv (h : Heap) (x : V) (T : Nat → Prop) (bs : Bs) : Prop :=
  (x = .nsl ∧ bs = []) ∨ (∃ o, x = .sl 1 o (bs.map ofByte)) ∨ ∃ k cs, x = .hsl 1 k bs.length ∧ h[k]? = some (.box cs) ∧ bs.length ≤ cs.length ∧ cs.take bs.length = bs.map ofByte ∧ ¬ T k
theorem Bv.fr {T U : Nat → Prop} {x : V} {bs : Bs} {h' : Heap} (b : Bv h x T bs) (f : Fr T h h') (hu : ∀ i, i < h.length → U i → T i) : Bv h' x U bs := by
  rcases b with b | b | ⟨k, cs, h1, h2, h3, h4, h5⟩
  · exact .inl b
  · exact .inr (.inl b)
  · exact .inr (.inr ⟨k, cs, h1, f.2 k _ h2 h5, h3, h4, fun hh => h5 (hu k (lt_of_get h2) hh)⟩)
theorem bv_len {T : Nat → Prop} {x : V} {bs : Bs} {K : V → Heap → Prop} (b : Bv h x T bs) (hk : K (.int .i64 bs.length) h) : wi F L (.len 1 (.c x)) E0 h K := by
  rw [wi_lenL]
  rcases b with ⟨rfl, rfl⟩ | ⟨o, rfl⟩ | ⟨k, cs, rfl, _⟩
  · exact hk
  · simp only [Arg.get, List.length_map]; exact hk
  · exact hk
theorem bv_at {T : Nat → Prop} {x : V} {bs : Bs} {i : Nat} {K : V → V → Heap → Prop} (b : Bv h x T bs) (hi : i < bs.length) (hk : ∀ v, K v (.int .u8 (bs.getD i 0).toNat) h) :
    wi F L (.ixaSl 1 (.c x) (.c (.int .i64 i))) E0 h fun v h => wi F L (.load false 1 (.c v)) E0 h fun y h => K v y h := by
  rw [wi_ixaSl]
  have i0 : (0 : Int) ≤ (i : Int) := by omega
  rcases b with ⟨rfl, rfl⟩ | ⟨o, rfl⟩ | ⟨k, cs, rfl, h2, h3, h4, h5⟩
  · simp at hi
  · have hg : (bs.map ofByte).getD i (.tup []) = .int .u8 (bs.getD i 0).toNat := by
      rw [List.getD_eq_getElem?_getD, List.getElem?_map, List.getElem?_eq_getElem hi, List.getD_eq_getElem?_getD, List.getElem?_eq_getElem hi]; rfl
    simp only [Arg.get, Int.toNat_natCast, hg]
    refine ⟨i0, trivial, by simpa using hi, ?_⟩
    exact hk _
  · simp only [Arg.get, Int.toNat_natCast]
    refine ⟨i0, trivial, hi, ?_⟩
    rw [wi_load]
    have hg : cs.getD i (.tup []) = .int .u8 (bs.getD i 0).toNat := by rw [List.getD_eq_getElem?_getD, box_get h4 hi]; rfl
    have hc : i + 1 ≤ cs.length := by omega
    simp only [Arg.get, loadV, h2, partK, Nat.mul_one, hc, Bool.false_eq_true, if_false, if_true, hg, true_and]
    exact hk _
theorem grow_self {S : Nat → Prop} {a : Nat} : growS S a a = S := by
  funext i
  exact propext ⟨fun hh => hh.elim id (fun hh => by omega), .inl⟩
theorem or_grow {S : Nat → Prop} {a b i : Nat} (hh : orK (growS S a b) kr i) : growS (orK S kr) a b i := by
  rcases hh with (hh | hh) | hh
  · exact .inl (.inl hh)
  · exact .inr hh
  · exact .inl (.inr hh)
theorem none_ok (g : RD h S kr kc ans st) : Cf F L i___gatepost_head_Reader__none [.ptr kr 0] h (fun v h' => v = .bool false ∧ h' = h) := by
  refine run___gatepost_head_Reader__none ?_
  simp only [p___gatepost_head_Reader__none]
  
  obtain ⟨vo, vf, g1, _⟩ := g
  unfold rdV at g1
  simp (maxSteps := 4000000) only [vm, vl, Arg.get, cells, stor, boundO, resultsV, resV, partK, loadV, Vm.part, fillC, splice, reduceIte, reduceCtorEq, Nat.reduceEqDiff, Nat.reduceAdd, Nat.reduceSub, Nat.reduceMul, Nat.reduceLeDiff, ne_eq, not_false_eq_true, Int.reduceEq, Int.reduceLT, Int.reduceLE, Int.reduceNeg, Int.reduceToNat, Int.reduceGT, Int.reduceGE, Nat.reduceLT, Nat.lt_add_one, Nat.zero_lt_succ, Nat.succ_pos, Nat.zero_le, beq_self_eq_true, g1]
theorem feed_cons {c : UInt8} {r : Bs} : feedS ans (c :: r) st = if st.e = 0 ∧ st.done = false then ((feedS ans r (takeS ans c st)).1 + 1, (feedS ans r (takeS ans c st)).2) else (0, st) := rfl
theorem feed_drop {bs : Bs} {i : Nat} (hi : i < bs.length) (h0 : st.e = 0 ∧ st.done = false) : feedS ans (bs.drop i) st = ((feedS ans (bs.drop (i + 1)) (takeS ans (bs.getD i 0) st)).1 + 1, (feedS ans (bs.drop (i + 1)) (takeS ans (bs.getD i 0) st)).2) := by
  rw [List.drop_eq_getElem_cons hi, feed_cons, if_pos h0, List.getD_eq_getElem?_getD, List.getElem?_eq_getElem hi]
  rfl
theorem feed_stop {bs : Bs} (h0 : ¬ (st.e = 0 ∧ st.done = false)) : feedS ans bs st = (0, st) := by
  cases bs with
  | nil => rfl
  | cons c r => unfold feedS; rw [if_neg h0]
def FeedP (h : Heap) (S : Nat → Prop) (kr kc : Nat) (ans : Bool) (r : Nat × HS) (v : V) (h' : Heap) : Prop :=
  v = .tup [.int .i64 r.1, .bool r.2.done, .int .i64 r.2.e] ∧ RD h' (growS S h.length h'.length) kr kc ans r.2 ∧ HOk r.2 ∧ Fr (orK S kr) h h'
theorem RD.setE (g : RD h S kr kc ans { st with e := 0 }) : ∃ vo vf, h[kr]? = some (.box (rdV ans kc { st with e := 0 } vo vf)) ∧ RD (h.set kr (.box (rdV ans kc st vo vf))) S kr kc ans st ∧ Fr (orK S kr) h (h.set kr (.box (rdV ans kc st vo vf))) := by
  obtain ⟨vo, vf, g1, g2, g3, g4, g5, g6, g7, g8⟩ := g
  have R := RD.put (ans := ans) (u := []) (st' := st) g2 g3 g4 g5 g6 g7 g8 (lt_of_get g1)
  rw [List.append_nil, List.length_set, grow_self] at R
  exact ⟨vo, vf, g1, R⟩
theorem FeedEnd_ok {i : Nat} {T : Nat → Prop} {K : V → Heap → Prop} (g : RD h T kr kc ans st) (hk : K (.tup [.int .i64 i, .bool st.done, .int .i64 st.e]) h) : k___gatepost_head_Reader__Feed_1 L K (.ptr kr 0) (.int .i64 i) h := by
  
  obtain ⟨vo, vf, g1, _⟩ := g
  unfold rdV at g1
  unfold k___gatepost_head_Reader__Feed_1
  simp (maxSteps := 4000000) only [vm, vl, Arg.get, cells, stor, boundO, resultsV, resV, partK, loadV, Vm.part, fillC, splice, reduceIte, reduceCtorEq, Nat.reduceEqDiff, Nat.reduceAdd, Nat.reduceSub, Nat.reduceMul, Nat.reduceLeDiff, ne_eq, not_false_eq_true, Int.reduceEq, Int.reduceLT, Int.reduceLE, Int.reduceNeg, Int.reduceToNat, Int.reduceGT, Int.reduceGE, Nat.reduceLT, Nat.lt_add_one, Nat.zero_lt_succ, Nat.succ_pos, Nat.zero_le, beq_self_eq_true, g1]
  exact hk
theorem Feed_ok (HI : IndexOk L) (HC : CountOk L) {x : V} {bs : Bs} (g : RD h S kr kc ans st) (ho : HOk st) (hb : Bv h x (orK S kr) bs) (hl : bs.length ≤ 140737488351232) :
    Cf F L i___gatepost_head_Reader__Feed [.ptr kr 0, x] h (FeedP h S kr kc ans (feedS ans bs st)) := by
  refine run___gatepost_head_Reader__Feed ?_
  simp only [p___gatepost_head_Reader__Feed]
  
  refine (none_ok g).mono fun v h' hv => ?_
  obtain ⟨rfl, rfl⟩ := hv
  simp (maxSteps := 4000000) only [vm, vl, Arg.get, cells, stor, boundO, resultsV, resV, partK, loadV, Vm.part, fillC, splice, reduceIte, reduceCtorEq, Nat.reduceEqDiff, Nat.reduceAdd, Nat.reduceSub, Nat.reduceMul, Nat.reduceLeDiff, ne_eq, not_false_eq_true, Int.reduceEq, Int.reduceLT, Int.reduceLE, Int.reduceNeg, Int.reduceToNat, Int.reduceGT, Int.reduceGE, Nat.reduceLT, Nat.lt_add_one, Nat.zero_lt_succ, Nat.succ_pos, Nat.zero_le, beq_self_eq_true]
  refine l___gatepost_head_Reader__Feed_0 (fun n e h1 => ∃ i st', n = bs.length - i ∧ i ≤ bs.length ∧ e 0 = .ptr kr 0 ∧ e 1 = x ∧ e 4 = .int .i64 i ∧ RD h1 (growS S h'.length h1.length) kr kc ans st' ∧ HOk st' ∧ Fr (orK S kr) h' h1 ∧ feedS ans bs st = (i + (feedS ans (bs.drop i) st').1, (feedS ans (bs.drop i) st').2)) ?_ (n := bs.length) ⟨0, st, by simp, by simp, rfl, rfl, rfl, by rw [grow_self]; exact g, ho, .refl, by simp⟩
  rintro n e h1 ⟨i, st', rfl, hi, e0, e1, e4, G, O, f, hfe⟩
  simp only [b___gatepost_head_Reader__Feed_0]
  have hb1 := hb.fr f (U := orK (growS S h'.length h1.length) kr) (fun i hi hh => by
    rcases hh with (hh | hh) | hh
    · exact .inl hh
    · omega
    · exact .inr hh)
  simp only [e0, e1, e4]
  refine bv_len hb1 ?_
  have FE := fun {K : V → Heap → Prop} hk => FeedEnd_ok (L := L) (i := i) (K := K) G hk
  have G0 := G
  obtain ⟨vo, vf, g1, _⟩ := G0
  unfold rdV at g1
  by_cases hi2 : i < bs.length
  case neg =>
    have c1 : decide ((i : Int) < ((bs.length : Nat) : Int)) = false := decide_eq_false (by omega)
    have hd : bs.drop i = [] := List.drop_eq_nil_of_le (by omega)
    rw [hd] at hfe
    simp (maxSteps := 4000000) only [vm, vl, Arg.get, cells, stor, boundO, resultsV, resV, partK, loadV, Vm.part, fillC, splice, reduceIte, reduceCtorEq, Nat.reduceEqDiff, Nat.reduceAdd, Nat.reduceSub, Nat.reduceMul, Nat.reduceLeDiff, ne_eq, not_false_eq_true, Int.reduceEq, Int.reduceLT, Int.reduceLE, Int.reduceNeg, Int.reduceToNat, Int.reduceGT, Int.reduceGE, Nat.reduceLT, Nat.lt_add_one, Nat.zero_lt_succ, Nat.succ_pos, Nat.zero_le, beq_self_eq_true, c1]
    refine FE ?_
    rw [hfe]
    exact ⟨rfl, G, O, f⟩
  have c1 : decide ((i : Int) < ((bs.length : Nat) : Int)) = true := decide_eq_true (by omega)
  by_cases he : st'.e = 0
  case neg =>
    have c2 : decide (st'.e = 0) = false := decide_eq_false he
    rw [feed_stop (st := st') (fun hh => he hh.1)] at hfe
    simp (maxSteps := 4000000) only [vm, vl, Arg.get, cells, stor, boundO, resultsV, resV, partK, loadV, Vm.part, fillC, splice, reduceIte, reduceCtorEq, Nat.reduceEqDiff, Nat.reduceAdd, Nat.reduceSub, Nat.reduceMul, Nat.reduceLeDiff, ne_eq, not_false_eq_true, Int.reduceEq, Int.reduceLT, Int.reduceLE, Int.reduceNeg, Int.reduceToNat, Int.reduceGT, Int.reduceGE, Nat.reduceLT, Nat.lt_add_one, Nat.zero_lt_succ, Nat.succ_pos, Nat.zero_le, beq_self_eq_true, c1, g1, c2]
    refine FE ?_
    rw [hfe]
    exact ⟨rfl, G, O, f⟩
  have c2 : decide (st'.e = 0) = true := decide_eq_true he
  cases hdn : st'.done with
  | true =>
    rw [feed_stop (st := st') (fun hh => by rw [hdn] at hh; cases hh.2)] at hfe
    simp (maxSteps := 4000000) only [vm, vl, Arg.get, cells, stor, boundO, resultsV, resV, partK, loadV, Vm.part, fillC, splice, reduceIte, reduceCtorEq, Nat.reduceEqDiff, Nat.reduceAdd, Nat.reduceSub, Nat.reduceMul, Nat.reduceLeDiff, ne_eq, not_false_eq_true, Int.reduceEq, Int.reduceLT, Int.reduceLE, Int.reduceNeg, Int.reduceToNat, Int.reduceGT, Int.reduceGE, Nat.reduceLT, Nat.lt_add_one, Nat.zero_lt_succ, Nat.succ_pos, Nat.zero_le, beq_self_eq_true, c1, g1, c2, hdn]
    refine FE ?_
    rw [hfe]
    exact ⟨rfl, G, O, f⟩
  | false =>
    rw [feed_drop hi2 ⟨he, hdn⟩] at hfe
    simp (maxSteps := 4000000) only [vm, vl, Arg.get, cells, stor, boundO, resultsV, resV, partK, loadV, Vm.part, fillC, splice, reduceIte, reduceCtorEq, Nat.reduceEqDiff, Nat.reduceAdd, Nat.reduceSub, Nat.reduceMul, Nat.reduceLeDiff, ne_eq, not_false_eq_true, Int.reduceEq, Int.reduceLT, Int.reduceLE, Int.reduceNeg, Int.reduceToNat, Int.reduceGT, Int.reduceGE, Nat.reduceLT, Nat.lt_add_one, Nat.zero_lt_succ, Nat.succ_pos, Nat.zero_le, beq_self_eq_true, c1, g1, c2, hdn]
    unfold k___gatepost_head_Reader__Feed_2
    refine bv_at hb1 hi2 fun v31 => ?_
    simp (maxSteps := 4000000) only [vm, vl, Arg.get, cells, stor, boundO, resultsV, resV, partK, loadV, Vm.part, fillC, splice, reduceIte, reduceCtorEq, Nat.reduceEqDiff, Nat.reduceAdd, Nat.reduceSub, Nat.reduceMul, Nat.reduceLeDiff, ne_eq, not_false_eq_true, Int.reduceEq, Int.reduceLT, Int.reduceLE, Int.reduceNeg, Int.reduceToNat, Int.reduceGT, Int.reduceGE, Nat.reduceLT, Nat.lt_add_one, Nat.zero_lt_succ, Nat.succ_pos, Nat.zero_le, beq_self_eq_true]
    refine (Take_ok HI HC G he O).mono fun v h2 hv => ?_
    obtain ⟨rfl, R1, R2⟩ := hv
    obtain ⟨vo2, vf2, r1, r2, r3⟩ := R1.setE
    rw [grow_grow f.1 R2.1] at r2 r3
    have w := wrap64 (x := (i : Int) + 1) (by omega) (by omega)
    have O2 := takeS_ok (ans := ans) (c := bs.getD i 0) O he hdn
    have hd : feedS ans bs st = ((i + 1 : Nat) + (feedS ans (bs.drop (i + 1)) (takeS ans (bs.getD i 0) st')).1, (feedS ans (bs.drop (i + 1)) (takeS ans (bs.getD i 0) st')).2) := by
      rw [hfe]; exact Prod.ext (by simp only; omega) rfl
    have F2 : Fr (orK S kr) h' (h2.set kr (.box (rdV ans kc (takeS ans (bs.getD i 0) st') vo2 vf2))) := (f.trans (R2.mono fun i hh => or_grow hh)).trans (r3.mono fun i hh => or_grow hh)
    generalize takeS ans (bs.getD i 0) st' = st2 at *
    unfold rdV at r1 r2 F2
    simp only at r1
    simp (maxSteps := 4000000) only [vm, vl, Arg.get, cells, stor, boundO, resultsV, resV, partK, loadV, Vm.part, fillC, splice, reduceIte, reduceCtorEq, Nat.reduceEqDiff, Nat.reduceAdd, Nat.reduceSub, Nat.reduceMul, Nat.reduceLeDiff, ne_eq, not_false_eq_true, Int.reduceEq, Int.reduceLT, Int.reduceLE, Int.reduceNeg, Int.reduceToNat, Int.reduceGT, Int.reduceGE, Nat.reduceLT, Nat.lt_add_one, Nat.zero_lt_succ, Nat.succ_pos, Nat.zero_le, beq_self_eq_true, r1, w]
    refine ⟨bs.length - (i + 1), by omega, i + 1, st2, rfl, hi2, e0, e1, rfl, r2, O2, F2, hd⟩
end Go.Proofs.YtnfcjeajbjcppaaDoor.Vh
end
section
set_option linter.unusedVariables false
set_option linter.unusedSimpArgs false
namespace Go.Proofs.YtnfcjeajbjcppaaDoor.Vh
open Go.Vm Go.Vt
attribute [local congr] wi_congr wg_congr wgd_congr wb_congr wl_congr cf_congr
variable {L : FuncId → List V → V → Prop} {h : Heap} {kr kc : Nat} {S : Nat → Prop} {ans : Bool} {st : HS}
def st0 : HS := ⟨0, [], false, false, 0, (.str [], .str [], .int .i64 0), (.int .i64 0, .int .i64 0, .str []), []⟩
theorem st0_ok : HOk st0 := ⟨Nat.le_refl _, by decide, fun _ => by decide, by decide, fun h => by cases h⟩
theorem New_ok : Cf F L i_head_New [.bool ans] h (fun v h' => v = .ptr h.length 0 ∧ h.length ≤ h'.length ∧ RD h' (fun _ => False) h.length (h.length + 1) ans st0 ∧ ∃ t, h' = h ++ t) := by
  refine run_head_New ?_
  simp only [p_head_New]
  
  have fin : ∀ b, RD (h ++ [O.box (rdV b (h.length + 1) st0 .nsl .nsl), O.box [.ptr h.length 0]]) (fun _ => False) h.length (h.length + 1) b st0 := fun b => by
    refine ⟨.nsl, .nsl, ?_, ?_, .inl ⟨rfl, rfl⟩, .inl ⟨rfl, rfl⟩, id, id, by omega, fun i hh => hh.elim⟩
    · rw [List.getElem?_append_right (Nat.le_refl _), Nat.sub_self]; rfl
    · rw [List.getElem?_append_right (by omega), Nat.add_sub_cancel_left]; rfl
  cases ans with
  | true =>
    simp (maxSteps := 4000000) only [vm, vl, Arg.get, cells, stor, boundO, resultsV, resV, partK, loadV, Vm.part, fillC, splice, reduceIte, reduceCtorEq, Nat.reduceEqDiff, Nat.reduceAdd, Nat.reduceSub, Nat.reduceMul, Nat.reduceLeDiff, ne_eq, not_false_eq_true, Int.reduceEq, Int.reduceLT, Int.reduceLE, Int.reduceNeg, Int.reduceToNat, Int.reduceGT, Int.reduceGE, Nat.reduceLT, Nat.lt_add_one, Nat.zero_lt_succ, Nat.succ_pos, Nat.zero_le, beq_self_eq_true, k_head_New_0]
    exact ⟨by omega, fin true, _, rfl⟩
  | false =>
    simp (maxSteps := 4000000) only [vm, vl, Arg.get, cells, stor, boundO, resultsV, resV, partK, loadV, Vm.part, fillC, splice, reduceIte, reduceCtorEq, Nat.reduceEqDiff, Nat.reduceAdd, Nat.reduceSub, Nat.reduceMul, Nat.reduceLeDiff, ne_eq, not_false_eq_true, Int.reduceEq, Int.reduceLT, Int.reduceLE, Int.reduceNeg, Int.reduceToNat, Int.reduceGT, Int.reduceGE, Nat.reduceLT, Nat.lt_add_one, Nat.zero_lt_succ, Nat.succ_pos, Nat.zero_le, beq_self_eq_true, k_head_New_0]
    exact ⟨by omega, fin false, _, rfl⟩
end Go.Proofs.YtnfcjeajbjcppaaDoor.Vh
end
section
set_option linter.unusedVariables false
set_option linter.unusedSimpArgs false
namespace Go.Proofs.YtnfcjeajbjcppaaDoor.Vh
open Go.Vm Go.Vt
variable {ans : Bool} {st : HS}
theorem feed_app : ∀ {a b : Bs} {st : HS}, feedS ans (a ++ b) st = ((feedS ans a st).1 + (feedS ans b (feedS ans a st).2).1, (feedS ans b (feedS ans a st).2).2)
  | [], b, st => by simp [feedS]
  | c :: r, b, st => by
    by_cases h : st.e = 0 ∧ st.done = false
    · rw [List.cons_append, feed_cons, feed_cons, if_pos h, if_pos h, feed_app]
      exact Prod.ext (by simp only; omega) rfl
    · rw [feed_stop h, feed_stop h, feed_stop h]; rfl
end Go.Proofs.YtnfcjeajbjcppaaDoor.Vh
end
section
set_option linter.unusedVariables false
set_option linter.unusedSimpArgs false
namespace Go.Proofs.YtnfcjeajbjcppaaDoor.Vh
open Go.Vm Go.Vt
attribute [local congr] wi_congr wg_congr wgd_congr wb_congr wl_congr cf_congr
variable {L : FuncId → List V → V → Prop} {h : Heap} {kr kc : Nat} {S : Nat → Prop} {ans : Bool} {st : HS}
theorem RD.more {t : Heap} (g : RD h S kr kc ans st) : RD (h ++ t) S kr kc ans st := by
  obtain ⟨vo, vf, g1, g2, g3, g4, g5, g6, g7, g8⟩ := g
  exact ⟨vo, vf, get_old g1, get_old g2, g3.mono (fun i hs => hs) (fun i x hx _ => get_old hx), g4.mono (fun i hs => hs) (fun i n hx _ => get_old hx), g5, g6, g7, fun i hh => by have := g8 i hh; simp; omega⟩
theorem RD.fr {T : Nat → Prop} {h' : Heap} (g : RD h S kr kc ans st) (f : Fr T h h') (h1 : ¬ T kr) (h2 : ¬ T kc) (h3 : ∀ i, S i → ¬ T i) : RD h' S kr kc ans st := by
  obtain ⟨vo, vf, g1, g2, g3, g4, g5, g6, g7, g8⟩ := g
  exact ⟨vo, vf, f.2 _ _ g1 h1, f.2 _ _ g2 h2, g3.mono (fun i hs => hs) (fun i x hx hs => f.2 _ _ hx (h3 i hs)), g4.mono (fun i hs => hs) (fun i n hx hs => f.2 _ _ hx (h3 i hs)), g5, g6, g7, fun i hh => Nat.lt_of_lt_of_le (g8 i hh) f.1⟩
theorem OwnV.low {v : V} {own : Bs} (g : OwnV h v S own) : OwnV h v (fun i => i < h.length) own := by
  rcases g with g | ⟨k, cs, h1, h2, h3, h4, h5⟩
  · exact .inl g
  · exact .inr ⟨k, cs, h1, h2, h3, h4, lt_of_get h2⟩
theorem RD.lt (g : RD h S kr kc ans st) : kr < h.length := by
  obtain ⟨vo, vf, g1, _⟩ := g
  exact lt_of_get g1
theorem bv_new {s : Bs} (hk : kr < h.length) : Bv (h ++ [O.box (s.map ofByte)]) (.hsl 1 h.length s.length) (orK (fun _ => False) kr) s :=
  .inr (.inr ⟨h.length, s.map ofByte, rfl, by rw [List.getElem?_append_right (Nat.le_refl _), Nat.sub_self]; rfl, by simp, by rw [List.take_of_length_le (by simp)], fun hh => by rcases hh with hh | hh; exact hh; omega⟩)
theorem bin_str {a b : Bs} (hl : a.length + b.length ≤ 9223372036854775807) : binV .add (.str a) (.str b) = some (.str (a ++ b)) := by
  simp only [binV, binS]; rw [if_pos hl]
def LH : FuncId → List V → V → Prop := fun f a v => LIndex f a v ∨ LCount f a v
theorem lh_at (w0 : World) : LibAt Tryd.prog w0 LH := fun f a v h => h.elim (index_at w0 f a v) (count_at w0 f a v)
end Go.Proofs.YtnfcjeajbjcppaaDoor.Vh
end
section
set_option linter.unusedVariables false
set_option linter.unusedSimpArgs false
namespace Go.Proofs.YtnfcjeajbjcppaaDoor.Vh
open Go.Vm Go.Vt
attribute [local congr] wi_congr wg_congr wgd_congr wb_congr wl_congr cf_congr
variable {L : FuncId → List V → V → Prop} {h : Heap} {kr kc : Nat} {S : Nat → Prop} {ans : Bool} {st : HS}
theorem flds_two (l : List Fld) : ∀ e ∈ flds l, (cells e).length = 2 := by
  intro e he
  obtain ⟨f, _, rfl⟩ := List.mem_map.1 he
  rfl
theorem flat_flds (l : List Fld) : (flat (flds l)).length = l.length * 2 := by
  rw [flat_length (flds_two l), flds_len]
theorem mksl_step {n : Nat} (hn : n ≤ 64) : stepI (.mksl 2 32 [.str [], .str []] (.c (.int .i64 n)) (.c (.int .i64 n))) E0 h = some (.hsl 2 h.length n, h ++ [.box ((List.replicate n [V.str [], V.str []]).flatten)]) := by
  simp only [stepI, Arg.get]
  have r : room ((n : Int).toNat) 32 = true := by simp [room]; omega
  rw [if_pos ⟨by omega, Int.le_refl _, r⟩]
  simp
theorem copy_step {v : V} {fs : List Fld} (g : FlsV h v S fs) (hn : fs.length ≤ 64) : stepI (.copy 2 (.c (.hsl 2 h.length fs.length)) (.c v)) E0 (h ++ [.box ((List.replicate fs.length [V.str [], V.str []]).flatten)]) = some (.int .i64 fs.length, h ++ [.box (flat (flds fs))]) := by
  have hs : srcElems (h ++ [.box ((List.replicate fs.length [V.str [], V.str []]).flatten)]) 2 v = some (flds fs) := by
    rcases g with ⟨rfl, rfl⟩ | ⟨k, rfl, _⟩
    · rfl
    · simp [srcElems]
  have hl := flat_flds fs
  have hz : ((List.replicate fs.length [V.str [], V.str []]).flatten).length = fs.length * 2 := by simp
  have hg : (h ++ [O.box ((List.replicate fs.length [V.str [], V.str []]).flatten)])[h.length]? = some (O.box ((List.replicate fs.length [V.str [], V.str []]).flatten)) := by
    rw [List.getElem?_append_right (Nat.le_refl _), Nat.sub_self]; rfl
  simp only [stepI, Arg.get, if_true, hg, hs, Option.bind_some, flds_len, Nat.min_self, List.take_of_length_le (Nat.le_of_eq (flds_len fs))]
  rw [if_pos (by omega)]
  have hsp : splice ((List.replicate fs.length [V.str [], V.str []]).flatten) 0 (flat (flds fs)) = flat (flds fs) := by
    unfold splice
    rw [List.take_zero, List.nil_append, List.drop_eq_nil_of_le (by omega), List.append_nil]
  rw [hsp, List.set_append_right _ _ (Nat.le_refl _), Nat.sub_self]; rfl
def WholeP (h : Heap) (c : Bool) (fs : List Fld) (v : V) (h' : Heap) : Prop :=
  (c = true ∧ v = .tup [.hsl 2 h.length fs.length, .int .i64 0] ∧ h' = h ++ [.box (flat (flds fs))]) ∨ (c = false ∧ v = .tup [.nsl, .int .i64 16] ∧ h' = h)
theorem whole_ok (g : RD h S kr kc ans st) (hf : st.fs.length ≤ 64) {b : Bool} : Cf F L i___gatepost_head_Reader__whole [.ptr kr 0, .bool b] h (WholeP h (st.done && (ans == b)) st.fs) := by
  refine run___gatepost_head_Reader__whole ?_
  simp only [p___gatepost_head_Reader__whole]
  
  refine (none_ok g).mono fun v h' hv => ?_
  obtain ⟨rfl, rfl⟩ := hv
  obtain ⟨vo, vf, g1, g2, g3, g4, g5, g6, g7, g8⟩ := g
  obtain ⟨tk, own, bg, dn, e, q, p, fs⟩ := st
  simp only at g4 hf
  unfold rdV at g1
  simp only at g1 ⊢
  have hm := mksl_step (h := h') hf
  have hc := copy_step g4 hf
  have g1' := get_old (t := [.box ((List.replicate fs.length [V.str [], V.str []]).flatten)]) g1
  have hfl := flds_len fs
  generalize (List.replicate fs.length [V.str [], V.str []]).flatten = Z at *
  have WM : ∀ {K : V → Heap → Prop}, wi F L (.mksl 2 32 [.str [], .str []] (.c (.int .i64 fs.length)) (.c (.int .i64 fs.length))) E0 h' K = K (.hsl 2 h'.length fs.length) (h' ++ [.box Z]) := by intro K; rw [wi_mksl, hm]
  have WC : ∀ {K : V → Heap → Prop}, wi F L (.copy 2 (.c (.hsl 2 h'.length fs.length)) (.c vf)) E0 (h' ++ [.box Z]) K = K (.int .i64 fs.length) (h' ++ [.box (flat (flds fs))]) := by intro K; rw [wi_copy, hc]
  clear hm hc
  have bft : (false == true) = false := rfl
  have btf : (true == false) = false := rfl
  have btt : (true == true) = true := rfl
  have bff : (false == false) = true := rfl
  cases dn with
  | false =>
    simp (maxSteps := 4000000) only [vm, vl, Arg.get, cells, stor, boundO, resultsV, resV, partK, loadV, Vm.part, fillC, splice, reduceIte, reduceCtorEq, Nat.reduceEqDiff, Nat.reduceAdd, Nat.reduceSub, Nat.reduceMul, Nat.reduceLeDiff, ne_eq, not_false_eq_true, Int.reduceEq, Int.reduceLT, Int.reduceLE, Int.reduceNeg, Int.reduceToNat, Int.reduceGT, Int.reduceGE, Nat.reduceLT, Nat.lt_add_one, Nat.zero_lt_succ, Nat.succ_pos, Nat.zero_le, beq_self_eq_true, g1]
    exact .inr ⟨rfl, rfl, rfl⟩
  | true =>
    by_cases hab : ans = b
    · subst hab
      rcases g4 with ⟨rfl, h5⟩ | ⟨k, rfl, _⟩
      · subst h5
        have h0 : (([] : List Fld).length : Int) = 0 := rfl
        rw [h0] at WM WC
        simp only [List.length_nil] at WM WC
        cases ans <;> (simp (maxSteps := 4000000) only [vm, vl, Arg.get, cells, stor, boundO, resultsV, resV, partK, loadV, Vm.part, fillC, splice, reduceIte, reduceCtorEq, Nat.reduceEqDiff, Nat.reduceAdd, Nat.reduceSub, Nat.reduceMul, Nat.reduceLeDiff, ne_eq, not_false_eq_true, Int.reduceEq, Int.reduceLT, Int.reduceLE, Int.reduceNeg, Int.reduceToNat, Int.reduceGT, Int.reduceGE, Nat.reduceLT, Nat.lt_add_one, Nat.zero_lt_succ, Nat.succ_pos, Nat.zero_le, beq_self_eq_true, g1, g1', WM, WC, bft, btf, btt, bff, Bool.not_false, Bool.not_true, k___gatepost_head_Reader__whole_0]; exact .inl ⟨rfl, rfl, rfl⟩)
      · have hfl2 : ((flds fs).length : Int) = (fs.length : Int) := by rw [hfl]
        cases ans <;> (simp (maxSteps := 4000000) only [vm, vl, Arg.get, cells, stor, boundO, resultsV, resV, partK, loadV, Vm.part, fillC, splice, reduceIte, reduceCtorEq, Nat.reduceEqDiff, Nat.reduceAdd, Nat.reduceSub, Nat.reduceMul, Nat.reduceLeDiff, ne_eq, not_false_eq_true, Int.reduceEq, Int.reduceLT, Int.reduceLE, Int.reduceNeg, Int.reduceToNat, Int.reduceGT, Int.reduceGE, Nat.reduceLT, Nat.lt_add_one, Nat.zero_lt_succ, Nat.succ_pos, Nat.zero_le, beq_self_eq_true, g1, g1', hfl, WM, WC, bft, btf, btt, bff, Bool.not_false, Bool.not_true, k___gatepost_head_Reader__whole_0]; exact .inl ⟨rfl, rfl, rfl⟩)
    · have hne : (ans == b) = false := by simpa using hab
      rw [hne]
      cases ans <;> cases b <;> first | exact absurd rfl hab | (simp (maxSteps := 4000000) only [vm, vl, Arg.get, cells, stor, boundO, resultsV, resV, partK, loadV, Vm.part, fillC, splice, reduceIte, reduceCtorEq, Nat.reduceEqDiff, Nat.reduceAdd, Nat.reduceSub, Nat.reduceMul, Nat.reduceLeDiff, ne_eq, not_false_eq_true, Int.reduceEq, Int.reduceLT, Int.reduceLE, Int.reduceNeg, Int.reduceToNat, Int.reduceGT, Int.reduceGE, Nat.reduceLT, Nat.lt_add_one, Nat.zero_lt_succ, Nat.succ_pos, Nat.zero_le, beq_self_eq_true, g1, bft, btf, Bool.not_false, Bool.not_true]; exact .inr ⟨rfl, rfl, rfl⟩)
def TellP (h : Heap) (c : Bool) (a b d z1 z2 z3 : V) (fs : List Fld) (v : V) (h' : Heap) : Prop :=
  (∃ t, h' = h ++ t) ∧ ((c = true ∧ ∃ k, v = .tup [.agg [a, b, d, .hsl 2 k fs.length], .int .i64 0] ∧ h'[k]? = some (.box (flat (flds fs)))) ∨ (c = false ∧ v = .tup [.agg [z1, z2, z3, .nsl], .int .i64 16]))
theorem Request_ok (g : RD h S kr kc ans st) (hf : st.fs.length ≤ 64) : Cf F L i___gatepost_head_Reader__Request [.ptr kr 0] h (TellP h (st.done && (ans == false)) st.q.1 st.q.2.1 st.q.2.2 (.str []) (.str []) (.int .i64 0) st.fs) := by
  refine run___gatepost_head_Reader__Request ?_
  simp only [p___gatepost_head_Reader__Request]
  
  simp (maxSteps := 4000000) only [vm, vl, Arg.get, cells, stor, boundO, resultsV, resV, partK, loadV, Vm.part, fillC, splice, reduceIte, reduceCtorEq, Nat.reduceEqDiff, Nat.reduceAdd, Nat.reduceSub, Nat.reduceMul, Nat.reduceLeDiff, ne_eq, not_false_eq_true, Int.reduceEq, Int.reduceLT, Int.reduceLE, Int.reduceNeg, Int.reduceToNat, Int.reduceGT, Int.reduceGE, Nat.reduceLT, Nat.lt_add_one, Nat.zero_lt_succ, Nat.succ_pos, Nat.zero_le, beq_self_eq_true]
  refine (whole_ok g.more hf).mono fun v h' hv => ?_
  obtain ⟨tk, own, bg, dn, e, q, p, fs⟩ := st
  obtain ⟨vo, vf, g1, _⟩ := g
  unfold rdV at g1
  simp only at g1 hv ⊢
  have g1b := fun t => get_old (t := t) g1
  rcases hv with ⟨hc, rfl, rfl⟩ | ⟨hc, rfl, rfl⟩
  · rw [hc]
    generalize hFS : flat (flds fs) = FS at *
    simp (maxSteps := 4000000) only [vm, vl, Arg.get, cells, stor, boundO, resultsV, resV, partK, loadV, Vm.part, fillC, splice, reduceIte, reduceCtorEq, Nat.reduceEqDiff, Nat.reduceAdd, Nat.reduceSub, Nat.reduceMul, Nat.reduceLeDiff, ne_eq, not_false_eq_true, Int.reduceEq, Int.reduceLT, Int.reduceLE, Int.reduceNeg, Int.reduceToNat, Int.reduceGT, Int.reduceGE, Nat.reduceLT, Nat.lt_add_one, Nat.zero_lt_succ, Nat.succ_pos, Nat.zero_le, beq_self_eq_true, g1b, k___gatepost_head_Reader__Request_0]
    refine ⟨⟨_, rfl⟩, .inl ⟨rfl, h.length + 1, rfl, ?_⟩⟩
    rw [hFS, List.getElem?_append_right (by omega), Nat.add_sub_cancel_left]; rfl
  · rw [hc]
    simp (maxSteps := 4000000) only [vm, vl, Arg.get, cells, stor, boundO, resultsV, resV, partK, loadV, Vm.part, fillC, splice, reduceIte, reduceCtorEq, Nat.reduceEqDiff, Nat.reduceAdd, Nat.reduceSub, Nat.reduceMul, Nat.reduceLeDiff, ne_eq, not_false_eq_true, Int.reduceEq, Int.reduceLT, Int.reduceLE, Int.reduceNeg, Int.reduceToNat, Int.reduceGT, Int.reduceGE, Nat.reduceLT, Nat.lt_add_one, Nat.zero_lt_succ, Nat.succ_pos, Nat.zero_le, beq_self_eq_true]
    exact ⟨⟨_, rfl⟩, .inr ⟨rfl, rfl⟩⟩
theorem get_two {l : List Fld} {i : Nat} (hi : i < l.length) : (flat (flds l)).getD (i * 2) (.tup []) = .str (l.getD i ([], [])).1 ∧ (flat (flds l)).getD (i * 2 + 1) (.tup []) = .str (l.getD i ([], [])).2 := by
  have ha : (flds l)[i]? = some (fldV (l.getD i ([], []))) := by
    rw [flds, List.getElem?_map, List.getElem?_eq_getElem hi, List.getD_eq_getElem?_getD, List.getElem?_eq_getElem hi]; rfl
  have h0 := flat_get (k := 0) (flds_two l) ha (by simp [fldV, cells])
  have h1 := flat_get (k := 1) (flds_two l) ha (by simp [fldV, cells])
  rw [Nat.add_zero] at h0
  refine ⟨?_, ?_⟩
  · rw [List.getD_eq_getElem?_getD, h0]; rfl
  · rw [List.getD_eq_getElem?_getD, h1]; rfl
end Go.Proofs.YtnfcjeajbjcppaaDoor.Vh
end
section
set_option linter.unusedVariables false
set_option linter.unusedSimpArgs false
namespace Go.Proofs.YtnfcjeajbjcppaaDoor.Vh
open Go.Vm Go.Vt
attribute [local congr] wi_congr wg_congr wgd_congr wb_congr wl_congr cf_congr
variable {L : FuncId → List V → V → Prop} {h : Heap} {kr kc : Nat} {S : Nat → Prop} {ans : Bool} {st : HS}
theorem feed_pre : ∀ {l : Bs} {st : HS}, (∀ x ∈ l, x ≠ 10) → st.begun = true → st.e = 0 → st.done = false → st.taken + l.length ≤ 8192 → feedS ans l st = (l.length, { st with taken := st.taken + l.length, own := st.own ++ l })
  | [], st, _, _, _, _, _ => by simp [feedS]
  | c :: l, st, hc, h1, h2, h3, h4 => by
    simp only [List.length_cons] at h4
    have ht : takeS ans c st = { st with taken := st.taken + 1, own := st.own ++ [c] } := by
      unfold takeS
      rw [if_neg (fun hh => by rcases hh with hh | hh; omega; rw [h1] at hh; cases hh.1), if_pos (hc c List.mem_cons_self)]
    rw [feed_cons, if_pos ⟨h2, h3⟩, ht, feed_pre (fun x hx => hc x (List.mem_cons_of_mem _ hx)) (by exact h1) (by exact h2) (by exact h3) (by simp only; omega)]
    simp only [List.append_assoc, List.singleton_append, List.length_cons, Nat.add_assoc, Nat.add_comm 1]
def fx (c : UInt8) (v : Bs) : Bs := 78 :: c :: 58 :: 9 :: (v ++ [32])
def stF (k : Nat) (fs : List Fld) : HS := ⟨k, [], true, false, 0, (.str [80, 85, 84], .str [47, 120], .int .i64 0), (.int .i64 0, .int .i64 0, .str []), fs⟩
theorem trimc {c : UInt8} {s : Bs} (hc : blankB c = true) : trim (c :: s) = trim s := by
  rw [← trim_comm, ← trim_comm, trimL_blank hc]
theorem trims_ {c : UInt8} {s : Bs} (hc : blankB c = true) : trim (s ++ [c]) = trim s := by
  unfold trim; rw [trimR_blank hc]
theorem cut_lf {x : Bs} {d : UInt8} (hd : d ≠ 13) : cutL (x ++ [d] ++ [10]) = x ++ [d] := by
  unfold cutL
  have h1 : (x ++ [d] ++ [10]).length - 1 = (x ++ [d]).length := by simp
  rw [h1, List.take_left]
  unfold cutE
  rw [if_neg]
  rintro ⟨_, hh⟩
  have h2 : (x ++ [d]).getD ((x ++ [d]).length - 1) 0 = d := by
    rw [List.getD_eq_getElem?_getD, List.length_append, List.length_singleton, Nat.add_sub_cancel, List.getElem?_append_right (Nat.le_refl _), Nat.sub_self]; rfl
  exact hd (by rw [h2] at hh; exact hh)
theorem cut_crlf {x : Bs} : cutL (x ++ [13] ++ [10]) = x := by
  unfold cutL
  have h1 : (x ++ [13] ++ [10]).length - 1 = (x ++ [13]).length := by simp
  rw [h1, List.take_left]
  unfold cutE
  have h2 : (x ++ [13] : Bs).getD ((x ++ [13]).length - 1) 0 = 13 := by
    rw [List.getD_eq_getElem?_getD, List.length_append, List.length_singleton, Nat.add_sub_cancel, List.getElem?_append_right (Nat.le_refl _), Nat.sub_self]; rfl
  rw [if_pos ⟨by simp, h2⟩, List.length_append, List.length_singleton, Nat.add_sub_cancel, List.take_left]
theorem val_no10 (c : UInt8) : valB c = true → c ≠ 10 := byte_all (p := fun c => valB c = true → c ≠ 10) (by decide +kernel) c
theorem letter_tok (c : UInt8) : (97 ≤ c.toNat ∧ c.toNat < 117) → tokB c = true ∧ c ≠ 10 ∧ c ≠ 58 := byte_all (p := fun c => (97 ≤ c.toNat ∧ c.toNat < 117) → tokB c = true ∧ c ≠ 10 ∧ c ≠ 58) (by decide +kernel) c
theorem parse_fx {c : UInt8} {v : Bs} (hc : 97 ≤ c.toNat ∧ c.toNat < 117) (hv : isVal v = true) : parseF (fx c v) = some ([78, c], v) := by
  obtain ⟨t1, t2, t3⟩ := letter_tok c hc
  have hp : pos 58 (fx c v) = 2 := by
    unfold fx
    rw [pos_cons, if_neg (by decide), pos_cons, if_neg t3, pos_cons, if_pos rfl]
  have hv' := hv
  unfold isVal at hv'
  rw [Bool.and_eq_true, decide_eq_true_eq] at hv'
  have ht : trim (9 :: (v ++ [32])) = v := by rw [trimc rfl, trims_ rfl]; exact hv'.1
  have h1 : (fx c v).take 2 = [78, c] := rfl
  have h2 : (fx c v).drop 3 = 9 :: (v ++ [32]) := rfl
  unfold parseF
  rw [hp, h1, h2, ht]
  have hf : valF ([78, c], v) = true := by
    unfold valF
    rw [hv]
    simp only [isTok, List.isEmpty_cons, Bool.not_false, List.all_cons, t1, List.all_nil, Bool.and_true, Bool.true_and]
    rfl
  rw [if_pos ⟨by simp [fx], hf⟩]
theorem fx_no10 {c : UInt8} {v : Bs} (hc : 97 ≤ c.toNat ∧ c.toNat < 117) (hv : isVal v = true) : ∀ x ∈ fx c v, x ≠ 10 := by
  obtain ⟨t1, t2, t3⟩ := letter_tok c hc
  unfold isVal at hv
  rw [Bool.and_eq_true, List.all_eq_true] at hv
  intro x hx
  simp only [fx, List.mem_cons, List.mem_append, List.not_mem_nil, or_false] at hx
  rcases hx with rfl | rfl | rfl | rfl | hx | rfl
  · decide
  · exact t2
  · decide
  · decide
  · exact val_no10 x (hv.2 x hx)
  · decide
theorem end_fx {c : UInt8} {v : Bs} {k : Nat} {fs : List Fld} (hc : 97 ≤ c.toNat ∧ c.toNat < 117) (hv : isVal v = true) (hf : fs.length < 64) : endS false (fx c v) (stF k fs) = stF k (fs ++ [([78, c], v)]) := by
  have hp := parse_fx hc hv
  unfold endS
  rw [if_neg (show ¬ (stF k fs).begun = false from fun hh => by cases hh), if_neg (show ¬ fx c v = [] from fun hh => by cases hh), if_neg (show ¬ (stF k fs).fs.length = 64 from fun hh => by have : fs.length = 64 := hh; omega)]
  unfold parE parF
  rw [hp]
  rfl
theorem feed_lf {l : Bs} {k : Nat} {fs : List Fld} (hl : ∀ x ∈ l, x ≠ 10) (hk : k + l.length + 1 ≤ 8192) : feedS false (l ++ [10]) (stF k fs) = (l.length + 1, endS false (cutL (l ++ [10])) (stF (k + (l.length + 1)) fs)) := by
  rw [feed_app, feed_pre hl rfl rfl rfl (show k + l.length ≤ 8192 by omega)]
  simp only
  rw [feed_cons, if_pos ⟨rfl, rfl⟩]
  have ht : takeS false 10 { stF k fs with taken := (stF k fs).taken + l.length, own := (stF k fs).own ++ l } = endS false (cutL (l ++ [10])) (stF (k + (l.length + 1)) fs) := by
    unfold takeS
    rw [if_neg, if_neg (by simp)]
    · rfl
    · rintro (hh | hh)
      · have : k + l.length + 1 > 8192 := hh
        omega
      · cases hh.1
  rw [ht]
  rfl
def Eol (ed : Bs) : Prop := ed = [10] ∨ ed = [13, 10]
theorem feed_line {c : UInt8} {v ed : Bs} {k : Nat} {fs : List Fld} (he : Eol ed) (hc : 97 ≤ c.toNat ∧ c.toNat < 117) (hv : isVal v = true) (hf : fs.length < 64) (hk : k + (fx c v ++ ed).length ≤ 8192) :
    feedS false (fx c v ++ ed) (stF k fs) = ((fx c v ++ ed).length, stF (k + (fx c v ++ ed).length) (fs ++ [([78, c], v)])) := by
  have hn := fx_no10 hc hv
  have hx : fx c v = [78, c, 58, 9] ++ v ++ [32] := by simp [fx]
  rcases he with rfl | rfl
  · rw [List.length_append, List.length_singleton] at hk ⊢
    rw [feed_lf hn (by omega)]
    have : cutL (fx c v ++ [10]) = fx c v := by rw [hx]; exact cut_lf (by decide)
    rw [this, end_fx hc hv hf]
  · have e1 : fx c v ++ [13, 10] = fx c v ++ [13] ++ [10] := by simp
    have e2 : (fx c v ++ [13, 10]).length = (fx c v ++ [13]).length + 1 := by simp
    rw [e2] at hk ⊢
    rw [e1, feed_lf (fun x hx => by
      rcases List.mem_append.1 hx with hx | hx
      · exact hn x hx
      · rw [List.mem_singleton.1 hx]; decide) (by omega), cut_crlf, end_fx hc hv hf]
theorem feed_fin {ed : Bs} {k : Nat} {fs : List Fld} (he : Eol ed) (hk : k + 2 ≤ 8192) : feedS false (ed ++ [120]) (stF k fs) = (ed.length, { stF (k + ed.length) fs with done := true }) := by
  have hE : ∀ j, endS false [] (stF j fs) = { stF j fs with done := true } := fun j => by
    unfold endS
    rw [if_neg (show ¬ (stF j fs).begun = false from fun hh => by cases hh), if_pos rfl]
  rw [feed_app]
  rcases he with rfl | rfl
  · have h1 := feed_lf (l := []) (k := k) (fs := fs) (by simp) (by simp; omega)
    rw [List.nil_append] at h1
    rw [h1, show cutL [10] = [] from rfl, hE]
    rfl
  · have h1 := feed_lf (l := [13]) (k := k) (fs := fs) (by simp) (by simp; omega)
    rw [show ([13] ++ [10] : Bs) = [13, 10] from rfl] at h1
    rw [h1, show cutL [13, 10] = [] from rfl, hE]
    rfl
def base3 (ed : Bs) : Bs := ed ++ [80, 85, 84, 32, 47, 120, 32, 72, 84, 84, 80, 47, 49, 46, 48] ++ ed
theorem feed_base3 {ed : Bs} (he : Eol ed) : feedS false (base3 ed) st0 = ((base3 ed).length, stF (base3 ed).length []) := by
  rcases he with rfl | rfl <;> kernel_rfl
end Go.Proofs.YtnfcjeajbjcppaaDoor.Vh
end
section
set_option linter.unusedVariables false
set_option linter.unusedSimpArgs false
namespace Go.Proofs.YtnfcjeajbjcppaaDoor.Vh
open Go.Vm Go.Vt
attribute [local congr] wi_congr wg_congr wgd_congr wb_congr wl_congr cf_congr
variable {L : FuncId → List V → V → Prop} {h : Heap} {kr kc : Nat} {S : Nat → Prop} {ans : Bool} {st : HS}
theorem hstrs_at {l : List Bs} {i : Nat} (hi : i < l.length) : (strs l).getD i (.tup []) = .str (l.getD i []) := by
  simp only [strs, List.getD_eq_getElem?_getD, List.getElem?_map, List.getElem?_eq_getElem hi]; rfl
theorem at_end2 {X : O} : (h ++ [X])[h.length]? = some X := by rw [List.getElem?_append_right (Nat.le_refl _), Nat.sub_self]; rfl
def snds (fs : List Fld) : List Bs := fs.map (·.2)
theorem snds_at {fs : List Fld} {i : Nat} (hi : i < fs.length) : (snds fs).getD i [] = (fs.getD i ([], [])).2 := by
  simp only [snds, List.getD_eq_getElem?_getD, List.getElem?_map, List.getElem?_eq_getElem hi]; rfl
theorem Fields2_ok {H : Heap} {e : Env} {k14 k1 : Nat} {x7 : V} {fs : List Fld} (g14 : H[k14]? = some (.box [.str [80, 85, 84], .str [47, 120], .int .i64 0, .hsl 2 k1 fs.length])) (g1 : H[k1]? = some (.box (flat (flds fs)))) (h7 : ListV 1 x7 (strs (snds fs))) (hl : fs.length ≤ 64) (e7 : e 7 = x7) (e14 : e 14 = .ptr k14 0) :
    k_gatepostlaw05_HeadFields_2 L (fun v _ => v = .bool true) e H := by
  
  unfold k_gatepostlaw05_HeadFields_2
  refine l_gatepostlaw05_HeadFields_0 (fun n e h' => ∃ i, n = fs.length - i ∧ i ≤ fs.length ∧ e 7 = x7 ∧ e 14 = .ptr k14 0 ∧ e 16 = .int .i64 i ∧ h' = H) ?_ (n := fs.length) ⟨0, rfl, Nat.zero_le _, e7, e14, rfl, rfl⟩
  clear e7 e14
  rintro n e h' ⟨i, rfl, hi, e7, e14, e16, rfl⟩
  simp only [b_gatepostlaw05_HeadFields_0, e7, e16]
  have hsl : (strs (snds fs)).length = fs.length := by simp [strs, snds]
  rw [h7.len, hsl]
  by_cases hi2 : i < fs.length
  · have c1 : decide (((i : Nat) : Int) < ((fs.length : Nat) : Int)) = true := decide_eq_true (by omega)
    have hx7 : ∃ o, x7 = .sl 1 o (strs (snds fs)) := by
      rcases h7 with ⟨hh, _⟩ | hh
      · rw [hh] at hsl; simp at hsl; omega
      · exact hh
    obtain ⟨o, rfl⟩ := hx7
    obtain ⟨gt1, gt2⟩ := get_two hi2
    have hat := hstrs_at (l := snds fs) (i := i) (by simp [snds]; omega)
    rw [snds_at hi2] at hat
    have i0 : (0 : Int) ≤ (i : Int) := by omega
    have hfl : i * 2 + 2 ≤ (flat (flds fs)).length := by rw [flat_flds]; omega
    have hfl1 : i * 2 + 1 + 1 ≤ (flat (flds fs)).length := by omega
    have w := wrap64 (x := (i : Int) + 1) (by omega) (by omega)
    unfold k_gatepostlaw05_HeadFields_4
    simp (maxSteps := 4000000) only [vm, vl, Arg.get, cells, stor, boundO, resultsV, resV, partK, loadV, Vm.part, fillC, splice, reduceIte, reduceCtorEq, Nat.reduceEqDiff, Nat.reduceAdd, Nat.reduceSub, Nat.reduceMul, Nat.reduceLeDiff, ne_eq, not_false_eq_true, Int.reduceEq, Int.reduceLT, Int.reduceLE, Int.reduceNeg, Int.reduceToNat, Int.reduceGT, Int.reduceGE, Nat.reduceLT, Nat.lt_add_one, Nat.zero_lt_succ, Nat.succ_pos, Nat.zero_le, beq_self_eq_true, c1, e14, g14, g1, gt1, gt2, hat, hsl, hi2, i0, hfl, hfl1, w, k_gatepostlaw05_HeadFields_5, Int.toNat_natCast, decide_true]
    exact ⟨fs.length - (i + 1), by omega, i + 1, rfl, hi2, e7, rfl⟩
  · have c1 : decide (((i : Nat) : Int) < ((fs.length : Nat) : Int)) = false := decide_eq_false (by omega)
    simp (maxSteps := 4000000) only [vm, vl, Arg.get, cells, stor, boundO, resultsV, resV, partK, loadV, Vm.part, fillC, splice, reduceIte, reduceCtorEq, Nat.reduceEqDiff, Nat.reduceAdd, Nat.reduceSub, Nat.reduceMul, Nat.reduceLeDiff, ne_eq, not_false_eq_true, Int.reduceEq, Int.reduceLT, Int.reduceLE, Int.reduceNeg, Int.reduceToNat, Int.reduceGT, Int.reduceGE, Nat.reduceLT, Nat.lt_add_one, Nat.zero_lt_succ, Nat.succ_pos, Nat.zero_le, beq_self_eq_true, c1, k_gatepostlaw05_HeadFields_3]
theorem Fields1_ok (HI : IndexOk L) (HC : CountOk L) {H : Heap} {e : Env} {s ed : Bs} {x7 : V} {fs : List Fld} (he : Eol ed) (hf : feedS false s st0 = (s.length, stF s.length fs)) (hs : s.length ≤ 4000) (hl : fs.length ≤ 20) (h7 : ListV 1 x7 (strs (snds fs))) (e7 : e 7 = x7) :
    k_gatepostlaw05_HeadFields_1 L (fun v _ => v = .bool true) e (.str ed) (.str s) x7 H := by
  
  unfold k_gatepostlaw05_HeadFields_1
  refine New_ok.mono fun v h1 hv => ?_
  obtain ⟨rfl, _, R, t, rfl⟩ := hv
  have hel : ed.length ≤ 2 := by rcases he with rfl | rfl <;> decide
  have hb1 := bin_str (a := s) (b := ed) (by omega)
  have hb2 := bin_str (a := s ++ ed) (b := [120]) (by simp; omega)
  have hff : feedS false (s ++ ed ++ [120]) st0 = (s.length + ed.length, { stF (s.length + ed.length) fs with done := true }) := by
    rw [List.append_assoc, feed_app, hf]
    simp only
    rw [feed_fin he (by omega)]
  have hln : (s ++ ed ++ [120]).length ≤ 5000 := by simp; omega
  generalize s ++ ed ++ [120] = b at *
  unfold k_gatepostlaw05_HeadFields_7
  have hkr : H.length < (H ++ t).length := R.lt
  generalize hH1 : H ++ t = H1 at *
  simp (maxSteps := 4000000) only [vm, vl, Arg.get, cells, stor, boundO, resultsV, resV, partK, loadV, Vm.part, fillC, splice, reduceIte, reduceCtorEq, Nat.reduceEqDiff, Nat.reduceAdd, Nat.reduceSub, Nat.reduceMul, Nat.reduceLeDiff, ne_eq, not_false_eq_true, Int.reduceEq, Int.reduceLT, Int.reduceLE, Int.reduceNeg, Int.reduceToNat, Int.reduceGT, Int.reduceGE, Nat.reduceLT, Nat.lt_add_one, Nat.zero_lt_succ, Nat.succ_pos, Nat.zero_le, beq_self_eq_true, hb1, hb2]
  refine (Feed_ok HI HC (bs := b) R.more st0_ok (bv_new hkr) (by omega)).mono fun v h2 hv => ?_
  obtain ⟨rfl, R2, _, _⟩ := hv
  rw [hff] at R2 ⊢
  simp (maxSteps := 4000000) only [vm, vl, Arg.get, cells, stor, boundO, resultsV, resV, partK, loadV, Vm.part, fillC, splice, reduceIte, reduceCtorEq, Nat.reduceEqDiff, Nat.reduceAdd, Nat.reduceSub, Nat.reduceMul, Nat.reduceLeDiff, ne_eq, not_false_eq_true, Int.reduceEq, Int.reduceLT, Int.reduceLE, Int.reduceNeg, Int.reduceToNat, Int.reduceGT, Int.reduceGE, Nat.reduceLT, Nat.lt_add_one, Nat.zero_lt_succ, Nat.succ_pos, Nat.zero_le, beq_self_eq_true]
  refine (Request_ok R2 (by show fs.length ≤ 64; omega)).mono fun v h3 hv => ?_
  obtain ⟨⟨t3, rfl⟩, ⟨_, k1, hv, g1⟩ | ⟨hc, _⟩⟩ := hv
  case inr => cases hc
  simp only [stF] at hv g1
  subst hv
  have w := wrap64 (x := (s.length : Int) + ed.length) (by omega) (by omega)
  have hsl : (strs (snds fs)).length = fs.length := by simp [strs, snds]
  have hln7 : ∀ (h : Heap) (K : V → Heap → Prop), wi F L (.len 1 (.c x7)) E0 h K = K (.int .i64 fs.length) h := fun h K => by rw [h7.len, hsl]
  generalize hH2 : h2 ++ t3 = H2 at *
  have hk1 := lt_of_get g1
  have hc : ((s.length + ed.length : Nat) : Int) = (s.length : Int) + ed.length := by omega
  have hse : (stF (s.length + ed.length) fs).e = 0 := rfl
  have a3 := at_end2 (h := H2) (X := .box [.str [80, 85, 84], .str [47, 120], .int .i64 0, .hsl 2 k1 fs.length])
  rw [← hc] at w
  have w : IntKind.i64.wrap ((s.length : Int) + ed.length) = ((s.length + ed.length : Nat) : Int) := by rw [← hc]; exact w
  generalize s.length + ed.length = M at *
  unfold k_gatepostlaw05_HeadFields_6
  rcases h7 with ⟨q1, q2⟩ | ⟨o, q2⟩
  · have hfs0 : fs.length = 0 := by rw [← hsl, q1]; rfl
    rw [hfs0] at a3
    simp (maxSteps := 4000000) only [vm, vl, Arg.get, cells, stor, boundO, resultsV, resV, partK, loadV, Vm.part, fillC, splice, reduceIte, reduceCtorEq, Nat.reduceEqDiff, Nat.reduceAdd, Nat.reduceSub, Nat.reduceMul, Nat.reduceLeDiff, ne_eq, not_false_eq_true, Int.reduceEq, Int.reduceLT, Int.reduceLE, Int.reduceNeg, Int.reduceToNat, Int.reduceGT, Int.reduceGE, Nat.reduceLT, Nat.lt_add_one, Nat.zero_lt_succ, Nat.succ_pos, Nat.zero_le, beq_self_eq_true, w, q2, hfs0, hse, a3, eq_self, decide_true, Bool.not_true, Bool.not_false]
    refine Fields2_ok (fs := fs) (k14 := H2.length) (k1 := k1) (x7 := x7) ?_ (get_old g1) (.inl ⟨q1, q2⟩) (by omega) ?_ ?_
    · rw [at_end2, hfs0]
    · exact e7
    · rfl
  · simp (maxSteps := 4000000) only [vm, vl, Arg.get, cells, stor, boundO, resultsV, resV, partK, loadV, Vm.part, fillC, splice, reduceIte, reduceCtorEq, Nat.reduceEqDiff, Nat.reduceAdd, Nat.reduceSub, Nat.reduceMul, Nat.reduceLeDiff, ne_eq, not_false_eq_true, Int.reduceEq, Int.reduceLT, Int.reduceLE, Int.reduceNeg, Int.reduceToNat, Int.reduceGT, Int.reduceGE, Nat.reduceLT, Nat.lt_add_one, Nat.zero_lt_succ, Nat.succ_pos, Nat.zero_le, beq_self_eq_true, w, q2, hsl, hse, a3, eq_self, decide_true, Bool.not_true, Bool.not_false]
    refine Fields2_ok (fs := fs) (k14 := H2.length) (k1 := k1) (x7 := x7) at_end2 (get_old g1) (.inr ⟨o, q2⟩) (by omega) ?_ ?_
    · exact e7
    · rfl
end Go.Proofs.YtnfcjeajbjcppaaDoor.Vh
end
section
set_option linter.unusedVariables false
set_option linter.unusedSimpArgs false
namespace Go.Proofs.YtnfcjeajbjcppaaDoor.Vh
open Go.Vm Go.Vt
attribute [local congr] wi_congr wg_congr wgd_congr wb_congr wl_congr cf_congr
variable {L : FuncId → List V → V → Prop} {h : Heap}
theorem htexts_par {x : V} (v : VPar [.sl [.s]] x) : ∃ l : List Bs, ListV 1 x (strs l) ∧ l.length ≤ 140737488351232 ∧ ∀ f ∈ l, f.length ≤ 140737488351232 := by
  rcases v with rfl | ⟨es, rfl, hl, hes⟩
  · exact ⟨[], .inl ⟨rfl, rfl⟩, by decide, by simp⟩
  · obtain ⟨l, rfl, hl2⟩ : ∃ l : List Bs, es = strs l ∧ ∀ f ∈ l, f.length ≤ 140737488351232 := by
      clear hl
      induction es with
      | nil => exact ⟨[], rfl, by simp⟩
      | cons a es ih =>
        obtain ⟨l, rfl, hl⟩ := ih fun e he => hes e (by simp [he])
        obtain ⟨h1, h2, _⟩ := hes a (by simp)
        rw [h2 rfl] at h1
        obtain ⟨s, rfl, hs⟩ := h1.1
        exact ⟨s :: l, rfl, by intro f hf; rcases List.mem_cons.1 hf with rfl | hf; exact hs; exact hl f hf⟩
    exact ⟨l, .inr ⟨_, rfl⟩, by simpa [strs, reachBytes] using hl, hl2⟩
theorem Fields0_ok (HI : IndexOk L) (HC : CountOk L) {H : Heap} {e : Env} {ed : Bs} {x0 : V} {l : List Bs} (he : Eol ed) (h0 : ListV 1 x0 (strs l)) (hl : l.length ≤ 140737488351232) (hl2 : ∀ f ∈ l, f.length ≤ 140737488351232) (e0 : e 0 = x0) (e5 : e 5 = .str ed) :
    k_gatepostlaw05_HeadFields_0 L (fun v _ => v = .bool true) e (.str ed) H := by
  
  unfold k_gatepostlaw05_HeadFields_0
  have hel : ed.length ≤ 2 := by rcases he with rfl | rfl <;> decide
  have hb1 := bin_str (a := ed) (b := [80, 85, 84, 32, 47, 120, 32, 72, 84, 84, 80, 47, 49, 46, 48]) (by simp; omega)
  have hb2 := bin_str (a := ed ++ [80, 85, 84, 32, 47, 120, 32, 72, 84, 84, 80, 47, 49, 46, 48]) (b := ed) (by simp; omega)
  have hbl : (base3 ed).length ≤ 21 := by unfold base3; simp; omega
  have hfb := feed_base3 he
  rw [show ed ++ [80, 85, 84, 32, 47, 120, 32, 72, 84, 84, 80, 47, 49, 46, 48] ++ ed = base3 ed from rfl] at hb2
  simp (maxSteps := 4000000) only [vm, vl, Arg.get, cells, stor, boundO, resultsV, resV, partK, loadV, Vm.part, fillC, splice, reduceIte, reduceCtorEq, Nat.reduceEqDiff, Nat.reduceAdd, Nat.reduceSub, Nat.reduceMul, Nat.reduceLeDiff, ne_eq, not_false_eq_true, Int.reduceEq, Int.reduceLT, Int.reduceLE, Int.reduceNeg, Int.reduceToNat, Int.reduceGT, Int.reduceGE, Nat.reduceLT, Nat.lt_add_one, Nat.zero_lt_succ, Nat.succ_pos, Nat.zero_le, beq_self_eq_true, hb1, hb2]
  refine l_gatepostlaw05_HeadFields_1 (fun n e h' => ∃ (i : Nat) (s : Bs) (fs : List Fld), n = 20 - i ∧ i ≤ 20 ∧ e 0 = x0 ∧ e 5 = .str ed ∧ e 6 = .str s ∧ e 8 = .int .i64 i ∧ Grow 1 H h' (e 7) (strs (snds fs)) ∧ feedS false s st0 = (s.length, stF s.length fs) ∧ s.length ≤ 21 + i * 120 ∧ fs.length ≤ i) ?_
    (n := 20) ⟨0, base3 ed, [], rfl, by omega, e0, e5, rfl, rfl, .nil0, hfb, by omega, by simp⟩
  clear e0 e5 hfb hbl
  rintro n e h' ⟨i, s, fs, rfl, hi, e0, e5, e6, e8, hg, hf, hs, hfl⟩
  simp only [b_gatepostlaw05_HeadFields_1, e0, e5, e6, e8]
  have hsl : (strs l).length = l.length := by simp [strs]
  have K1 := fun e' h (e7 : e' 7 = e 7) => Fields1_ok (L := L) (H := h) (e := e') (ed := ed) HI HC he hf (by omega) (by omega) hg.list e7
  rw [h0.len, hsl]
  generalize hx7 : e 7 = x7 at *
  by_cases hi3 : i < l.length
  case neg =>
    have c1 : decide (((i : Nat) : Int) < ((l.length : Nat) : Int)) = false := decide_eq_false (by omega)
    simp (maxSteps := 4000000) only [vm, vl, Arg.get, cells, stor, boundO, resultsV, resV, partK, loadV, Vm.part, fillC, splice, reduceIte, reduceCtorEq, Nat.reduceEqDiff, Nat.reduceAdd, Nat.reduceSub, Nat.reduceMul, Nat.reduceLeDiff, ne_eq, not_false_eq_true, Int.reduceEq, Int.reduceLT, Int.reduceLE, Int.reduceNeg, Int.reduceToNat, Int.reduceGT, Int.reduceGE, Nat.reduceLT, Nat.lt_add_one, Nat.zero_lt_succ, Nat.succ_pos, Nat.zero_le, beq_self_eq_true, c1]
    exact K1 _ _ hx7
  have c1 : decide (((i : Nat) : Int) < ((l.length : Nat) : Int)) = true := decide_eq_true (by omega)
  by_cases hi2 : i < 20
  case neg =>
    have c2 : decide (((i : Nat) : Int) < 20) = false := decide_eq_false (by omega)
    simp (maxSteps := 4000000) only [vm, vl, Arg.get, cells, stor, boundO, resultsV, resV, partK, loadV, Vm.part, fillC, splice, reduceIte, reduceCtorEq, Nat.reduceEqDiff, Nat.reduceAdd, Nat.reduceSub, Nat.reduceMul, Nat.reduceLeDiff, ne_eq, not_false_eq_true, Int.reduceEq, Int.reduceLT, Int.reduceLE, Int.reduceNeg, Int.reduceToNat, Int.reduceGT, Int.reduceGE, Nat.reduceLT, Nat.lt_add_one, Nat.zero_lt_succ, Nat.succ_pos, Nat.zero_le, beq_self_eq_true, c1, c2]
    exact K1 _ _ hx7
  have c2 : decide (((i : Nat) : Int) < 20) = true := decide_eq_true (by omega)
  obtain ⟨o, hx0⟩ : ∃ o, x0 = .sl 1 o (strs l) := by
    rcases h0 with ⟨hh, _⟩ | hh
    · rw [hh] at hsl; simp at hsl; omega
    · exact hh
  have hat := hstrs_at hi3
  have i0 : (0 : Int) ≤ (i : Int) := by omega
  have hvl : (l.getD i []).length ≤ 140737488351232 := hl2 _ (by rw [List.getD_eq_getElem?_getD, List.getElem?_eq_getElem hi3]; exact List.getElem_mem _)
  generalize l.getD i [] = v at *
  have w1 := wrap64 (x := (i : Int) + 1) (by omega) (by omega)
  simp (maxSteps := 4000000) only [vm, vl, Arg.get, cells, stor, boundO, resultsV, resV, partK, loadV, Vm.part, fillC, splice, reduceIte, reduceCtorEq, Nat.reduceEqDiff, Nat.reduceAdd, Nat.reduceSub, Nat.reduceMul, Nat.reduceLeDiff, ne_eq, not_false_eq_true, Int.reduceEq, Int.reduceLT, Int.reduceLE, Int.reduceNeg, Int.reduceToNat, Int.reduceGT, Int.reduceGE, Nat.reduceLT, Nat.lt_add_one, Nat.zero_lt_succ, Nat.succ_pos, Nat.zero_le, beq_self_eq_true, c1, c2, k_gatepostlaw05_HeadFields_8, hx0, i0, hsl, hi3, hat, Int.toNat_natCast]
  have rv := rValue_ok (L := L) (h := h') (s := v) (by omega)
  have w0 := wrap64 (x := 97 + (i : Int)) (by omega) (by omega)
  have w8 : IntKind.u8.wrap (97 + (i : Int)) = 97 + (i : Int) := by
    simp only [IntKind.wrap, IntKind.signed, IntKind.bits, Bool.false_and, Bool.false_eq_true, if_false]
    omega
  unfold k_gatepostlaw05_HeadFields_11
  by_cases hv : (v.length : Int) > 100
  · have c3 := decide_eq_true hv
    simp (maxSteps := 4000000) only [vm, vl, Arg.get, cells, stor, boundO, resultsV, resV, partK, loadV, Vm.part, fillC, splice, reduceIte, reduceCtorEq, Nat.reduceEqDiff, Nat.reduceAdd, Nat.reduceSub, Nat.reduceMul, Nat.reduceLeDiff, ne_eq, not_false_eq_true, Int.reduceEq, Int.reduceLT, Int.reduceLE, Int.reduceNeg, Int.reduceToNat, Int.reduceGT, Int.reduceGE, Nat.reduceLT, Nat.lt_add_one, Nat.zero_lt_succ, Nat.succ_pos, Nat.zero_le, beq_self_eq_true, c3, k_gatepostlaw05_HeadFields_9, w1]
    exact ⟨20 - (i + 1), by omega, i + 1, s, fs, rfl, hi2, by rw [e0, hx0], e5, e6, rfl, by rw [hx7]; exact hg, hf, by omega, by omega⟩
  have c3 := decide_eq_false hv
  simp (maxSteps := 4000000) only [vm, vl, Arg.get, cells, stor, boundO, resultsV, resV, partK, loadV, Vm.part, fillC, splice, reduceIte, reduceCtorEq, Nat.reduceEqDiff, Nat.reduceAdd, Nat.reduceSub, Nat.reduceMul, Nat.reduceLeDiff, ne_eq, not_false_eq_true, Int.reduceEq, Int.reduceLT, Int.reduceLE, Int.reduceNeg, Int.reduceToNat, Int.reduceGT, Int.reduceGE, Nat.reduceLT, Nat.lt_add_one, Nat.zero_lt_succ, Nat.succ_pos, Nat.zero_le, beq_self_eq_true, c3]
  refine Cf.pu rv fun t => ?_
  cases hiv : isVal v with
  | false =>
    simp (maxSteps := 4000000) only [vm, vl, Arg.get, cells, stor, boundO, resultsV, resV, partK, loadV, Vm.part, fillC, splice, reduceIte, reduceCtorEq, Nat.reduceEqDiff, Nat.reduceAdd, Nat.reduceSub, Nat.reduceMul, Nat.reduceLeDiff, ne_eq, not_false_eq_true, Int.reduceEq, Int.reduceLT, Int.reduceLE, Int.reduceNeg, Int.reduceToNat, Int.reduceGT, Int.reduceGE, Nat.reduceLT, Nat.lt_add_one, Nat.zero_lt_succ, Nat.succ_pos, Nat.zero_le, beq_self_eq_true, Bool.not_false, k_gatepostlaw05_HeadFields_9, w1]
    exact ⟨20 - (i + 1), by omega, i + 1, s, fs, rfl, hi2, by rw [e0, hx0], e5, e6, rfl, by rw [hx7]; exact hg.more, hf, by omega, by omega⟩
  | true =>
    obtain ⟨x', h2, ha, hg'⟩ := (hg.more (t := t)).app (bytes := 16) (y := .str v) (by simp [strs, snds]; omega)
    have hc8 : (UInt8.ofNat (97 + i)).toNat = 97 + i := by rw [UInt8.toNat_ofNat']; omega
    have b1 := bin_str (a := s) (b := [78]) (by simp; omega)
    have b2 := bin_str (a := s ++ [78]) (b := [UInt8.ofNat (97 + i)]) (by simp; omega)
    have b3 := bin_str (a := s ++ [78] ++ [UInt8.ofNat (97 + i)]) (b := [58, 9]) (by simp; omega)
    have b4 := bin_str (a := s ++ [78] ++ [UInt8.ofNat (97 + i)] ++ [58, 9]) (b := v) (by simp; omega)
    have b5 := bin_str (a := s ++ [78] ++ [UInt8.ofNat (97 + i)] ++ [58, 9] ++ v) (b := [32]) (by simp; omega)
    have b6 := bin_str (a := s ++ [78] ++ [UInt8.ofNat (97 + i)] ++ [58, 9] ++ v ++ [32]) (b := ed) (by simp; omega)
    have hss : s ++ [78] ++ [UInt8.ofNat (97 + i)] ++ [58, 9] ++ v ++ [32] ++ ed = s ++ (fx (UInt8.ofNat (97 + i)) v ++ ed) := by simp [fx]
    have hfl2 : (fx (UInt8.ofNat (97 + i)) v ++ ed).length ≤ 110 := by simp [fx]; omega
    have hf2 : feedS false (s ++ (fx (UInt8.ofNat (97 + i)) v ++ ed)) st0 = ((s ++ (fx (UInt8.ofNat (97 + i)) v ++ ed)).length, stF (s ++ (fx (UInt8.ofNat (97 + i)) v ++ ed)).length (fs ++ [([78, UInt8.ofNat (97 + i)], v)])) := by
      rw [feed_app, hf]
      simp only
      rw [feed_line he (by rw [hc8]; omega) hiv (by omega) (by omega)]
      simp only [List.length_append]
    rw [hss] at b6
    have hts : ∀ h : Heap, stepI (.toStr (.c (.sl 1 .full [.int .u8 (97 + (i : Int))]))) E0 h = some (.str [UInt8.ofNat (97 + i)], h) := fun h => by
      have : (97 + (i : Int)) = (((UInt8.ofNat (97 + i)).toNat : Nat) : Int) := by rw [hc8]; omega
      rw [this]
      have := toBytes_map [UInt8.ofNat (97 + i)]
      simp only [List.map_cons, List.map_nil, ofByte] at this
      simp only [stepI, Arg.get, srcElems, if_true, Option.bind_some, this, Option.map_some]
    generalize UInt8.ofNat (97 + i) = c at *
    have hsn : strs (snds fs) ++ [V.str v] = strs (snds (fs ++ [([78, c], v)])) := by simp [strs, snds]
    rw [hsn] at hg'
    clear hss
    generalize s ++ [78] = S1 at *
    generalize S1 ++ [c] = S2 at *
    generalize S2 ++ [58, 9] = S3 at *
    generalize S3 ++ v = S4 at *
    generalize S4 ++ [32] = S5 at *
    simp (maxSteps := 4000000) only [vm, vl, Arg.get, cells, stor, boundO, resultsV, resV, partK, loadV, Vm.part, fillC, splice, reduceIte, reduceCtorEq, Nat.reduceEqDiff, Nat.reduceAdd, Nat.reduceSub, Nat.reduceMul, Nat.reduceLeDiff, ne_eq, not_false_eq_true, Int.reduceEq, Int.reduceLT, Int.reduceLE, Int.reduceNeg, Int.reduceToNat, Int.reduceGT, Int.reduceGE, Nat.reduceLT, Nat.lt_add_one, Nat.zero_lt_succ, Nat.succ_pos, Nat.zero_le, beq_self_eq_true, Bool.not_true, k_gatepostlaw05_HeadFields_10, w0, w8, ha, b1, b2, b3, b4, b5, b6, hts, k_gatepostlaw05_HeadFields_9, w1]
    exact ⟨20 - (i + 1), by omega, i + 1, _, _, rfl, hi2, by rw [e0, hx0], e5, rfl, rfl, hg', hf2, by rw [List.length_append]; omega, by simp; omega⟩
theorem Fields_ok (HI : IndexOk L) (HC : CountOk L) {x0 : V} {l : List Bs} {b : Bool} (h0 : ListV 1 x0 (strs l)) (hl : l.length ≤ 140737488351232) (hl2 : ∀ f ∈ l, f.length ≤ 140737488351232) :
    Cf F L i_gatepostlaw05_HeadFields [x0, .bool b] h (fun v _ => v = .bool true) := by
  refine run_gatepostlaw05_HeadFields ?_
  simp only [p_gatepostlaw05_HeadFields]
  
  cases b with
  | true =>
    simp (maxSteps := 4000000) only [vm, vl, Arg.get, cells, stor, boundO, resultsV, resV, partK, loadV, Vm.part, fillC, splice, reduceIte, reduceCtorEq, Nat.reduceEqDiff, Nat.reduceAdd, Nat.reduceSub, Nat.reduceMul, Nat.reduceLeDiff, ne_eq, not_false_eq_true, Int.reduceEq, Int.reduceLT, Int.reduceLE, Int.reduceNeg, Int.reduceToNat, Int.reduceGT, Int.reduceGE, Nat.reduceLT, Nat.lt_add_one, Nat.zero_lt_succ, Nat.succ_pos, Nat.zero_le, beq_self_eq_true]
    exact Fields0_ok HI HC (.inr rfl) h0 hl hl2 rfl rfl
  | false =>
    simp (maxSteps := 4000000) only [vm, vl, Arg.get, cells, stor, boundO, resultsV, resV, partK, loadV, Vm.part, fillC, splice, reduceIte, reduceCtorEq, Nat.reduceEqDiff, Nat.reduceAdd, Nat.reduceSub, Nat.reduceMul, Nat.reduceLeDiff, ne_eq, not_false_eq_true, Int.reduceEq, Int.reduceLT, Int.reduceLE, Int.reduceNeg, Int.reduceToNat, Int.reduceGT, Int.reduceGE, Nat.reduceLT, Nat.lt_add_one, Nat.zero_lt_succ, Nat.succ_pos, Nat.zero_le, beq_self_eq_true]
    exact Fields0_ok HI HC (.inl rfl) h0 hl hl2 rfl rfl
theorem HeadFields_row {x0 x1 : V} (v0 : VPar [.sl [.s]] x0) (v1 : VPar [.l .b] x1) (w : World) (vs : List Value) (hv : Rvs w.heap.size G0 w [x0, x1] vs) :
    Calls Tryd.prog i_gatepostlaw05_HeadFields vs.toArray w fun e w' => e = .returned (.bool true) ∧ RowKit.Below w.heap.size w w' := by
  obtain ⟨l, h1, h2, h3⟩ := htexts_par v0
  obtain ⟨b, rfl⟩ := v1
  exact calls_at hm hF (lh_at w) (Fields_ok (indexOk fun _ _ _ h => .inl h) (countOk fun _ _ _ h => .inr h) h1 h2 h3) hv
end Go.Proofs.YtnfcjeajbjcppaaDoor.Vh
end
